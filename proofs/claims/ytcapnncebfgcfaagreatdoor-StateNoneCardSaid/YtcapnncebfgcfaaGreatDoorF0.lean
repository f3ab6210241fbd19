/- Walks of Go functions: what each tells, as a plain Lean function, and that the Go code comes to it. Written by gg.py of this repo. -/
import Derived.Test.YtcapnncebfgcfaaGreatDoorT
namespace Go.Proofs.YtcapnncebfgcfaaGreatDoor.Gf
open Go Go.Gg
set_option maxRecDepth 100000
set_option linter.unusedVariables false
set_option linter.unusedSimpArgs false

/-! ### (*grapevine/state.State).Find: function 4 -/
def state_State_Find (a1 : T40) : Option T27 := some (⟨1, ([] : List T38), ([] : List Int), ([] : List Int)⟩ : T27)
set_option maxHeartbeats 4000000 in
theorem state_State_Find_calls {B : World} {G : GMap} {Γ : List Chunk} {W : World} (a1 : T40) (Aa1_f2 : Option Addr) (ca1_f2 : Nat) (Ha1_f2 : Rd kStr G Aa1_f2 ca1_f2 a1.f2) (Aa1_f3 : Option Addr) (ca1_f3 : Nat) (Ha1_f3 : Rd k32 G Aa1_f3 ca1_f3 a1.f3) (r : T27) (h : state_State_Find a1 = some r) (hI : Inv B G (Γ) W) :
    Calls Tryz.prog 4 [.pointer none, .agg #[.int .i64 a1.f0, .int .i64 a1.f1, .slice Aa1_f2 a1.f2.length ca1_f2, .slice Aa1_f3 a1.f3.length ca1_f3, .int .i64 a1.f4, .int .i64 a1.f5, .int .i64 a1.f6, .int .i64 a1.f7, .int .i64 a1.f8, .string a1.f9]].toArray W (Ret B (fun v G' Γ' => ∃ (AR_0 : Option Addr), ∃ (cR_0 : Nat), ∃ (CR_0 : Chunk), ∃ (AR_1 : Option Addr), ∃ (cR_1 : Nat), ∃ (CR_1 : Chunk), ∃ (AR_2 : Option Addr), ∃ (cR_2 : Nat), ∃ (CR_2 : Chunk), v = .agg #[.int .i64 r.f0, .slice AR_0 r.f1.length cR_0, .slice AR_1 r.f2.length cR_1, .slice AR_2 r.f3.length cR_2] ∧ Ow k38 G' AR_0 cR_0 r.f1 CR_0 ∧ Ow (kInt .i64) G' AR_1 cR_1 r.f2 CR_1 ∧ Ow (kInt .i64) G' AR_2 cR_2 r.f3 CR_2 ∧ G = G' ∧ CR_0 :: CR_1 :: CR_2 :: Γ = Γ')) := by
  refine calls_WP (Γ := Γ) (G := G) (B := B) Tryz.func4 rfl (by kernel_rfl) ?_ hI
  clear hI
  unfold state_State_Find at h
  refine WP.seqR ?_
  refine WL.op (op := .box 40 (.tmp 1)) (ty := 0) (d := some 3) (g := none) (by kernel_rfl) (by kernel_rfl) (by kernel_rfl) (Does.new (o := .cells #[.int .i64 a1.f0, .int .i64 a1.f1, .slice Aa1_f2 a1.f2.length ca1_f2, .slice Aa1_f3 a1.f3.length ca1_f3, .int .i64 a1.f4, .int .i64 a1.f5, .int .i64 a1.f6, .int .i64 a1.f7, .int .i64 a1.f8, .string a1.f9] 40 (0, 0)) (v := fun r => .pointer (some ⟨r, 0, none⟩)) (fun r => by kernel_rfl)) ?_
  rintro _ _ _ ⟨b1, rfl, rfl, rfl⟩
  refine WL.op (op := .alloc 27) (ty := 0) (d := some 4) (g := none) (by kernel_rfl) (by kernel_rfl) (by kernel_rfl) (Does.new (o := .cells #[.int .i64 0, .slice none 0 0, .slice none 0 0, .slice none 0 0] 27 (0, 0)) (v := fun r => .pointer (some ⟨r, 0, none⟩)) (fun r => by kernel_rfl)) ?_
  rintro _ _ _ ⟨b2, rfl, rfl, rfl⟩
  refine WL.restQ 2 [0, 3, 4] (L' := [(0, .pointer none), (3, .pointer (some ⟨b1, 0, none⟩)), (4, .pointer (some ⟨b2, 0, none⟩))]) (by kernel_rfl) ?_
  refine WP.seq ?_
  refine WP.seqP [0, 3, 4, 8] (L' := [(0, .pointer none), (3, .pointer (some ⟨b1, 0, none⟩)), (4, .pointer (some ⟨b2, 0, none⟩)), (8, .bool true)]) (by kernel_rfl) ?_
  refine WP.yes (by kernel_rfl) ?_
  refine WP.seqR ?_
  refine WL.pure 0 1 [4, 9] (L' := [(4, .pointer (some ⟨b2, 0, none⟩)), (9, .agg #[.int .i64 1, .slice none 0 0, .slice none 0 0, .slice none 0 0])]) (by kernel_rfl) (by decide) ?_
  refine WL.op (op := .store 27 (.tmp 4) (.tmp 9)) (ty := 0) (d := none) (g := none) (by kernel_rfl) (by kernel_rfl) (by kernel_rfl) (Does.store_box (i := 0) (b := b2) (o := 0) (v := .agg #[.int .i64 1, .slice none 0 0, .slice none 0 0, .slice none 0 0]) (by rfl) sz27 (by kernel_rfl) (by kernel_rfl) (by kernel_rfl) (Free.zero _) (Nat.le_of_ble_eq_true rfl) (cells' := #[.int .i64 1, .slice none 0 0, .slice none 0 0, .slice none 0 0]) (by kernel_rfl)) ?_
  rintro _ _ _ ⟨rfl, rfl, rfl⟩
  refine WL.restQ 2 [4] (L' := [(4, .pointer (some ⟨b2, 0, none⟩))]) (by kernel_rfl) ?_
  refine WP.dropAt 1 ?_
  refine WP.ret ?_
  refine QP.thenR ?_
  obtain rfl := Option.some.inj h
  refine QP.addNil ?_
  refine QP.addNil ?_
  refine QP.addNil ?_
  refine QP.reperm (Γ' := [] :: [] :: [] :: [(b2, .cells #[.int .i64 1, .slice none ([] : List T38).length 0, .slice none ([] : List Int).length 0, .slice none ([] : List Int).length 0] 27 (0, 0))] :: Γ) (perm_sel [2, 1, 0] (by kernel_rfl) rfl) ?_
  exact QP.returnedM (rs := [.cell 4 27]) (by kernel_rfl) (ResAll.cons (Res1.box (p := 4) (i := 3) (o := 0) (agg := true) (by rfl) ag27 (by kernel_rfl) (fun h => by cases h) (Nat.le_of_ble_eq_true rfl) (v := .agg #[.int .i64 1, .slice none ([] : List T38).length 0, .slice none ([] : List Int).length 0, .slice none ([] : List Int).length 0]) (by kernel_rfl)) ResAll.nil) (by kernel_rfl) (fun W hI => ⟨_, _, _, rfl, ⟨none, 0, [], none, 0, [], none, 0, [], rfl, (Ow.nil k38 _), (Ow.nil (kInt .i64) _), (Ow.nil (kInt .i64) _), rfl, rfl⟩, (hI.less 3 rfl)⟩)

/-! ### grapevine/grapevinelaw19.rec: function 6 -/
def grapevinelaw19_rec (a0 : Int) (a1 : Int) : Option T38 := some (⟨a0, a1, 0, 0, (⟨#[97]⟩ : ByteArray)⟩ : T38)
set_option maxHeartbeats 4000000 in
theorem grapevinelaw19_rec_calls {B : World} {G : GMap} {Γ : List Chunk} {W : World} (a0 : Int) (a1 : Int) (r : T38) (h : grapevinelaw19_rec a0 a1 = some r) (hI : Inv B G (Γ) W) :
    Calls Tryz.prog 6 [.int .i64 a0, .int .i64 a1].toArray W (Ret B (fun v G' Γ' => v = .agg #[.int .i64 r.f0, .int .i64 r.f1, .int .i64 r.f2, .int .i64 r.f3, .string r.f4] ∧ G = G' ∧ Γ = Γ')) := by
  refine calls_WP (Γ := Γ) (G := G) (B := B) Tryz.func6 rfl (by kernel_rfl) ?_ hI
  clear hI
  unfold grapevinelaw19_rec at h
  refine WP.seqR ?_
  refine WL.op (op := .alloc 38) (ty := 0) (d := some 4) (g := none) (by kernel_rfl) (by kernel_rfl) (by kernel_rfl) (Does.new (o := .cells #[.int .i64 0, .int .i64 0, .int .i64 0, .int .i64 0, .string (⟨#[]⟩ : ByteArray)] 38 (0, 0)) (v := fun r => .pointer (some ⟨r, 0, none⟩)) (fun r => by kernel_rfl)) ?_
  rintro _ _ _ ⟨b1, rfl, rfl, rfl⟩
  refine WL.restQ 1 [0, 1, 4] (L' := [(0, .int .i64 a0), (1, .int .i64 a1), (4, .pointer (some ⟨b1, 0, none⟩))]) (by kernel_rfl) ?_
  refine WP.seqR ?_
  refine WL.pure 0 4 [4, 8] (L' := [(4, .pointer (some ⟨b1, 0, none⟩)), (8, .agg #[.int .i64 a0, .int .i64 a1, .int .i64 0, .int .i64 0, .string (⟨#[97]⟩ : ByteArray)])]) (by kernel_rfl) (by decide) ?_
  refine WL.op (op := .store 38 (.tmp 4) (.tmp 8)) (ty := 0) (d := none) (g := none) (by kernel_rfl) (by kernel_rfl) (by kernel_rfl) (Does.store_box (i := 0) (b := b1) (o := 0) (v := .agg #[.int .i64 a0, .int .i64 a1, .int .i64 0, .int .i64 0, .string (⟨#[97]⟩ : ByteArray)]) (by rfl) sz38 (by kernel_rfl) (by kernel_rfl) (by kernel_rfl) (Free.zero _) (Nat.le_of_ble_eq_true rfl) (cells' := #[.int .i64 a0, .int .i64 a1, .int .i64 0, .int .i64 0, .string (⟨#[97]⟩ : ByteArray)]) (by kernel_rfl)) ?_
  rintro _ _ _ ⟨rfl, rfl, rfl⟩
  refine WL.restQ 5 [4] (L' := [(4, .pointer (some ⟨b1, 0, none⟩))]) (by kernel_rfl) ?_
  refine WP.ret ?_
  obtain rfl := Option.some.inj h
  exact QP.returnedM (rs := [.cell 4 38]) (by kernel_rfl) (ResAll.cons (Res1.box (p := 4) (i := 0) (o := 0) (agg := true) (by rfl) ag38 (by kernel_rfl) (fun h => by cases h) (Nat.le_of_ble_eq_true rfl) (v := .agg #[.int .i64 a0, .int .i64 a1, .int .i64 0, .int .i64 0, .string (⟨#[97]⟩ : ByteArray)]) (by kernel_rfl)) ResAll.nil) (by kernel_rfl) (fun W hI => ⟨_, _, _, rfl, ⟨rfl, rfl, rfl⟩, (hI.less 0 rfl)⟩)

/-! ### (*grapevine/state.State).Accept: function 5 -/
def state_State_Accept (a1 : T38) : Option Int := some 1
set_option maxHeartbeats 4000000 in
theorem state_State_Accept_calls {B : World} {G : GMap} {Γ : List Chunk} {W : World} (a1 : T38) (r : Int) (h : state_State_Accept a1 = some r) (hI : Inv B G (Γ) W) :
    Calls Tryz.prog 5 [.pointer none, .agg #[.int .i64 a1.f0, .int .i64 a1.f1, .int .i64 a1.f2, .int .i64 a1.f3, .string a1.f4]].toArray W (Ret B (fun v G' Γ' => v = .int .i64 r ∧ G = G' ∧ Γ = Γ')) := by
  refine calls_WP (Γ := Γ) (G := G) (B := B) Tryz.func5 rfl (by kernel_rfl) ?_ hI
  clear hI
  unfold state_State_Accept at h
  refine WP.seqR ?_
  refine WL.op (op := .box 38 (.tmp 1)) (ty := 0) (d := some 3) (g := none) (by kernel_rfl) (by kernel_rfl) (by kernel_rfl) (Does.new (o := .cells #[.int .i64 a1.f0, .int .i64 a1.f1, .int .i64 a1.f2, .int .i64 a1.f3, .string a1.f4] 38 (0, 0)) (v := fun r => .pointer (some ⟨r, 0, none⟩)) (fun r => by kernel_rfl)) ?_
  rintro _ _ _ ⟨b1, rfl, rfl, rfl⟩
  refine WL.restQ 1 [0, 3] (L' := [(0, .pointer none), (3, .pointer (some ⟨b1, 0, none⟩))]) (by kernel_rfl) ?_
  refine WP.seq ?_
  refine WP.block ?_
  refine WP.seqP [0, 3, 5] (L' := [(0, .pointer none), (3, .pointer (some ⟨b1, 0, none⟩)), (5, .bool true)]) (by kernel_rfl) ?_
  refine WP.yes (by kernel_rfl) ?_
  refine WP.seqP [4] (L' := [(4, .int .i64 1)]) (by kernel_rfl) ?_
  refine WP.dropAt 0 ?_
  refine WP.ret ?_
  refine QP.blockR ?_
  refine QP.thenR ?_
  obtain rfl := Option.some.inj h
  exact QP.returned [4] [.int .i64 1] _ (by kernel_rfl) (by kernel_rfl) (by kernel_rfl) (fun W hI => ⟨_, _, _, rfl, ⟨rfl, rfl, rfl⟩, hI⟩)

/-! ### (*grapevine/state.State).Retire: function 7 -/
def state_State_Retire (a1 : Int) (a2 : Int) : Option Int := some 1
set_option maxHeartbeats 4000000 in
theorem state_State_Retire_calls {B : World} {G : GMap} {Γ : List Chunk} {W : World} (a1 : Int) (a2 : Int) (r : Int) (h : state_State_Retire a1 a2 = some r) (hI : Inv B G (Γ) W) :
    Calls Tryz.prog 7 [.pointer none, .int .i64 a1, .int .i64 a2].toArray W (Ret B (fun v G' Γ' => v = .int .i64 r ∧ G = G' ∧ Γ = Γ')) := by
  refine calls_WP (Γ := Γ) (G := G) (B := B) Tryz.func7 rfl (by kernel_rfl) ?_ hI
  clear hI
  unfold state_State_Retire at h
  refine WP.seqP [0, 1, 2] (L' := [(0, .pointer none), (1, .int .i64 a1), (2, .int .i64 a2)]) (by kernel_rfl) ?_
  refine WP.seq ?_
  refine WP.block ?_
  refine WP.seqP [0, 1, 2, 8] (L' := [(0, .pointer none), (1, .int .i64 a1), (2, .int .i64 a2), (8, .bool true)]) (by kernel_rfl) ?_
  refine WP.yes (by kernel_rfl) ?_
  refine WP.seqP [6] (L' := [(6, .int .i64 1)]) (by kernel_rfl) ?_
  refine WP.ret ?_
  refine QP.blockR ?_
  refine QP.thenR ?_
  obtain rfl := Option.some.inj h
  exact QP.returned [6] [.int .i64 1] _ (by kernel_rfl) (by kernel_rfl) (by kernel_rfl) (fun W hI => ⟨_, _, _, rfl, ⟨rfl, rfl, rfl⟩, hI⟩)

/-! ### (*grapevine/state.State).V: function 8 -/
def state_State_V : Option (List Int) := some ([] : List Int)
set_option maxHeartbeats 4000000 in
theorem state_State_V_calls {B : World} {G : GMap} {Γ : List Chunk} {W : World} (r : List Int) (h : state_State_V  = some r) (hI : Inv B G (Γ) W) :
    Calls Tryz.prog 8 [.pointer none].toArray W (Ret B (fun v G' Γ' => ∃ (AR : Option Addr), ∃ (cR : Nat), v = .slice AR r.length cR ∧ Rd (kInt .i64) G' AR cR r ∧ G = G' ∧ Γ = Γ')) := by
  refine calls_WP (Γ := Γ) (G := G) (B := B) Tryz.func8 rfl (by kernel_rfl) ?_ hI
  clear hI
  unfold state_State_V at h
  refine WP.seqP [0] (L' := [(0, .pointer none)]) (by kernel_rfl) ?_
  refine WP.seq ?_
  refine WP.seqP [0, 4] (L' := [(0, .pointer none), (4, .bool true)]) (by kernel_rfl) ?_
  refine WP.yes (by kernel_rfl) ?_
  refine WP.seqP [2] (L' := [(2, .slice none 0 0)]) (by kernel_rfl) ?_
  refine WP.ret ?_
  refine QP.thenR ?_
  obtain rfl := Option.some.inj h
  exact QP.returned [2] [.slice none 0 0] _ (by kernel_rfl) (by kernel_rfl) (by kernel_rfl) (fun W hI => ⟨_, _, _, rfl, ⟨none, 0, rfl, (Rd.nil _ _ _ _), rfl, rfl⟩, hI⟩)

/-! ### (*grapevine/state.State).W: function 9 -/
def state_State_W : Option (List Int) := some ([] : List Int)
set_option maxHeartbeats 4000000 in
theorem state_State_W_calls {B : World} {G : GMap} {Γ : List Chunk} {W : World} (r : List Int) (h : state_State_W  = some r) (hI : Inv B G (Γ) W) :
    Calls Tryz.prog 9 [.pointer none].toArray W (Ret B (fun v G' Γ' => ∃ (AR : Option Addr), ∃ (cR : Nat), v = .slice AR r.length cR ∧ Rd (kInt .i64) G' AR cR r ∧ G = G' ∧ Γ = Γ')) := by
  refine calls_WP (Γ := Γ) (G := G) (B := B) Tryz.func9 rfl (by kernel_rfl) ?_ hI
  clear hI
  unfold state_State_W at h
  refine WP.seqP [0] (L' := [(0, .pointer none)]) (by kernel_rfl) ?_
  refine WP.seq ?_
  refine WP.seqP [0, 4] (L' := [(0, .pointer none), (4, .bool true)]) (by kernel_rfl) ?_
  refine WP.yes (by kernel_rfl) ?_
  refine WP.seqP [2] (L' := [(2, .slice none 0 0)]) (by kernel_rfl) ?_
  refine WP.ret ?_
  refine QP.thenR ?_
  obtain rfl := Option.some.inj h
  exact QP.returned [2] [.slice none 0 0] _ (by kernel_rfl) (by kernel_rfl) (by kernel_rfl) (fun W hI => ⟨_, _, _, rfl, ⟨none, 0, rfl, (Rd.nil _ _ _ _), rfl, rfl⟩, hI⟩)

/-! ### grapevine/vector.Lack: function 45 -/
def vector_Lack_l0 (l0 : List Int) (l1 : List Int) (l2 : List Int) : Nat → (List T87) → Int → Option (List T87)
  | 0, _, _ => none
  | k + 1, y7, y8 => (if y8 < (l0.length : Int) then (if 0 ≤ y8 ∧ y8 < (l1.length : Int) then (if 0 ≤ y8 ∧ y8 < (l2.length : Int) then ((some (if (l2.getD y8.toNat 0) > (l1.getD y8.toNat 0) then (l2.getD y8.toNat 0) else (l1.getD y8.toNat 0))).bind fun v14 => (if 0 ≤ y8 ∧ y8 < (l0.length : Int) then (if v14 < (l0.getD y8.toNat 0) then (if 0 ≤ y8 ∧ y8 < (l0.length : Int) then (if y7.length + ([(⟨y8, IntKind.i64.wrap (v14 + 1), IntKind.i64.wrap ((l0.getD y8.toNat 0) - v14)⟩ : T87)] : List T87).length ≤ 1073741824 then vector_Lack_l0 l0 l1 l2 k (y7 ++ ([(⟨y8, IntKind.i64.wrap (v14 + 1), IntKind.i64.wrap ((l0.getD y8.toNat 0) - v14)⟩ : T87)] : List T87)) (IntKind.i64.wrap (y8 + 1)) else none) else none) else vector_Lack_l0 l0 l1 l2 k y7 (IntKind.i64.wrap (y8 + 1))) else none)) else none) else none) else some y7)
def vector_Lack (k : Nat) (l0 : List Int) (l1 : List Int) (l2 : List Int) : Option (List T87) := ((if ¬ (l0.length : Int) = (l1.length : Int) then some true else some ((l0.length : Int) != (l2.length : Int))).bind fun s1 => (if s1 = true then some ([] : List T87) else ((vector_Lack_l0 l0 l1 l2 k ([] : List T87) 0).bind fun s5 => some s5)))
set_option maxHeartbeats 4000000 in
theorem vector_Lack_calls {B : World} {G : GMap} {Γ : List Chunk} {W : World} (k : Nat) (l0 : List Int) (l1 : List Int) (l2 : List Int) (Al0 : Option Addr) (cl0 : Nat) (Hl0 : Rd (kInt .i64) G Al0 cl0 l0) (Al1 : Option Addr) (cl1 : Nat) (Hl1 : Rd (kInt .i64) G Al1 cl1 l1) (Al2 : Option Addr) (cl2 : Nat) (Hl2 : Rd (kInt .i64) G Al2 cl2 l2) (r : List T87) (h : vector_Lack k l0 l1 l2 = some r) (hI : Inv B G (Γ) W) :
    Calls Tryz.prog 45 [.slice Al0 l0.length cl0, .slice Al1 l1.length cl1, .slice Al2 l2.length cl2].toArray W (Ret B (fun v G' Γ' => ∃ (AR : Option Addr), ∃ (cR : Nat), ∃ (CR : Chunk), v = .slice AR r.length cR ∧ Ow k87 G' AR cR r CR ∧ G = G' ∧ CR :: Γ = Γ')) := by
  refine calls_WP (Γ := Γ) (G := G) (B := B) Tryz.func45 rfl (by kernel_rfl) ?_ hI
  clear hI
  unfold vector_Lack at h
  refine WP.seqP [0, 1, 2] (L' := [(0, .slice Al0 l0.length cl0), (1, .slice Al1 l1.length cl1), (2, .slice Al2 l2.length cl2)]) (by kernel_rfl) ?_
  refine WP.seq ?_
  rw [Option.bind_eq_some_iff] at h
  obtain ⟨os1, h, hk2⟩ := h
  refine WP.cut (fun L' G' Γ' => ∃ s1 : Bool, s1 = os1 ∧ L' = [(0, .slice Al0 l0.length cl0), (1, .slice Al1 l1.length cl1), (2, .slice Al2 l2.length cl2), (21, .bool s1)] ∧ G = G' ∧ Γ = Γ') ?_ ?_
  · clear hk2
    refine WP.region ?_
    refine WL.pure 0 6 [0, 1, 2, 15] (L' := [(0, .slice Al0 l0.length cl0), (1, .slice Al1 l1.length cl1), (2, .slice Al2 l2.length cl2), (15, .bool ((l0.length : Int) != (l1.length : Int)))]) (by kernel_rfl) (by decide) ?_
    refine WL.split 15 (b := ((l0.length : Int) != (l1.length : Int))) (by kernel_rfl) (fun hc => ?_) (fun hc => ?_)
    · replace hc := (bne_iff_ne.1 hc)
      rw [if_pos hc] at h
      have hc3 := hc
      clear hc
      refine WL.rest 6 [0, 1, 2, 21] (L' := [(0, .slice Al0 l0.length cl0), (1, .slice Al1 l1.length cl1), (2, .slice Al2 l2.length cl2), (21, .bool true)]) (by kernel_rfl) ?_
      refine QP.pick [0, 1, 2, 21] ?_
      exact QP.meet ⟨_, Option.some.inj h, rfl, rfl, rfl⟩
    · replace hc := (not_not_intro (bne_eq_false_iff_eq.1 hc))
      rw [if_neg hc] at h
      have hc3 := hc
      clear hc
      refine WL.rest 6 [0, 1, 2, 21] (L' := [(0, .slice Al0 l0.length cl0), (1, .slice Al1 l1.length cl1), (2, .slice Al2 l2.length cl2), (21, .bool ((l0.length : Int) != (l2.length : Int)))]) (by kernel_rfl) ?_
      refine QP.pick [0, 1, 2, 21] ?_
      exact QP.meet ⟨_, Option.some.inj h, rfl, rfl, rfl⟩
  · rintro _ _ _ ⟨s1, rfl, rfl, rfl, rfl⟩
    clear h
    replace h := hk2
    refine WP.cond (b := s1) (by kernel_rfl) (fun hc => ?_) (fun hc => ?_)
    · replace hc := hc
      rw [if_pos hc] at h
      have hc4 := hc
      clear hc
      refine WP.seqP [6] (L' := [(6, .slice none 0 0)]) (by kernel_rfl) ?_
      refine WP.ret ?_
      refine QP.thenR ?_
      obtain rfl := Option.some.inj h
      refine QP.addNil ?_
      exact QP.returned [6] [.slice none ([] : List T87).length 0] _ (by kernel_rfl) (by kernel_rfl) (by kernel_rfl) (fun W hI => ⟨_, _, _, rfl, ⟨none, 0, [], rfl, (Ow.nil k87 _), rfl, rfl⟩, hI⟩)
    · replace hc := (Bool.eq_false_iff.1 hc)
      rw [if_neg hc] at h
      have hc4 := hc
      clear hc
      refine WP.skip ?_
      refine QP.next ?_
      refine WP.pick [0, 1, 2] ?_
      refine WP.seqP [0, 1, 2, 7] (L' := [(0, .slice Al0 l0.length cl0), (1, .slice Al1 l1.length cl1), (2, .slice Al2 l2.length cl2), (7, .slice none 0 0)]) (by kernel_rfl) ?_
      refine WP.seq ?_
      refine WP.seqP [0, 1, 2, 7, 23, 24] (L' := [(0, .slice Al0 l0.length cl0), (1, .slice Al1 l1.length cl1), (2, .slice Al2 l2.length cl2), (7, .slice none 0 0), (23, .int .i64 (l0.length : Int)), (24, .int .i64 0)]) (by kernel_rfl) ?_
      rw [Option.bind_eq_some_iff] at h
      obtain ⟨os5, h, hk6⟩ := h
      refine WP.cutQ (fun L' G' Γ' => ∃ s5 : (List T87), s5 = os5 ∧ ∃ (As5 : Option Addr), ∃ (cs5 : Nat), ∃ (Cs5 : Chunk), L' = [(7, .slice As5 s5.length cs5)] ∧ G = G' ∧ Cs5 :: Γ = Γ' ∧ Ow k87 G As5 cs5 s5 Cs5) ?_ ?_
      · clear hk6
        refine WP.block ?_
        refine WP.addNil ?_
        refine WP.pick [0, 1, 2, 7, 23, 24] ?_
        refine WP.loopF (fun kn9 L' G' Γ' => ∃ (y7 : List T87), ∃ (y8 : Int), vector_Lack_l0 l0 l1 l2 kn9 y7 y8 = some os5 ∧ ∃ (Ay7 : Option Addr), ∃ (cy7 : Nat), ∃ (Cy7 : Chunk), L' = [(0, .slice Al0 l0.length cl0), (1, .slice Al1 l1.length cl1), (2, .slice Al2 l2.length cl2), (7, .slice Ay7 y7.length cy7), (23, .int .i64 (l0.length : Int)), (24, .int .i64 y8)] ∧ G = G' ∧ Cy7 :: Γ = Γ' ∧ Ow k87 G Ay7 cy7 y7 Cy7) ?_ k ⟨([] : List T87), 0, h, none, 0, [], rfl, rfl, rfl, (Ow.nil k87 _)⟩
        clear h
        rintro kn10 _ _ _ ⟨y7, y8, h, Ay7, cy7, Cy7, rfl, rfl, rfl, Hy7⟩
        cases kn10 with
        | zero => exact absurd h (by simp [vector_Lack_l0])
        | succ kn10 =>
          simp only [vector_Lack_l0] at h
          refine WP.seqP [0, 1, 2, 7, 23, 24, 25] (L' := [(0, .slice Al0 l0.length cl0), (1, .slice Al1 l1.length cl1), (2, .slice Al2 l2.length cl2), (7, .slice Ay7 y7.length cy7), (23, .int .i64 (l0.length : Int)), (24, .int .i64 y8), (25, .bool (decide (y8 < (l0.length : Int))))]) (by kernel_rfl) ?_
          refine WP.seq ?_
          refine WP.cond (b := decide (y8 < (l0.length : Int))) (by kernel_rfl) (fun hc => ?_) (fun hc => ?_)
          · replace hc := of_decide_eq_true hc
            rw [if_pos hc] at h
            have hc11 := hc
            clear hc
            refine WP.skip ?_
            refine QP.next ?_
            refine WP.pick [0, 1, 2, 7, 23, 24] ?_
            refine WP.seq ?_
            refine WP.block ?_
            refine WP.seqP [0, 1, 2, 7, 8, 23, 24] (L' := [(0, .slice Al0 l0.length cl0), (1, .slice Al1 l1.length cl1), (2, .slice Al2 l2.length cl2), (7, .slice Ay7 y7.length cy7), (8, .int .i64 y8), (23, .int .i64 (l0.length : Int)), (24, .int .i64 y8)]) (by kernel_rfl) ?_
            refine WP.seq ?_
            refine WP.any (N := 10) (S := [⟨some 27, [1], []⟩, ⟨some 28, [8], []⟩, ⟨some 29, [27, 28], [0, 1]⟩, ⟨some 30, [29], [2]⟩, ⟨some 31, [2], []⟩, ⟨some 32, [8], []⟩, ⟨some 33, [31, 32], [4, 5]⟩, ⟨some 34, [33], [6]⟩, ⟨some 35, [30, 34], [3, 7]⟩, ⟨some 9, [35], [0, 1, 2, 3, 4, 5, 6, 7, 8]⟩]) (kw := 10) (G0 := G) (Γ0 := Cy7 :: Γ) mo (by kernel_rfl) (fun hS => ?_)
            refine WA.pure [0, 1, 4, 5] [0, 1, 2, 7, 8, 23, 24, 27, 28, 31, 32] (m := 6) (b' := 51) (L' := [(0, .slice Al0 l0.length cl0), (1, .slice Al1 l1.length cl1), (2, .slice Al2 l2.length cl2), (7, .slice Ay7 y7.length cy7), (8, .int .i64 y8), (23, .int .i64 (l0.length : Int)), (24, .int .i64 y8), (27, .slice Al1 l1.length cl1), (28, .int .i64 y8), (31, .slice Al2 l2.length cl2), (32, .int .i64 y8)]) (by kernel_rfl) (NoPanic.then (NoPanic.block (NoPanic.then (NoPanic.then (NoPanic.block (NoPanic.then (NoPanic.then (NoPanic.body)))))))) Under.refl hS (by kernel_rfl) ?_
            by_cases hb12 : 0 ≤ y8 ∧ y8 < (l1.length : Int)
            case neg => rw [if_neg hb12] at h; cases h
            rw [if_pos hb12] at h
            refine WA.tellD [] (i := 2) (m := 5) (b' := 55) (by kernel_rfl) (NoPanic.then (NoPanic.block (NoPanic.then (NoPanic.then (NoPanic.block (NoPanic.then (NoPanic.then (NoPanic.body)))))))) Under.refl hS (by kernel_rfl) (op := .indexAddr 25 (.tmp 27) (.tmp 28)) (ty := 0) (d := some 29) (g := none) (by kernel_rfl) (by kernel_rfl) (by kernel_rfl) (Tells.indexAddr (A := Al1) (n := l1.length) (c := cl1) (k := .i64) (j := y8) (by kernel_rfl) (by kernel_rfl) (Hl1.isSome hb12.1 hb12.2) hb12.1 hb12.2 sl25) ?_
            refine WA.tellDE [] (i := 3) (m := 4) (b' := 63) (by kernel_rfl) (NoPanic.then (NoPanic.block (NoPanic.then (NoPanic.then (NoPanic.block (NoPanic.then (NoPanic.then (NoPanic.body)))))))) Under.refl hS (by kernel_rfl) (op := .load 3 (.tmp 29)) (ty := 3) (d := some 30) (g := none) (by kernel_rfl) (by kernel_rfl) (by kernel_rfl) (Hl1.load (agg := false) hb12.1 hb12.2 0 ag3 (fun _ => rfl) (by kernel_rfl)) ?_
            rintro _ rfl
            by_cases hb13 : 0 ≤ y8 ∧ y8 < (l2.length : Int)
            case neg => rw [if_neg hb13] at h; cases h
            rw [if_pos hb13] at h
            refine WA.tellD [] (i := 6) (m := 3) (b' := 127) (by kernel_rfl) (NoPanic.then (NoPanic.block (NoPanic.then (NoPanic.then (NoPanic.block (NoPanic.then (NoPanic.then (NoPanic.body)))))))) Under.refl hS (by kernel_rfl) (op := .indexAddr 25 (.tmp 31) (.tmp 32)) (ty := 0) (d := some 33) (g := none) (by kernel_rfl) (by kernel_rfl) (by kernel_rfl) (Tells.indexAddr (A := Al2) (n := l2.length) (c := cl2) (k := .i64) (j := y8) (by kernel_rfl) (by kernel_rfl) (Hl2.isSome hb13.1 hb13.2) hb13.1 hb13.2 sl25) ?_
            refine WA.tellDE [] (i := 7) (m := 2) (b' := 255) (by kernel_rfl) (NoPanic.then (NoPanic.block (NoPanic.then (NoPanic.then (NoPanic.block (NoPanic.then (NoPanic.then (NoPanic.body)))))))) Under.refl hS (by kernel_rfl) (op := .load 3 (.tmp 33)) (ty := 3) (d := some 34) (g := none) (by kernel_rfl) (by kernel_rfl) (by kernel_rfl) (Hl2.load (agg := false) hb13.1 hb13.2 0 ag3 (fun _ => rfl) (by kernel_rfl)) ?_
            rintro _ rfl
            refine WA.pure [8, 9] [0, 1, 2, 7, 8, 9, 23, 24] (m := 0) (b' := 1023) (L' := [(0, .slice Al0 l0.length cl0), (1, .slice Al1 l1.length cl1), (2, .slice Al2 l2.length cl2), (7, .slice Ay7 y7.length cy7), (8, .int .i64 y8), (9, .int .i64 (if (l2.getD y8.toNat 0) > (l1.getD y8.toNat 0) then (l2.getD y8.toNat 0) else (l1.getD y8.toNat 0))), (23, .int .i64 (l0.length : Int)), (24, .int .i64 y8)]) (by kernel_rfl) (NoPanic.then (NoPanic.block (NoPanic.then (NoPanic.then (NoPanic.block (NoPanic.then (NoPanic.then (NoPanic.body)))))))) Under.refl hS (by kernel_rfl) ?_
            refine WA.done hS (by kernel_rfl) ?_
            refine QP.pick [0, 1, 2, 7, 8, 9, 23, 24] ?_
            refine QP.next ?_
            obtain ⟨v14, hv15, h⟩ := Option.bind_eq_some_iff.1 h
            replace hv15 := Option.some.inj hv15
            refine WP.reput 9 (v := .int .i64 (if (l2.getD y8.toNat 0) > (l1.getD y8.toNat 0) then (l2.getD y8.toNat 0) else (l1.getD y8.toNat 0))) (v' := .int .i64 v14) (by kernel_rfl) (by subst hv15; rfl) ?_
            refine WP.pick [0, 1, 2, 7, 8, 9, 23, 24] ?_
            refine WP.seqR ?_
            refine WL.pure 0 3 [0, 1, 2, 7, 8, 9, 23, 24, 36, 37, 38] (L' := [(0, .slice Al0 l0.length cl0), (1, .slice Al1 l1.length cl1), (2, .slice Al2 l2.length cl2), (7, .slice Ay7 y7.length cy7), (8, .int .i64 y8), (9, .int .i64 v14), (23, .int .i64 (l0.length : Int)), (24, .int .i64 y8), (36, .int .i64 v14), (37, .slice Al0 l0.length cl0), (38, .int .i64 y8)]) (by kernel_rfl) (by decide) ?_
            by_cases hb16 : 0 ≤ y8 ∧ y8 < (l0.length : Int)
            case neg => rw [if_neg hb16] at h; cases h
            rw [if_pos hb16] at h
            refine WL.tell (op := .indexAddr 25 (.tmp 37) (.tmp 38)) (ty := 0) (d := some 39) (g := none) (by kernel_rfl) (by kernel_rfl) (by kernel_rfl) (Tells.indexAddr (A := Al0) (n := l0.length) (c := cl0) (k := .i64) (j := y8) (by kernel_rfl) (by kernel_rfl) (Hl0.isSome hb16.1 hb16.2) hb16.1 hb16.2 sl25) ?_
            refine WL.tellE (op := .load 3 (.tmp 39)) (ty := 3) (d := some 40) (g := none) (by kernel_rfl) (by kernel_rfl) (by kernel_rfl) (Hl0.load (agg := false) hb16.1 hb16.2 0 ag3 (fun _ => rfl) (by kernel_rfl)) ?_
            rintro _ rfl
            refine WL.restQ 5 [0, 1, 2, 7, 8, 9, 23, 24, 41] (L' := [(0, .slice Al0 l0.length cl0), (1, .slice Al1 l1.length cl1), (2, .slice Al2 l2.length cl2), (7, .slice Ay7 y7.length cy7), (8, .int .i64 y8), (9, .int .i64 v14), (23, .int .i64 (l0.length : Int)), (24, .int .i64 y8), (41, .bool (decide (v14 < (l0.getD y8.toNat 0))))]) (by kernel_rfl) ?_
            refine WP.cond (b := decide (v14 < (l0.getD y8.toNat 0))) (by kernel_rfl) (fun hc => ?_) (fun hc => ?_)
            · replace hc := of_decide_eq_true hc
              rw [if_pos hc] at h
              have hc17 := hc
              clear hc
              refine WP.region ?_
              refine WL.pure 0 6 [0, 1, 2, 7, 9, 23, 24, 42, 43, 45, 46, 47] (L' := [(0, .slice Al0 l0.length cl0), (1, .slice Al1 l1.length cl1), (2, .slice Al2 l2.length cl2), (7, .slice Ay7 y7.length cy7), (9, .int .i64 v14), (23, .int .i64 (l0.length : Int)), (24, .int .i64 y8), (42, .slice Ay7 y7.length cy7), (43, .int .i64 y8), (45, .int .i64 (IntKind.i64.wrap (v14 + 1))), (46, .slice Al0 l0.length cl0), (47, .int .i64 y8)]) (by kernel_rfl) (by decide) ?_
              by_cases hb18 : 0 ≤ y8 ∧ y8 < (l0.length : Int)
              case neg => rw [if_neg hb18] at h; cases h
              rw [if_pos hb18] at h
              refine WL.tell (op := .indexAddr 25 (.tmp 46) (.tmp 47)) (ty := 0) (d := some 48) (g := none) (by kernel_rfl) (by kernel_rfl) (by kernel_rfl) (Tells.indexAddr (A := Al0) (n := l0.length) (c := cl0) (k := .i64) (j := y8) (by kernel_rfl) (by kernel_rfl) (Hl0.isSome hb18.1 hb18.2) hb18.1 hb18.2 sl25) ?_
              refine WL.tellE (op := .load 3 (.tmp 48)) (ty := 3) (d := some 49) (g := none) (by kernel_rfl) (by kernel_rfl) (by kernel_rfl) (Hl0.load (agg := false) hb18.1 hb18.2 0 ag3 (fun _ => rfl) (by kernel_rfl)) ?_
              rintro _ rfl
              refine WL.pure 8 11 [0, 1, 2, 7, 23, 24, 42, 52] (L' := [(0, .slice Al0 l0.length cl0), (1, .slice Al1 l1.length cl1), (2, .slice Al2 l2.length cl2), (7, .slice Ay7 y7.length cy7), (23, .int .i64 (l0.length : Int)), (24, .int .i64 y8), (42, .slice Ay7 y7.length cy7), (52, .agg #[.int .i64 y8, .int .i64 (IntKind.i64.wrap (v14 + 1)), .int .i64 (IntKind.i64.wrap ((l0.getD y8.toNat 0) - v14))])]) (by kernel_rfl) (by decide) ?_
              refine WL.op (op := .buildSlice 84 1 #[(0, (.tmp 52))]) (ty := 84) (d := some 53) (g := none) (by kernel_rfl) (by kernel_rfl) (by kernel_rfl) (Does.new (o := .cells #[.int .i64 y8, .int .i64 (IntKind.i64.wrap (v14 + 1)), .int .i64 (IntKind.i64.wrap ((l0.getD y8.toNat 0) - v14))] 87 (0, 0)) (v := fun r => .slice (some ⟨r, 0, none⟩) 1 1) (fun r => by kernel_rfl)) ?_
              rintro _ _ _ ⟨b19, rfl, rfl, rfl⟩
              have Ho21 : Ow k87 G (some ⟨b19, 0, none⟩) 1 ([(⟨y8, IntKind.i64.wrap (v14 + 1), IntKind.i64.wrap ((l0.getD y8.toNat 0) - v14)⟩ : T87)] : List T87) [(b19, .cells #[.int .i64 y8, .int .i64 (IntKind.i64.wrap (v14 + 1)), .int .i64 (IntKind.i64.wrap ((l0.getD y8.toNat 0) - v14))] 87 (0, 0))] := Ow.lit (kd := k87) (G := G) (b := b19) (T := 87) (xs := ([(⟨y8, IntKind.i64.wrap (v14 + 1), IntKind.i64.wrap ((l0.getD y8.toNat 0) - v14)⟩ : T87)] : List T87)) (cs := [.int .i64 y8, .int .i64 (IntKind.i64.wrap (v14 + 1)), .int .i64 (IntKind.i64.wrap ((l0.getD y8.toNat 0) - v14))]) (.cons (x := (⟨y8, IntKind.i64.wrap (v14 + 1), IntKind.i64.wrap ((l0.getD y8.toNat 0) - v14)⟩ : T87)) (cs := [.int .i64 y8, .int .i64 (IntKind.i64.wrap (v14 + 1)), .int .i64 (IntKind.i64.wrap ((l0.getD y8.toNat 0) - v14))]) (by exact rfl) .nil)
              by_cases hb22 : y7.length + ([(⟨y8, IntKind.i64.wrap (v14 + 1), IntKind.i64.wrap ((l0.getD y8.toNat 0) - v14)⟩ : T87)] : List T87).length ≤ 1073741824
              case neg => rw [if_neg hb22] at h; cases h
              rw [if_pos hb22] at h
              refine WL.op (op := .call { callee := (.builtin .append), args := #[(.tmp 42), (.tmp 53)], argTypes := #[84, 84] }) (ty := 84) (d := some 54) (g := none) (by kernel_rfl) (by kernel_rfl) (by kernel_rfl) (Ow.append (ys := ([(⟨y8, IntKind.i64.wrap (v14 + 1), IntKind.i64.wrap ((l0.getD y8.toNat 0) - v14)⟩ : T87)] : List T87)) (v := .slice (some ⟨b19, 0, none⟩) ([(⟨y8, IntKind.i64.wrap (v14 + 1), IntKind.i64.wrap ((l0.getD y8.toNat 0) - v14)⟩ : T87)] : List T87).length 1) Hy7 (i := 1) rfl (by kernel_rfl) (by kernel_rfl) (Ho21.src (i := 0) rfl) sl84 ze87 nt84 (by decide) hb22) ?_
              rintro _ _ _ ⟨rfl, AN23, cN23, CN23, rfl, HN23, rfl⟩
              refine WL.rest 13 [0, 1, 2, 7, 23, 24] (L' := [(0, .slice Al0 l0.length cl0), (1, .slice Al1 l1.length cl1), (2, .slice Al2 l2.length cl2), (7, .slice AN23 (y7 ++ ([(⟨y8, IntKind.i64.wrap (v14 + 1), IntKind.i64.wrap ((l0.getD y8.toNat 0) - v14)⟩ : T87)] : List T87)).length cN23), (23, .int .i64 (l0.length : Int)), (24, .int .i64 y8)]) (by kernel_rfl) ?_
              refine QP.blockN ?_
              refine QP.next ?_
              refine WP.pick [0, 1, 2, 7, 23, 24] ?_
              refine WP.regionP [0, 1, 2, 7, 23, 24] (L' := [(0, .slice Al0 l0.length cl0), (1, .slice Al1 l1.length cl1), (2, .slice Al2 l2.length cl2), (7, .slice AN23 (y7 ++ ([(⟨y8, IntKind.i64.wrap (v14 + 1), IntKind.i64.wrap ((l0.getD y8.toNat 0) - v14)⟩ : T87)] : List T87)).length cN23), (23, .int .i64 (l0.length : Int)), (24, .int .i64 (IntKind.i64.wrap (y8 + 1)))]) (by kernel_rfl) ?_
              refine QP.dropAt 0 ?_
              refine QP.pick [0, 1, 2, 7, 23, 24] ?_
              exact QP.meet ⟨kn10, Nat.lt_succ_self _, (y7 ++ ([(⟨y8, IntKind.i64.wrap (v14 + 1), IntKind.i64.wrap ((l0.getD y8.toNat 0) - v14)⟩ : T87)] : List T87)), (IntKind.i64.wrap (y8 + 1)), h, AN23, cN23, CN23, rfl, rfl, rfl, HN23⟩
            · replace hc := of_decide_eq_false hc
              rw [if_neg hc] at h
              have hc17 := hc
              clear hc
              refine WP.skip ?_
              refine QP.blockN ?_
              refine QP.next ?_
              refine WP.pick [0, 1, 2, 7, 23, 24] ?_
              refine WP.regionP [0, 1, 2, 7, 23, 24] (L' := [(0, .slice Al0 l0.length cl0), (1, .slice Al1 l1.length cl1), (2, .slice Al2 l2.length cl2), (7, .slice Ay7 y7.length cy7), (23, .int .i64 (l0.length : Int)), (24, .int .i64 (IntKind.i64.wrap (y8 + 1)))]) (by kernel_rfl) ?_
              refine QP.pick [0, 1, 2, 7, 23, 24] ?_
              exact QP.meet ⟨kn10, Nat.lt_succ_self _, y7, (IntKind.i64.wrap (y8 + 1)), h, Ay7, cy7, Cy7, rfl, rfl, rfl, Hy7⟩
          · replace hc := of_decide_eq_false hc
            rw [if_neg hc] at h
            have hc11 := hc
            clear hc
            refine WP.exit ?_
            refine QP.thenE ?_
            refine QP.thenE ?_
            refine QP.blockE ?_
            refine QP.pick [7] ?_
            exact QP.meet ⟨_, Option.some.inj h, Ay7, cy7, Cy7, rfl, rfl, rfl, Hy7⟩
      · rintro _ _ _ ⟨s5, rfl, As5, cs5, Cs5, rfl, rfl, rfl, Hs5⟩
        clear h
        replace h := hk6
        refine QP.next ?_
        refine WP.pick [7] ?_
        refine WP.seqP [6] (L' := [(6, .slice As5 s5.length cs5)]) (by kernel_rfl) ?_
        refine WP.ret ?_
        obtain rfl := Option.some.inj h
        exact QP.returned [6] [.slice As5 s5.length cs5] _ (by kernel_rfl) (by kernel_rfl) (by kernel_rfl) (fun W hI => ⟨_, _, _, rfl, ⟨As5, cs5, Cs5, rfl, Hs5, rfl, rfl⟩, hI⟩)

/-! ### (*grapevine/state.State).above: function 22 -/
def state_State_above_l1 (t9 : List T87) (y15 : Int) : Nat → Int → Option Unit
  | 0, _ => none
  | k + 1, y23 => (if y23 < ((t9.getD y15.toNat z87).f2) then none else some ())
def state_State_above_l0 (t9 : List T87) : Nat → Int → Option Unit
  | 0, _ => none
  | k + 1, y15 => (if y15 < (t9.length : Int) then (if 0 ≤ y15 ∧ y15 < (t9.length : Int) then ((state_State_above_l1 t9 y15 k 0).bind fun s21 => state_State_above_l0 t9 k (IntKind.i64.wrap (y15 + 1))) else none) else some ())
def state_State_above (k : Nat) (l1 : List Int) : Option (List T38) := ((state_State_V ).bind fun t1 => ((state_State_W ).bind fun t5 => ((vector_Lack k t1 l1 t5).bind fun t9 => ((state_State_above_l0 t9 k 0).bind fun s13 => some ([] : List T38)))))
set_option maxHeartbeats 4000000 in
theorem state_State_above_calls {B : World} {G : GMap} {Γ : List Chunk} {W : World} (k : Nat) (l1 : List Int) (Al1 : Option Addr) (cl1 : Nat) (Hl1 : Rd (kInt .i64) G Al1 cl1 l1) (r : List T38) (h : state_State_above k l1 = some r) (hI : Inv B G (Γ) W) :
    Calls Tryz.prog 22 [.pointer none, .slice Al1 l1.length cl1].toArray W (Ret B (fun v G' Γ' => ∃ (AR : Option Addr), ∃ (cR : Nat), v = .slice AR r.length cR ∧ Rd k38 G' AR cR r ∧ G = G' ∧ Γ = Γ')) := by
  refine calls_WP (Γ := Γ) (G := G) (B := B) Tryz.func22 rfl (by kernel_rfl) ?_ hI
  clear hI
  unfold state_State_above at h
  refine WP.seqP [0, 1] (L' := [(0, .pointer none), (1, .slice Al1 l1.length cl1)]) (by kernel_rfl) ?_
  refine WP.seqP [0, 1, 5] (L' := [(0, .pointer none), (1, .slice Al1 l1.length cl1), (5, .slice none 0 0)]) (by kernel_rfl) ?_
  refine WP.seq ?_
  refine WP.seqR ?_
  refine WL.pure 0 1 [0, 1, 5, 9] (L' := [(0, .pointer none), (1, .slice Al1 l1.length cl1), (5, .slice none 0 0), (9, .pointer none)]) (by kernel_rfl) (by decide) ?_
  rw [Option.bind_eq_some_iff] at h
  obtain ⟨t1, ht2, h⟩ := h
  refine WL.op (op := .call { callee := (.value (.func 8)), args := #[(.tmp 9)], argTypes := #[22] }) (ty := 25) (d := some 10) (g := none) (by kernel_rfl) (by kernel_rfl) (by kernel_rfl) (Does.call (f := 8) (args := [.pointer none]) (by kernel_rfl) (fun W hI => (state_State_V_calls   t1 ht2 hI))) ?_
  rintro _ _ _ ⟨AR3, cR3, rfl, HR3, rfl, rfl⟩
  refine WL.pure 2 4 [0, 5, 10, 11, 12] (L' := [(0, .pointer none), (5, .slice none 0 0), (10, .slice AR3 t1.length cR3), (11, .slice Al1 l1.length cl1), (12, .pointer none)]) (by kernel_rfl) (by decide) ?_
  rw [Option.bind_eq_some_iff] at h
  obtain ⟨t5, ht6, h⟩ := h
  refine WL.op (op := .call { callee := (.value (.func 9)), args := #[(.tmp 12)], argTypes := #[22] }) (ty := 25) (d := some 13) (g := none) (by kernel_rfl) (by kernel_rfl) (by kernel_rfl) (Does.call (f := 9) (args := [.pointer none]) (by kernel_rfl) (fun W hI => (state_State_W_calls   t5 ht6 hI))) ?_
  rintro _ _ _ ⟨AR7, cR7, rfl, HR7, rfl, rfl⟩
  rw [Option.bind_eq_some_iff] at h
  obtain ⟨t9, ht10, h⟩ := h
  refine WL.op (op := .call { callee := (.value (.func 45)), args := #[(.tmp 10), (.tmp 11), (.tmp 13)], argTypes := #[25, 25, 25] }) (ty := 84) (d := some 14) (g := none) (by kernel_rfl) (by kernel_rfl) (by kernel_rfl) (Does.call (f := 45) (args := [.slice AR3 t1.length cR3, .slice Al1 l1.length cl1, .slice AR7 t5.length cR7]) (by kernel_rfl) (fun W hI => (vector_Lack_calls k t1 l1 t5 AR3 cR3 HR3 Al1 cl1 Hl1 AR7 cR7 HR7 t9 ht10 hI))) ?_
  rintro _ _ _ ⟨AR11, cR11, CR11, rfl, HR11, rfl, rfl⟩
  refine WL.restQ 6 [0, 5, 14, 15, 16] (L' := [(0, .pointer none), (5, .slice none 0 0), (14, .slice AR11 t9.length cR11), (15, .int .i64 (t9.length : Int)), (16, .int .i64 0)]) (by kernel_rfl) ?_
  rw [Option.bind_eq_some_iff] at h
  obtain ⟨os13, h, hk14⟩ := h
  refine WP.cutQ (fun L' G' Γ' => ∃ s13 : Unit, s13 = os13 ∧ L' = [(5, .slice none 0 0)] ∧ G = G' ∧ Γ = Γ') ?_ ?_
  · clear hk14
    refine WP.block ?_
    refine WP.pick [0, 5, 14, 15, 16] ?_
    refine WP.loopF (fun kn16 L' G' Γ' => ∃ (y15 : Int), state_State_above_l0 t9 kn16 y15 = some os13 ∧ L' = [(0, .pointer none), (5, .slice none 0 0), (14, .slice AR11 t9.length cR11), (15, .int .i64 (t9.length : Int)), (16, .int .i64 y15)] ∧ G = G' ∧ CR11 :: Γ = Γ') ?_ k ⟨0, h, rfl, rfl, rfl⟩
    clear h
    rintro kn17 _ _ _ ⟨y15, h, rfl, rfl, rfl⟩
    cases kn17 with
    | zero => exact absurd h (by simp [state_State_above_l0])
    | succ kn17 =>
      simp only [state_State_above_l0] at h
      refine WP.seqP [0, 5, 14, 15, 16, 17] (L' := [(0, .pointer none), (5, .slice none 0 0), (14, .slice AR11 t9.length cR11), (15, .int .i64 (t9.length : Int)), (16, .int .i64 y15), (17, .bool (decide (y15 < (t9.length : Int))))]) (by kernel_rfl) ?_
      refine WP.seq ?_
      refine WP.cond (b := decide (y15 < (t9.length : Int))) (by kernel_rfl) (fun hc => ?_) (fun hc => ?_)
      · replace hc := of_decide_eq_true hc
        rw [if_pos hc] at h
        have hc18 := hc
        clear hc
        refine WP.skip ?_
        refine QP.next ?_
        refine WP.pick [0, 5, 14, 15, 16] ?_
        refine WP.seq ?_
        refine WP.block ?_
        refine WP.seqR ?_
        by_cases hb19 : 0 ≤ y15 ∧ y15 < (t9.length : Int)
        case neg => rw [if_neg hb19] at h; cases h
        rw [if_pos hb19] at h
        refine WL.tell (op := .indexAddr 84 (.tmp 14) (.tmp 16)) (ty := 0) (d := some 18) (g := none) (by kernel_rfl) (by kernel_rfl) (by kernel_rfl) (Tells.indexAddr (A := AR11) (n := t9.length) (c := cR11) (k := .i64) (j := y15) (by kernel_rfl) (by kernel_rfl) (HR11.isSome hb19.1 hb19.2) hb19.1 hb19.2 sl84) ?_
        refine WL.tellE (op := .load 87 (.tmp 18)) (ty := 87) (d := some 19) (g := none) (by kernel_rfl) (by kernel_rfl) (by kernel_rfl) (HR11.load (i := 0) rfl (agg := true) hb19.1 hb19.2 z87 ag87 (fun h => by cases h) (by kernel_rfl)) ?_
        rintro _ rfl
        refine WL.op (op := .alloc 87) (ty := 0) (d := some 7) (g := none) (by kernel_rfl) (by kernel_rfl) (by kernel_rfl) (Does.new (o := .cells #[.int .i64 0, .int .i64 0, .int .i64 0] 87 (0, 0)) (v := fun r => .pointer (some ⟨r, 0, none⟩)) (fun r => by kernel_rfl)) ?_
        rintro _ _ _ ⟨b20, rfl, rfl, rfl⟩
        refine WL.op (op := .store 87 (.tmp 7) (.tmp 19)) (ty := 0) (d := none) (g := none) (by kernel_rfl) (by kernel_rfl) (by kernel_rfl) (Does.store_box (i := 0) (b := b20) (o := 0) (v := .agg #[.int .i64 ((t9.getD y15.toNat z87).f0), .int .i64 ((t9.getD y15.toNat z87).f1), .int .i64 ((t9.getD y15.toNat z87).f2)]) (by rfl) sz87 (by kernel_rfl) (by kernel_rfl) (by kernel_rfl) (Free.zero _) (Nat.le_of_ble_eq_true rfl) (cells' := #[.int .i64 ((t9.getD y15.toNat z87).f0), .int .i64 ((t9.getD y15.toNat z87).f1), .int .i64 ((t9.getD y15.toNat z87).f2)]) (by kernel_rfl)) ?_
        rintro _ _ _ ⟨rfl, rfl, rfl⟩
        refine WL.restQ 4 [0, 5, 7, 14, 15, 16] (L' := [(0, .pointer none), (5, .slice none 0 0), (7, .pointer (some ⟨b20, 0, none⟩)), (14, .slice AR11 t9.length cR11), (15, .int .i64 (t9.length : Int)), (16, .int .i64 y15)]) (by kernel_rfl) ?_
        refine WP.seqR ?_
        refine WL.pure 0 1 [0, 5, 7, 14, 15, 16, 20] (L' := [(0, .pointer none), (5, .slice none 0 0), (7, .pointer (some ⟨b20, 0, none⟩)), (14, .slice AR11 t9.length cR11), (15, .int .i64 (t9.length : Int)), (16, .int .i64 y15), (20, .pointer (some ⟨b20, 2, none⟩))]) (by kernel_rfl) (by decide) ?_
        refine WL.tell (op := .load 3 (.tmp 20)) (ty := 3) (d := some 21) (g := none) (by kernel_rfl) (by kernel_rfl) (by kernel_rfl) (Tells.load_box (i := 0) (b := b20) (o := 2) (agg := false) (by rfl) ag3 (by kernel_rfl) (fun _ => rfl) (Nat.le_of_ble_eq_true rfl) (v := .int .i64 ((t9.getD y15.toNat z87).f2)) (by kernel_rfl)) ?_
        refine WL.restQ 2 [0, 5, 7, 14, 15, 16, 21, 22] (L' := [(0, .pointer none), (5, .slice none 0 0), (7, .pointer (some ⟨b20, 0, none⟩)), (14, .slice AR11 t9.length cR11), (15, .int .i64 (t9.length : Int)), (16, .int .i64 y15), (21, .int .i64 ((t9.getD y15.toNat z87).f2)), (22, .int .i64 0)]) (by kernel_rfl) ?_
        rw [Option.bind_eq_some_iff] at h
        obtain ⟨os21, h, hk22⟩ := h
        refine WP.cutQ (fun L' G' Γ' => ∃ s21 : Unit, s21 = os21 ∧ L' = [(0, .pointer none), (5, .slice none 0 0), (14, .slice AR11 t9.length cR11), (15, .int .i64 (t9.length : Int)), (16, .int .i64 y15)] ∧ G = G' ∧ CR11 :: Γ = Γ') ?_ ?_
        · clear hk22
          refine WP.block ?_
          refine WP.pick [0, 5, 7, 14, 15, 16, 21, 22] ?_
          refine WP.loopF (fun kn24 L' G' Γ' => ∃ (y23 : Int), state_State_above_l1 t9 y15 kn24 y23 = some os21 ∧ L' = [(0, .pointer none), (5, .slice none 0 0), (7, .pointer (some ⟨b20, 0, none⟩)), (14, .slice AR11 t9.length cR11), (15, .int .i64 (t9.length : Int)), (16, .int .i64 y15), (21, .int .i64 ((t9.getD y15.toNat z87).f2)), (22, .int .i64 y23)] ∧ G = G' ∧ [(b20, .cells #[.int .i64 ((t9.getD y15.toNat z87).f0), .int .i64 ((t9.getD y15.toNat z87).f1), .int .i64 ((t9.getD y15.toNat z87).f2)] 87 (0, 0))] :: CR11 :: Γ = Γ') ?_ kn17 ⟨0, h, rfl, rfl, rfl⟩
          clear h
          rintro kn25 _ _ _ ⟨y23, h, rfl, rfl, rfl⟩
          cases kn25 with
          | zero => exact absurd h (by simp [state_State_above_l1])
          | succ kn25 =>
            simp only [state_State_above_l1] at h
            refine WP.seqP [0, 5, 7, 14, 15, 16, 21, 22, 23] (L' := [(0, .pointer none), (5, .slice none 0 0), (7, .pointer (some ⟨b20, 0, none⟩)), (14, .slice AR11 t9.length cR11), (15, .int .i64 (t9.length : Int)), (16, .int .i64 y15), (21, .int .i64 ((t9.getD y15.toNat z87).f2)), (22, .int .i64 y23), (23, .bool (decide (y23 < ((t9.getD y15.toNat z87).f2))))]) (by kernel_rfl) ?_
            refine WP.seq ?_
            refine WP.cond (b := decide (y23 < ((t9.getD y15.toNat z87).f2))) (by kernel_rfl) (fun hc => ?_) (fun hc => ?_)
            · replace hc := of_decide_eq_true hc
              rw [if_pos hc] at h
              have hc26 := hc
              clear hc
              refine WP.skip ?_
              refine QP.next ?_
              refine WP.pick [0, 5, 7, 14, 15, 16, 21, 22] ?_
              refine WP.seq ?_
              refine WP.block ?_
              refine WP.seqP [0, 5, 7, 8, 14, 15, 16, 21, 22] (L' := [(0, .pointer none), (5, .slice none 0 0), (7, .pointer (some ⟨b20, 0, none⟩)), (8, .int .i64 y23), (14, .slice AR11 t9.length cR11), (15, .int .i64 (t9.length : Int)), (16, .int .i64 y15), (21, .int .i64 ((t9.getD y15.toNat z87).f2)), (22, .int .i64 y23)]) (by kernel_rfl) ?_
              skip
              refine WP.any (N := 16) (S := [⟨some 25, [5], []⟩, ⟨some 26, [0], []⟩, ⟨some 27, [26], [1]⟩, ⟨some 28, [27], [2]⟩, ⟨some 29, [28], [3]⟩, ⟨some 30, [7], []⟩, ⟨some 31, [30], [5]⟩, ⟨some 32, [7], []⟩, ⟨some 33, [32], [7]⟩, ⟨some 34, [8], []⟩, ⟨some 35, [33, 34], [8, 9]⟩, ⟨some 36, [31, 35], [6, 10]⟩, ⟨some 37, [29, 36], [4, 11]⟩, ⟨some 38, [37], [12]⟩, ⟨some 39, [25, 38], [0, 13]⟩, ⟨some 5, [39], [0, 1, 2, 3, 4, 5, 6, 7, 8, 9, 10, 11, 12, 13, 14]⟩]) (kw := 14) (G0 := G) (Γ0 := [(b20, .cells #[.int .i64 ((t9.getD y15.toNat z87).f0), .int .i64 ((t9.getD y15.toNat z87).f1), .int .i64 ((t9.getD y15.toNat z87).f2)] 87 (0, 0))] :: CR11 :: Γ) mo (by kernel_rfl) (fun hS => ?_)
              refine WA.pure [0, 1, 5, 7, 9] [0, 5, 7, 14, 15, 16, 21, 22, 25, 26, 30, 32, 34] (m := 11) (b' := 675) (L' := [(0, .pointer none), (5, .slice none 0 0), (7, .pointer (some ⟨b20, 0, none⟩)), (14, .slice AR11 t9.length cR11), (15, .int .i64 (t9.length : Int)), (16, .int .i64 y15), (21, .int .i64 ((t9.getD y15.toNat z87).f2)), (22, .int .i64 y23), (25, .slice none 0 0), (26, .pointer none), (30, .pointer (some ⟨b20, 0, none⟩)), (32, .pointer (some ⟨b20, 1, none⟩)), (34, .int .i64 y23)]) (by kernel_rfl) (NoPanic.block (NoPanic.then (NoPanic.then (NoPanic.block (NoPanic.then (NoPanic.block (NoPanic.then (NoPanic.then (NoPanic.block (NoPanic.then (NoPanic.then (NoPanic.body)))))))))))) Under.refl hS (by kernel_rfl) ?_
              cases h
            · replace hc := of_decide_eq_false hc
              rw [if_neg hc] at h
              have hc26 := hc
              clear hc
              refine WP.exit ?_
              refine QP.thenE ?_
              refine QP.thenE ?_
              refine QP.blockE ?_
              refine QP.dropAt 0 ?_
              refine QP.pick [0, 5, 14, 15, 16] ?_
              exact QP.meet ⟨_, Option.some.inj h, rfl, rfl, rfl⟩
        · rintro _ _ _ ⟨s21, rfl, rfl, rfl, rfl⟩
          clear h
          replace h := hk22
          refine QP.blockN ?_
          refine QP.next ?_
          refine WP.pick [0, 5, 14, 15, 16] ?_
          refine WP.regionP [0, 5, 14, 15, 16] (L' := [(0, .pointer none), (5, .slice none 0 0), (14, .slice AR11 t9.length cR11), (15, .int .i64 (t9.length : Int)), (16, .int .i64 (IntKind.i64.wrap (y15 + 1)))]) (by kernel_rfl) ?_
          refine QP.pick [0, 5, 14, 15, 16] ?_
          exact QP.meet ⟨kn17, Nat.lt_succ_self _, (IntKind.i64.wrap (y15 + 1)), h, rfl, rfl, rfl⟩
      · replace hc := of_decide_eq_false hc
        rw [if_neg hc] at h
        have hc18 := hc
        clear hc
        refine WP.exit ?_
        refine QP.thenE ?_
        refine QP.thenE ?_
        refine QP.blockE ?_
        refine QP.dropAt 0 ?_
        refine QP.pick [5] ?_
        exact QP.meet ⟨_, Option.some.inj h, rfl, rfl, rfl⟩
  · rintro _ _ _ ⟨s13, rfl, rfl, rfl, rfl⟩
    clear h
    replace h := hk14
    refine QP.next ?_
    refine WP.pick [5] ?_
    refine WP.seqP [4] (L' := [(4, .slice none 0 0)]) (by kernel_rfl) ?_
    refine WP.ret ?_
    obtain rfl := Option.some.inj h
    exact QP.returned [4] [.slice none 0 0] _ (by kernel_rfl) (by kernel_rfl) (by kernel_rfl) (fun W hI => ⟨_, _, _, rfl, ⟨none, 0, rfl, (Rd.nil _ _ _ _), rfl, rfl⟩, hI⟩)

/-! ### (*grapevine/state.State).Records: function 10 -/
def state_State_Records (k : Nat) : Option (List T38) := ((state_State_W ).bind fun t1 => ((state_State_above k t1).bind fun t5 => some t5))
set_option maxHeartbeats 4000000 in
theorem state_State_Records_calls {B : World} {G : GMap} {Γ : List Chunk} {W : World} (k : Nat) (r : List T38) (h : state_State_Records k  = some r) (hI : Inv B G (Γ) W) :
    Calls Tryz.prog 10 [.pointer none].toArray W (Ret B (fun v G' Γ' => ∃ (AR : Option Addr), ∃ (cR : Nat), v = .slice AR r.length cR ∧ Rd k38 G' AR cR r ∧ G = G' ∧ Γ = Γ')) := by
  refine calls_WP (Γ := Γ) (G := G) (B := B) Tryz.func10 rfl (by kernel_rfl) ?_ hI
  clear hI
  unfold state_State_Records at h
  refine WP.seqP [0] (L' := [(0, .pointer none)]) (by kernel_rfl) ?_
  refine WP.seqR ?_
  refine WL.pure 0 2 [3, 4] (L' := [(3, .pointer none), (4, .pointer none)]) (by kernel_rfl) (by decide) ?_
  rw [Option.bind_eq_some_iff] at h
  obtain ⟨t1, ht2, h⟩ := h
  refine WL.op (op := .call { callee := (.value (.func 9)), args := #[(.tmp 4)], argTypes := #[22] }) (ty := 25) (d := some 5) (g := none) (by kernel_rfl) (by kernel_rfl) (by kernel_rfl) (Does.call (f := 9) (args := [.pointer none]) (by kernel_rfl) (fun W hI => (state_State_W_calls   t1 ht2 hI))) ?_
  rintro _ _ _ ⟨AR3, cR3, rfl, HR3, rfl, rfl⟩
  rw [Option.bind_eq_some_iff] at h
  obtain ⟨t5, ht6, h⟩ := h
  refine WL.op (op := .call { callee := (.value (.func 22)), args := #[(.tmp 3), (.tmp 5)], argTypes := #[22, 25] }) (ty := 24) (d := some 6) (g := none) (by kernel_rfl) (by kernel_rfl) (by kernel_rfl) (Does.call (f := 22) (args := [.pointer none, .slice AR3 t1.length cR3]) (by kernel_rfl) (fun W hI => (state_State_above_calls k t1 AR3 cR3 HR3 t5 ht6 hI))) ?_
  rintro _ _ _ ⟨AR7, cR7, rfl, HR7, rfl, rfl⟩
  refine WL.restQ 4 [2] (L' := [(2, .slice AR7 t5.length cR7)]) (by kernel_rfl) ?_
  refine WP.ret ?_
  obtain rfl := Option.some.inj h
  exact QP.returned [2] [.slice AR7 t5.length cR7] _ (by kernel_rfl) (by kernel_rfl) (by kernel_rfl) (fun W hI => ⟨_, _, _, rfl, ⟨AR7, cR7, rfl, HR7, rfl, rfl⟩, hI⟩)

/-! ### (*grapevine/state.State).Lacks: function 11 -/
def state_State_Lacks (l1 : List Int) (l2 : List Int) : Option (List T38) := some ([] : List T38)
set_option maxHeartbeats 4000000 in
theorem state_State_Lacks_calls {B : World} {G : GMap} {Γ : List Chunk} {W : World} (l1 : List Int) (l2 : List Int) (Al1 : Option Addr) (cl1 : Nat) (Hl1 : Rd (kInt .i64) G Al1 cl1 l1) (Al2 : Option Addr) (cl2 : Nat) (Hl2 : Rd (kInt .i64) G Al2 cl2 l2) (r : List T38) (h : state_State_Lacks l1 l2 = some r) (hI : Inv B G (Γ) W) :
    Calls Tryz.prog 11 [.pointer none, .slice Al1 l1.length cl1, .slice Al2 l2.length cl2].toArray W (Ret B (fun v G' Γ' => ∃ (AR : Option Addr), ∃ (cR : Nat), v = .slice AR r.length cR ∧ Rd k38 G' AR cR r ∧ G = G' ∧ Γ = Γ')) := by
  refine calls_WP (Γ := Γ) (G := G) (B := B) Tryz.func11 rfl (by kernel_rfl) ?_ hI
  clear hI
  unfold state_State_Lacks at h
  refine WP.seqP [0, 1, 2] (L' := [(0, .pointer none), (1, .slice Al1 l1.length cl1), (2, .slice Al2 l2.length cl2)]) (by kernel_rfl) ?_
  refine WP.seq ?_
  refine WP.seqP [0, 1, 2, 28] (L' := [(0, .pointer none), (1, .slice Al1 l1.length cl1), (2, .slice Al2 l2.length cl2), (28, .bool true)]) (by kernel_rfl) ?_
  refine WP.yes (by kernel_rfl) ?_
  refine WP.seqP [6] (L' := [(6, .slice none 0 0)]) (by kernel_rfl) ?_
  refine WP.ret ?_
  refine QP.thenR ?_
  obtain rfl := Option.some.inj h
  exact QP.returned [6] [.slice none 0 0] _ (by kernel_rfl) (by kernel_rfl) (by kernel_rfl) (fun W hI => ⟨_, _, _, rfl, ⟨none, 0, rfl, (Rd.nil _ _ _ _), rfl, rfl⟩, hI⟩)

/-! ### grapevine/grapevinelaw0.SameRecords: function 25 -/
def grapevinelaw0_SameRecords_l0 (l0 : List T38) (l1 : List T38) : Nat → Int → Option (Sum Bool Unit)
  | 0, _ => none
  | k + 1, y4 => (if y4 < (l0.length : Int) then (if 0 ≤ y4 ∧ y4 < (l0.length : Int) then (if 0 ≤ y4 ∧ y4 < (l1.length : Int) then (if ¬ (l0.getD y4.toNat z38) = (l1.getD y4.toNat z38) then some (Sum.inl false) else grapevinelaw0_SameRecords_l0 l0 l1 k (IntKind.i64.wrap (y4 + 1))) else none) else none) else some (Sum.inr ()))
def grapevinelaw0_SameRecords (k : Nat) (l0 : List T38) (l1 : List T38) : Option Bool := (if ¬ (l0.length : Int) = (l1.length : Int) then some false else ((grapevinelaw0_SameRecords_l0 l0 l1 k 0).bind fun os2 => match os2 with | Sum.inl r => some r | Sum.inr s2 => some true))
set_option maxHeartbeats 4000000 in
theorem grapevinelaw0_SameRecords_calls {B : World} {G : GMap} {Γ : List Chunk} {W : World} (k : Nat) (l0 : List T38) (l1 : List T38) (Al0 : Option Addr) (cl0 : Nat) (Hl0 : Rd k38 G Al0 cl0 l0) (Al1 : Option Addr) (cl1 : Nat) (Hl1 : Rd k38 G Al1 cl1 l1) (r : Bool) (h : grapevinelaw0_SameRecords k l0 l1 = some r) (hI : Inv B G (Γ) W) :
    Calls Tryz.prog 25 [.slice Al0 l0.length cl0, .slice Al1 l1.length cl1].toArray W (Ret B (fun v G' Γ' => v = .bool r ∧ G = G' ∧ Γ = Γ')) := by
  refine calls_WP (Γ := Γ) (G := G) (B := B) Tryz.func25 rfl (by kernel_rfl) ?_ hI
  clear hI
  unfold grapevinelaw0_SameRecords at h
  refine WP.seqP [0, 1] (L' := [(0, .slice Al0 l0.length cl0), (1, .slice Al1 l1.length cl1)]) (by kernel_rfl) ?_
  refine WP.seq ?_
  refine WP.seqP [0, 1, 10] (L' := [(0, .slice Al0 l0.length cl0), (1, .slice Al1 l1.length cl1), (10, .bool ((l0.length : Int) != (l1.length : Int)))]) (by kernel_rfl) ?_
  refine WP.cond (b := ((l0.length : Int) != (l1.length : Int))) (by kernel_rfl) (fun hc => ?_) (fun hc => ?_)
  · replace hc := (bne_iff_ne.1 hc)
    rw [if_pos hc] at h
    have hc1 := hc
    clear hc
    refine WP.seqP [4] (L' := [(4, .bool false)]) (by kernel_rfl) ?_
    refine WP.ret ?_
    refine QP.thenR ?_
    obtain rfl := Option.some.inj h
    exact QP.returned [4] [.bool false] _ (by kernel_rfl) (by kernel_rfl) (by kernel_rfl) (fun W hI => ⟨_, _, _, rfl, ⟨rfl, rfl, rfl⟩, hI⟩)
  · replace hc := (not_not_intro (bne_eq_false_iff_eq.1 hc))
    rw [if_neg hc] at h
    have hc1 := hc
    clear hc
    refine WP.skip ?_
    refine QP.next ?_
    refine WP.pick [0, 1] ?_
    refine WP.seq ?_
    refine WP.seqP [0, 1, 5] (L' := [(0, .slice Al0 l0.length cl0), (1, .slice Al1 l1.length cl1), (5, .int .i64 0)]) (by kernel_rfl) ?_
    rw [Option.bind_eq_some_iff] at h
    obtain ⟨os2, h, hk3⟩ := h
    refine WP.cutQ (fun L' G' Γ' => ∃ s2 : Unit, Sum.inr s2 = os2 ∧ L' = [] ∧ G = G' ∧ Γ = Γ') ?_ ?_
    · skip
      refine WP.block ?_
      refine WP.pick [0, 1, 5] ?_
      refine WP.loopF (fun kn5 L' G' Γ' => ∃ (y4 : Int), grapevinelaw0_SameRecords_l0 l0 l1 kn5 y4 = some os2 ∧ L' = [(0, .slice Al0 l0.length cl0), (1, .slice Al1 l1.length cl1), (5, .int .i64 y4)] ∧ G = G' ∧ Γ = Γ') ?_ k ⟨0, h, rfl, rfl, rfl⟩
      clear h
      rintro kn6 _ _ _ ⟨y4, h, rfl, rfl, rfl⟩
      cases kn6 with
      | zero => exact absurd h (by simp [grapevinelaw0_SameRecords_l0])
      | succ kn6 =>
        simp only [grapevinelaw0_SameRecords_l0] at h
        refine WP.seq ?_
        refine WP.seqP [0, 1, 5, 14] (L' := [(0, .slice Al0 l0.length cl0), (1, .slice Al1 l1.length cl1), (5, .int .i64 y4), (14, .bool (decide (y4 < (l0.length : Int))))]) (by kernel_rfl) ?_
        refine WP.cond (b := decide (y4 < (l0.length : Int))) (by kernel_rfl) (fun hc => ?_) (fun hc => ?_)
        · replace hc := of_decide_eq_true hc
          rw [if_pos hc] at h
          have hc7 := hc
          clear hc
          refine WP.skip ?_
          refine QP.next ?_
          refine WP.pick [0, 1, 5] ?_
          refine WP.seq ?_
          refine WP.block ?_
          refine WP.seq ?_
          refine WP.any (N := 9) (S := [⟨some 17, [0], []⟩, ⟨some 18, [5], []⟩, ⟨some 19, [17, 18], [0, 1]⟩, ⟨some 20, [19], [2]⟩, ⟨some 21, [1], []⟩, ⟨some 22, [5], []⟩, ⟨some 23, [21, 22], [4, 5]⟩, ⟨some 24, [23], [6]⟩, ⟨some 25, [20, 24], [3, 7]⟩]) (kw := 9) (G0 := G) (Γ0 := Γ) mo (by kernel_rfl) (fun hS => ?_)
          refine WA.pure [0, 1, 4, 5] [0, 1, 5, 17, 18, 21, 22] (m := 5) (b' := 51) (L' := [(0, .slice Al0 l0.length cl0), (1, .slice Al1 l1.length cl1), (5, .int .i64 y4), (17, .slice Al0 l0.length cl0), (18, .int .i64 y4), (21, .slice Al1 l1.length cl1), (22, .int .i64 y4)]) (by kernel_rfl) (NoPanic.then (NoPanic.block (NoPanic.then (NoPanic.then (NoPanic.block (NoPanic.then (NoPanic.then (NoPanic.body)))))))) Under.refl hS (by kernel_rfl) ?_
          by_cases hb8 : 0 ≤ y4 ∧ y4 < (l0.length : Int)
          case neg => rw [if_neg hb8] at h; cases h
          rw [if_pos hb8] at h
          refine WA.tellD [] (i := 2) (m := 4) (b' := 55) (by kernel_rfl) (NoPanic.then (NoPanic.block (NoPanic.then (NoPanic.then (NoPanic.block (NoPanic.then (NoPanic.then (NoPanic.body)))))))) Under.refl hS (by kernel_rfl) (op := .indexAddr 24 (.tmp 17) (.tmp 18)) (ty := 0) (d := some 19) (g := none) (by kernel_rfl) (by kernel_rfl) (by kernel_rfl) (Tells.indexAddr (A := Al0) (n := l0.length) (c := cl0) (k := .i64) (j := y4) (by kernel_rfl) (by kernel_rfl) (Hl0.isSome hb8.1 hb8.2) hb8.1 hb8.2 sl24) ?_
          refine WA.tellDE [] (i := 3) (m := 3) (b' := 63) (by kernel_rfl) (NoPanic.then (NoPanic.block (NoPanic.then (NoPanic.then (NoPanic.block (NoPanic.then (NoPanic.then (NoPanic.body)))))))) Under.refl hS (by kernel_rfl) (op := .load 38 (.tmp 19)) (ty := 38) (d := some 20) (g := none) (by kernel_rfl) (by kernel_rfl) (by kernel_rfl) (Hl0.load (agg := true) hb8.1 hb8.2 z38 ag38 (fun h => by cases h) (by kernel_rfl)) ?_
          rintro _ rfl
          by_cases hb9 : 0 ≤ y4 ∧ y4 < (l1.length : Int)
          case neg => rw [if_neg hb9] at h; cases h
          rw [if_pos hb9] at h
          refine WA.tellD [] (i := 6) (m := 2) (b' := 127) (by kernel_rfl) (NoPanic.then (NoPanic.block (NoPanic.then (NoPanic.then (NoPanic.block (NoPanic.then (NoPanic.then (NoPanic.body)))))))) Under.refl hS (by kernel_rfl) (op := .indexAddr 24 (.tmp 21) (.tmp 22)) (ty := 0) (d := some 23) (g := none) (by kernel_rfl) (by kernel_rfl) (by kernel_rfl) (Tells.indexAddr (A := Al1) (n := l1.length) (c := cl1) (k := .i64) (j := y4) (by kernel_rfl) (by kernel_rfl) (Hl1.isSome hb9.1 hb9.2) hb9.1 hb9.2 sl24) ?_
          refine WA.tellDE [] (i := 7) (m := 1) (b' := 255) (by kernel_rfl) (NoPanic.then (NoPanic.block (NoPanic.then (NoPanic.then (NoPanic.block (NoPanic.then (NoPanic.then (NoPanic.body)))))))) Under.refl hS (by kernel_rfl) (op := .load 38 (.tmp 23)) (ty := 38) (d := some 24) (g := none) (by kernel_rfl) (by kernel_rfl) (by kernel_rfl) (Hl1.load (agg := true) hb9.1 hb9.2 z38 ag38 (fun h => by cases h) (by kernel_rfl)) ?_
          rintro _ rfl
          refine WA.tellD [] (i := 8) (m := 0) (b' := 511) (by kernel_rfl) (NoPanic.then (NoPanic.block (NoPanic.then (NoPanic.then (NoPanic.block (NoPanic.then (NoPanic.then (NoPanic.body)))))))) Under.refl hS (by kernel_rfl) (op := .binOp .neq 38 (.tmp 20) (.tmp 24) 38) (ty := 4) (d := some 25) (g := none) (by kernel_rfl) (by kernel_rfl) (by kernel_rfl) (Tells.neAgg (xs := #[.int .i64 ((l0.getD y4.toNat z38).f0), .int .i64 ((l0.getD y4.toNat z38).f1), .int .i64 ((l0.getD y4.toNat z38).f2), .int .i64 ((l0.getD y4.toNat z38).f3), .string ((l0.getD y4.toNat z38).f4)]) (ys := #[.int .i64 ((l1.getD y4.toNat z38).f0), .int .i64 ((l1.getD y4.toNat z38).f1), .int .i64 ((l1.getD y4.toNat z38).f2), .int .i64 ((l1.getD y4.toNat z38).f3), .string ((l1.getD y4.toNat z38).f4)]) (ls := [.int ((l0.getD y4.toNat z38).f0) ((l1.getD y4.toNat z38).f0), .int ((l0.getD y4.toNat z38).f1) ((l1.getD y4.toNat z38).f1), .int ((l0.getD y4.toNat z38).f2) ((l1.getD y4.toNat z38).f2), .int ((l0.getD y4.toNat z38).f3) ((l1.getD y4.toNat z38).f3), .str ((l0.getD y4.toNat z38).f4) ((l1.getD y4.toNat z38).f4)]) (by kernel_rfl) (by kernel_rfl) (by kernel_rfl) eg38) ?_
          refine WA.reput 25 (v := .bool (!([.int ((l0.getD y4.toNat z38).f0) ((l1.getD y4.toNat z38).f0), .int ((l0.getD y4.toNat z38).f1) ((l1.getD y4.toNat z38).f1), .int ((l0.getD y4.toNat z38).f2) ((l1.getD y4.toNat z38).f2), .int ((l0.getD y4.toNat z38).f3) ((l1.getD y4.toNat z38).f3), .str ((l0.getD y4.toNat z38).f4) ((l1.getD y4.toNat z38).f4)].all Lf.ok))) (v' := .bool (!decide ((l0.getD y4.toNat z38) = (l1.getD y4.toNat z38)))) (by kernel_rfl) (by exact (congrArg (fun z => Value.bool (!z)) (eqT38 (l0.getD y4.toNat z38) (l1.getD y4.toNat z38)))) ?_
          refine WA.done hS (by kernel_rfl) ?_
          refine QP.pick [0, 1, 5, 25] ?_
          refine QP.next ?_
          refine WP.cond (b := (!decide ((l0.getD y4.toNat z38) = (l1.getD y4.toNat z38)))) (by kernel_rfl) (fun hc => ?_) (fun hc => ?_)
          · replace hc := (nd_true hc)
            rw [if_pos hc] at h
            have hc10 := hc
            clear hc
            refine WP.seqP [4] (L' := [(4, .bool false)]) (by kernel_rfl) ?_
            refine WP.ret ?_
            refine QP.blockR ?_
            refine QP.thenR ?_
            refine QP.thenR ?_
            refine QP.blockR ?_
            refine QP.thenR ?_
            refine QP.thenR ?_
            obtain rfl := Option.some.inj h
            obtain rfl := Option.some.inj (show some _ = some _ from hk3)
            exact QP.returned [4] [.bool false] _ (by kernel_rfl) (by kernel_rfl) (by kernel_rfl) (fun W hI => ⟨_, _, _, rfl, ⟨rfl, rfl, rfl⟩, hI⟩)
          · replace hc := (nd_false hc)
            rw [if_neg hc] at h
            have hc10 := hc
            clear hc
            refine WP.skip ?_
            refine QP.blockN ?_
            refine QP.next ?_
            refine WP.pick [0, 1, 5] ?_
            refine WP.regionP [0, 1, 5] (L' := [(0, .slice Al0 l0.length cl0), (1, .slice Al1 l1.length cl1), (5, .int .i64 (IntKind.i64.wrap (y4 + 1)))]) (by kernel_rfl) ?_
            refine QP.pick [0, 1, 5] ?_
            exact QP.meet ⟨kn6, Nat.lt_succ_self _, (IntKind.i64.wrap (y4 + 1)), h, rfl, rfl, rfl⟩
        · replace hc := of_decide_eq_false hc
          rw [if_neg hc] at h
          have hc7 := hc
          clear hc
          refine WP.exit ?_
          refine QP.thenE ?_
          refine QP.thenE ?_
          refine QP.blockE ?_
          refine QP.pick [] ?_
          exact QP.meet ⟨_, Option.some.inj h, rfl, rfl, rfl⟩
    · rintro _ _ _ ⟨s2, rfl, rfl, rfl, rfl⟩
      clear h
      replace h := hk3
      dsimp only at h
      refine QP.next ?_
      refine WP.pick [] ?_
      refine WP.seqP [4] (L' := [(4, .bool true)]) (by kernel_rfl) ?_
      refine WP.ret ?_
      obtain rfl := Option.some.inj h
      exact QP.returned [4] [.bool true] _ (by kernel_rfl) (by kernel_rfl) (by kernel_rfl) (fun W hI => ⟨_, _, _, rfl, ⟨rfl, rfl, rfl⟩, hI⟩)

/-! ### grapevine/grapevinelaw0.SameInts: function 26 -/
def grapevinelaw0_SameInts_l0 (l0 : List Int) (l1 : List Int) : Nat → Int → Option (Sum Bool Unit)
  | 0, _ => none
  | k + 1, y4 => (if y4 < (l0.length : Int) then (if 0 ≤ y4 ∧ y4 < (l0.length : Int) then (if 0 ≤ y4 ∧ y4 < (l1.length : Int) then (if ¬ (l0.getD y4.toNat 0) = (l1.getD y4.toNat 0) then some (Sum.inl false) else grapevinelaw0_SameInts_l0 l0 l1 k (IntKind.i64.wrap (y4 + 1))) else none) else none) else some (Sum.inr ()))
def grapevinelaw0_SameInts (k : Nat) (l0 : List Int) (l1 : List Int) : Option Bool := (if ¬ (l0.length : Int) = (l1.length : Int) then some false else ((grapevinelaw0_SameInts_l0 l0 l1 k 0).bind fun os2 => match os2 with | Sum.inl r => some r | Sum.inr s2 => some true))
set_option maxHeartbeats 4000000 in
theorem grapevinelaw0_SameInts_calls {B : World} {G : GMap} {Γ : List Chunk} {W : World} (k : Nat) (l0 : List Int) (l1 : List Int) (Al0 : Option Addr) (cl0 : Nat) (Hl0 : Rd (kInt .i64) G Al0 cl0 l0) (Al1 : Option Addr) (cl1 : Nat) (Hl1 : Rd (kInt .i64) G Al1 cl1 l1) (r : Bool) (h : grapevinelaw0_SameInts k l0 l1 = some r) (hI : Inv B G (Γ) W) :
    Calls Tryz.prog 26 [.slice Al0 l0.length cl0, .slice Al1 l1.length cl1].toArray W (Ret B (fun v G' Γ' => v = .bool r ∧ G = G' ∧ Γ = Γ')) := by
  refine calls_WP (Γ := Γ) (G := G) (B := B) Tryz.func26 rfl (by kernel_rfl) ?_ hI
  clear hI
  unfold grapevinelaw0_SameInts at h
  refine WP.seqP [0, 1] (L' := [(0, .slice Al0 l0.length cl0), (1, .slice Al1 l1.length cl1)]) (by kernel_rfl) ?_
  refine WP.seq ?_
  refine WP.seqP [0, 1, 10] (L' := [(0, .slice Al0 l0.length cl0), (1, .slice Al1 l1.length cl1), (10, .bool ((l0.length : Int) != (l1.length : Int)))]) (by kernel_rfl) ?_
  refine WP.cond (b := ((l0.length : Int) != (l1.length : Int))) (by kernel_rfl) (fun hc => ?_) (fun hc => ?_)
  · replace hc := (bne_iff_ne.1 hc)
    rw [if_pos hc] at h
    have hc1 := hc
    clear hc
    refine WP.seqP [4] (L' := [(4, .bool false)]) (by kernel_rfl) ?_
    refine WP.ret ?_
    refine QP.thenR ?_
    obtain rfl := Option.some.inj h
    exact QP.returned [4] [.bool false] _ (by kernel_rfl) (by kernel_rfl) (by kernel_rfl) (fun W hI => ⟨_, _, _, rfl, ⟨rfl, rfl, rfl⟩, hI⟩)
  · replace hc := (not_not_intro (bne_eq_false_iff_eq.1 hc))
    rw [if_neg hc] at h
    have hc1 := hc
    clear hc
    refine WP.skip ?_
    refine QP.next ?_
    refine WP.pick [0, 1] ?_
    refine WP.seq ?_
    refine WP.seqP [0, 1, 5] (L' := [(0, .slice Al0 l0.length cl0), (1, .slice Al1 l1.length cl1), (5, .int .i64 0)]) (by kernel_rfl) ?_
    rw [Option.bind_eq_some_iff] at h
    obtain ⟨os2, h, hk3⟩ := h
    refine WP.cutQ (fun L' G' Γ' => ∃ s2 : Unit, Sum.inr s2 = os2 ∧ L' = [] ∧ G = G' ∧ Γ = Γ') ?_ ?_
    · skip
      refine WP.block ?_
      refine WP.pick [0, 1, 5] ?_
      refine WP.loopF (fun kn5 L' G' Γ' => ∃ (y4 : Int), grapevinelaw0_SameInts_l0 l0 l1 kn5 y4 = some os2 ∧ L' = [(0, .slice Al0 l0.length cl0), (1, .slice Al1 l1.length cl1), (5, .int .i64 y4)] ∧ G = G' ∧ Γ = Γ') ?_ k ⟨0, h, rfl, rfl, rfl⟩
      clear h
      rintro kn6 _ _ _ ⟨y4, h, rfl, rfl, rfl⟩
      cases kn6 with
      | zero => exact absurd h (by simp [grapevinelaw0_SameInts_l0])
      | succ kn6 =>
        simp only [grapevinelaw0_SameInts_l0] at h
        refine WP.seq ?_
        refine WP.seqP [0, 1, 5, 14] (L' := [(0, .slice Al0 l0.length cl0), (1, .slice Al1 l1.length cl1), (5, .int .i64 y4), (14, .bool (decide (y4 < (l0.length : Int))))]) (by kernel_rfl) ?_
        refine WP.cond (b := decide (y4 < (l0.length : Int))) (by kernel_rfl) (fun hc => ?_) (fun hc => ?_)
        · replace hc := of_decide_eq_true hc
          rw [if_pos hc] at h
          have hc7 := hc
          clear hc
          refine WP.skip ?_
          refine QP.next ?_
          refine WP.pick [0, 1, 5] ?_
          refine WP.seq ?_
          refine WP.block ?_
          refine WP.seq ?_
          refine WP.any (N := 9) (S := [⟨some 17, [0], []⟩, ⟨some 18, [5], []⟩, ⟨some 19, [17, 18], [0, 1]⟩, ⟨some 20, [19], [2]⟩, ⟨some 21, [1], []⟩, ⟨some 22, [5], []⟩, ⟨some 23, [21, 22], [4, 5]⟩, ⟨some 24, [23], [6]⟩, ⟨some 25, [20, 24], [3, 7]⟩]) (kw := 9) (G0 := G) (Γ0 := Γ) mo (by kernel_rfl) (fun hS => ?_)
          refine WA.pure [0, 1, 4, 5] [0, 1, 5, 17, 18, 21, 22] (m := 5) (b' := 51) (L' := [(0, .slice Al0 l0.length cl0), (1, .slice Al1 l1.length cl1), (5, .int .i64 y4), (17, .slice Al0 l0.length cl0), (18, .int .i64 y4), (21, .slice Al1 l1.length cl1), (22, .int .i64 y4)]) (by kernel_rfl) (NoPanic.then (NoPanic.block (NoPanic.then (NoPanic.then (NoPanic.block (NoPanic.then (NoPanic.then (NoPanic.body)))))))) Under.refl hS (by kernel_rfl) ?_
          by_cases hb8 : 0 ≤ y4 ∧ y4 < (l0.length : Int)
          case neg => rw [if_neg hb8] at h; cases h
          rw [if_pos hb8] at h
          refine WA.tellD [] (i := 2) (m := 4) (b' := 55) (by kernel_rfl) (NoPanic.then (NoPanic.block (NoPanic.then (NoPanic.then (NoPanic.block (NoPanic.then (NoPanic.then (NoPanic.body)))))))) Under.refl hS (by kernel_rfl) (op := .indexAddr 25 (.tmp 17) (.tmp 18)) (ty := 0) (d := some 19) (g := none) (by kernel_rfl) (by kernel_rfl) (by kernel_rfl) (Tells.indexAddr (A := Al0) (n := l0.length) (c := cl0) (k := .i64) (j := y4) (by kernel_rfl) (by kernel_rfl) (Hl0.isSome hb8.1 hb8.2) hb8.1 hb8.2 sl25) ?_
          refine WA.tellDE [] (i := 3) (m := 3) (b' := 63) (by kernel_rfl) (NoPanic.then (NoPanic.block (NoPanic.then (NoPanic.then (NoPanic.block (NoPanic.then (NoPanic.then (NoPanic.body)))))))) Under.refl hS (by kernel_rfl) (op := .load 3 (.tmp 19)) (ty := 3) (d := some 20) (g := none) (by kernel_rfl) (by kernel_rfl) (by kernel_rfl) (Hl0.load (agg := false) hb8.1 hb8.2 0 ag3 (fun _ => rfl) (by kernel_rfl)) ?_
          rintro _ rfl
          by_cases hb9 : 0 ≤ y4 ∧ y4 < (l1.length : Int)
          case neg => rw [if_neg hb9] at h; cases h
          rw [if_pos hb9] at h
          refine WA.tellD [] (i := 6) (m := 2) (b' := 127) (by kernel_rfl) (NoPanic.then (NoPanic.block (NoPanic.then (NoPanic.then (NoPanic.block (NoPanic.then (NoPanic.then (NoPanic.body)))))))) Under.refl hS (by kernel_rfl) (op := .indexAddr 25 (.tmp 21) (.tmp 22)) (ty := 0) (d := some 23) (g := none) (by kernel_rfl) (by kernel_rfl) (by kernel_rfl) (Tells.indexAddr (A := Al1) (n := l1.length) (c := cl1) (k := .i64) (j := y4) (by kernel_rfl) (by kernel_rfl) (Hl1.isSome hb9.1 hb9.2) hb9.1 hb9.2 sl25) ?_
          refine WA.tellDE [] (i := 7) (m := 1) (b' := 255) (by kernel_rfl) (NoPanic.then (NoPanic.block (NoPanic.then (NoPanic.then (NoPanic.block (NoPanic.then (NoPanic.then (NoPanic.body)))))))) Under.refl hS (by kernel_rfl) (op := .load 3 (.tmp 23)) (ty := 3) (d := some 24) (g := none) (by kernel_rfl) (by kernel_rfl) (by kernel_rfl) (Hl1.load (agg := false) hb9.1 hb9.2 0 ag3 (fun _ => rfl) (by kernel_rfl)) ?_
          rintro _ rfl
          refine WA.pure [8] [0, 1, 5, 25] (m := 0) (b' := 511) (L' := [(0, .slice Al0 l0.length cl0), (1, .slice Al1 l1.length cl1), (5, .int .i64 y4), (25, .bool ((l0.getD y4.toNat 0) != (l1.getD y4.toNat 0)))]) (by kernel_rfl) (NoPanic.then (NoPanic.block (NoPanic.then (NoPanic.then (NoPanic.block (NoPanic.then (NoPanic.then (NoPanic.body)))))))) Under.refl hS (by kernel_rfl) ?_
          refine WA.done hS (by kernel_rfl) ?_
          refine QP.pick [0, 1, 5, 25] ?_
          refine QP.next ?_
          refine WP.cond (b := ((l0.getD y4.toNat 0) != (l1.getD y4.toNat 0))) (by kernel_rfl) (fun hc => ?_) (fun hc => ?_)
          · replace hc := (bne_iff_ne.1 hc)
            rw [if_pos hc] at h
            have hc10 := hc
            clear hc
            refine WP.seqP [4] (L' := [(4, .bool false)]) (by kernel_rfl) ?_
            refine WP.ret ?_
            refine QP.blockR ?_
            refine QP.thenR ?_
            refine QP.thenR ?_
            refine QP.blockR ?_
            refine QP.thenR ?_
            refine QP.thenR ?_
            obtain rfl := Option.some.inj h
            obtain rfl := Option.some.inj (show some _ = some _ from hk3)
            exact QP.returned [4] [.bool false] _ (by kernel_rfl) (by kernel_rfl) (by kernel_rfl) (fun W hI => ⟨_, _, _, rfl, ⟨rfl, rfl, rfl⟩, hI⟩)
          · replace hc := (not_not_intro (bne_eq_false_iff_eq.1 hc))
            rw [if_neg hc] at h
            have hc10 := hc
            clear hc
            refine WP.skip ?_
            refine QP.blockN ?_
            refine QP.next ?_
            refine WP.pick [0, 1, 5] ?_
            refine WP.regionP [0, 1, 5] (L' := [(0, .slice Al0 l0.length cl0), (1, .slice Al1 l1.length cl1), (5, .int .i64 (IntKind.i64.wrap (y4 + 1)))]) (by kernel_rfl) ?_
            refine QP.pick [0, 1, 5] ?_
            exact QP.meet ⟨kn6, Nat.lt_succ_self _, (IntKind.i64.wrap (y4 + 1)), h, rfl, rfl, rfl⟩
        · replace hc := of_decide_eq_false hc
          rw [if_neg hc] at h
          have hc7 := hc
          clear hc
          refine WP.exit ?_
          refine QP.thenE ?_
          refine QP.thenE ?_
          refine QP.blockE ?_
          refine QP.pick [] ?_
          exact QP.meet ⟨_, Option.some.inj h, rfl, rfl, rfl⟩
    · rintro _ _ _ ⟨s2, rfl, rfl, rfl, rfl⟩
      clear h
      replace h := hk3
      dsimp only at h
      refine QP.next ?_
      refine WP.pick [] ?_
      refine WP.seqP [4] (L' := [(4, .bool true)]) (by kernel_rfl) ?_
      refine WP.ret ?_
      obtain rfl := Option.some.inj h
      exact QP.returned [4] [.bool true] _ (by kernel_rfl) (by kernel_rfl) (by kernel_rfl) (fun W hI => ⟨_, _, _, rfl, ⟨rfl, rfl, rfl⟩, hI⟩)

/-! ### grapevine/grapevinelaw0.SameAnswer: function 12 -/
def grapevinelaw0_SameAnswer (k : Nat) (a0 : T27) (a1 : T27) : Option Bool := ((if a0.f0 = a1.f0 then ((grapevinelaw0_SameRecords k a0.f1 a1.f1).bind fun t6 => (if t6 = true then ((grapevinelaw0_SameInts k a0.f2 a1.f2).bind fun t11 => (if t11 = true then ((grapevinelaw0_SameInts k a0.f3 a1.f3).bind fun t16 => some t16) else some false)) else some false)) else some false).bind fun s3 => some s3)
set_option maxHeartbeats 4000000 in
theorem grapevinelaw0_SameAnswer_calls {B : World} {G : GMap} {Γ : List Chunk} {W : World} (k : Nat) (a0 : T27) (a1 : T27) (Aa0_f1 : Option Addr) (ca0_f1 : Nat) (Ha0_f1 : Rd k38 G Aa0_f1 ca0_f1 a0.f1) (Aa0_f2 : Option Addr) (ca0_f2 : Nat) (Ha0_f2 : Rd (kInt .i64) G Aa0_f2 ca0_f2 a0.f2) (Aa0_f3 : Option Addr) (ca0_f3 : Nat) (Ha0_f3 : Rd (kInt .i64) G Aa0_f3 ca0_f3 a0.f3) (Aa1_f1 : Option Addr) (ca1_f1 : Nat) (Ha1_f1 : Rd k38 G Aa1_f1 ca1_f1 a1.f1) (Aa1_f2 : Option Addr) (ca1_f2 : Nat) (Ha1_f2 : Rd (kInt .i64) G Aa1_f2 ca1_f2 a1.f2) (Aa1_f3 : Option Addr) (ca1_f3 : Nat) (Ha1_f3 : Rd (kInt .i64) G Aa1_f3 ca1_f3 a1.f3) (r : Bool) (h : grapevinelaw0_SameAnswer k a0 a1 = some r) (hI : Inv B G (Γ) W) :
    Calls Tryz.prog 12 [.agg #[.int .i64 a0.f0, .slice Aa0_f1 a0.f1.length ca0_f1, .slice Aa0_f2 a0.f2.length ca0_f2, .slice Aa0_f3 a0.f3.length ca0_f3], .agg #[.int .i64 a1.f0, .slice Aa1_f1 a1.f1.length ca1_f1, .slice Aa1_f2 a1.f2.length ca1_f2, .slice Aa1_f3 a1.f3.length ca1_f3]].toArray W (Ret B (fun v G' Γ' => v = .bool r ∧ G = G' ∧ Γ = Γ')) := by
  refine calls_WP (Γ := Γ) (G := G) (B := B) Tryz.func12 rfl (by kernel_rfl) ?_ hI
  clear hI
  unfold grapevinelaw0_SameAnswer at h
  refine WP.seqR ?_
  refine WL.op (op := .box 27 (.tmp 0)) (ty := 0) (d := some 2) (g := none) (by kernel_rfl) (by kernel_rfl) (by kernel_rfl) (Does.new (o := .cells #[.int .i64 a0.f0, .slice Aa0_f1 a0.f1.length ca0_f1, .slice Aa0_f2 a0.f2.length ca0_f2, .slice Aa0_f3 a0.f3.length ca0_f3] 27 (0, 0)) (v := fun r => .pointer (some ⟨r, 0, none⟩)) (fun r => by kernel_rfl)) ?_
  rintro _ _ _ ⟨b1, rfl, rfl, rfl⟩
  refine WL.op (op := .box 27 (.tmp 1)) (ty := 0) (d := some 3) (g := none) (by kernel_rfl) (by kernel_rfl) (by kernel_rfl) (Does.new (o := .cells #[.int .i64 a1.f0, .slice Aa1_f1 a1.f1.length ca1_f1, .slice Aa1_f2 a1.f2.length ca1_f2, .slice Aa1_f3 a1.f3.length ca1_f3] 27 (0, 0)) (v := fun r => .pointer (some ⟨r, 0, none⟩)) (fun r => by kernel_rfl)) ?_
  rintro _ _ _ ⟨b2, rfl, rfl, rfl⟩
  refine WL.restQ 2 [2, 3] (L' := [(2, .pointer (some ⟨b1, 0, none⟩)), (3, .pointer (some ⟨b2, 0, none⟩))]) (by kernel_rfl) ?_
  rw [Option.bind_eq_some_iff] at h
  obtain ⟨os3, h, hk4⟩ := h
  refine WP.cut (fun L' G' Γ' => ∃ s3 : Bool, s3 = os3 ∧ L' = [(4, .bool s3)] ∧ G = G' ∧ Γ = Γ') ?_ ?_
  · clear hk4
    refine WP.region ?_
    refine WL.pure 0 1 [2, 3, 5] (L' := [(2, .pointer (some ⟨b1, 0, none⟩)), (3, .pointer (some ⟨b2, 0, none⟩)), (5, .pointer (some ⟨b1, 0, none⟩))]) (by kernel_rfl) (by decide) ?_
    refine WL.tell (op := .load 23 (.tmp 5)) (ty := 23) (d := some 6) (g := none) (by kernel_rfl) (by kernel_rfl) (by kernel_rfl) (Tells.load_box (i := 1) (b := b1) (o := 0) (agg := false) (by rfl) ag23 (by kernel_rfl) (fun _ => rfl) (Nat.le_of_ble_eq_true rfl) (v := .int .i64 a0.f0) (by kernel_rfl)) ?_
    refine WL.pure 2 3 [2, 3, 6, 7] (L' := [(2, .pointer (some ⟨b1, 0, none⟩)), (3, .pointer (some ⟨b2, 0, none⟩)), (6, .int .i64 a0.f0), (7, .pointer (some ⟨b2, 0, none⟩))]) (by kernel_rfl) (by decide) ?_
    refine WL.tell (op := .load 23 (.tmp 7)) (ty := 23) (d := some 8) (g := none) (by kernel_rfl) (by kernel_rfl) (by kernel_rfl) (Tells.load_box (i := 0) (b := b2) (o := 0) (agg := false) (by rfl) ag23 (by kernel_rfl) (fun _ => rfl) (Nat.le_of_ble_eq_true rfl) (v := .int .i64 a1.f0) (by kernel_rfl)) ?_
    refine WL.pure 4 6 [2, 3, 10] (L' := [(2, .pointer (some ⟨b1, 0, none⟩)), (3, .pointer (some ⟨b2, 0, none⟩)), (10, .bool (a0.f0 == a1.f0))]) (by kernel_rfl) (by decide) ?_
    refine WL.split 10 (b := (a0.f0 == a1.f0)) (by kernel_rfl) (fun hc => ?_) (fun hc => ?_)
    · replace hc := eq_of_beq hc
      rw [if_pos hc] at h
      have hc5 := hc
      clear hc
      refine WL.pure 6 7 [2, 3, 10, 11] (L' := [(2, .pointer (some ⟨b1, 0, none⟩)), (3, .pointer (some ⟨b2, 0, none⟩)), (10, .bool true), (11, .pointer (some ⟨b1, 1, none⟩))]) (by kernel_rfl) (by decide) ?_
      refine WL.tell (op := .load 24 (.tmp 11)) (ty := 24) (d := some 12) (g := some (5, true)) (by kernel_rfl) (by kernel_rfl) (by kernel_rfl) (Tells.load_box (i := 1) (b := b1) (o := 1) (agg := false) (by rfl) ag24 (by kernel_rfl) (fun _ => rfl) (Nat.le_of_ble_eq_true rfl) (v := .slice Aa0_f1 a0.f1.length ca0_f1) (by kernel_rfl)) ?_
      refine WL.pure 8 9 [2, 3, 10, 12, 13] (L' := [(2, .pointer (some ⟨b1, 0, none⟩)), (3, .pointer (some ⟨b2, 0, none⟩)), (10, .bool true), (12, .slice Aa0_f1 a0.f1.length ca0_f1), (13, .pointer (some ⟨b2, 1, none⟩))]) (by kernel_rfl) (by decide) ?_
      refine WL.tell (op := .load 24 (.tmp 13)) (ty := 24) (d := some 14) (g := some (5, true)) (by kernel_rfl) (by kernel_rfl) (by kernel_rfl) (Tells.load_box (i := 0) (b := b2) (o := 1) (agg := false) (by rfl) ag24 (by kernel_rfl) (fun _ => rfl) (Nat.le_of_ble_eq_true rfl) (v := .slice Aa1_f1 a1.f1.length ca1_f1) (by kernel_rfl)) ?_
      rw [Option.bind_eq_some_iff] at h
      obtain ⟨t6, ht7, h⟩ := h
      refine WL.op (op := .call { callee := (.value (.func 25)), args := #[(.tmp 12), (.tmp 14)], argTypes := #[24, 24] }) (ty := 4) (d := some 15) (g := some (5, true)) (by kernel_rfl) (by kernel_rfl) (by kernel_rfl) (Does.call (f := 25) (args := [.slice Aa0_f1 a0.f1.length ca0_f1, .slice Aa1_f1 a1.f1.length ca1_f1]) (by kernel_rfl) (fun W hI => (grapevinelaw0_SameRecords_calls k a0.f1 a1.f1 Aa0_f1 ca0_f1 Ha0_f1 Aa1_f1 ca1_f1 Ha1_f1 t6 ht7 hI))) ?_
      rintro _ _ _ ⟨rfl, rfl, rfl⟩
      refine WL.pure 11 13 [2, 3, 17] (L' := [(2, .pointer (some ⟨b1, 0, none⟩)), (3, .pointer (some ⟨b2, 0, none⟩)), (17, .bool t6)]) (by kernel_rfl) (by decide) ?_
      refine WL.split 17 (b := t6) (by kernel_rfl) (fun hc => ?_) (fun hc => ?_)
      · replace hc := hc
        rw [if_pos hc] at h
        have hc10 := hc
        clear hc
        refine WL.pure 13 14 [2, 3, 17, 18] (L' := [(2, .pointer (some ⟨b1, 0, none⟩)), (3, .pointer (some ⟨b2, 0, none⟩)), (17, .bool true), (18, .pointer (some ⟨b1, 2, none⟩))]) (by kernel_rfl) (by decide) ?_
        refine WL.tell (op := .load 25 (.tmp 18)) (ty := 25) (d := some 19) (g := some (12, true)) (by kernel_rfl) (by kernel_rfl) (by kernel_rfl) (Tells.load_box (i := 1) (b := b1) (o := 2) (agg := false) (by rfl) ag25 (by kernel_rfl) (fun _ => rfl) (Nat.le_of_ble_eq_true rfl) (v := .slice Aa0_f2 a0.f2.length ca0_f2) (by kernel_rfl)) ?_
        refine WL.pure 15 16 [2, 3, 17, 19, 20] (L' := [(2, .pointer (some ⟨b1, 0, none⟩)), (3, .pointer (some ⟨b2, 0, none⟩)), (17, .bool true), (19, .slice Aa0_f2 a0.f2.length ca0_f2), (20, .pointer (some ⟨b2, 2, none⟩))]) (by kernel_rfl) (by decide) ?_
        refine WL.tell (op := .load 25 (.tmp 20)) (ty := 25) (d := some 21) (g := some (12, true)) (by kernel_rfl) (by kernel_rfl) (by kernel_rfl) (Tells.load_box (i := 0) (b := b2) (o := 2) (agg := false) (by rfl) ag25 (by kernel_rfl) (fun _ => rfl) (Nat.le_of_ble_eq_true rfl) (v := .slice Aa1_f2 a1.f2.length ca1_f2) (by kernel_rfl)) ?_
        rw [Option.bind_eq_some_iff] at h
        obtain ⟨t11, ht12, h⟩ := h
        refine WL.op (op := .call { callee := (.value (.func 26)), args := #[(.tmp 19), (.tmp 21)], argTypes := #[25, 25] }) (ty := 4) (d := some 22) (g := some (12, true)) (by kernel_rfl) (by kernel_rfl) (by kernel_rfl) (Does.call (f := 26) (args := [.slice Aa0_f2 a0.f2.length ca0_f2, .slice Aa1_f2 a1.f2.length ca1_f2]) (by kernel_rfl) (fun W hI => (grapevinelaw0_SameInts_calls k a0.f2 a1.f2 Aa0_f2 ca0_f2 Ha0_f2 Aa1_f2 ca1_f2 Ha1_f2 t11 ht12 hI))) ?_
        rintro _ _ _ ⟨rfl, rfl, rfl⟩
        refine WL.pure 18 20 [2, 3, 24] (L' := [(2, .pointer (some ⟨b1, 0, none⟩)), (3, .pointer (some ⟨b2, 0, none⟩)), (24, .bool t11)]) (by kernel_rfl) (by decide) ?_
        refine WL.split 24 (b := t11) (by kernel_rfl) (fun hc => ?_) (fun hc => ?_)
        · replace hc := hc
          rw [if_pos hc] at h
          have hc15 := hc
          clear hc
          refine WL.pure 20 21 [3, 24, 25] (L' := [(3, .pointer (some ⟨b2, 0, none⟩)), (24, .bool true), (25, .pointer (some ⟨b1, 3, none⟩))]) (by kernel_rfl) (by decide) ?_
          refine WL.tell (op := .load 25 (.tmp 25)) (ty := 25) (d := some 26) (g := some (19, true)) (by kernel_rfl) (by kernel_rfl) (by kernel_rfl) (Tells.load_box (i := 1) (b := b1) (o := 3) (agg := false) (by rfl) ag25 (by kernel_rfl) (fun _ => rfl) (Nat.le_of_ble_eq_true rfl) (v := .slice Aa0_f3 a0.f3.length ca0_f3) (by kernel_rfl)) ?_
          refine WL.pure 22 23 [24, 26, 27] (L' := [(24, .bool true), (26, .slice Aa0_f3 a0.f3.length ca0_f3), (27, .pointer (some ⟨b2, 3, none⟩))]) (by kernel_rfl) (by decide) ?_
          refine WL.tell (op := .load 25 (.tmp 27)) (ty := 25) (d := some 28) (g := some (19, true)) (by kernel_rfl) (by kernel_rfl) (by kernel_rfl) (Tells.load_box (i := 0) (b := b2) (o := 3) (agg := false) (by rfl) ag25 (by kernel_rfl) (fun _ => rfl) (Nat.le_of_ble_eq_true rfl) (v := .slice Aa1_f3 a1.f3.length ca1_f3) (by kernel_rfl)) ?_
          rw [Option.bind_eq_some_iff] at h
          obtain ⟨t16, ht17, h⟩ := h
          refine WL.op (op := .call { callee := (.value (.func 26)), args := #[(.tmp 26), (.tmp 28)], argTypes := #[25, 25] }) (ty := 4) (d := some 29) (g := some (19, true)) (by kernel_rfl) (by kernel_rfl) (by kernel_rfl) (Does.call (f := 26) (args := [.slice Aa0_f3 a0.f3.length ca0_f3, .slice Aa1_f3 a1.f3.length ca1_f3]) (by kernel_rfl) (fun W hI => (grapevinelaw0_SameInts_calls k a0.f3 a1.f3 Aa0_f3 ca0_f3 Ha0_f3 Aa1_f3 ca1_f3 Ha1_f3 t16 ht17 hI))) ?_
          rintro _ _ _ ⟨rfl, rfl, rfl⟩
          refine WL.rest 25 [4] (L' := [(4, .bool t16)]) (by kernel_rfl) ?_
          refine QP.dropAt 1 ?_
          refine QP.dropAt 0 ?_
          refine QP.pick [4] ?_
          exact QP.meet ⟨_, Option.some.inj h, rfl, rfl, rfl⟩
        · replace hc := (Bool.eq_false_iff.1 hc)
          rw [if_neg hc] at h
          have hc15 := hc
          clear hc
          refine WL.rest 20 [4] (L' := [(4, .bool false)]) (by kernel_rfl) ?_
          refine QP.dropAt 1 ?_
          refine QP.dropAt 0 ?_
          refine QP.pick [4] ?_
          exact QP.meet ⟨_, Option.some.inj h, rfl, rfl, rfl⟩
      · replace hc := (Bool.eq_false_iff.1 hc)
        rw [if_neg hc] at h
        have hc10 := hc
        clear hc
        refine WL.rest 13 [4] (L' := [(4, .bool false)]) (by kernel_rfl) ?_
        refine QP.dropAt 1 ?_
        refine QP.dropAt 0 ?_
        refine QP.pick [4] ?_
        exact QP.meet ⟨_, Option.some.inj h, rfl, rfl, rfl⟩
    · replace hc := ne_of_beq_false hc
      rw [if_neg hc] at h
      have hc5 := hc
      clear hc
      refine WL.rest 6 [4] (L' := [(4, .bool false)]) (by kernel_rfl) ?_
      refine QP.dropAt 1 ?_
      refine QP.dropAt 0 ?_
      refine QP.pick [4] ?_
      exact QP.meet ⟨_, Option.some.inj h, rfl, rfl, rfl⟩
  · rintro _ _ _ ⟨s3, rfl, rfl, rfl, rfl⟩
    clear h
    replace h := hk4
    refine WP.ret ?_
    obtain rfl := Option.some.inj h
    exact QP.returned [4] [.bool s3] _ (by kernel_rfl) (by kernel_rfl) (by kernel_rfl) (fun W hI => ⟨_, _, _, rfl, ⟨rfl, rfl, rfl⟩, hI⟩)

/-! ### (*grapevine/state.State).Copy: function 13 -/
def state_State_Copy : Option Unit := some ()
set_option maxHeartbeats 4000000 in
theorem state_State_Copy_calls {B : World} {G : GMap} {Γ : List Chunk} {W : World} (r : Unit) (h : state_State_Copy  = some r) (hI : Inv B G (Γ) W) :
    Calls Tryz.prog 13 [.pointer none].toArray W (Ret B (fun v G' Γ' => v = .pointer none ∧ G = G' ∧ Γ = Γ')) := by
  refine calls_WP (Γ := Γ) (G := G) (B := B) Tryz.func13 rfl (by kernel_rfl) ?_ hI
  clear hI
  unfold state_State_Copy at h
  refine WP.seqP [0] (L' := [(0, .pointer none)]) (by kernel_rfl) ?_
  refine WP.seq ?_
  refine WP.seqP [0, 4] (L' := [(0, .pointer none), (4, .bool true)]) (by kernel_rfl) ?_
  refine WP.yes (by kernel_rfl) ?_
  refine WP.seqP [2] (L' := [(2, .pointer none)]) (by kernel_rfl) ?_
  refine WP.ret ?_
  refine QP.thenR ?_
  obtain rfl := Option.some.inj h
  exact QP.returned [2] [.pointer none] _ (by kernel_rfl) (by kernel_rfl) (by kernel_rfl) (fun W hI => ⟨_, _, _, rfl, ⟨rfl, rfl, rfl⟩, hI⟩)

/-! ### grapevine/state.Join: function 14 -/
def state_Join : Option Unit := ((some ()).bind fun s1 => some ())
set_option maxHeartbeats 4000000 in
theorem state_Join_calls {B : World} {G : GMap} {Γ : List Chunk} {W : World} (r : Unit) (h : state_Join  = some r) (hI : Inv B G (Γ) W) :
    Calls Tryz.prog 14 [.slice none 0 0].toArray W (Ret B (fun v G' Γ' => v = .pointer none ∧ G = G' ∧ Γ = Γ')) := by
  refine calls_WP (Γ := Γ) (G := G) (B := B) Tryz.func14 rfl (by kernel_rfl) ?_ hI
  clear hI
  unfold state_Join at h
  refine WP.seqP [0] (L' := [(0, .slice none 0 0)]) (by kernel_rfl) ?_
  refine WP.seqP [0, 3] (L' := [(0, .slice none 0 0), (3, .pointer none)]) (by kernel_rfl) ?_
  refine WP.seq ?_
  refine WP.seqP [3, 10, 11, 12] (L' := [(3, .pointer none), (10, .slice none 0 0), (11, .int .i64 0), (12, .int .i64 0)]) (by kernel_rfl) ?_
  rw [Option.bind_eq_some_iff] at h
  obtain ⟨os1, h, hk2⟩ := h
  refine WP.cutQ (fun L' G' Γ' => ∃ s1 : Unit, s1 = os1 ∧ L' = [(3, .pointer none)] ∧ G = G' ∧ Γ = Γ') ?_ ?_
  · clear hk2
    refine WP.block ?_
    refine WP.pick [3, 10, 11, 12] ?_
    refine WP.around ?_
    refine WP.seqP [3, 10, 11, 12, 13] (L' := [(3, .pointer none), (10, .slice none 0 0), (11, .int .i64 0), (12, .int .i64 0), (13, .bool false)]) (by kernel_rfl) ?_
    refine WP.seq ?_
    refine WP.no (by kernel_rfl) ?_
    refine WP.exit ?_
    refine QP.thenE ?_
    refine QP.thenE ?_
    refine QP.blockE ?_
    refine QP.pick [3] ?_
    exact QP.meet ⟨_, Option.some.inj h, rfl, rfl, rfl⟩
  · rintro _ _ _ ⟨s1, rfl, rfl, rfl, rfl⟩
    clear h
    replace h := hk2
    refine QP.next ?_
    refine WP.pick [3] ?_
    refine WP.seqP [2] (L' := [(2, .pointer none)]) (by kernel_rfl) ?_
    refine WP.ret ?_
    obtain rfl := Option.some.inj h
    exact QP.returned [2] [.pointer none] _ (by kernel_rfl) (by kernel_rfl) (by kernel_rfl) (fun W hI => ⟨_, _, _, rfl, ⟨rfl, rfl, rfl⟩, hI⟩)

/-! ### grapevine/vector.Zero: function 49 -/
def vector_Zero (a0 : Int) : Option (List Int) := ((if a0 < 1 then some true else some (decide (a0 > 8))).bind fun s1 => (if s1 = true then some ([] : List Int) else (if 0 ≤ a0 ∧ a0 ≤ a0 ∧ a0 ≤ 1073741824 then some (List.replicate a0.toNat (0 : Int)) else none)))
set_option maxHeartbeats 4000000 in
theorem vector_Zero_calls {B : World} {G : GMap} {Γ : List Chunk} {W : World} (a0 : Int) (r : List Int) (h : vector_Zero a0 = some r) (hI : Inv B G (Γ) W) :
    Calls Tryz.prog 49 [.int .i64 a0].toArray W (Ret B (fun v G' Γ' => ∃ (AR : Option Addr), ∃ (cR : Nat), ∃ (CR : Chunk), v = .slice AR r.length cR ∧ Ow (kInt .i64) G' AR cR r CR ∧ G = G' ∧ CR :: Γ = Γ')) := by
  refine calls_WP (Γ := Γ) (G := G) (B := B) Tryz.func49 rfl (by kernel_rfl) ?_ hI
  clear hI
  unfold vector_Zero at h
  refine WP.seqP [0] (L' := [(0, .int .i64 a0)]) (by kernel_rfl) ?_
  refine WP.seq ?_
  rw [Option.bind_eq_some_iff] at h
  obtain ⟨os1, h, hk2⟩ := h
  refine WP.cut (fun L' G' Γ' => ∃ s1 : Bool, s1 = os1 ∧ L' = [(0, .int .i64 a0), (8, .bool s1)] ∧ G = G' ∧ Γ = Γ') ?_ ?_
  · clear hk2
    refine WP.region ?_
    refine WL.pure 0 3 [0, 5] (L' := [(0, .int .i64 a0), (5, .bool (decide (a0 < 1)))]) (by kernel_rfl) (by decide) ?_
    refine WL.split 5 (b := decide (a0 < 1)) (by kernel_rfl) (fun hc => ?_) (fun hc => ?_)
    · replace hc := of_decide_eq_true hc
      rw [if_pos hc] at h
      have hc3 := hc
      clear hc
      refine WL.rest 3 [0, 8] (L' := [(0, .int .i64 a0), (8, .bool true)]) (by kernel_rfl) ?_
      refine QP.pick [0, 8] ?_
      exact QP.meet ⟨_, Option.some.inj h, rfl, rfl, rfl⟩
    · replace hc := of_decide_eq_false hc
      rw [if_neg hc] at h
      have hc3 := hc
      clear hc
      refine WL.rest 3 [0, 8] (L' := [(0, .int .i64 a0), (8, .bool (decide (a0 > 8)))]) (by kernel_rfl) ?_
      refine QP.pick [0, 8] ?_
      exact QP.meet ⟨_, Option.some.inj h, rfl, rfl, rfl⟩
  · rintro _ _ _ ⟨s1, rfl, rfl, rfl, rfl⟩
    clear h
    replace h := hk2
    refine WP.cond (b := s1) (by kernel_rfl) (fun hc => ?_) (fun hc => ?_)
    · replace hc := hc
      rw [if_pos hc] at h
      have hc4 := hc
      clear hc
      refine WP.seqP [2] (L' := [(2, .slice none 0 0)]) (by kernel_rfl) ?_
      refine WP.ret ?_
      refine QP.thenR ?_
      obtain rfl := Option.some.inj h
      refine QP.addNil ?_
      exact QP.returned [2] [.slice none ([] : List Int).length 0] _ (by kernel_rfl) (by kernel_rfl) (by kernel_rfl) (fun W hI => ⟨_, _, _, rfl, ⟨none, 0, [], rfl, (Ow.nil (kInt .i64) _), rfl, rfl⟩, hI⟩)
    · replace hc := (Bool.eq_false_iff.1 hc)
      rw [if_neg hc] at h
      have hc4 := hc
      clear hc
      refine WP.skip ?_
      refine QP.next ?_
      refine WP.pick [0] ?_
      refine WP.seqR ?_
      refine WL.pure 0 1 [9] (L' := [(9, .int .i64 a0)]) (by kernel_rfl) (by decide) ?_
      by_cases hb5 : 0 ≤ a0 ∧ a0 ≤ a0 ∧ a0 ≤ 1073741824
      case neg => rw [if_neg hb5] at h; cases h
      rw [if_pos hb5] at h
      refine WL.op (op := .makeSlice 25 (.tmp 9) (.tmp 9)) (ty := 25) (d := some 10) (g := none) (by kernel_rfl) (by kernel_rfl) (by kernel_rfl) (Does.make (kd := (kInt .i64)) (k := .i64) (k' := .i64) (l := a0) (c := a0) (z := 0) (zv := .int .i64 0) (by kernel_rfl) (by kernel_rfl) hb5.1 hb5.2.1 sl25 (by decide) hb5.2.2 (by kernel_rfl) (fun _ => (by exact rfl))) ?_
      rintro _ _ _ ⟨rfl, AM6, cM6, CM6, rfl, he7, HM6, rfl⟩
      refine WL.restQ 2 [2] (L' := [(2, .slice AM6 (List.replicate a0.toNat (0 : Int)).length cM6)]) (by kernel_rfl) ?_
      refine WP.ret ?_
      obtain rfl := Option.some.inj h
      exact QP.returned [2] [.slice AM6 (List.replicate a0.toNat (0 : Int)).length cM6] _ (by kernel_rfl) (by kernel_rfl) (by kernel_rfl) (fun W hI => ⟨_, _, _, rfl, ⟨AM6, cM6, CM6, rfl, HM6, rfl, rfl⟩, hI⟩)

/-! ### grapevine/state.New: function 28 -/
def state_New (a0 : Int) : Option (Option T59) := ((if a0 < 1 then some true else some (decide (a0 > 8))).bind fun s1 => (if s1 = true then some none else ((vector_Zero a0).bind fun t5 => ((vector_Zero a0).bind fun t9 => some (some (⟨t5, t9, (fnil : (T34 → Option T38))⟩ : T59))))))
set_option maxHeartbeats 4000000 in
theorem state_New_calls {B : World} {G : GMap} {Γ : List Chunk} {W : World} (a0 : Int) (r : Option T59) (h : state_New a0 = some r) (hI : Inv B G (Γ) W) :
    Calls Tryz.prog 28 [.int .i64 a0].toArray W (Ret B (fun v G' Γ' => (r = none ∧ v = .pointer none ∧ G = G' ∧ Γ = Γ') ∨ (∃ (x : T59), r = some x ∧ ∃ (bR : Nat), ∃ (AR_0 : Option Addr), ∃ (cR_0 : Nat), ∃ (CR_0 : Chunk), ∃ (AR_1 : Option Addr), ∃ (cR_1 : Nat), ∃ (CR_1 : Chunk), ∃ (AR_2 : Option Addr), ∃ (cR_2 : Nat), ∃ (CR_2 : Chunk), v = .pointer (some ⟨bR, 0, none⟩) ∧ Ow (kInt .i64) G' AR_0 cR_0 x.f0 CR_0 ∧ Ow (kInt .i64) G' AR_1 cR_1 x.f1 CR_1 ∧ MpF m57 G' AR_2 cR_2 x.f2 CR_2 ∧ G = G' ∧ [(bR, .cells #[.slice AR_0 x.f0.length cR_0, .slice AR_1 x.f1.length cR_1, mpv AR_2] 59 (0, 0))] :: CR_0 :: CR_1 :: CR_2 :: Γ = Γ'))) := by
  refine calls_WP (Γ := Γ) (G := G) (B := B) Tryz.func28 rfl (by kernel_rfl) ?_ hI
  clear hI
  unfold state_New at h
  refine WP.seqP [0] (L' := [(0, .int .i64 a0)]) (by kernel_rfl) ?_
  refine WP.seq ?_
  rw [Option.bind_eq_some_iff] at h
  obtain ⟨os1, h, hk2⟩ := h
  refine WP.cut (fun L' G' Γ' => ∃ s1 : Bool, s1 = os1 ∧ L' = [(0, .int .i64 a0), (8, .bool s1)] ∧ G = G' ∧ Γ = Γ') ?_ ?_
  · clear hk2
    refine WP.region ?_
    refine WL.pure 0 3 [0, 5] (L' := [(0, .int .i64 a0), (5, .bool (decide (a0 < 1)))]) (by kernel_rfl) (by decide) ?_
    refine WL.split 5 (b := decide (a0 < 1)) (by kernel_rfl) (fun hc => ?_) (fun hc => ?_)
    · replace hc := of_decide_eq_true hc
      rw [if_pos hc] at h
      have hc3 := hc
      clear hc
      refine WL.rest 3 [0, 8] (L' := [(0, .int .i64 a0), (8, .bool true)]) (by kernel_rfl) ?_
      refine QP.pick [0, 8] ?_
      exact QP.meet ⟨_, Option.some.inj h, rfl, rfl, rfl⟩
    · replace hc := of_decide_eq_false hc
      rw [if_neg hc] at h
      have hc3 := hc
      clear hc
      refine WL.rest 3 [0, 8] (L' := [(0, .int .i64 a0), (8, .bool (decide (a0 > 8)))]) (by kernel_rfl) ?_
      refine QP.pick [0, 8] ?_
      exact QP.meet ⟨_, Option.some.inj h, rfl, rfl, rfl⟩
  · rintro _ _ _ ⟨s1, rfl, rfl, rfl, rfl⟩
    clear h
    replace h := hk2
    refine WP.cond (b := s1) (by kernel_rfl) (fun hc => ?_) (fun hc => ?_)
    · replace hc := hc
      rw [if_pos hc] at h
      have hc4 := hc
      clear hc
      refine WP.seqP [2] (L' := [(2, .pointer none)]) (by kernel_rfl) ?_
      refine WP.ret ?_
      refine QP.thenR ?_
      obtain rfl := Option.some.inj h
      exact QP.returned [2] [.pointer none] _ (by kernel_rfl) (by kernel_rfl) (by kernel_rfl) (fun W hI => ⟨_, _, _, rfl, (Or.inl ⟨rfl, ⟨rfl, rfl, rfl⟩⟩), hI⟩)
    · replace hc := (Bool.eq_false_iff.1 hc)
      rw [if_neg hc] at h
      have hc4 := hc
      clear hc
      refine WP.skip ?_
      refine QP.next ?_
      refine WP.pick [0] ?_
      refine WP.seqR ?_
      refine WL.pure 0 1 [0, 9] (L' := [(0, .int .i64 a0), (9, .int .i64 a0)]) (by kernel_rfl) (by decide) ?_
      rw [Option.bind_eq_some_iff] at h
      obtain ⟨t5, ht6, h⟩ := h
      refine WL.op (op := .call { callee := (.value (.func 49)), args := #[(.tmp 9)], argTypes := #[3] }) (ty := 25) (d := some 10) (g := none) (by kernel_rfl) (by kernel_rfl) (by kernel_rfl) (Does.call (f := 49) (args := [.int .i64 a0]) (by kernel_rfl) (fun W hI => (vector_Zero_calls a0  t5 ht6 hI))) ?_
      rintro _ _ _ ⟨AR7, cR7, CR7, rfl, HR7, rfl, rfl⟩
      refine WL.pure 2 3 [10, 11] (L' := [(10, .slice AR7 t5.length cR7), (11, .int .i64 a0)]) (by kernel_rfl) (by decide) ?_
      rw [Option.bind_eq_some_iff] at h
      obtain ⟨t9, ht10, h⟩ := h
      refine WL.op (op := .call { callee := (.value (.func 49)), args := #[(.tmp 11)], argTypes := #[3] }) (ty := 25) (d := some 12) (g := none) (by kernel_rfl) (by kernel_rfl) (by kernel_rfl) (Does.call (f := 49) (args := [.int .i64 a0]) (by kernel_rfl) (fun W hI => (vector_Zero_calls a0  t9 ht10 hI))) ?_
      rintro _ _ _ ⟨AR11, cR11, CR11, rfl, HR11, rfl, rfl⟩
      refine WL.op (op := .makeMap 57 none) (ty := 57) (d := some 13) (g := none) (by kernel_rfl) (by kernel_rfl) (by kernel_rfl) (Does.new (o := .map #[] 0) (v := fun r => .map (some r)) (fun r => by kernel_rfl)) ?_
      rintro _ _ _ ⟨b13, rfl, rfl, rfl⟩
      have Hp14 := MpF.new m57 G b13
      refine WL.pure 5 6 [14] (L' := [(14, .agg #[.slice AR7 t5.length cR7, .slice AR11 t9.length cR11, mpv (some ⟨b13, 0, none⟩)])]) (by kernel_rfl) (by decide) ?_
      refine WL.op (op := .box 59 (.tmp 14)) (ty := 22) (d := some 15) (g := none) (by kernel_rfl) (by kernel_rfl) (by kernel_rfl) (Does.new (o := .cells #[.slice AR7 t5.length cR7, .slice AR11 t9.length cR11, mpv (some ⟨b13, 0, none⟩)] 59 (0, 0)) (v := fun r => .pointer (some ⟨r, 0, none⟩)) (fun r => by kernel_rfl)) ?_
      rintro _ _ _ ⟨b15, rfl, rfl, rfl⟩
      refine WL.restQ 7 [2] (L' := [(2, .pointer (some ⟨b15, 0, none⟩))]) (by kernel_rfl) ?_
      refine WP.ret ?_
      obtain rfl := Option.some.inj h
      refine QP.reperm (Γ' := [(b15, .cells #[.slice AR7 t5.length cR7, .slice AR11 t9.length cR11, mpv (some ⟨b13, 0, none⟩)] 59 (0, 0))] :: CR7 :: CR11 :: [(b13, .map #[] 0)] :: Γ) (perm_sel [0, 3, 2, 1] (by kernel_rfl) rfl) ?_
      exact QP.returned [2] [.pointer (some ⟨b15, 0, none⟩)] _ (by kernel_rfl) (by kernel_rfl) (by kernel_rfl) (fun W hI => ⟨_, _, _, rfl, (Or.inr ⟨_, rfl, ⟨b15, AR7, cR7, CR7, AR11, cR11, CR11, (some ⟨b13, 0, none⟩), 0, [(b13, .map #[] 0)], rfl, HR7, HR11, Hp14, rfl, rfl⟩⟩), hI⟩)

/-! ### grapevine/stamp.wall: function 68 -/
def stamp_wall (a0 : Int) : Option Bool := ((if a0 ≥ 0 then some (decide (a0 ≤ 1099511627776)) else some false).bind fun s1 => some s1)
set_option maxHeartbeats 4000000 in
theorem stamp_wall_calls {B : World} {G : GMap} {Γ : List Chunk} {W : World} (a0 : Int) (r : Bool) (h : stamp_wall a0 = some r) (hI : Inv B G (Γ) W) :
    Calls Tryz.prog 68 [.int .i64 a0].toArray W (Ret B (fun v G' Γ' => v = .bool r ∧ G = G' ∧ Γ = Γ')) := by
  refine calls_WP (Γ := Γ) (G := G) (B := B) Tryz.func68 rfl (by kernel_rfl) ?_ hI
  clear hI
  unfold stamp_wall at h
  refine WP.seqP [0] (L' := [(0, .int .i64 a0)]) (by kernel_rfl) ?_
  rw [Option.bind_eq_some_iff] at h
  obtain ⟨os1, h, hk2⟩ := h
  refine WP.cut (fun L' G' Γ' => ∃ s1 : Bool, s1 = os1 ∧ L' = [(2, .bool s1)] ∧ G = G' ∧ Γ = Γ') ?_ ?_
  · clear hk2
    refine WP.region ?_
    refine WL.pure 0 3 [0, 5] (L' := [(0, .int .i64 a0), (5, .bool (decide (a0 ≥ 0)))]) (by kernel_rfl) (by decide) ?_
    refine WL.split 5 (b := decide (a0 ≥ 0)) (by kernel_rfl) (fun hc => ?_) (fun hc => ?_)
    · replace hc := of_decide_eq_true hc
      rw [if_pos hc] at h
      have hc3 := hc
      clear hc
      refine WL.rest 3 [2] (L' := [(2, .bool (decide (a0 ≤ 1099511627776)))]) (by kernel_rfl) ?_
      refine QP.pick [2] ?_
      exact QP.meet ⟨_, Option.some.inj h, rfl, rfl, rfl⟩
    · replace hc := of_decide_eq_false hc
      rw [if_neg hc] at h
      have hc3 := hc
      clear hc
      refine WL.rest 3 [2] (L' := [(2, .bool false)]) (by kernel_rfl) ?_
      refine QP.pick [2] ?_
      exact QP.meet ⟨_, Option.some.inj h, rfl, rfl, rfl⟩
  · rintro _ _ _ ⟨s1, rfl, rfl, rfl, rfl⟩
    clear h
    replace h := hk2
    refine WP.ret ?_
    obtain rfl := Option.some.inj h
    exact QP.returned [2] [.bool s1] _ (by kernel_rfl) (by kernel_rfl) (by kernel_rfl) (fun W hI => ⟨_, _, _, rfl, ⟨rfl, rfl, rfl⟩, hI⟩)

/-! ### grapevine/stamp.May: function 41 -/
def stamp_May (a0 : T36) : Option Bool := (((stamp_wall a0.f0).bind fun t4 => (if t4 = true then (if a0.f1 ≥ 0 then some (decide (a0.f1 ≤ 65535)) else some false) else some false)).bind fun s2 => some s2)
set_option maxHeartbeats 4000000 in
theorem stamp_May_calls {B : World} {G : GMap} {Γ : List Chunk} {W : World} (a0 : T36) (r : Bool) (h : stamp_May a0 = some r) (hI : Inv B G (Γ) W) :
    Calls Tryz.prog 41 [.agg #[.int .i64 a0.f0, .int .i64 a0.f1]].toArray W (Ret B (fun v G' Γ' => v = .bool r ∧ G = G' ∧ Γ = Γ')) := by
  refine calls_WP (Γ := Γ) (G := G) (B := B) Tryz.func41 rfl (by kernel_rfl) ?_ hI
  clear hI
  unfold stamp_May at h
  refine WP.seqR ?_
  refine WL.op (op := .box 36 (.tmp 0)) (ty := 0) (d := some 1) (g := none) (by kernel_rfl) (by kernel_rfl) (by kernel_rfl) (Does.new (o := .cells #[.int .i64 a0.f0, .int .i64 a0.f1] 36 (0, 0)) (v := fun r => .pointer (some ⟨r, 0, none⟩)) (fun r => by kernel_rfl)) ?_
  rintro _ _ _ ⟨b1, rfl, rfl, rfl⟩
  refine WL.restQ 1 [1] (L' := [(1, .pointer (some ⟨b1, 0, none⟩))]) (by kernel_rfl) ?_
  rw [Option.bind_eq_some_iff] at h
  obtain ⟨os2, h, hk3⟩ := h
  refine WP.cut (fun L' G' Γ' => ∃ s2 : Bool, s2 = os2 ∧ L' = [(2, .bool s2)] ∧ G = G' ∧ Γ = Γ') ?_ ?_
  · clear hk3
    refine WP.region ?_
    refine WL.pure 0 1 [1, 3] (L' := [(1, .pointer (some ⟨b1, 0, none⟩)), (3, .pointer (some ⟨b1, 0, none⟩))]) (by kernel_rfl) (by decide) ?_
    refine WL.tell (op := .load 3 (.tmp 3)) (ty := 3) (d := some 4) (g := none) (by kernel_rfl) (by kernel_rfl) (by kernel_rfl) (Tells.load_box (i := 0) (b := b1) (o := 0) (agg := false) (by rfl) ag3 (by kernel_rfl) (fun _ => rfl) (Nat.le_of_ble_eq_true rfl) (v := .int .i64 a0.f0) (by kernel_rfl)) ?_
    rw [Option.bind_eq_some_iff] at h
    obtain ⟨t4, ht5, h⟩ := h
    refine WL.op (op := .call { callee := (.value (.func 68)), args := #[(.tmp 4)], argTypes := #[3] }) (ty := 4) (d := some 5) (g := none) (by kernel_rfl) (by kernel_rfl) (by kernel_rfl) (Does.call (f := 68) (args := [.int .i64 a0.f0]) (by kernel_rfl) (fun W hI => (stamp_wall_calls a0.f0  t4 ht5 hI))) ?_
    rintro _ _ _ ⟨rfl, rfl, rfl⟩
    refine WL.pure 3 4 [1, 6] (L' := [(1, .pointer (some ⟨b1, 0, none⟩)), (6, .bool t4)]) (by kernel_rfl) (by decide) ?_
    refine WL.split 6 (b := t4) (by kernel_rfl) (fun hc => ?_) (fun hc => ?_)
    · replace hc := hc
      rw [if_pos hc] at h
      have hc8 := hc
      clear hc
      refine WL.pure 4 5 [1, 6, 7] (L' := [(1, .pointer (some ⟨b1, 0, none⟩)), (6, .bool true), (7, .pointer (some ⟨b1, 1, none⟩))]) (by kernel_rfl) (by decide) ?_
      refine WL.tell (op := .load 3 (.tmp 7)) (ty := 3) (d := some 8) (g := some (3, true)) (by kernel_rfl) (by kernel_rfl) (by kernel_rfl) (Tells.load_box (i := 0) (b := b1) (o := 1) (agg := false) (by rfl) ag3 (by kernel_rfl) (fun _ => rfl) (Nat.le_of_ble_eq_true rfl) (v := .int .i64 a0.f1) (by kernel_rfl)) ?_
      refine WL.pure 6 9 [1, 11] (L' := [(1, .pointer (some ⟨b1, 0, none⟩)), (11, .bool (decide (a0.f1 ≥ 0)))]) (by kernel_rfl) (by decide) ?_
      refine WL.split 11 (b := decide (a0.f1 ≥ 0)) (by kernel_rfl) (fun hc => ?_) (fun hc => ?_)
      · replace hc := of_decide_eq_true hc
        rw [if_pos hc] at h
        have hc9 := hc
        clear hc
        refine WL.pure 9 10 [11, 12] (L' := [(11, .bool true), (12, .pointer (some ⟨b1, 1, none⟩))]) (by kernel_rfl) (by decide) ?_
        refine WL.tell (op := .load 3 (.tmp 12)) (ty := 3) (d := some 13) (g := some (8, true)) (by kernel_rfl) (by kernel_rfl) (by kernel_rfl) (Tells.load_box (i := 0) (b := b1) (o := 1) (agg := false) (by rfl) ag3 (by kernel_rfl) (fun _ => rfl) (Nat.le_of_ble_eq_true rfl) (v := .int .i64 a0.f1) (by kernel_rfl)) ?_
        refine WL.rest 11 [2] (L' := [(2, .bool (decide (a0.f1 ≤ 65535)))]) (by kernel_rfl) ?_
        refine QP.dropAt 0 ?_
        refine QP.pick [2] ?_
        exact QP.meet ⟨_, Option.some.inj h, rfl, rfl, rfl⟩
      · replace hc := of_decide_eq_false hc
        rw [if_neg hc] at h
        have hc9 := hc
        clear hc
        refine WL.rest 9 [2] (L' := [(2, .bool false)]) (by kernel_rfl) ?_
        refine QP.dropAt 0 ?_
        refine QP.pick [2] ?_
        exact QP.meet ⟨_, Option.some.inj h, rfl, rfl, rfl⟩
    · replace hc := (Bool.eq_false_iff.1 hc)
      rw [if_neg hc] at h
      have hc8 := hc
      clear hc
      refine WL.rest 4 [2] (L' := [(2, .bool false)]) (by kernel_rfl) ?_
      refine QP.dropAt 0 ?_
      refine QP.pick [2] ?_
      exact QP.meet ⟨_, Option.some.inj h, rfl, rfl, rfl⟩
  · rintro _ _ _ ⟨s2, rfl, rfl, rfl, rfl⟩
    clear h
    replace h := hk3
    refine WP.ret ?_
    obtain rfl := Option.some.inj h
    exact QP.returned [2] [.bool s2] _ (by kernel_rfl) (by kernel_rfl) (by kernel_rfl) (fun W hI => ⟨_, _, _, rfl, ⟨rfl, rfl, rfl⟩, hI⟩)

/-! ### unicode/utf8.ValidString: function 69 -/
def utf8_ValidString (a0 : ByteArray) : Option Bool := (if a0.size ≤ 9223372036854775807 then some (Lib.validD a0.data.toList) else none)
set_option maxHeartbeats 4000000 in
theorem utf8_ValidString_calls {B : World} {G : GMap} {Γ : List Chunk} {W : World} (HT : Tabs B G) (a0 : ByteArray) (r : Bool) (h : utf8_ValidString a0 = some r) (hI : Inv B G (Γ) W) :
    Calls Tryz.prog 69 [.string a0].toArray W (Ret B (fun v G' Γ' => v = .bool r ∧ G = G' ∧ Γ = Γ')) := by
  unfold utf8_ValidString at h
  by_cases hs : a0.size ≤ 9223372036854775807
  case neg => rw [if_neg hs] at h; cases h
  rw [if_pos hs] at h
  obtain rfl := Option.some.inj h
  exact Calls.kept (Any.utf8_ValidString Tryz.laysValid a0 W hs (HT.u8 hI)) hI

/-! ### grapevine/tokens.May: function 42 -/
def tokens_May (a0 : ByteArray) : Option Bool := ((if (a0.size : Int) ≤ 120 then ((utf8_ValidString a0).bind fun t4 => some t4) else some false).bind fun s1 => some s1)
set_option maxHeartbeats 4000000 in
theorem tokens_May_calls {B : World} {G : GMap} {Γ : List Chunk} {W : World} (HT : Tabs B G) (a0 : ByteArray) (r : Bool) (h : tokens_May a0 = some r) (hI : Inv B G (Γ) W) :
    Calls Tryz.prog 42 [.string a0].toArray W (Ret B (fun v G' Γ' => v = .bool r ∧ G = G' ∧ Γ = Γ')) := by
  refine calls_WP (Γ := Γ) (G := G) (B := B) Tryz.func42 rfl (by kernel_rfl) ?_ hI
  clear hI
  unfold tokens_May at h
  refine WP.seqP [0] (L' := [(0, .string a0)]) (by kernel_rfl) ?_
  rw [Option.bind_eq_some_iff] at h
  obtain ⟨os1, h, hk2⟩ := h
  refine WP.cut (fun L' G' Γ' => ∃ s1 : Bool, s1 = os1 ∧ L' = [(2, .bool s1)] ∧ G = G' ∧ Γ = Γ') ?_ ?_
  · clear hk2
    refine WP.region ?_
    refine WL.pure 0 4 [0, 6] (L' := [(0, .string a0), (6, .bool (decide ((a0.size : Int) ≤ 120)))]) (by kernel_rfl) (by decide) ?_
    refine WL.split 6 (b := decide ((a0.size : Int) ≤ 120)) (by kernel_rfl) (fun hc => ?_) (fun hc => ?_)
    · replace hc := of_decide_eq_true hc
      rw [if_pos hc] at h
      have hc3 := hc
      clear hc
      refine WL.pure 4 5 [6, 7] (L' := [(6, .bool true), (7, .string a0)]) (by kernel_rfl) (by decide) ?_
      rw [Option.bind_eq_some_iff] at h
      obtain ⟨t4, ht5, h⟩ := h
      refine WL.op (op := .call { callee := (.value (.func 69)), args := #[(.tmp 7)], argTypes := #[9] }) (ty := 4) (d := some 8) (g := some (3, true)) (by kernel_rfl) (by kernel_rfl) (by kernel_rfl) (Does.call (f := 69) (args := [.string a0]) (by kernel_rfl) (fun W hI => (utf8_ValidString_calls HT a0  t4 ht5 hI))) ?_
      rintro _ _ _ ⟨rfl, rfl, rfl⟩
      refine WL.rest 6 [2] (L' := [(2, .bool t4)]) (by kernel_rfl) ?_
      refine QP.pick [2] ?_
      exact QP.meet ⟨_, Option.some.inj h, rfl, rfl, rfl⟩
    · replace hc := of_decide_eq_false hc
      rw [if_neg hc] at h
      have hc3 := hc
      clear hc
      refine WL.rest 4 [2] (L' := [(2, .bool false)]) (by kernel_rfl) ?_
      refine QP.pick [2] ?_
      exact QP.meet ⟨_, Option.some.inj h, rfl, rfl, rfl⟩
  · rintro _ _ _ ⟨s1, rfl, rfl, rfl, rfl⟩
    clear h
    replace h := hk2
    refine WP.ret ?_
    obtain rfl := Option.some.inj h
    exact QP.returned [2] [.bool s1] _ (by kernel_rfl) (by kernel_rfl) (by kernel_rfl) (fun W hI => ⟨_, _, _, rfl, ⟨rfl, rfl, rfl⟩, hI⟩)

/-! ### grapevine/record.May: function 19 -/
def record_May (a0 : T38) : Option Bool := ((if a0.f0 ≥ 0 then (if a0.f0 < 8 then (if a0.f1 ≥ 1 then (if a0.f1 ≤ 1023 then ((stamp_May (⟨a0.f2, a0.f3⟩ : T36)).bind fun t8 => (if t8 = true then ((tokens_May a0.f4).bind fun t13 => some t13) else some false)) else some false) else some false) else some false) else some false).bind fun s2 => some s2)
set_option maxHeartbeats 4000000 in
theorem record_May_calls {B : World} {G : GMap} {Γ : List Chunk} {W : World} (HT : Tabs B G) (a0 : T38) (r : Bool) (h : record_May a0 = some r) (hI : Inv B G (Γ) W) :
    Calls Tryz.prog 19 [.agg #[.int .i64 a0.f0, .int .i64 a0.f1, .int .i64 a0.f2, .int .i64 a0.f3, .string a0.f4]].toArray W (Ret B (fun v G' Γ' => v = .bool r ∧ G = G' ∧ Γ = Γ')) := by
  refine calls_WP (Γ := Γ) (G := G) (B := B) Tryz.func19 rfl (by kernel_rfl) ?_ hI
  clear hI
  unfold record_May at h
  refine WP.seqR ?_
  refine WL.op (op := .box 38 (.tmp 0)) (ty := 0) (d := some 1) (g := none) (by kernel_rfl) (by kernel_rfl) (by kernel_rfl) (Does.new (o := .cells #[.int .i64 a0.f0, .int .i64 a0.f1, .int .i64 a0.f2, .int .i64 a0.f3, .string a0.f4] 38 (0, 0)) (v := fun r => .pointer (some ⟨r, 0, none⟩)) (fun r => by kernel_rfl)) ?_
  rintro _ _ _ ⟨b1, rfl, rfl, rfl⟩
  refine WL.restQ 1 [1] (L' := [(1, .pointer (some ⟨b1, 0, none⟩))]) (by kernel_rfl) ?_
  rw [Option.bind_eq_some_iff] at h
  obtain ⟨os2, h, hk3⟩ := h
  refine WP.cut (fun L' G' Γ' => ∃ s2 : Bool, s2 = os2 ∧ L' = [(2, .bool s2)] ∧ G = G' ∧ Γ = Γ') ?_ ?_
  · clear hk3
    refine WP.region ?_
    refine WL.pure 0 2 [1, 4] (L' := [(1, .pointer (some ⟨b1, 0, none⟩)), (4, .pointer (some ⟨b1, 0, none⟩))]) (by kernel_rfl) (by decide) ?_
    refine WL.tell (op := .load 3 (.tmp 4)) (ty := 3) (d := some 5) (g := none) (by kernel_rfl) (by kernel_rfl) (by kernel_rfl) (Tells.load_box (i := 0) (b := b1) (o := 0) (agg := false) (by rfl) ag3 (by kernel_rfl) (fun _ => rfl) (Nat.le_of_ble_eq_true rfl) (v := .int .i64 a0.f0) (by kernel_rfl)) ?_
    refine WL.pure 3 5 [1, 7] (L' := [(1, .pointer (some ⟨b1, 0, none⟩)), (7, .bool (decide (a0.f0 ≥ 0)))]) (by kernel_rfl) (by decide) ?_
    refine WL.split 7 (b := decide (a0.f0 ≥ 0)) (by kernel_rfl) (fun hc => ?_) (fun hc => ?_)
    · replace hc := of_decide_eq_true hc
      rw [if_pos hc] at h
      have hc4 := hc
      clear hc
      refine WL.pure 5 7 [1, 7, 9] (L' := [(1, .pointer (some ⟨b1, 0, none⟩)), (7, .bool true), (9, .pointer (some ⟨b1, 0, none⟩))]) (by kernel_rfl) (by decide) ?_
      refine WL.tell (op := .load 3 (.tmp 9)) (ty := 3) (d := some 10) (g := some (4, true)) (by kernel_rfl) (by kernel_rfl) (by kernel_rfl) (Tells.load_box (i := 0) (b := b1) (o := 0) (agg := false) (by rfl) ag3 (by kernel_rfl) (fun _ => rfl) (Nat.le_of_ble_eq_true rfl) (v := .int .i64 a0.f0) (by kernel_rfl)) ?_
      refine WL.pure 8 11 [1, 13] (L' := [(1, .pointer (some ⟨b1, 0, none⟩)), (13, .bool (decide (a0.f0 < 8)))]) (by kernel_rfl) (by decide) ?_
      refine WL.split 13 (b := decide (a0.f0 < 8)) (by kernel_rfl) (fun hc => ?_) (fun hc => ?_)
      · replace hc := of_decide_eq_true hc
        rw [if_pos hc] at h
        have hc5 := hc
        clear hc
        refine WL.pure 11 13 [1, 13, 15] (L' := [(1, .pointer (some ⟨b1, 0, none⟩)), (13, .bool true), (15, .pointer (some ⟨b1, 1, none⟩))]) (by kernel_rfl) (by decide) ?_
        refine WL.tell (op := .load 3 (.tmp 15)) (ty := 3) (d := some 16) (g := some (10, true)) (by kernel_rfl) (by kernel_rfl) (by kernel_rfl) (Tells.load_box (i := 0) (b := b1) (o := 1) (agg := false) (by rfl) ag3 (by kernel_rfl) (fun _ => rfl) (Nat.le_of_ble_eq_true rfl) (v := .int .i64 a0.f1) (by kernel_rfl)) ?_
        refine WL.pure 14 17 [1, 19] (L' := [(1, .pointer (some ⟨b1, 0, none⟩)), (19, .bool (decide (a0.f1 ≥ 1)))]) (by kernel_rfl) (by decide) ?_
        refine WL.split 19 (b := decide (a0.f1 ≥ 1)) (by kernel_rfl) (fun hc => ?_) (fun hc => ?_)
        · replace hc := of_decide_eq_true hc
          rw [if_pos hc] at h
          have hc6 := hc
          clear hc
          refine WL.pure 17 19 [1, 19, 21] (L' := [(1, .pointer (some ⟨b1, 0, none⟩)), (19, .bool true), (21, .pointer (some ⟨b1, 1, none⟩))]) (by kernel_rfl) (by decide) ?_
          refine WL.tell (op := .load 3 (.tmp 21)) (ty := 3) (d := some 22) (g := some (16, true)) (by kernel_rfl) (by kernel_rfl) (by kernel_rfl) (Tells.load_box (i := 0) (b := b1) (o := 1) (agg := false) (by rfl) ag3 (by kernel_rfl) (fun _ => rfl) (Nat.le_of_ble_eq_true rfl) (v := .int .i64 a0.f1) (by kernel_rfl)) ?_
          refine WL.pure 20 23 [1, 25] (L' := [(1, .pointer (some ⟨b1, 0, none⟩)), (25, .bool (decide (a0.f1 ≤ 1023)))]) (by kernel_rfl) (by decide) ?_
          refine WL.split 25 (b := decide (a0.f1 ≤ 1023)) (by kernel_rfl) (fun hc => ?_) (fun hc => ?_)
          · replace hc := of_decide_eq_true hc
            rw [if_pos hc] at h
            have hc7 := hc
            clear hc
            refine WL.pure 23 24 [1, 25, 26] (L' := [(1, .pointer (some ⟨b1, 0, none⟩)), (25, .bool true), (26, .pointer (some ⟨b1, 2, none⟩))]) (by kernel_rfl) (by decide) ?_
            refine WL.tell (op := .load 36 (.tmp 26)) (ty := 36) (d := some 27) (g := some (22, true)) (by kernel_rfl) (by kernel_rfl) (by kernel_rfl) (Tells.load_box (i := 0) (b := b1) (o := 2) (agg := true) (by rfl) ag36 (by kernel_rfl) (fun h => by cases h) (Nat.le_of_ble_eq_true rfl) (v := .agg #[.int .i64 a0.f2, .int .i64 a0.f3]) (by kernel_rfl)) ?_
            rw [Option.bind_eq_some_iff] at h
            obtain ⟨t8, ht9, h⟩ := h
            refine WL.op (op := .call { callee := (.value (.func 41)), args := #[(.tmp 27)], argTypes := #[36] }) (ty := 4) (d := some 28) (g := some (22, true)) (by kernel_rfl) (by kernel_rfl) (by kernel_rfl) (Does.call (f := 41) (args := [.agg #[.int .i64 a0.f2, .int .i64 a0.f3]]) (by kernel_rfl) (fun W hI => (stamp_May_calls (⟨a0.f2, a0.f3⟩ : T36)  t8 ht9 hI))) ?_
            rintro _ _ _ ⟨rfl, rfl, rfl⟩
            refine WL.pure 26 28 [1, 30] (L' := [(1, .pointer (some ⟨b1, 0, none⟩)), (30, .bool t8)]) (by kernel_rfl) (by decide) ?_
            refine WL.split 30 (b := t8) (by kernel_rfl) (fun hc => ?_) (fun hc => ?_)
            · replace hc := hc
              rw [if_pos hc] at h
              have hc12 := hc
              clear hc
              refine WL.pure 28 29 [30, 31] (L' := [(30, .bool true), (31, .pointer (some ⟨b1, 4, none⟩))]) (by kernel_rfl) (by decide) ?_
              refine WL.tell (op := .load 9 (.tmp 31)) (ty := 9) (d := some 32) (g := some (27, true)) (by kernel_rfl) (by kernel_rfl) (by kernel_rfl) (Tells.load_box (i := 0) (b := b1) (o := 4) (agg := false) (by rfl) ag9 (by kernel_rfl) (fun _ => rfl) (Nat.le_of_ble_eq_true rfl) (v := .string a0.f4) (by kernel_rfl)) ?_
              rw [Option.bind_eq_some_iff] at h
              obtain ⟨t13, ht14, h⟩ := h
              refine WL.op (op := .call { callee := (.value (.func 42)), args := #[(.tmp 32)], argTypes := #[9] }) (ty := 4) (d := some 33) (g := some (27, true)) (by kernel_rfl) (by kernel_rfl) (by kernel_rfl) (Does.call (f := 42) (args := [.string a0.f4]) (by kernel_rfl) (fun W hI => (tokens_May_calls HT a0.f4  t13 ht14 hI))) ?_
              rintro _ _ _ ⟨rfl, rfl, rfl⟩
              refine WL.rest 31 [2] (L' := [(2, .bool t13)]) (by kernel_rfl) ?_
              refine QP.dropAt 0 ?_
              refine QP.pick [2] ?_
              exact QP.meet ⟨_, Option.some.inj h, rfl, rfl, rfl⟩
            · replace hc := (Bool.eq_false_iff.1 hc)
              rw [if_neg hc] at h
              have hc12 := hc
              clear hc
              refine WL.rest 28 [2] (L' := [(2, .bool false)]) (by kernel_rfl) ?_
              refine QP.dropAt 0 ?_
              refine QP.pick [2] ?_
              exact QP.meet ⟨_, Option.some.inj h, rfl, rfl, rfl⟩
          · replace hc := of_decide_eq_false hc
            rw [if_neg hc] at h
            have hc7 := hc
            clear hc
            refine WL.rest 23 [2] (L' := [(2, .bool false)]) (by kernel_rfl) ?_
            refine QP.dropAt 0 ?_
            refine QP.pick [2] ?_
            exact QP.meet ⟨_, Option.some.inj h, rfl, rfl, rfl⟩
        · replace hc := of_decide_eq_false hc
          rw [if_neg hc] at h
          have hc6 := hc
          clear hc
          refine WL.rest 17 [2] (L' := [(2, .bool false)]) (by kernel_rfl) ?_
          refine QP.dropAt 0 ?_
          refine QP.pick [2] ?_
          exact QP.meet ⟨_, Option.some.inj h, rfl, rfl, rfl⟩
      · replace hc := of_decide_eq_false hc
        rw [if_neg hc] at h
        have hc5 := hc
        clear hc
        refine WL.rest 11 [2] (L' := [(2, .bool false)]) (by kernel_rfl) ?_
        refine QP.dropAt 0 ?_
        refine QP.pick [2] ?_
        exact QP.meet ⟨_, Option.some.inj h, rfl, rfl, rfl⟩
    · replace hc := of_decide_eq_false hc
      rw [if_neg hc] at h
      have hc4 := hc
      clear hc
      refine WL.rest 5 [2] (L' := [(2, .bool false)]) (by kernel_rfl) ?_
      refine QP.dropAt 0 ?_
      refine QP.pick [2] ?_
      exact QP.meet ⟨_, Option.some.inj h, rfl, rfl, rfl⟩
  · rintro _ _ _ ⟨s2, rfl, rfl, rfl, rfl⟩
    clear h
    replace h := hk3
    refine WP.ret ?_
    obtain rfl := Option.some.inj h
    exact QP.returned [2] [.bool s2] _ (by kernel_rfl) (by kernel_rfl) (by kernel_rfl) (fun W hI => ⟨_, _, _, rfl, ⟨rfl, rfl, rfl⟩, hI⟩)

/-! ### (*grapevine/state.State).Accept: function 5 -/
def state_State_Accept_20 (a0 : T59) (a1 : T38) : Option (Int × T59) := (((record_May a1).bind fun t4 => (if (!t4) = true then some true else some (decide (a1.f0 ≥ (a0.f0.length : Int))))).bind fun s2 => (if s2 = true then some (2, a0) else (if 0 ≤ a1.f0 ∧ a1.f0 < (a0.f0.length : Int) then (if a1.f1 ≤ (a0.f0.getD a1.f0.toNat 0) then some (6, a0) else (if 0 ≤ a1.f0 ∧ a1.f0 < (a0.f0.length : Int) then (if a1.f1 > (IntKind.i64.wrap ((a0.f0.getD a1.f0.toNat 0) + 1)) then some (7, a0) else (if 0 ≤ a1.f0 ∧ a1.f0 < (a0.f0.length : Int) then some (0, (⟨(a0.f0.set a1.f0.toNat a1.f1), a0.f1, (fput a0.f2 (⟨a1.f0, a1.f1⟩ : T34) a1)⟩ : T59)) else none)) else none)) else none)))
set_option maxHeartbeats 4000000 in
theorem state_State_Accept_20_calls {B : World} {G : GMap} {Γ : List Chunk} {W : World} (HT : Tabs B G) (a0 : T59) (a1 : T38) (b0 : Nat) (Aa0_f0 : Option Addr) (ca0_f0 : Nat) (Ca0_f0 : Chunk) (Ha0_f0 : Ow (kInt .i64) G Aa0_f0 ca0_f0 a0.f0 Ca0_f0) (Aa0_f1 : Option Addr) (ca0_f1 : Nat) (Ca0_f1 : Chunk) (Ha0_f1 : Ow (kInt .i64) G Aa0_f1 ca0_f1 a0.f1 Ca0_f1) (Aa0_f2 : Option Addr) (ca0_f2 : Nat) (Ca0_f2 : Chunk) (Ha0_f2 : MpF m57 G Aa0_f2 ca0_f2 a0.f2 Ca0_f2) (r : Int × T59) (h : state_State_Accept_20 a0 a1 = some r) (hI : Inv B G ([(b0, .cells #[.slice Aa0_f0 a0.f0.length ca0_f0, .slice Aa0_f1 a0.f1.length ca0_f1, mpv Aa0_f2] 59 (0, 0))] :: Ca0_f0 :: Ca0_f1 :: Ca0_f2 :: Γ) W) :
    Calls Tryz.prog 5 [.pointer (some ⟨b0, 0, none⟩), .agg #[.int .i64 a1.f0, .int .i64 a1.f1, .int .i64 a1.f2, .int .i64 a1.f3, .string a1.f4]].toArray W (Ret B (fun v G' Γ' => ∃ (ARp0_0 : Option Addr), ∃ (cRp0_0 : Nat), ∃ (CRp0_0 : Chunk), ∃ (ARp0_1 : Option Addr), ∃ (cRp0_1 : Nat), ∃ (CRp0_1 : Chunk), ∃ (ARp0_2 : Option Addr), ∃ (cRp0_2 : Nat), ∃ (CRp0_2 : Chunk), v = .int .i64 r.1 ∧ Ow (kInt .i64) G' ARp0_0 cRp0_0 r.2.f0 CRp0_0 ∧ Ow (kInt .i64) G' ARp0_1 cRp0_1 r.2.f1 CRp0_1 ∧ MpF m57 G' ARp0_2 cRp0_2 r.2.f2 CRp0_2 ∧ G = G' ∧ [(b0, .cells #[.slice ARp0_0 r.2.f0.length cRp0_0, .slice ARp0_1 r.2.f1.length cRp0_1, mpv ARp0_2] 59 (0, 0))] :: CRp0_0 :: CRp0_1 :: CRp0_2 :: Γ = Γ')) := by
  refine calls_WP (Γ := [(b0, .cells #[.slice Aa0_f0 a0.f0.length ca0_f0, .slice Aa0_f1 a0.f1.length ca0_f1, mpv Aa0_f2] 59 (0, 0))] :: Ca0_f0 :: Ca0_f1 :: Ca0_f2 :: Γ) (G := G) (B := B) Tryz.func5 rfl (by kernel_rfl) ?_ hI
  clear hI
  unfold state_State_Accept_20 at h
  refine WP.seqR ?_
  refine WL.op (op := .box 38 (.tmp 1)) (ty := 0) (d := some 3) (g := none) (by kernel_rfl) (by kernel_rfl) (by kernel_rfl) (Does.new (o := .cells #[.int .i64 a1.f0, .int .i64 a1.f1, .int .i64 a1.f2, .int .i64 a1.f3, .string a1.f4] 38 (0, 0)) (v := fun r => .pointer (some ⟨r, 0, none⟩)) (fun r => by kernel_rfl)) ?_
  rintro _ _ _ ⟨b1, rfl, rfl, rfl⟩
  refine WL.restQ 1 [0, 3] (L' := [(0, .pointer (some ⟨b0, 0, none⟩)), (3, .pointer (some ⟨b1, 0, none⟩))]) (by kernel_rfl) ?_
  refine WP.seq ?_
  refine WP.block ?_
  refine WP.seqP [0, 3, 5] (L' := [(0, .pointer (some ⟨b0, 0, none⟩)), (3, .pointer (some ⟨b1, 0, none⟩)), (5, .bool false)]) (by kernel_rfl) ?_
  refine WP.no (by kernel_rfl) ?_
  rw [Option.bind_eq_some_iff] at h
  obtain ⟨os2, h, hk3⟩ := h
  refine WP.cut (fun L' G' Γ' => ∃ s2 : Bool, s2 = os2 ∧ L' = [(0, .pointer (some ⟨b0, 0, none⟩)), (3, .pointer (some ⟨b1, 0, none⟩)), (8, .bool s2)] ∧ G = G' ∧ [(b1, .cells #[.int .i64 a1.f0, .int .i64 a1.f1, .int .i64 a1.f2, .int .i64 a1.f3, .string a1.f4] 38 (0, 0))] :: [(b0, .cells #[.slice Aa0_f0 a0.f0.length ca0_f0, .slice Aa0_f1 a0.f1.length ca0_f1, mpv Aa0_f2] 59 (0, 0))] :: Ca0_f0 :: Ca0_f1 :: Ca0_f2 :: Γ = Γ') ?_ ?_
  · clear hk3
    skip
    refine WP.any (N := 15) (S := [⟨some 9, [3], []⟩, ⟨some 10, [9], [0]⟩, ⟨some 11, [10], [1]⟩, ⟨some 12, [11], [1, 2]⟩, ⟨some 13, [3, 12], [3]⟩, ⟨some 14, [12, 13], [3, 4]⟩, ⟨some 15, [12, 14], [3, 5]⟩, ⟨some 16, [0, 12], [3]⟩, ⟨some 17, [12, 16], [3, 7]⟩, ⟨some 18, [12, 17], [3, 8]⟩, ⟨some 19, [12, 18], [3, 9]⟩, ⟨some 20, [12, 19], [3, 10]⟩, ⟨some 21, [12, 15, 20], [3, 6, 11]⟩, ⟨some 22, [12, 21], [3, 12]⟩, ⟨some 8, [22], [3, 13]⟩]) (kw := 15) (G0 := G) (Γ0 := [(b1, .cells #[.int .i64 a1.f0, .int .i64 a1.f1, .int .i64 a1.f2, .int .i64 a1.f3, .string a1.f4] 38 (0, 0))] :: [(b0, .cells #[.slice Aa0_f0 a0.f0.length ca0_f0, .slice Aa0_f1 a0.f1.length ca0_f1, mpv Aa0_f2] 59 (0, 0))] :: Ca0_f0 :: Ca0_f1 :: Ca0_f2 :: Γ) mo (by kernel_rfl) (fun hS => ?_)
    refine WA.tellD [] (i := 0) (m := 14) (b' := 1) (by kernel_rfl) (NoPanic.then (NoPanic.block (NoPanic.then (NoPanic.body)))) Under.refl hS (by kernel_rfl) (op := .load 38 (.tmp 3)) (ty := 38) (d := some 9) (g := none) (by kernel_rfl) (by kernel_rfl) (by kernel_rfl) (Tells.load_box (i := 0) (b := b1) (o := 0) (agg := true) (by rfl) ag38 (by kernel_rfl) (fun h => by cases h) (Nat.le_of_ble_eq_true rfl) (v := .agg #[.int .i64 a1.f0, .int .i64 a1.f1, .int .i64 a1.f2, .int .i64 a1.f3, .string a1.f4]) (by kernel_rfl)) ?_
    rw [Option.bind_eq_some_iff] at h
    obtain ⟨t4, ht5, h⟩ := h
    refine WA.op (i := 1) (m := 13) (b' := 3) (by kernel_rfl) hS (by kernel_rfl) (op := .call { callee := (.value (.func 19)), args := #[(.tmp 9)], argTypes := #[38] }) (ty := 4) (d := some 10) (g := none) (by kernel_rfl) (by kernel_rfl) (by kernel_rfl) (Does.call (f := 19) (args := [.agg #[.int .i64 a1.f0, .int .i64 a1.f1, .int .i64 a1.f2, .int .i64 a1.f3, .string a1.f4]]) (by kernel_rfl) (fun W hI => (record_May_calls HT a1  t4 ht5 hI))) ?_
    rintro _ _ _ ⟨rfl, rfl, rfl⟩
    refine ⟨_, _, Under.refl, Under.refl, ?_⟩
    refine WA.pure [2, 3] [0, 3, 12] (m := 11) (b' := 15) (L' := [(0, .pointer (some ⟨b0, 0, none⟩)), (3, .pointer (some ⟨b1, 0, none⟩)), (12, .bool (!t4))]) (by kernel_rfl) (NoPanic.then (NoPanic.block (NoPanic.then (NoPanic.body)))) Under.refl hS (by kernel_rfl) ?_
    refine WA.split 12 (b := (!t4)) (by kernel_rfl) (fun hc => ?_) (fun hc => ?_)
    · replace hc := hc
      rw [if_pos hc] at h
      have hc8 := hc
      clear hc
      refine WA.pure [4, 5, 6, 7, 8, 9, 10, 11, 12, 13, 14] [0, 3, 8] (m := 0) (b' := 32767) (L' := [(0, .pointer (some ⟨b0, 0, none⟩)), (3, .pointer (some ⟨b1, 0, none⟩)), (8, .bool true)]) (by kernel_rfl) (NoPanic.then (NoPanic.block (NoPanic.then (NoPanic.body)))) Under.refl hS (by kernel_rfl) ?_
      refine WA.done hS (by kernel_rfl) ?_
      refine QP.pick [0, 3, 8] ?_
      refine QP.pick [0, 3, 8] ?_
      exact QP.meet ⟨_, Option.some.inj h, rfl, rfl, rfl⟩
    · replace hc := (Bool.eq_false_iff.1 hc)
      rw [if_neg hc] at h
      have hc8 := hc
      clear hc
      refine WA.pure [4, 5, 7, 8, 9] [0, 3, 12, 14, 18] (m := 6) (b' := 959) (L' := [(0, .pointer (some ⟨b0, 0, none⟩)), (3, .pointer (some ⟨b1, 0, none⟩)), (12, .bool false), (14, .pointer (some ⟨b1, 0, none⟩)), (18, .pointer (some ⟨b0, 0, none⟩))]) (by kernel_rfl) (NoPanic.then (NoPanic.block (NoPanic.then (NoPanic.body)))) Under.refl hS (by kernel_rfl) ?_
      refine WA.tellD [] (i := 6) (m := 5) (b' := 1023) (by kernel_rfl) (NoPanic.then (NoPanic.block (NoPanic.then (NoPanic.body)))) Under.refl hS (by kernel_rfl) (op := .load 3 (.tmp 14)) (ty := 3) (d := some 15) (g := some (3, false)) (by kernel_rfl) (by kernel_rfl) (by kernel_rfl) (Tells.load_box (i := 0) (b := b1) (o := 0) (agg := false) (by rfl) ag3 (by kernel_rfl) (fun _ => rfl) (Nat.le_of_ble_eq_true rfl) (v := .int .i64 a1.f0) (by kernel_rfl)) ?_
      refine WA.tellD [] (i := 10) (m := 4) (b' := 2047) (by kernel_rfl) (NoPanic.then (NoPanic.block (NoPanic.then (NoPanic.body)))) Under.refl hS (by kernel_rfl) (op := .load 25 (.tmp 18)) (ty := 25) (d := some 19) (g := some (3, false)) (by kernel_rfl) (by kernel_rfl) (by kernel_rfl) (Tells.load_box (i := 1) (b := b0) (o := 0) (agg := false) (by rfl) ag25 (by kernel_rfl) (fun _ => rfl) (Nat.le_of_ble_eq_true rfl) (v := .slice Aa0_f0 a0.f0.length ca0_f0) (by kernel_rfl)) ?_
      refine WA.pure [11, 12, 13, 14] [0, 3, 8] (m := 0) (b' := 32767) (L' := [(0, .pointer (some ⟨b0, 0, none⟩)), (3, .pointer (some ⟨b1, 0, none⟩)), (8, .bool (decide (a1.f0 ≥ (a0.f0.length : Int))))]) (by kernel_rfl) (NoPanic.then (NoPanic.block (NoPanic.then (NoPanic.body)))) Under.refl hS (by kernel_rfl) ?_
      refine WA.done hS (by kernel_rfl) ?_
      refine QP.pick [0, 3, 8] ?_
      refine QP.pick [0, 3, 8] ?_
      exact QP.meet ⟨_, Option.some.inj h, rfl, rfl, rfl⟩
  · rintro _ _ _ ⟨s2, rfl, rfl, rfl, rfl⟩
    clear h
    replace h := hk3
    refine WP.cond (b := s2) (by kernel_rfl) (fun hc => ?_) (fun hc => ?_)
    · replace hc := hc
      rw [if_pos hc] at h
      have hc9 := hc
      clear hc
      refine WP.seqP [4] (L' := [(4, .int .i64 2)]) (by kernel_rfl) ?_
      refine WP.dropAt 0 ?_
      refine WP.ret ?_
      refine QP.blockR ?_
      refine QP.thenR ?_
      obtain rfl := Option.some.inj h
      exact QP.returned [4] [.int .i64 2] _ (by kernel_rfl) (by kernel_rfl) (by kernel_rfl) (fun W hI => ⟨_, _, _, rfl, ⟨Aa0_f0, ca0_f0, Ca0_f0, Aa0_f1, ca0_f1, Ca0_f1, Aa0_f2, ca0_f2, Ca0_f2, rfl, Ha0_f0, Ha0_f1, Ha0_f2, rfl, rfl⟩, hI⟩)
    · replace hc := (Bool.eq_false_iff.1 hc)
      rw [if_neg hc] at h
      have hc9 := hc
      clear hc
      refine WP.seq ?_
      refine WP.any (N := 14) (S := [⟨some 24, [3], []⟩, ⟨some 25, [24], [0]⟩, ⟨some 26, [25], [1]⟩, ⟨some 27, [0], []⟩, ⟨some 28, [27], [3]⟩, ⟨some 29, [28], [4]⟩, ⟨some 30, [29], [5]⟩, ⟨some 31, [3], []⟩, ⟨some 32, [31], [7]⟩, ⟨some 33, [32], [8]⟩, ⟨some 34, [30, 33], [6, 9]⟩, ⟨some 35, [34], [10]⟩, ⟨some 36, [26, 35], [2, 11]⟩, ⟨some 23, [36], [12]⟩]) (kw := 14) (G0 := G) (Γ0 := [(b1, .cells #[.int .i64 a1.f0, .int .i64 a1.f1, .int .i64 a1.f2, .int .i64 a1.f3, .string a1.f4] 38 (0, 0))] :: [(b0, .cells #[.slice Aa0_f0 a0.f0.length ca0_f0, .slice Aa0_f1 a0.f1.length ca0_f1, mpv Aa0_f2] 59 (0, 0))] :: Ca0_f0 :: Ca0_f1 :: Ca0_f2 :: Γ) mo (by kernel_rfl) (fun hS => ?_)
      refine WA.pure [0, 1, 3, 4, 5, 7, 8] [0, 3, 25, 29, 32] (m := 7) (b' := 443) (L' := [(0, .pointer (some ⟨b0, 0, none⟩)), (3, .pointer (some ⟨b1, 0, none⟩)), (25, .pointer (some ⟨b1, 1, none⟩)), (29, .pointer (some ⟨b0, 0, none⟩)), (32, .pointer (some ⟨b1, 0, none⟩))]) (by kernel_rfl) (NoPanic.then (NoPanic.block (NoPanic.then (NoPanic.body)))) Under.refl hS (by kernel_rfl) ?_
      refine WA.tellD [] (i := 2) (m := 6) (b' := 447) (by kernel_rfl) (NoPanic.then (NoPanic.block (NoPanic.then (NoPanic.body)))) Under.refl hS (by kernel_rfl) (op := .load 3 (.tmp 25)) (ty := 3) (d := some 26) (g := none) (by kernel_rfl) (by kernel_rfl) (by kernel_rfl) (Tells.load_box (i := 0) (b := b1) (o := 1) (agg := false) (by rfl) ag3 (by kernel_rfl) (fun _ => rfl) (Nat.le_of_ble_eq_true rfl) (v := .int .i64 a1.f1) (by kernel_rfl)) ?_
      refine WA.tellD [] (i := 6) (m := 5) (b' := 511) (by kernel_rfl) (NoPanic.then (NoPanic.block (NoPanic.then (NoPanic.body)))) Under.refl hS (by kernel_rfl) (op := .load 25 (.tmp 29)) (ty := 25) (d := some 30) (g := none) (by kernel_rfl) (by kernel_rfl) (by kernel_rfl) (Tells.load_box (i := 1) (b := b0) (o := 0) (agg := false) (by rfl) ag25 (by kernel_rfl) (fun _ => rfl) (Nat.le_of_ble_eq_true rfl) (v := .slice Aa0_f0 a0.f0.length ca0_f0) (by kernel_rfl)) ?_
      refine WA.tellD [] (i := 9) (m := 4) (b' := 1023) (by kernel_rfl) (NoPanic.then (NoPanic.block (NoPanic.then (NoPanic.body)))) Under.refl hS (by kernel_rfl) (op := .load 3 (.tmp 32)) (ty := 3) (d := some 33) (g := none) (by kernel_rfl) (by kernel_rfl) (by kernel_rfl) (Tells.load_box (i := 0) (b := b1) (o := 0) (agg := false) (by rfl) ag3 (by kernel_rfl) (fun _ => rfl) (Nat.le_of_ble_eq_true rfl) (v := .int .i64 a1.f0) (by kernel_rfl)) ?_
      by_cases hb10 : 0 ≤ a1.f0 ∧ a1.f0 < (a0.f0.length : Int)
      case neg => rw [if_neg hb10] at h; cases h
      rw [if_pos hb10] at h
      refine WA.tellD [] (i := 10) (m := 3) (b' := 2047) (by kernel_rfl) (NoPanic.then (NoPanic.block (NoPanic.then (NoPanic.body)))) Under.refl hS (by kernel_rfl) (op := .indexAddr 25 (.tmp 30) (.tmp 33)) (ty := 0) (d := some 34) (g := none) (by kernel_rfl) (by kernel_rfl) (by kernel_rfl) (Tells.indexAddr (A := Aa0_f0) (n := a0.f0.length) (c := ca0_f0) (k := .i64) (j := a1.f0) (by kernel_rfl) (by kernel_rfl) (Ha0_f0.isSome hb10.1 hb10.2) hb10.1 hb10.2 sl25) ?_
      refine WA.tellDE [] (i := 11) (m := 2) (b' := 4095) (by kernel_rfl) (NoPanic.then (NoPanic.block (NoPanic.then (NoPanic.body)))) Under.refl hS (by kernel_rfl) (op := .load 3 (.tmp 34)) (ty := 3) (d := some 35) (g := none) (by kernel_rfl) (by kernel_rfl) (by kernel_rfl) (Ha0_f0.load (i := 2) rfl (agg := false) hb10.1 hb10.2 0 ag3 (fun _ => rfl) (by kernel_rfl)) ?_
      rintro _ rfl
      refine WA.pure [12, 13] [0, 3, 23] (m := 0) (b' := 16383) (L' := [(0, .pointer (some ⟨b0, 0, none⟩)), (3, .pointer (some ⟨b1, 0, none⟩)), (23, .bool (decide (a1.f1 ≤ (a0.f0.getD a1.f0.toNat 0))))]) (by kernel_rfl) (NoPanic.then (NoPanic.block (NoPanic.then (NoPanic.body)))) Under.refl hS (by kernel_rfl) ?_
      refine WA.done hS (by kernel_rfl) ?_
      refine QP.pick [0, 3, 23] ?_
      refine QP.next ?_
      refine WP.cond (b := decide (a1.f1 ≤ (a0.f0.getD a1.f0.toNat 0))) (by kernel_rfl) (fun hc => ?_) (fun hc => ?_)
      · replace hc := of_decide_eq_true hc
        rw [if_pos hc] at h
        have hc11 := hc
        clear hc
        refine WP.seqP [4] (L' := [(4, .int .i64 6)]) (by kernel_rfl) ?_
        refine WP.dropAt 0 ?_
        refine WP.ret ?_
        refine QP.blockR ?_
        refine QP.thenR ?_
        obtain rfl := Option.some.inj h
        exact QP.returned [4] [.int .i64 6] _ (by kernel_rfl) (by kernel_rfl) (by kernel_rfl) (fun W hI => ⟨_, _, _, rfl, ⟨Aa0_f0, ca0_f0, Ca0_f0, Aa0_f1, ca0_f1, Ca0_f1, Aa0_f2, ca0_f2, Ca0_f2, rfl, Ha0_f0, Ha0_f1, Ha0_f2, rfl, rfl⟩, hI⟩)
      · replace hc := of_decide_eq_false hc
        rw [if_neg hc] at h
        have hc11 := hc
        clear hc
        refine WP.seq ?_
        refine WP.any (N := 15) (S := [⟨some 38, [3], []⟩, ⟨some 39, [38], [0]⟩, ⟨some 40, [39], [1]⟩, ⟨some 41, [0], []⟩, ⟨some 42, [41], [3]⟩, ⟨some 43, [42], [4]⟩, ⟨some 44, [43], [5]⟩, ⟨some 45, [3], []⟩, ⟨some 46, [45], [7]⟩, ⟨some 47, [46], [8]⟩, ⟨some 48, [44, 47], [6, 9]⟩, ⟨some 49, [48], [10]⟩, ⟨some 50, [49], [11]⟩, ⟨some 51, [40, 50], [2, 12]⟩, ⟨some 37, [51], [13]⟩]) (kw := 15) (G0 := G) (Γ0 := [(b1, .cells #[.int .i64 a1.f0, .int .i64 a1.f1, .int .i64 a1.f2, .int .i64 a1.f3, .string a1.f4] 38 (0, 0))] :: [(b0, .cells #[.slice Aa0_f0 a0.f0.length ca0_f0, .slice Aa0_f1 a0.f1.length ca0_f1, mpv Aa0_f2] 59 (0, 0))] :: Ca0_f0 :: Ca0_f1 :: Ca0_f2 :: Γ) mo (by kernel_rfl) (fun hS => ?_)
        refine WA.pure [0, 1, 3, 4, 5, 7, 8] [0, 3, 39, 43, 46] (m := 8) (b' := 443) (L' := [(0, .pointer (some ⟨b0, 0, none⟩)), (3, .pointer (some ⟨b1, 0, none⟩)), (39, .pointer (some ⟨b1, 1, none⟩)), (43, .pointer (some ⟨b0, 0, none⟩)), (46, .pointer (some ⟨b1, 0, none⟩))]) (by kernel_rfl) (NoPanic.then (NoPanic.block (NoPanic.then (NoPanic.body)))) Under.refl hS (by kernel_rfl) ?_
        refine WA.tellD [] (i := 2) (m := 7) (b' := 447) (by kernel_rfl) (NoPanic.then (NoPanic.block (NoPanic.then (NoPanic.body)))) Under.refl hS (by kernel_rfl) (op := .load 3 (.tmp 39)) (ty := 3) (d := some 40) (g := none) (by kernel_rfl) (by kernel_rfl) (by kernel_rfl) (Tells.load_box (i := 0) (b := b1) (o := 1) (agg := false) (by rfl) ag3 (by kernel_rfl) (fun _ => rfl) (Nat.le_of_ble_eq_true rfl) (v := .int .i64 a1.f1) (by kernel_rfl)) ?_
        refine WA.tellD [] (i := 6) (m := 6) (b' := 511) (by kernel_rfl) (NoPanic.then (NoPanic.block (NoPanic.then (NoPanic.body)))) Under.refl hS (by kernel_rfl) (op := .load 25 (.tmp 43)) (ty := 25) (d := some 44) (g := none) (by kernel_rfl) (by kernel_rfl) (by kernel_rfl) (Tells.load_box (i := 1) (b := b0) (o := 0) (agg := false) (by rfl) ag25 (by kernel_rfl) (fun _ => rfl) (Nat.le_of_ble_eq_true rfl) (v := .slice Aa0_f0 a0.f0.length ca0_f0) (by kernel_rfl)) ?_
        refine WA.tellD [] (i := 9) (m := 5) (b' := 1023) (by kernel_rfl) (NoPanic.then (NoPanic.block (NoPanic.then (NoPanic.body)))) Under.refl hS (by kernel_rfl) (op := .load 3 (.tmp 46)) (ty := 3) (d := some 47) (g := none) (by kernel_rfl) (by kernel_rfl) (by kernel_rfl) (Tells.load_box (i := 0) (b := b1) (o := 0) (agg := false) (by rfl) ag3 (by kernel_rfl) (fun _ => rfl) (Nat.le_of_ble_eq_true rfl) (v := .int .i64 a1.f0) (by kernel_rfl)) ?_
        by_cases hb12 : 0 ≤ a1.f0 ∧ a1.f0 < (a0.f0.length : Int)
        case neg => rw [if_neg hb12] at h; cases h
        rw [if_pos hb12] at h
        refine WA.tellD [] (i := 10) (m := 4) (b' := 2047) (by kernel_rfl) (NoPanic.then (NoPanic.block (NoPanic.then (NoPanic.body)))) Under.refl hS (by kernel_rfl) (op := .indexAddr 25 (.tmp 44) (.tmp 47)) (ty := 0) (d := some 48) (g := none) (by kernel_rfl) (by kernel_rfl) (by kernel_rfl) (Tells.indexAddr (A := Aa0_f0) (n := a0.f0.length) (c := ca0_f0) (k := .i64) (j := a1.f0) (by kernel_rfl) (by kernel_rfl) (Ha0_f0.isSome hb12.1 hb12.2) hb12.1 hb12.2 sl25) ?_
        refine WA.tellDE [] (i := 11) (m := 3) (b' := 4095) (by kernel_rfl) (NoPanic.then (NoPanic.block (NoPanic.then (NoPanic.body)))) Under.refl hS (by kernel_rfl) (op := .load 3 (.tmp 48)) (ty := 3) (d := some 49) (g := none) (by kernel_rfl) (by kernel_rfl) (by kernel_rfl) (Ha0_f0.load (i := 2) rfl (agg := false) hb12.1 hb12.2 0 ag3 (fun _ => rfl) (by kernel_rfl)) ?_
        rintro _ rfl
        refine WA.pure [12, 13, 14] [0, 3, 37] (m := 0) (b' := 32767) (L' := [(0, .pointer (some ⟨b0, 0, none⟩)), (3, .pointer (some ⟨b1, 0, none⟩)), (37, .bool (decide (a1.f1 > (IntKind.i64.wrap ((a0.f0.getD a1.f0.toNat 0) + 1)))))]) (by kernel_rfl) (NoPanic.then (NoPanic.block (NoPanic.then (NoPanic.body)))) Under.refl hS (by kernel_rfl) ?_
        refine WA.done hS (by kernel_rfl) ?_
        refine QP.pick [0, 3, 37] ?_
        refine QP.next ?_
        refine WP.cond (b := decide (a1.f1 > (IntKind.i64.wrap ((a0.f0.getD a1.f0.toNat 0) + 1)))) (by kernel_rfl) (fun hc => ?_) (fun hc => ?_)
        · replace hc := of_decide_eq_true hc
          rw [if_pos hc] at h
          have hc13 := hc
          clear hc
          refine WP.seqP [4] (L' := [(4, .int .i64 7)]) (by kernel_rfl) ?_
          refine WP.dropAt 0 ?_
          refine WP.ret ?_
          refine QP.blockR ?_
          refine QP.thenR ?_
          obtain rfl := Option.some.inj h
          exact QP.returned [4] [.int .i64 7] _ (by kernel_rfl) (by kernel_rfl) (by kernel_rfl) (fun W hI => ⟨_, _, _, rfl, ⟨Aa0_f0, ca0_f0, Ca0_f0, Aa0_f1, ca0_f1, Ca0_f1, Aa0_f2, ca0_f2, Ca0_f2, rfl, Ha0_f0, Ha0_f1, Ha0_f2, rfl, rfl⟩, hI⟩)
        · replace hc := of_decide_eq_false hc
          rw [if_neg hc] at h
          have hc13 := hc
          clear hc
          refine WP.skip ?_
          refine QP.blockN ?_
          refine QP.next ?_
          refine WP.pick [0, 3] ?_
          refine WP.seq ?_
          refine WP.any (N := 8) (S := [⟨some 52, [0], []⟩, ⟨some 53, [52], [0]⟩, ⟨some 54, [53], [1]⟩, ⟨some 55, [54], [2]⟩, ⟨some 56, [3], []⟩, ⟨some 57, [56], [4]⟩, ⟨some 58, [3], []⟩, ⟨none, [55, 57, 58], [0, 1, 2, 3, 4, 5, 6]⟩]) (kw := 7) (G0 := G) (Γ0 := [(b1, .cells #[.int .i64 a1.f0, .int .i64 a1.f1, .int .i64 a1.f2, .int .i64 a1.f3, .string a1.f4] 38 (0, 0))] :: [(b0, .cells #[.slice Aa0_f0 a0.f0.length ca0_f0, .slice Aa0_f1 a0.f1.length ca0_f1, mpv Aa0_f2] 59 (0, 0))] :: Ca0_f0 :: Ca0_f1 :: Ca0_f2 :: Γ) mo (by kernel_rfl) (fun hS => ?_)
          refine WA.pure [0, 1, 2, 4] [0, 3, 54, 56] (m := 4) (b' := 23) (L' := [(0, .pointer (some ⟨b0, 0, none⟩)), (3, .pointer (some ⟨b1, 0, none⟩)), (54, .pointer (some ⟨b0, 2, none⟩)), (56, .pointer (some ⟨b1, 0, none⟩))]) (by kernel_rfl) (NoPanic.then (NoPanic.body)) Under.refl hS (by kernel_rfl) ?_
          refine WA.tellD [7] (i := 3) (m := 3) (b' := 31) (by kernel_rfl) (NoPanic.then (NoPanic.body)) Under.refl hS (by kernel_rfl) (op := .load 57 (.tmp 54)) (ty := 57) (d := some 55) (g := none) (by kernel_rfl) (by kernel_rfl) (by kernel_rfl) (Tells.load_box (i := 1) (b := b0) (o := 2) (agg := false) (by rfl) ag57 (by kernel_rfl) (fun _ => rfl) (Nat.le_of_ble_eq_true rfl) (v := mpv Aa0_f2) (by kernel_rfl)) ?_
          refine WA.tellD [7] (i := 5) (m := 2) (b' := 63) (by kernel_rfl) (NoPanic.then (NoPanic.body)) Under.refl hS (by kernel_rfl) (op := .load 34 (.tmp 56)) (ty := 34) (d := some 57) (g := none) (by kernel_rfl) (by kernel_rfl) (by kernel_rfl) (Tells.load_box (i := 0) (b := b1) (o := 0) (agg := true) (by rfl) ag34 (by kernel_rfl) (fun h => by cases h) (Nat.le_of_ble_eq_true rfl) (v := .agg #[.int .i64 a1.f0, .int .i64 a1.f1]) (by kernel_rfl)) ?_
          refine WA.tellD [7] (i := 6) (m := 1) (b' := 127) (by kernel_rfl) (NoPanic.then (NoPanic.body)) Under.refl hS (by kernel_rfl) (op := .load 38 (.tmp 3)) (ty := 38) (d := some 58) (g := none) (by kernel_rfl) (by kernel_rfl) (by kernel_rfl) (Tells.load_box (i := 0) (b := b1) (o := 0) (agg := true) (by rfl) ag38 (by kernel_rfl) (fun h => by cases h) (Nat.le_of_ble_eq_true rfl) (v := .agg #[.int .i64 a1.f0, .int .i64 a1.f1, .int .i64 a1.f2, .int .i64 a1.f3, .string a1.f4]) (by kernel_rfl)) ?_
          refine WA.opK (i := 7) (kw' := 8) (m := 0) (b' := 255) (by kernel_rfl) rfl hS (by kernel_rfl) (op := .mapUpdate 57 (.tmp 55) (.tmp 57) (.tmp 58)) (ty := 0) (d := none) (g := none) (by kernel_rfl) (by kernel_rfl) (by kernel_rfl) (Does.mapPutF mt57 ko57 Ha0_f2 (i := 4) rfl (a := (⟨a1.f0, a1.f1⟩ : T34)) (v := a1) (by kernel_rfl) (by kernel_rfl) (by kernel_rfl)) ?_
          rintro _ _ _ ⟨rfl, rfl, CN14, HN14, rfl⟩
          refine ⟨_, _, Under.refl, ?_⟩
          refine WA.done hS (by kernel_rfl) ?_
          refine QP.pick [0, 3] ?_
          refine QP.next ?_
          refine WP.seq ?_
          refine WP.any (N := 12) (S := [⟨some 59, [0], []⟩, ⟨some 60, [59], [0]⟩, ⟨some 61, [60], [1]⟩, ⟨some 62, [61], [2]⟩, ⟨some 63, [3], []⟩, ⟨some 64, [63], [4]⟩, ⟨some 65, [64], [5]⟩, ⟨some 66, [3], []⟩, ⟨some 67, [66], [7]⟩, ⟨some 68, [67], [8]⟩, ⟨some 69, [62, 65], [0, 1, 2, 3, 4, 5, 6, 7, 8, 9]⟩, ⟨none, [68, 69], [0, 1, 2, 3, 4, 5, 6, 7, 8, 9, 10]⟩]) (kw := 11) (G0 := G) (Γ0 := [(b1, .cells #[.int .i64 a1.f0, .int .i64 a1.f1, .int .i64 a1.f2, .int .i64 a1.f3, .string a1.f4] 38 (0, 0))] :: [(b0, .cells #[.slice Aa0_f0 a0.f0.length ca0_f0, .slice Aa0_f1 a0.f1.length ca0_f1, mpv Aa0_f2] 59 (0, 0))] :: Ca0_f0 :: Ca0_f1 :: CN14 :: Γ) mo (by kernel_rfl) (fun hS => ?_)
          refine WA.pure [0, 1, 2, 4, 5, 7, 8] [61, 64, 67] (m := 5) (b' := 439) (L' := [(61, .pointer (some ⟨b0, 0, none⟩)), (64, .pointer (some ⟨b1, 0, none⟩)), (67, .pointer (some ⟨b1, 1, none⟩))]) (by kernel_rfl) (NoPanic.then (NoPanic.body)) Under.refl hS (by kernel_rfl) ?_
          refine WA.tellD [11] (i := 3) (m := 4) (b' := 447) (by kernel_rfl) (NoPanic.then (NoPanic.body)) Under.refl hS (by kernel_rfl) (op := .load 25 (.tmp 61)) (ty := 25) (d := some 62) (g := none) (by kernel_rfl) (by kernel_rfl) (by kernel_rfl) (Tells.load_box (i := 1) (b := b0) (o := 0) (agg := false) (by rfl) ag25 (by kernel_rfl) (fun _ => rfl) (Nat.le_of_ble_eq_true rfl) (v := .slice Aa0_f0 a0.f0.length ca0_f0) (by kernel_rfl)) ?_
          refine WA.tellD [11] (i := 6) (m := 3) (b' := 511) (by kernel_rfl) (NoPanic.then (NoPanic.body)) Under.refl hS (by kernel_rfl) (op := .load 3 (.tmp 64)) (ty := 3) (d := some 65) (g := none) (by kernel_rfl) (by kernel_rfl) (by kernel_rfl) (Tells.load_box (i := 0) (b := b1) (o := 0) (agg := false) (by rfl) ag3 (by kernel_rfl) (fun _ => rfl) (Nat.le_of_ble_eq_true rfl) (v := .int .i64 a1.f0) (by kernel_rfl)) ?_
          refine WA.tellD [11] (i := 9) (m := 2) (b' := 1023) (by kernel_rfl) (NoPanic.then (NoPanic.body)) Under.refl hS (by kernel_rfl) (op := .load 3 (.tmp 67)) (ty := 3) (d := some 68) (g := none) (by kernel_rfl) (by kernel_rfl) (by kernel_rfl) (Tells.load_box (i := 0) (b := b1) (o := 1) (agg := false) (by rfl) ag3 (by kernel_rfl) (fun _ => rfl) (Nat.le_of_ble_eq_true rfl) (v := .int .i64 a1.f1) (by kernel_rfl)) ?_
          by_cases hb15 : 0 ≤ a1.f0 ∧ a1.f0 < (a0.f0.length : Int)
          case neg => rw [if_neg hb15] at h; cases h
          rw [if_pos hb15] at h
          refine WA.tellD [11] (i := 10) (m := 1) (b' := 2047) (by kernel_rfl) (NoPanic.then (NoPanic.body)) Under.refl hS (by kernel_rfl) (op := .indexAddr 25 (.tmp 62) (.tmp 65)) (ty := 0) (d := some 69) (g := none) (by kernel_rfl) (by kernel_rfl) (by kernel_rfl) (Tells.indexAddr (A := Aa0_f0) (n := a0.f0.length) (c := ca0_f0) (k := .i64) (j := a1.f0) (by kernel_rfl) (by kernel_rfl) (Ha0_f0.isSome hb15.1 hb15.2) hb15.1 hb15.2 sl25) ?_
          refine WA.opK (i := 11) (kw' := 12) (m := 0) (b' := 4095) (by kernel_rfl) rfl hS (by kernel_rfl) (op := .store 3 (.tmp 69) (.tmp 68)) (ty := 0) (d := none) (g := none) (by kernel_rfl) (by kernel_rfl) (by kernel_rfl) (Ow.store Ha0_f0 (i := 2) rfl hb15.1 hb15.2 (z := a1.f1) (v := .int .i64 a1.f1) (by kernel_rfl) (by kernel_rfl) sz3 (by exact rfl)) ?_
          rintro _ _ _ ⟨rfl, rfl, C16, Ho17, rfl⟩
          refine ⟨_, _, Under.refl, ?_⟩
          refine WA.reperm (Γ' := [(b1, .cells #[.int .i64 a1.f0, .int .i64 a1.f1, .int .i64 a1.f2, .int .i64 a1.f3, .string a1.f4] 38 (0, 0))] :: [(b0, .cells #[.slice Aa0_f0 (a0.f0.set a1.f0.toNat a1.f1).length ca0_f0, .slice Aa0_f1 a0.f1.length ca0_f1, mpv Aa0_f2] 59 (0, 0))] :: C16 :: Ca0_f1 :: CN14 :: Γ) (by simp only [List.length_set]; exact .refl _) ?_
          refine WA.done hS (by kernel_rfl) ?_
          refine QP.pick [] ?_
          refine QP.next ?_
          refine WP.dropAt 0 ?_
          refine WP.seqP [4] (L' := [(4, .int .i64 0)]) (by kernel_rfl) ?_
          refine WP.ret ?_
          obtain rfl := Option.some.inj h
          exact QP.returned [4] [.int .i64 0] _ (by kernel_rfl) (by kernel_rfl) (by kernel_rfl) (fun W hI => ⟨_, _, _, rfl, ⟨Aa0_f0, ca0_f0, C16, Aa0_f1, ca0_f1, Ca0_f1, Aa0_f2, ca0_f2, CN14, rfl, Ho17, Ha0_f1, HN14, rfl, rfl⟩, hI⟩)

/-! ### slices.Clone[[]int,int]: function 21 -/
def slices_Clone (l0 : List Int) : Option (List Int) := if l0.length ≤ 1073741824 then some l0 else none
set_option maxHeartbeats 4000000 in
theorem slices_Clone_calls {B : World} {G : GMap} {Γ : List Chunk} {W : World} (l0 : List Int) (Al0 : Option Addr) (cl0 : Nat) (Hl0 : Rd (kInt .i64) G Al0 cl0 l0) (r : List Int) (h : slices_Clone l0 = some r) (hI : Inv B G Γ W) :
    Calls Tryz.prog 21 [.slice Al0 l0.length cl0].toArray W (Ret B (fun v G' Γ' => ∃ (AR : Option Addr), ∃ (cR : Nat), ∃ (CR : Chunk), v = .slice AR r.length cR ∧ Ow (kInt .i64) G' AR cR r CR ∧ G = G' ∧ CR :: Γ = Γ')) := by
  refine calls_WP (Γ := Γ) (G := G) (B := B) Tryz.func21 rfl (by kernel_rfl) ?_ hI
  clear hI
  unfold slices_Clone at h
  by_cases hb : l0.length ≤ 1073741824
  case neg => rw [if_neg hb] at h; cases h
  rw [if_pos hb] at h
  obtain rfl := Option.some.inj h
  refine WP.seqP [0] (L' := [(0, .slice Al0 l0.length cl0)]) (by kernel_rfl) ?_
  refine WP.seq ?_
  cases Al0 with
  | none =>
    obtain rfl : l0 = [] := by
      cases l0 with
      | nil => rfl
      | cons x xs => obtain ⟨_, e, _⟩ := Hl0.2 (by simp); cases e
    refine WP.seqP [4] (L' := [(4, .bool true)]) (by kernel_rfl) ?_
    refine WP.yes (by kernel_rfl) ?_
    refine WP.seqP [2] (L' := [(2, .slice none 0 0)]) (by kernel_rfl) ?_
    refine WP.ret ?_
    refine QP.thenR ?_
    refine QP.addNil ?_
    exact QP.returned [2] [.slice none 0 0] _ (by kernel_rfl) (by kernel_rfl) (by kernel_rfl) (fun W hI => ⟨_, _, _, rfl, ⟨none, 0, [], rfl, Ow.nil _ _, rfl, rfl⟩, hI⟩)
  | some a =>
    refine WP.seqP [0, 4] (L' := [(0, .slice (some a) l0.length cl0), (4, .bool false)]) (by kernel_rfl) ?_
    refine WP.no (by kernel_rfl) ?_
    refine WP.skip ?_
    refine QP.next ?_
    refine WP.pick [0] ?_
    refine WP.seqR ?_
    refine WL.op (op := .buildSlice 25 0 #[]) (ty := 25) (d := some 5) (g := none) (by kernel_rfl) (by kernel_rfl) (by kernel_rfl) (Does.new (o := .cells #[] 3 (0, 0)) (v := fun r => .slice (some ⟨r, 0, none⟩) 0 0) (fun r => by kernel_rfl)) ?_
    rintro _ _ _ ⟨b, rfl, rfl, rfl⟩
    have H0 : Ow (kInt .i64) G (some ⟨b, 0, none⟩) 0 ([] : List Int) [(b, .cells #[] 3 (0, 0))] := Ow.lit (kd := (kInt .i64)) (G := G) (b := b) (T := 3) (xs := []) (cs := []) .nil
    refine WL.pure 1 2 [5, 6] (L' := [(5, .slice (some ⟨b, 0, none⟩) 0 0), (6, .slice (some a) l0.length cl0)]) (by kernel_rfl) (by decide) ?_
    refine WL.op (op := .call { callee := (.builtin .append), args := #[(.tmp 5), (.tmp 6)], argTypes := #[25, 25] }) (ty := 25) (d := some 7) (g := none) (by kernel_rfl) (by kernel_rfl) (by kernel_rfl) (Ow.append (ys := l0) (v := .slice (some a) l0.length cl0) H0 (i := 0) rfl (by kernel_rfl) (by kernel_rfl) Hl0.src sl25 ze3 nt25 (by decide) (by simpa using hb)) ?_
    rintro _ _ _ ⟨rfl, A1, c1, C1, rfl, H1, rfl⟩
    refine WL.restQ 3 [2] (L' := [(2, .slice A1 l0.length c1)]) (by kernel_rfl) ?_
    refine WP.ret ?_
    exact QP.returned [2] [.slice A1 l0.length c1] _ (by kernel_rfl) (by kernel_rfl) (by kernel_rfl) (fun W hI => ⟨_, _, _, rfl, ⟨A1, c1, C1, rfl, H1, rfl, rfl⟩, hI⟩)

/-! ### (*grapevine/state.State).W: function 9 -/
def state_State_W_27 (a0 : T59) : Option (List Int) := ((slices_Clone a0.f1).bind fun t1 => some t1)
set_option maxHeartbeats 4000000 in
theorem state_State_W_27_calls {B : World} {G : GMap} {Γ : List Chunk} {W : World} (a0 : T59) (b0 : Nat) (Aa0_f0 : Option Addr) (ca0_f0 : Nat) (Ca0_f0 : Chunk) (Ha0_f0 : Ow (kInt .i64) G Aa0_f0 ca0_f0 a0.f0 Ca0_f0) (Aa0_f1 : Option Addr) (ca0_f1 : Nat) (Ca0_f1 : Chunk) (Ha0_f1 : Ow (kInt .i64) G Aa0_f1 ca0_f1 a0.f1 Ca0_f1) (Aa0_f2 : Option Addr) (ca0_f2 : Nat) (Ca0_f2 : Chunk) (Ha0_f2 : MpF m57 G Aa0_f2 ca0_f2 a0.f2 Ca0_f2) (r : List Int) (h : state_State_W_27 a0 = some r) (hI : Inv B G ([(b0, .cells #[.slice Aa0_f0 a0.f0.length ca0_f0, .slice Aa0_f1 a0.f1.length ca0_f1, mpv Aa0_f2] 59 (0, 0))] :: Ca0_f0 :: Ca0_f1 :: Ca0_f2 :: Γ) W) :
    Calls Tryz.prog 9 [.pointer (some ⟨b0, 0, none⟩)].toArray W (Ret B (fun v G' Γ' => ∃ (AR : Option Addr), ∃ (cR : Nat), ∃ (CR : Chunk), v = .slice AR r.length cR ∧ Ow (kInt .i64) G' AR cR r CR ∧ G = G' ∧ CR :: [(b0, .cells #[.slice Aa0_f0 a0.f0.length ca0_f0, .slice Aa0_f1 a0.f1.length ca0_f1, mpv Aa0_f2] 59 (0, 0))] :: Ca0_f0 :: Ca0_f1 :: Ca0_f2 :: Γ = Γ')) := by
  refine calls_WP (Γ := [(b0, .cells #[.slice Aa0_f0 a0.f0.length ca0_f0, .slice Aa0_f1 a0.f1.length ca0_f1, mpv Aa0_f2] 59 (0, 0))] :: Ca0_f0 :: Ca0_f1 :: Ca0_f2 :: Γ) (G := G) (B := B) Tryz.func9 rfl (by kernel_rfl) ?_ hI
  clear hI
  unfold state_State_W_27 at h
  refine WP.seqP [0] (L' := [(0, .pointer (some ⟨b0, 0, none⟩))]) (by kernel_rfl) ?_
  refine WP.seq ?_
  refine WP.seqP [0, 4] (L' := [(0, .pointer (some ⟨b0, 0, none⟩)), (4, .bool false)]) (by kernel_rfl) ?_
  refine WP.no (by kernel_rfl) ?_
  refine WP.skip ?_
  refine QP.next ?_
  refine WP.pick [0] ?_
  refine WP.seqR ?_
  refine WL.pure 0 3 [7] (L' := [(7, .pointer (some ⟨b0, 1, none⟩))]) (by kernel_rfl) (by decide) ?_
  refine WL.tell (op := .load 25 (.tmp 7)) (ty := 25) (d := some 8) (g := none) (by kernel_rfl) (by kernel_rfl) (by kernel_rfl) (Tells.load_box (i := 0) (b := b0) (o := 1) (agg := false) (by rfl) ag25 (by kernel_rfl) (fun _ => rfl) (Nat.le_of_ble_eq_true rfl) (v := .slice Aa0_f1 a0.f1.length ca0_f1) (by kernel_rfl)) ?_
  rw [Option.bind_eq_some_iff] at h
  obtain ⟨t1, ht2, h⟩ := h
  refine WL.op (op := .call { callee := (.value (.func 21)), args := #[(.tmp 8)], argTypes := #[25] }) (ty := 25) (d := some 9) (g := none) (by kernel_rfl) (by kernel_rfl) (by kernel_rfl) (Does.call (Φ := fun v' G' Γ' => ∃ (AR3 : Option Addr), ∃ (cR3 : Nat), ∃ (CR3 : Chunk), v' = .slice AR3 t1.length cR3 ∧ Ow (kInt .i64) G AR3 cR3 t1 CR3 ∧ G = G' ∧ CR3 :: [(b0, .cells #[.slice Aa0_f0 a0.f0.length ca0_f0, .slice Aa0_f1 a0.f1.length ca0_f1, mpv Aa0_f2] 59 (0, 0))] :: Ca0_f0 :: Ca0_f1 :: Ca0_f2 :: Γ = Γ') (f := 21) (args := [.slice Aa0_f1 a0.f1.length ca0_f1]) (by kernel_rfl) (fun W hI => (Calls.lendN (Φ := fun v' N => ∃ (AR3 : Option Addr), ∃ (cR3 : Nat), ∃ (CR3 : Chunk), v' = .slice AR3 t1.length cR3 ∧ Ow (kInt .i64) G AR3 cR3 t1 CR3 ∧ N = [CR3]) (H := []) (i := 2) rfl hI (fun _ e l5 nl5 hI => by subst e; exact (((slices_Clone_calls a0.f1 Aa0_f1 ca0_f1 (Ha0_f1.rdN l5 nl5) t1 ht2 hI)).mono fun _ _ hr => by obtain ⟨_, _, _, rfl, hd, hI⟩ := hr; obtain ⟨AR3, cR3, CR3, rfl, HR3, rfl, rfl⟩ := hd; exact ⟨_, _, _, rfl, ⟨[CR3], ⟨AR3, cR3, CR3, rfl, (HR3.flat (kInt_flat _)), rfl⟩, rfl, rfl⟩, hI⟩))).mono fun _ _ hr => by obtain ⟨_, _, _, rfl, ⟨_, hd, rfl, rfl⟩, hI⟩ := hr; obtain ⟨AR3, cR3, CR3, rfl, HR3, rfl⟩ := hd; exact ⟨_, _, _, rfl, ⟨AR3, cR3, CR3, rfl, HR3, rfl, rfl⟩, hI⟩)) ?_
  rintro _ _ _ ⟨AR3, cR3, CR3, rfl, HR3, rfl, rfl⟩
  refine WL.restQ 5 [2] (L' := [(2, .slice AR3 t1.length cR3)]) (by kernel_rfl) ?_
  refine WP.ret ?_
  obtain rfl := Option.some.inj h
  exact QP.returned [2] [.slice AR3 t1.length cR3] _ (by kernel_rfl) (by kernel_rfl) (by kernel_rfl) (fun W hI => ⟨_, _, _, rfl, ⟨AR3, cR3, CR3, rfl, HR3, rfl, rfl⟩, hI⟩)

/-! ### (*grapevine/state.State).V: function 8 -/
def state_State_V_30 (a0 : T59) : Option (List Int) := ((slices_Clone a0.f0).bind fun t1 => some t1)
set_option maxHeartbeats 4000000 in
theorem state_State_V_30_calls {B : World} {G : GMap} {Γ : List Chunk} {W : World} (a0 : T59) (b0 : Nat) (Aa0_f0 : Option Addr) (ca0_f0 : Nat) (Ca0_f0 : Chunk) (Ha0_f0 : Ow (kInt .i64) G Aa0_f0 ca0_f0 a0.f0 Ca0_f0) (Aa0_f1 : Option Addr) (ca0_f1 : Nat) (Ca0_f1 : Chunk) (Ha0_f1 : Ow (kInt .i64) G Aa0_f1 ca0_f1 a0.f1 Ca0_f1) (Aa0_f2 : Option Addr) (ca0_f2 : Nat) (Ca0_f2 : Chunk) (Ha0_f2 : MpF m57 G Aa0_f2 ca0_f2 a0.f2 Ca0_f2) (r : List Int) (h : state_State_V_30 a0 = some r) (hI : Inv B G ([(b0, .cells #[.slice Aa0_f0 a0.f0.length ca0_f0, .slice Aa0_f1 a0.f1.length ca0_f1, mpv Aa0_f2] 59 (0, 0))] :: Ca0_f0 :: Ca0_f1 :: Ca0_f2 :: Γ) W) :
    Calls Tryz.prog 8 [.pointer (some ⟨b0, 0, none⟩)].toArray W (Ret B (fun v G' Γ' => ∃ (AR : Option Addr), ∃ (cR : Nat), ∃ (CR : Chunk), v = .slice AR r.length cR ∧ Ow (kInt .i64) G' AR cR r CR ∧ G = G' ∧ CR :: [(b0, .cells #[.slice Aa0_f0 a0.f0.length ca0_f0, .slice Aa0_f1 a0.f1.length ca0_f1, mpv Aa0_f2] 59 (0, 0))] :: Ca0_f0 :: Ca0_f1 :: Ca0_f2 :: Γ = Γ')) := by
  refine calls_WP (Γ := [(b0, .cells #[.slice Aa0_f0 a0.f0.length ca0_f0, .slice Aa0_f1 a0.f1.length ca0_f1, mpv Aa0_f2] 59 (0, 0))] :: Ca0_f0 :: Ca0_f1 :: Ca0_f2 :: Γ) (G := G) (B := B) Tryz.func8 rfl (by kernel_rfl) ?_ hI
  clear hI
  unfold state_State_V_30 at h
  refine WP.seqP [0] (L' := [(0, .pointer (some ⟨b0, 0, none⟩))]) (by kernel_rfl) ?_
  refine WP.seq ?_
  refine WP.seqP [0, 4] (L' := [(0, .pointer (some ⟨b0, 0, none⟩)), (4, .bool false)]) (by kernel_rfl) ?_
  refine WP.no (by kernel_rfl) ?_
  refine WP.skip ?_
  refine QP.next ?_
  refine WP.pick [0] ?_
  refine WP.seqR ?_
  refine WL.pure 0 3 [7] (L' := [(7, .pointer (some ⟨b0, 0, none⟩))]) (by kernel_rfl) (by decide) ?_
  refine WL.tell (op := .load 25 (.tmp 7)) (ty := 25) (d := some 8) (g := none) (by kernel_rfl) (by kernel_rfl) (by kernel_rfl) (Tells.load_box (i := 0) (b := b0) (o := 0) (agg := false) (by rfl) ag25 (by kernel_rfl) (fun _ => rfl) (Nat.le_of_ble_eq_true rfl) (v := .slice Aa0_f0 a0.f0.length ca0_f0) (by kernel_rfl)) ?_
  rw [Option.bind_eq_some_iff] at h
  obtain ⟨t1, ht2, h⟩ := h
  refine WL.op (op := .call { callee := (.value (.func 21)), args := #[(.tmp 8)], argTypes := #[25] }) (ty := 25) (d := some 9) (g := none) (by kernel_rfl) (by kernel_rfl) (by kernel_rfl) (Does.call (Φ := fun v' G' Γ' => ∃ (AR3 : Option Addr), ∃ (cR3 : Nat), ∃ (CR3 : Chunk), v' = .slice AR3 t1.length cR3 ∧ Ow (kInt .i64) G AR3 cR3 t1 CR3 ∧ G = G' ∧ CR3 :: [(b0, .cells #[.slice Aa0_f0 a0.f0.length ca0_f0, .slice Aa0_f1 a0.f1.length ca0_f1, mpv Aa0_f2] 59 (0, 0))] :: Ca0_f0 :: Ca0_f1 :: Ca0_f2 :: Γ = Γ') (f := 21) (args := [.slice Aa0_f0 a0.f0.length ca0_f0]) (by kernel_rfl) (fun W hI => (Calls.lendN (Φ := fun v' N => ∃ (AR3 : Option Addr), ∃ (cR3 : Nat), ∃ (CR3 : Chunk), v' = .slice AR3 t1.length cR3 ∧ Ow (kInt .i64) G AR3 cR3 t1 CR3 ∧ N = [CR3]) (H := []) (i := 1) rfl hI (fun _ e l5 nl5 hI => by subst e; exact (((slices_Clone_calls a0.f0 Aa0_f0 ca0_f0 (Ha0_f0.rdN l5 nl5) t1 ht2 hI)).mono fun _ _ hr => by obtain ⟨_, _, _, rfl, hd, hI⟩ := hr; obtain ⟨AR3, cR3, CR3, rfl, HR3, rfl, rfl⟩ := hd; exact ⟨_, _, _, rfl, ⟨[CR3], ⟨AR3, cR3, CR3, rfl, (HR3.flat (kInt_flat _)), rfl⟩, rfl, rfl⟩, hI⟩))).mono fun _ _ hr => by obtain ⟨_, _, _, rfl, ⟨_, hd, rfl, rfl⟩, hI⟩ := hr; obtain ⟨AR3, cR3, CR3, rfl, HR3, rfl⟩ := hd; exact ⟨_, _, _, rfl, ⟨AR3, cR3, CR3, rfl, HR3, rfl, rfl⟩, hI⟩)) ?_
  rintro _ _ _ ⟨AR3, cR3, CR3, rfl, HR3, rfl, rfl⟩
  refine WL.restQ 5 [2] (L' := [(2, .slice AR3 t1.length cR3)]) (by kernel_rfl) ?_
  refine WP.ret ?_
  obtain rfl := Option.some.inj h
  exact QP.returned [2] [.slice AR3 t1.length cR3] _ (by kernel_rfl) (by kernel_rfl) (by kernel_rfl) (fun W hI => ⟨_, _, _, rfl, ⟨AR3, cR3, CR3, rfl, HR3, rfl, rfl⟩, hI⟩)

/-! ### (*grapevine/state.State).above: function 22 -/
def state_State_above_29_l1 (a0 : T59) (t9 : List T87) (y18 : Int) : Nat → (List T38) → Int → Option (List T38)
  | 0, _, _ => none
  | k + 1, y26, y27 => (if y27 < ((t9.getD y18.toNat z87).f2) then (if y26.length + ([((a0.f2 (⟨(t9.getD y18.toNat z87).f0, IntKind.i64.wrap (((t9.getD y18.toNat z87).f1) + y27)⟩ : T34)).getD z38)] : List T38).length ≤ 1073741824 then state_State_above_29_l1 a0 t9 y18 k (y26 ++ ([((a0.f2 (⟨(t9.getD y18.toNat z87).f0, IntKind.i64.wrap (((t9.getD y18.toNat z87).f1) + y27)⟩ : T34)).getD z38)] : List T38)) (IntKind.i64.wrap (y27 + 1)) else none) else some y26)
def state_State_above_29_l0 (a0 : T59) (t9 : List T87) : Nat → (List T38) → Int → Option (List T38)
  | 0, _, _ => none
  | k + 1, y17, y18 => (if y18 < (t9.length : Int) then (if 0 ≤ y18 ∧ y18 < (t9.length : Int) then ((state_State_above_29_l1 a0 t9 y18 k y17 0).bind fun s24 => state_State_above_29_l0 a0 t9 k s24 (IntKind.i64.wrap (y18 + 1))) else none) else some y17)
def state_State_above_29 (k : Nat) (a0 : T59) (l1 : List Int) : Option (List T38) := ((state_State_V_30 a0).bind fun t1 => ((state_State_W_27 a0).bind fun t5 => ((vector_Lack k t1 l1 t5).bind fun t9 => ((state_State_above_29_l0 a0 t9 k ([] : List T38) 0).bind fun s15 => some s15))))
set_option maxHeartbeats 4000000 in
theorem state_State_above_29_calls {B : World} {G : GMap} {Γ : List Chunk} {W : World} (k : Nat) (a0 : T59) (l1 : List Int) (b0 : Nat) (Aa0_f0 : Option Addr) (ca0_f0 : Nat) (Ca0_f0 : Chunk) (Ha0_f0 : Ow (kInt .i64) G Aa0_f0 ca0_f0 a0.f0 Ca0_f0) (Aa0_f1 : Option Addr) (ca0_f1 : Nat) (Ca0_f1 : Chunk) (Ha0_f1 : Ow (kInt .i64) G Aa0_f1 ca0_f1 a0.f1 Ca0_f1) (Aa0_f2 : Option Addr) (ca0_f2 : Nat) (Ca0_f2 : Chunk) (Ha0_f2 : MpF m57 G Aa0_f2 ca0_f2 a0.f2 Ca0_f2) (Al1 : Option Addr) (cl1 : Nat) (Hl1 : Rd (kInt .i64) G Al1 cl1 l1) (r : List T38) (h : state_State_above_29 k a0 l1 = some r) (hI : Inv B G ([(b0, .cells #[.slice Aa0_f0 a0.f0.length ca0_f0, .slice Aa0_f1 a0.f1.length ca0_f1, mpv Aa0_f2] 59 (0, 0))] :: Ca0_f0 :: Ca0_f1 :: Ca0_f2 :: Γ) W) :
    Calls Tryz.prog 22 [.pointer (some ⟨b0, 0, none⟩), .slice Al1 l1.length cl1].toArray W (Ret B (fun v G' Γ' => ∃ (AR : Option Addr), ∃ (cR : Nat), ∃ (CR : Chunk), v = .slice AR r.length cR ∧ Ow k38 G' AR cR r CR ∧ G = G' ∧ CR :: [(b0, .cells #[.slice Aa0_f0 a0.f0.length ca0_f0, .slice Aa0_f1 a0.f1.length ca0_f1, mpv Aa0_f2] 59 (0, 0))] :: Ca0_f0 :: Ca0_f1 :: Ca0_f2 :: Γ = Γ')) := by
  refine calls_WP (Γ := [(b0, .cells #[.slice Aa0_f0 a0.f0.length ca0_f0, .slice Aa0_f1 a0.f1.length ca0_f1, mpv Aa0_f2] 59 (0, 0))] :: Ca0_f0 :: Ca0_f1 :: Ca0_f2 :: Γ) (G := G) (B := B) Tryz.func22 rfl (by kernel_rfl) ?_ hI
  clear hI
  unfold state_State_above_29 at h
  refine WP.seqP [0, 1] (L' := [(0, .pointer (some ⟨b0, 0, none⟩)), (1, .slice Al1 l1.length cl1)]) (by kernel_rfl) ?_
  refine WP.seqP [0, 1, 5] (L' := [(0, .pointer (some ⟨b0, 0, none⟩)), (1, .slice Al1 l1.length cl1), (5, .slice none 0 0)]) (by kernel_rfl) ?_
  refine WP.seq ?_
  refine WP.seqR ?_
  refine WL.pure 0 1 [0, 1, 5, 9] (L' := [(0, .pointer (some ⟨b0, 0, none⟩)), (1, .slice Al1 l1.length cl1), (5, .slice none 0 0), (9, .pointer (some ⟨b0, 0, none⟩))]) (by kernel_rfl) (by decide) ?_
  rw [Option.bind_eq_some_iff] at h
  obtain ⟨t1, ht2, h⟩ := h
  refine WL.op (op := .call { callee := (.value (.func 8)), args := #[(.tmp 9)], argTypes := #[22] }) (ty := 25) (d := some 10) (g := none) (by kernel_rfl) (by kernel_rfl) (by kernel_rfl) (Does.call (f := 8) (args := [.pointer (some ⟨b0, 0, none⟩)]) (by kernel_rfl) (fun W hI => (state_State_V_30_calls a0 b0 Aa0_f0 ca0_f0 Ca0_f0 Ha0_f0 Aa0_f1 ca0_f1 Ca0_f1 Ha0_f1 Aa0_f2 ca0_f2 Ca0_f2 Ha0_f2 t1 ht2 hI))) ?_
  rintro _ _ _ ⟨AR3, cR3, CR3, rfl, HR3, rfl, rfl⟩
  refine WL.pure 2 4 [0, 5, 10, 11, 12] (L' := [(0, .pointer (some ⟨b0, 0, none⟩)), (5, .slice none 0 0), (10, .slice AR3 t1.length cR3), (11, .slice Al1 l1.length cl1), (12, .pointer (some ⟨b0, 0, none⟩))]) (by kernel_rfl) (by decide) ?_
  refine WL.reperm (Γ' := [(b0, .cells #[.slice Aa0_f0 a0.f0.length ca0_f0, .slice Aa0_f1 a0.f1.length ca0_f1, mpv Aa0_f2] 59 (0, 0))] :: Ca0_f0 :: Ca0_f1 :: Ca0_f2 :: CR3 :: Γ) (perm_sel [1, 2, 3, 4, 0] (by kernel_rfl) rfl) ?_
  rw [Option.bind_eq_some_iff] at h
  obtain ⟨t5, ht6, h⟩ := h
  refine WL.op (op := .call { callee := (.value (.func 9)), args := #[(.tmp 12)], argTypes := #[22] }) (ty := 25) (d := some 13) (g := none) (by kernel_rfl) (by kernel_rfl) (by kernel_rfl) (Does.call (f := 9) (args := [.pointer (some ⟨b0, 0, none⟩)]) (by kernel_rfl) (fun W hI => (state_State_W_27_calls a0 b0 Aa0_f0 ca0_f0 Ca0_f0 Ha0_f0 Aa0_f1 ca0_f1 Ca0_f1 Ha0_f1 Aa0_f2 ca0_f2 Ca0_f2 Ha0_f2 t5 ht6 hI))) ?_
  rintro _ _ _ ⟨AR7, cR7, CR7, rfl, HR7, rfl, rfl⟩
  rw [Option.bind_eq_some_iff] at h
  obtain ⟨t9, ht10, h⟩ := h
  refine WL.op (op := .call { callee := (.value (.func 45)), args := #[(.tmp 10), (.tmp 11), (.tmp 13)], argTypes := #[25, 25, 25] }) (ty := 84) (d := some 14) (g := none) (by kernel_rfl) (by kernel_rfl) (by kernel_rfl) (Does.call (Φ := fun v' G' Γ' => ∃ (AR11 : Option Addr), ∃ (cR11 : Nat), ∃ (CR11 : Chunk), v' = .slice AR11 t9.length cR11 ∧ Ow k87 G AR11 cR11 t9 CR11 ∧ G = G' ∧ CR11 :: CR7 :: [(b0, .cells #[.slice Aa0_f0 a0.f0.length ca0_f0, .slice Aa0_f1 a0.f1.length ca0_f1, mpv Aa0_f2] 59 (0, 0))] :: Ca0_f0 :: Ca0_f1 :: Ca0_f2 :: CR3 :: Γ = Γ') (f := 45) (args := [.slice AR3 t1.length cR3, .slice Al1 l1.length cl1, .slice AR7 t5.length cR7]) (by kernel_rfl) (fun W hI => (Calls.lendN (Φ := fun v' N => ∃ (AR11 : Option Addr), ∃ (cR11 : Nat), ∃ (CR11 : Chunk), v' = .slice AR11 t9.length cR11 ∧ Ow k87 G AR11 cR11 t9 CR11 ∧ N = [CR11]) (H := []) (i := 5) rfl hI (fun _ e l13 nl13 hI => by subst e; exact Calls.lendN (Φ := fun v' N => ∃ (AR11 : Option Addr), ∃ (cR11 : Nat), ∃ (CR11 : Chunk), v' = .slice AR11 t9.length cR11 ∧ Ow k87 G AR11 cR11 t9 CR11 ∧ N = [CR11]) (H := []) (i := 0) rfl hI (fun _ e l14 nl14 hI => by subst e; exact (((vector_Lack_calls k t1 l1 t5 AR3 cR3 ((HR3.rdN l13 nl13).mono l14) Al1 cl1 ((Hl1.mono l13).mono l14) AR7 cR7 ((HR7.mono l13).rdN l14 nl14) t9 ht10 hI)).mono fun _ _ hr => by obtain ⟨_, _, _, rfl, hd, hI⟩ := hr; obtain ⟨AR11, cR11, CR11, rfl, HR11, rfl, rfl⟩ := hd; exact ⟨_, _, _, rfl, ⟨[CR11], ⟨AR11, cR11, CR11, rfl, (HR11.flat (kFlat_flat _ _ _ _)), rfl⟩, rfl, rfl⟩, hI⟩)))).mono fun _ _ hr => by obtain ⟨_, _, _, rfl, ⟨_, hd, rfl, rfl⟩, hI⟩ := hr; obtain ⟨AR11, cR11, CR11, rfl, HR11, rfl⟩ := hd; exact ⟨_, _, _, rfl, ⟨AR11, cR11, CR11, rfl, HR11, rfl, rfl⟩, hI⟩)) ?_
  rintro _ _ _ ⟨AR11, cR11, CR11, rfl, HR11, rfl, rfl⟩
  refine WL.restQ 6 [0, 5, 14, 15, 16] (L' := [(0, .pointer (some ⟨b0, 0, none⟩)), (5, .slice none 0 0), (14, .slice AR11 t9.length cR11), (15, .int .i64 (t9.length : Int)), (16, .int .i64 0)]) (by kernel_rfl) ?_
  refine WP.dropAt 6 ?_
  refine WP.dropAt 1 ?_
  rw [Option.bind_eq_some_iff] at h
  obtain ⟨os15, h, hk16⟩ := h
  refine WP.cutQ (fun L' G' Γ' => ∃ s15 : (List T38), s15 = os15 ∧ ∃ (As15 : Option Addr), ∃ (cs15 : Nat), ∃ (Cs15 : Chunk), L' = [(5, .slice As15 s15.length cs15)] ∧ G = G' ∧ Cs15 :: [(b0, .cells #[.slice Aa0_f0 a0.f0.length ca0_f0, .slice Aa0_f1 a0.f1.length ca0_f1, mpv Aa0_f2] 59 (0, 0))] :: Ca0_f0 :: Ca0_f1 :: Ca0_f2 :: Γ = Γ' ∧ Ow k38 G As15 cs15 s15 Cs15) ?_ ?_
  · clear hk16
    refine WP.block ?_
    refine WP.addNil ?_
    refine WP.pick [0, 5, 14, 15, 16] ?_
    refine WP.loopF (fun kn19 L' G' Γ' => ∃ (y17 : List T38), ∃ (y18 : Int), state_State_above_29_l0 a0 t9 kn19 y17 y18 = some os15 ∧ ∃ (Ay17 : Option Addr), ∃ (cy17 : Nat), ∃ (Cy17 : Chunk), L' = [(0, .pointer (some ⟨b0, 0, none⟩)), (5, .slice Ay17 y17.length cy17), (14, .slice AR11 t9.length cR11), (15, .int .i64 (t9.length : Int)), (16, .int .i64 y18)] ∧ G = G' ∧ Cy17 :: CR11 :: [(b0, .cells #[.slice Aa0_f0 a0.f0.length ca0_f0, .slice Aa0_f1 a0.f1.length ca0_f1, mpv Aa0_f2] 59 (0, 0))] :: Ca0_f0 :: Ca0_f1 :: Ca0_f2 :: Γ = Γ' ∧ Ow k38 G Ay17 cy17 y17 Cy17) ?_ k ⟨([] : List T38), 0, h, none, 0, [], rfl, rfl, rfl, (Ow.nil k38 _)⟩
    clear h
    rintro kn20 _ _ _ ⟨y17, y18, h, Ay17, cy17, Cy17, rfl, rfl, rfl, Hy17⟩
    cases kn20 with
    | zero => exact absurd h (by simp [state_State_above_29_l0])
    | succ kn20 =>
      simp only [state_State_above_29_l0] at h
      refine WP.seqP [0, 5, 14, 15, 16, 17] (L' := [(0, .pointer (some ⟨b0, 0, none⟩)), (5, .slice Ay17 y17.length cy17), (14, .slice AR11 t9.length cR11), (15, .int .i64 (t9.length : Int)), (16, .int .i64 y18), (17, .bool (decide (y18 < (t9.length : Int))))]) (by kernel_rfl) ?_
      refine WP.seq ?_
      refine WP.cond (b := decide (y18 < (t9.length : Int))) (by kernel_rfl) (fun hc => ?_) (fun hc => ?_)
      · replace hc := of_decide_eq_true hc
        rw [if_pos hc] at h
        have hc21 := hc
        clear hc
        refine WP.skip ?_
        refine QP.next ?_
        refine WP.pick [0, 5, 14, 15, 16] ?_
        refine WP.seq ?_
        refine WP.block ?_
        refine WP.seqR ?_
        by_cases hb22 : 0 ≤ y18 ∧ y18 < (t9.length : Int)
        case neg => rw [if_neg hb22] at h; cases h
        rw [if_pos hb22] at h
        refine WL.tell (op := .indexAddr 84 (.tmp 14) (.tmp 16)) (ty := 0) (d := some 18) (g := none) (by kernel_rfl) (by kernel_rfl) (by kernel_rfl) (Tells.indexAddr (A := AR11) (n := t9.length) (c := cR11) (k := .i64) (j := y18) (by kernel_rfl) (by kernel_rfl) (HR11.isSome hb22.1 hb22.2) hb22.1 hb22.2 sl84) ?_
        refine WL.tellE (op := .load 87 (.tmp 18)) (ty := 87) (d := some 19) (g := none) (by kernel_rfl) (by kernel_rfl) (by kernel_rfl) (HR11.load (i := 1) rfl (agg := true) hb22.1 hb22.2 z87 ag87 (fun h => by cases h) (by kernel_rfl)) ?_
        rintro _ rfl
        refine WL.op (op := .alloc 87) (ty := 0) (d := some 7) (g := none) (by kernel_rfl) (by kernel_rfl) (by kernel_rfl) (Does.new (o := .cells #[.int .i64 0, .int .i64 0, .int .i64 0] 87 (0, 0)) (v := fun r => .pointer (some ⟨r, 0, none⟩)) (fun r => by kernel_rfl)) ?_
        rintro _ _ _ ⟨b23, rfl, rfl, rfl⟩
        refine WL.op (op := .store 87 (.tmp 7) (.tmp 19)) (ty := 0) (d := none) (g := none) (by kernel_rfl) (by kernel_rfl) (by kernel_rfl) (Does.store_box (i := 0) (b := b23) (o := 0) (v := .agg #[.int .i64 ((t9.getD y18.toNat z87).f0), .int .i64 ((t9.getD y18.toNat z87).f1), .int .i64 ((t9.getD y18.toNat z87).f2)]) (by rfl) sz87 (by kernel_rfl) (by kernel_rfl) (by kernel_rfl) (Free.zero _) (Nat.le_of_ble_eq_true rfl) (cells' := #[.int .i64 ((t9.getD y18.toNat z87).f0), .int .i64 ((t9.getD y18.toNat z87).f1), .int .i64 ((t9.getD y18.toNat z87).f2)]) (by kernel_rfl)) ?_
        rintro _ _ _ ⟨rfl, rfl, rfl⟩
        refine WL.restQ 4 [0, 5, 7, 14, 15, 16] (L' := [(0, .pointer (some ⟨b0, 0, none⟩)), (5, .slice Ay17 y17.length cy17), (7, .pointer (some ⟨b23, 0, none⟩)), (14, .slice AR11 t9.length cR11), (15, .int .i64 (t9.length : Int)), (16, .int .i64 y18)]) (by kernel_rfl) ?_
        refine WP.seqR ?_
        refine WL.pure 0 1 [0, 5, 7, 14, 15, 16, 20] (L' := [(0, .pointer (some ⟨b0, 0, none⟩)), (5, .slice Ay17 y17.length cy17), (7, .pointer (some ⟨b23, 0, none⟩)), (14, .slice AR11 t9.length cR11), (15, .int .i64 (t9.length : Int)), (16, .int .i64 y18), (20, .pointer (some ⟨b23, 2, none⟩))]) (by kernel_rfl) (by decide) ?_
        refine WL.tell (op := .load 3 (.tmp 20)) (ty := 3) (d := some 21) (g := none) (by kernel_rfl) (by kernel_rfl) (by kernel_rfl) (Tells.load_box (i := 0) (b := b23) (o := 2) (agg := false) (by rfl) ag3 (by kernel_rfl) (fun _ => rfl) (Nat.le_of_ble_eq_true rfl) (v := .int .i64 ((t9.getD y18.toNat z87).f2)) (by kernel_rfl)) ?_
        refine WL.restQ 2 [0, 5, 7, 14, 15, 16, 21, 22] (L' := [(0, .pointer (some ⟨b0, 0, none⟩)), (5, .slice Ay17 y17.length cy17), (7, .pointer (some ⟨b23, 0, none⟩)), (14, .slice AR11 t9.length cR11), (15, .int .i64 (t9.length : Int)), (16, .int .i64 y18), (21, .int .i64 ((t9.getD y18.toNat z87).f2)), (22, .int .i64 0)]) (by kernel_rfl) ?_
        rw [Option.bind_eq_some_iff] at h
        obtain ⟨os24, h, hk25⟩ := h
        refine WP.cutQ (fun L' G' Γ' => ∃ s24 : (List T38), s24 = os24 ∧ ∃ (As24 : Option Addr), ∃ (cs24 : Nat), ∃ (Cs24 : Chunk), L' = [(0, .pointer (some ⟨b0, 0, none⟩)), (5, .slice As24 s24.length cs24), (14, .slice AR11 t9.length cR11), (15, .int .i64 (t9.length : Int)), (16, .int .i64 y18)] ∧ G = G' ∧ Cs24 :: CR11 :: [(b0, .cells #[.slice Aa0_f0 a0.f0.length ca0_f0, .slice Aa0_f1 a0.f1.length ca0_f1, mpv Aa0_f2] 59 (0, 0))] :: Ca0_f0 :: Ca0_f1 :: Ca0_f2 :: Γ = Γ' ∧ Ow k38 G As24 cs24 s24 Cs24) ?_ ?_
        · clear hk25
          refine WP.block ?_
          refine WP.pick [0, 5, 7, 14, 15, 16, 21, 22] ?_
          refine WP.loopF (fun kn28 L' G' Γ' => ∃ (y26 : List T38), ∃ (y27 : Int), state_State_above_29_l1 a0 t9 y18 kn28 y26 y27 = some os24 ∧ ∃ (Ay26 : Option Addr), ∃ (cy26 : Nat), ∃ (Cy26 : Chunk), L' = [(0, .pointer (some ⟨b0, 0, none⟩)), (5, .slice Ay26 y26.length cy26), (7, .pointer (some ⟨b23, 0, none⟩)), (14, .slice AR11 t9.length cR11), (15, .int .i64 (t9.length : Int)), (16, .int .i64 y18), (21, .int .i64 ((t9.getD y18.toNat z87).f2)), (22, .int .i64 y27)] ∧ G = G' ∧ [(b23, .cells #[.int .i64 ((t9.getD y18.toNat z87).f0), .int .i64 ((t9.getD y18.toNat z87).f1), .int .i64 ((t9.getD y18.toNat z87).f2)] 87 (0, 0))] :: Cy26 :: CR11 :: [(b0, .cells #[.slice Aa0_f0 a0.f0.length ca0_f0, .slice Aa0_f1 a0.f1.length ca0_f1, mpv Aa0_f2] 59 (0, 0))] :: Ca0_f0 :: Ca0_f1 :: Ca0_f2 :: Γ = Γ' ∧ Ow k38 G Ay26 cy26 y26 Cy26) ?_ kn20 ⟨y17, 0, h, Ay17, cy17, Cy17, rfl, rfl, rfl, Hy17⟩
          clear h
          rintro kn29 _ _ _ ⟨y26, y27, h, Ay26, cy26, Cy26, rfl, rfl, rfl, Hy26⟩
          cases kn29 with
          | zero => exact absurd h (by simp [state_State_above_29_l1])
          | succ kn29 =>
            simp only [state_State_above_29_l1] at h
            refine WP.seqP [0, 5, 7, 14, 15, 16, 21, 22, 23] (L' := [(0, .pointer (some ⟨b0, 0, none⟩)), (5, .slice Ay26 y26.length cy26), (7, .pointer (some ⟨b23, 0, none⟩)), (14, .slice AR11 t9.length cR11), (15, .int .i64 (t9.length : Int)), (16, .int .i64 y18), (21, .int .i64 ((t9.getD y18.toNat z87).f2)), (22, .int .i64 y27), (23, .bool (decide (y27 < ((t9.getD y18.toNat z87).f2))))]) (by kernel_rfl) ?_
            refine WP.seq ?_
            refine WP.cond (b := decide (y27 < ((t9.getD y18.toNat z87).f2))) (by kernel_rfl) (fun hc => ?_) (fun hc => ?_)
            · replace hc := of_decide_eq_true hc
              rw [if_pos hc] at h
              have hc30 := hc
              clear hc
              refine WP.skip ?_
              refine QP.next ?_
              refine WP.pick [0, 5, 7, 14, 15, 16, 21, 22] ?_
              refine WP.seq ?_
              refine WP.block ?_
              refine WP.seqP [0, 5, 7, 8, 14, 15, 16, 21, 22] (L' := [(0, .pointer (some ⟨b0, 0, none⟩)), (5, .slice Ay26 y26.length cy26), (7, .pointer (some ⟨b23, 0, none⟩)), (8, .int .i64 y27), (14, .slice AR11 t9.length cR11), (15, .int .i64 (t9.length : Int)), (16, .int .i64 y18), (21, .int .i64 ((t9.getD y18.toNat z87).f2)), (22, .int .i64 y27)]) (by kernel_rfl) ?_
              skip
              refine WP.any (N := 16) (S := [⟨some 25, [5], []⟩, ⟨some 26, [0], []⟩, ⟨some 27, [26], [1]⟩, ⟨some 28, [27], [2]⟩, ⟨some 29, [28], [3]⟩, ⟨some 30, [7], []⟩, ⟨some 31, [30], [5]⟩, ⟨some 32, [7], []⟩, ⟨some 33, [32], [7]⟩, ⟨some 34, [8], []⟩, ⟨some 35, [33, 34], [8, 9]⟩, ⟨some 36, [31, 35], [6, 10]⟩, ⟨some 37, [29, 36], [4, 11]⟩, ⟨some 38, [37], [12]⟩, ⟨some 39, [25, 38], [0, 13]⟩, ⟨some 5, [39], [0, 1, 2, 3, 4, 5, 6, 7, 8, 9, 10, 11, 12, 13, 14]⟩]) (kw := 14) (G0 := G) (Γ0 := [(b23, .cells #[.int .i64 ((t9.getD y18.toNat z87).f0), .int .i64 ((t9.getD y18.toNat z87).f1), .int .i64 ((t9.getD y18.toNat z87).f2)] 87 (0, 0))] :: Cy26 :: CR11 :: [(b0, .cells #[.slice Aa0_f0 a0.f0.length ca0_f0, .slice Aa0_f1 a0.f1.length ca0_f1, mpv Aa0_f2] 59 (0, 0))] :: Ca0_f0 :: Ca0_f1 :: Ca0_f2 :: Γ) mo (by kernel_rfl) (fun hS => ?_)
              refine WA.pure [0, 1, 2, 3, 5, 7, 9] [0, 5, 7, 14, 15, 16, 21, 22, 25, 28, 30, 32, 34] (m := 9) (b' := 687) (L' := [(0, .pointer (some ⟨b0, 0, none⟩)), (5, .slice Ay26 y26.length cy26), (7, .pointer (some ⟨b23, 0, none⟩)), (14, .slice AR11 t9.length cR11), (15, .int .i64 (t9.length : Int)), (16, .int .i64 y18), (21, .int .i64 ((t9.getD y18.toNat z87).f2)), (22, .int .i64 y27), (25, .slice Ay26 y26.length cy26), (28, .pointer (some ⟨b0, 2, none⟩)), (30, .pointer (some ⟨b23, 0, none⟩)), (32, .pointer (some ⟨b23, 1, none⟩)), (34, .int .i64 y27)]) (by kernel_rfl) (NoPanic.block (NoPanic.then (NoPanic.then (NoPanic.block (NoPanic.then (NoPanic.block (NoPanic.then (NoPanic.then (NoPanic.block (NoPanic.then (NoPanic.then (NoPanic.body)))))))))))) Under.refl hS (by kernel_rfl) ?_
              refine WA.tellD [14, 13, 12] (i := 4) (m := 8) (b' := 703) (by kernel_rfl) (NoPanic.block (NoPanic.then (NoPanic.then (NoPanic.block (NoPanic.then (NoPanic.block (NoPanic.then (NoPanic.then (NoPanic.block (NoPanic.then (NoPanic.then (NoPanic.body)))))))))))) Under.refl hS (by kernel_rfl) (op := .load 57 (.tmp 28)) (ty := 57) (d := some 29) (g := none) (by kernel_rfl) (by kernel_rfl) (by kernel_rfl) (Tells.load_box (i := 3) (b := b0) (o := 2) (agg := false) (by rfl) ag57 (by kernel_rfl) (fun _ => rfl) (Nat.le_of_ble_eq_true rfl) (v := mpv Aa0_f2) (by kernel_rfl)) ?_
              refine WA.tellD [14, 13, 12, 11] (i := 6) (m := 7) (b' := 767) (by kernel_rfl) (NoPanic.block (NoPanic.then (NoPanic.then (NoPanic.block (NoPanic.then (NoPanic.block (NoPanic.then (NoPanic.then (NoPanic.block (NoPanic.then (NoPanic.then (NoPanic.body)))))))))))) Under.refl hS (by kernel_rfl) (op := .load 3 (.tmp 30)) (ty := 3) (d := some 31) (g := none) (by kernel_rfl) (by kernel_rfl) (by kernel_rfl) (Tells.load_box (i := 0) (b := b23) (o := 0) (agg := false) (by rfl) ag3 (by kernel_rfl) (fun _ => rfl) (Nat.le_of_ble_eq_true rfl) (v := .int .i64 ((t9.getD y18.toNat z87).f0)) (by kernel_rfl)) ?_
              refine WA.tellD [14, 13, 12, 11, 10] (i := 8) (m := 6) (b' := 1023) (by kernel_rfl) (NoPanic.block (NoPanic.then (NoPanic.then (NoPanic.block (NoPanic.then (NoPanic.block (NoPanic.then (NoPanic.then (NoPanic.block (NoPanic.then (NoPanic.then (NoPanic.body)))))))))))) Under.refl hS (by kernel_rfl) (op := .load 3 (.tmp 32)) (ty := 3) (d := some 33) (g := none) (by kernel_rfl) (by kernel_rfl) (by kernel_rfl) (Tells.load_box (i := 0) (b := b23) (o := 1) (agg := false) (by rfl) ag3 (by kernel_rfl) (fun _ => rfl) (Nat.le_of_ble_eq_true rfl) (v := .int .i64 ((t9.getD y18.toNat z87).f1)) (by kernel_rfl)) ?_
              refine WA.pure [10, 11] [0, 5, 7, 14, 15, 16, 21, 22, 25, 29, 36] (m := 4) (b' := 4095) (L' := [(0, .pointer (some ⟨b0, 0, none⟩)), (5, .slice Ay26 y26.length cy26), (7, .pointer (some ⟨b23, 0, none⟩)), (14, .slice AR11 t9.length cR11), (15, .int .i64 (t9.length : Int)), (16, .int .i64 y18), (21, .int .i64 ((t9.getD y18.toNat z87).f2)), (22, .int .i64 y27), (25, .slice Ay26 y26.length cy26), (29, mpv Aa0_f2), (36, .agg #[.int .i64 ((t9.getD y18.toNat z87).f0), .int .i64 (IntKind.i64.wrap (((t9.getD y18.toNat z87).f1) + y27))])]) (by kernel_rfl) (NoPanic.block (NoPanic.then (NoPanic.then (NoPanic.block (NoPanic.then (NoPanic.block (NoPanic.then (NoPanic.then (NoPanic.block (NoPanic.then (NoPanic.then (NoPanic.body)))))))))))) Under.refl hS (by kernel_rfl) ?_
              refine WA.tellD [14, 13] (i := 12) (m := 3) (b' := 8191) (by kernel_rfl) (NoPanic.block (NoPanic.then (NoPanic.then (NoPanic.block (NoPanic.then (NoPanic.block (NoPanic.then (NoPanic.then (NoPanic.block (NoPanic.then (NoPanic.then (NoPanic.body)))))))))))) Under.refl hS (by kernel_rfl) (op := .lookup 57 (.tmp 29) (.tmp 36) false) (ty := 38) (d := some 37) (g := none) (by kernel_rfl) (by kernel_rfl) (by kernel_rfl) (Tells.lookupF mt57 ko57 Ha0_f2 (i := 6) rfl (a := (⟨(t9.getD y18.toNat z87).f0, IntKind.i64.wrap (((t9.getD y18.toNat z87).f1) + y27)⟩ : T34)) (z := z38) (by kernel_rfl) (by kernel_rfl) mz57) ?_
              refine WA.op (i := 13) (m := 2) (b' := 16383) (by kernel_rfl) hS (by kernel_rfl) (op := .buildSlice 24 1 #[(0, (.tmp 37))]) (ty := 24) (d := some 38) (g := none) (by kernel_rfl) (by kernel_rfl) (by kernel_rfl) (Does.new (o := .cells #[.int .i64 (((a0.f2 (⟨(t9.getD y18.toNat z87).f0, IntKind.i64.wrap (((t9.getD y18.toNat z87).f1) + y27)⟩ : T34)).getD z38).f0), .int .i64 (((a0.f2 (⟨(t9.getD y18.toNat z87).f0, IntKind.i64.wrap (((t9.getD y18.toNat z87).f1) + y27)⟩ : T34)).getD z38).f1), .int .i64 (((a0.f2 (⟨(t9.getD y18.toNat z87).f0, IntKind.i64.wrap (((t9.getD y18.toNat z87).f1) + y27)⟩ : T34)).getD z38).f2), .int .i64 (((a0.f2 (⟨(t9.getD y18.toNat z87).f0, IntKind.i64.wrap (((t9.getD y18.toNat z87).f1) + y27)⟩ : T34)).getD z38).f3), .string (((a0.f2 (⟨(t9.getD y18.toNat z87).f0, IntKind.i64.wrap (((t9.getD y18.toNat z87).f1) + y27)⟩ : T34)).getD z38).f4)] 38 (0, 0)) (v := fun r => .slice (some ⟨r, 0, none⟩) 1 1) (fun r => by kernel_rfl)) ?_
              rintro _ _ _ ⟨b31, rfl, rfl, rfl⟩
              refine ⟨_, _, Under.cons Under.refl, Under.refl, ?_⟩
              have Ho33 : Ow k38 G (some ⟨b31, 0, none⟩) 1 ([((a0.f2 (⟨(t9.getD y18.toNat z87).f0, IntKind.i64.wrap (((t9.getD y18.toNat z87).f1) + y27)⟩ : T34)).getD z38)] : List T38) [(b31, .cells #[.int .i64 (((a0.f2 (⟨(t9.getD y18.toNat z87).f0, IntKind.i64.wrap (((t9.getD y18.toNat z87).f1) + y27)⟩ : T34)).getD z38).f0), .int .i64 (((a0.f2 (⟨(t9.getD y18.toNat z87).f0, IntKind.i64.wrap (((t9.getD y18.toNat z87).f1) + y27)⟩ : T34)).getD z38).f1), .int .i64 (((a0.f2 (⟨(t9.getD y18.toNat z87).f0, IntKind.i64.wrap (((t9.getD y18.toNat z87).f1) + y27)⟩ : T34)).getD z38).f2), .int .i64 (((a0.f2 (⟨(t9.getD y18.toNat z87).f0, IntKind.i64.wrap (((t9.getD y18.toNat z87).f1) + y27)⟩ : T34)).getD z38).f3), .string (((a0.f2 (⟨(t9.getD y18.toNat z87).f0, IntKind.i64.wrap (((t9.getD y18.toNat z87).f1) + y27)⟩ : T34)).getD z38).f4)] 38 (0, 0))] := Ow.lit (kd := k38) (G := G) (b := b31) (T := 38) (xs := ([((a0.f2 (⟨(t9.getD y18.toNat z87).f0, IntKind.i64.wrap (((t9.getD y18.toNat z87).f1) + y27)⟩ : T34)).getD z38)] : List T38)) (cs := [.int .i64 (((a0.f2 (⟨(t9.getD y18.toNat z87).f0, IntKind.i64.wrap (((t9.getD y18.toNat z87).f1) + y27)⟩ : T34)).getD z38).f0), .int .i64 (((a0.f2 (⟨(t9.getD y18.toNat z87).f0, IntKind.i64.wrap (((t9.getD y18.toNat z87).f1) + y27)⟩ : T34)).getD z38).f1), .int .i64 (((a0.f2 (⟨(t9.getD y18.toNat z87).f0, IntKind.i64.wrap (((t9.getD y18.toNat z87).f1) + y27)⟩ : T34)).getD z38).f2), .int .i64 (((a0.f2 (⟨(t9.getD y18.toNat z87).f0, IntKind.i64.wrap (((t9.getD y18.toNat z87).f1) + y27)⟩ : T34)).getD z38).f3), .string (((a0.f2 (⟨(t9.getD y18.toNat z87).f0, IntKind.i64.wrap (((t9.getD y18.toNat z87).f1) + y27)⟩ : T34)).getD z38).f4)]) (.cons (x := ((a0.f2 (⟨(t9.getD y18.toNat z87).f0, IntKind.i64.wrap (((t9.getD y18.toNat z87).f1) + y27)⟩ : T34)).getD z38)) (cs := [.int .i64 (((a0.f2 (⟨(t9.getD y18.toNat z87).f0, IntKind.i64.wrap (((t9.getD y18.toNat z87).f1) + y27)⟩ : T34)).getD z38).f0), .int .i64 (((a0.f2 (⟨(t9.getD y18.toNat z87).f0, IntKind.i64.wrap (((t9.getD y18.toNat z87).f1) + y27)⟩ : T34)).getD z38).f1), .int .i64 (((a0.f2 (⟨(t9.getD y18.toNat z87).f0, IntKind.i64.wrap (((t9.getD y18.toNat z87).f1) + y27)⟩ : T34)).getD z38).f2), .int .i64 (((a0.f2 (⟨(t9.getD y18.toNat z87).f0, IntKind.i64.wrap (((t9.getD y18.toNat z87).f1) + y27)⟩ : T34)).getD z38).f3), .string (((a0.f2 (⟨(t9.getD y18.toNat z87).f0, IntKind.i64.wrap (((t9.getD y18.toNat z87).f1) + y27)⟩ : T34)).getD z38).f4)]) (by exact rfl) .nil)
              by_cases hb34 : y26.length + ([((a0.f2 (⟨(t9.getD y18.toNat z87).f0, IntKind.i64.wrap (((t9.getD y18.toNat z87).f1) + y27)⟩ : T34)).getD z38)] : List T38).length ≤ 1073741824
              case neg => rw [if_neg hb34] at h; cases h
              rw [if_pos hb34] at h
              refine WA.opK (i := 14) (kw' := 16) (m := 1) (b' := 32767) (by kernel_rfl) rfl hS (by kernel_rfl) (op := .call { callee := (.builtin .append), args := #[(.tmp 25), (.tmp 38)], argTypes := #[24, 24] }) (ty := 24) (d := some 39) (g := none) (by kernel_rfl) (by kernel_rfl) (by kernel_rfl) (Ow.append (ys := ([((a0.f2 (⟨(t9.getD y18.toNat z87).f0, IntKind.i64.wrap (((t9.getD y18.toNat z87).f1) + y27)⟩ : T34)).getD z38)] : List T38)) (v := .slice (some ⟨b31, 0, none⟩) ([((a0.f2 (⟨(t9.getD y18.toNat z87).f0, IntKind.i64.wrap (((t9.getD y18.toNat z87).f1) + y27)⟩ : T34)).getD z38)] : List T38).length 1) Hy26 (i := 2) rfl (by kernel_rfl) (by kernel_rfl) (Ho33.src (i := 0) rfl) sl24 ze38 nt24 (by decide) hb34) ?_
              rintro _ _ _ ⟨rfl, AN35, cN35, CN35, rfl, HN35, rfl⟩
              refine ⟨_, _, Under.refl, ?_⟩
              refine WA.pure [15] [0, 5, 7, 14, 15, 16, 21, 22] (m := 0) (b' := 65535) (L' := [(0, .pointer (some ⟨b0, 0, none⟩)), (5, .slice AN35 (y26 ++ ([((a0.f2 (⟨(t9.getD y18.toNat z87).f0, IntKind.i64.wrap (((t9.getD y18.toNat z87).f1) + y27)⟩ : T34)).getD z38)] : List T38)).length cN35), (7, .pointer (some ⟨b23, 0, none⟩)), (14, .slice AR11 t9.length cR11), (15, .int .i64 (t9.length : Int)), (16, .int .i64 y18), (21, .int .i64 ((t9.getD y18.toNat z87).f2)), (22, .int .i64 y27)]) (by kernel_rfl) (NoPanic.block (NoPanic.then (NoPanic.then (NoPanic.block (NoPanic.then (NoPanic.block (NoPanic.then (NoPanic.then (NoPanic.block (NoPanic.then (NoPanic.then (NoPanic.body)))))))))))) Under.refl hS (by kernel_rfl) ?_
              refine WA.done hS (by kernel_rfl) ?_
              refine QP.pick [0, 5, 7, 14, 15, 16, 21, 22] ?_
              refine QP.blockN ?_
              refine QP.next ?_
              refine WP.pick [0, 5, 7, 14, 15, 16, 21, 22] ?_
              refine WP.regionP [0, 5, 7, 14, 15, 16, 21, 22] (L' := [(0, .pointer (some ⟨b0, 0, none⟩)), (5, .slice AN35 (y26 ++ ([((a0.f2 (⟨(t9.getD y18.toNat z87).f0, IntKind.i64.wrap (((t9.getD y18.toNat z87).f1) + y27)⟩ : T34)).getD z38)] : List T38)).length cN35), (7, .pointer (some ⟨b23, 0, none⟩)), (14, .slice AR11 t9.length cR11), (15, .int .i64 (t9.length : Int)), (16, .int .i64 y18), (21, .int .i64 ((t9.getD y18.toNat z87).f2)), (22, .int .i64 (IntKind.i64.wrap (y27 + 1)))]) (by kernel_rfl) ?_
              refine QP.dropAt 0 ?_
              refine QP.pick [0, 5, 7, 14, 15, 16, 21, 22] ?_
              exact QP.meet ⟨kn29, Nat.lt_succ_self _, (y26 ++ ([((a0.f2 (⟨(t9.getD y18.toNat z87).f0, IntKind.i64.wrap (((t9.getD y18.toNat z87).f1) + y27)⟩ : T34)).getD z38)] : List T38)), (IntKind.i64.wrap (y27 + 1)), h, AN35, cN35, CN35, rfl, rfl, rfl, HN35⟩
            · replace hc := of_decide_eq_false hc
              rw [if_neg hc] at h
              have hc30 := hc
              clear hc
              refine WP.exit ?_
              refine QP.thenE ?_
              refine QP.thenE ?_
              refine QP.blockE ?_
              refine QP.dropAt 0 ?_
              refine QP.pick [0, 5, 14, 15, 16] ?_
              exact QP.meet ⟨_, Option.some.inj h, Ay26, cy26, Cy26, rfl, rfl, rfl, Hy26⟩
        · rintro _ _ _ ⟨s24, rfl, As24, cs24, Cs24, rfl, rfl, rfl, Hs24⟩
          clear h
          replace h := hk25
          refine QP.blockN ?_
          refine QP.next ?_
          refine WP.pick [0, 5, 14, 15, 16] ?_
          refine WP.regionP [0, 5, 14, 15, 16] (L' := [(0, .pointer (some ⟨b0, 0, none⟩)), (5, .slice As24 s24.length cs24), (14, .slice AR11 t9.length cR11), (15, .int .i64 (t9.length : Int)), (16, .int .i64 (IntKind.i64.wrap (y18 + 1)))]) (by kernel_rfl) ?_
          refine QP.pick [0, 5, 14, 15, 16] ?_
          exact QP.meet ⟨kn20, Nat.lt_succ_self _, s24, (IntKind.i64.wrap (y18 + 1)), h, As24, cs24, Cs24, rfl, rfl, rfl, Hs24⟩
      · replace hc := of_decide_eq_false hc
        rw [if_neg hc] at h
        have hc21 := hc
        clear hc
        refine WP.exit ?_
        refine QP.thenE ?_
        refine QP.thenE ?_
        refine QP.blockE ?_
        refine QP.dropAt 1 ?_
        refine QP.pick [5] ?_
        exact QP.meet ⟨_, Option.some.inj h, Ay17, cy17, Cy17, rfl, rfl, rfl, Hy17⟩
  · rintro _ _ _ ⟨s15, rfl, As15, cs15, Cs15, rfl, rfl, rfl, Hs15⟩
    clear h
    replace h := hk16
    refine QP.next ?_
    refine WP.pick [5] ?_
    refine WP.seqP [4] (L' := [(4, .slice As15 s15.length cs15)]) (by kernel_rfl) ?_
    refine WP.ret ?_
    obtain rfl := Option.some.inj h
    exact QP.returned [4] [.slice As15 s15.length cs15] _ (by kernel_rfl) (by kernel_rfl) (by kernel_rfl) (fun W hI => ⟨_, _, _, rfl, ⟨As15, cs15, Cs15, rfl, Hs15, rfl, rfl⟩, hI⟩)

/-! ### (*grapevine/state.State).Records: function 10 -/
def state_State_Records_26 (k : Nat) (a0 : T59) : Option (List T38) := ((state_State_W_27 a0).bind fun t1 => ((state_State_above_29 k a0 t1).bind fun t5 => some t5))
set_option maxHeartbeats 4000000 in
theorem state_State_Records_26_calls {B : World} {G : GMap} {Γ : List Chunk} {W : World} (k : Nat) (a0 : T59) (b0 : Nat) (Aa0_f0 : Option Addr) (ca0_f0 : Nat) (Ca0_f0 : Chunk) (Ha0_f0 : Ow (kInt .i64) G Aa0_f0 ca0_f0 a0.f0 Ca0_f0) (Aa0_f1 : Option Addr) (ca0_f1 : Nat) (Ca0_f1 : Chunk) (Ha0_f1 : Ow (kInt .i64) G Aa0_f1 ca0_f1 a0.f1 Ca0_f1) (Aa0_f2 : Option Addr) (ca0_f2 : Nat) (Ca0_f2 : Chunk) (Ha0_f2 : MpF m57 G Aa0_f2 ca0_f2 a0.f2 Ca0_f2) (r : List T38) (h : state_State_Records_26 k a0 = some r) (hI : Inv B G ([(b0, .cells #[.slice Aa0_f0 a0.f0.length ca0_f0, .slice Aa0_f1 a0.f1.length ca0_f1, mpv Aa0_f2] 59 (0, 0))] :: Ca0_f0 :: Ca0_f1 :: Ca0_f2 :: Γ) W) :
    Calls Tryz.prog 10 [.pointer (some ⟨b0, 0, none⟩)].toArray W (Ret B (fun v G' Γ' => ∃ (AR : Option Addr), ∃ (cR : Nat), ∃ (CR : Chunk), v = .slice AR r.length cR ∧ Ow k38 G' AR cR r CR ∧ G = G' ∧ CR :: [(b0, .cells #[.slice Aa0_f0 a0.f0.length ca0_f0, .slice Aa0_f1 a0.f1.length ca0_f1, mpv Aa0_f2] 59 (0, 0))] :: Ca0_f0 :: Ca0_f1 :: Ca0_f2 :: Γ = Γ')) := by
  refine calls_WP (Γ := [(b0, .cells #[.slice Aa0_f0 a0.f0.length ca0_f0, .slice Aa0_f1 a0.f1.length ca0_f1, mpv Aa0_f2] 59 (0, 0))] :: Ca0_f0 :: Ca0_f1 :: Ca0_f2 :: Γ) (G := G) (B := B) Tryz.func10 rfl (by kernel_rfl) ?_ hI
  clear hI
  unfold state_State_Records_26 at h
  refine WP.seqP [0] (L' := [(0, .pointer (some ⟨b0, 0, none⟩))]) (by kernel_rfl) ?_
  refine WP.seqR ?_
  refine WL.pure 0 2 [3, 4] (L' := [(3, .pointer (some ⟨b0, 0, none⟩)), (4, .pointer (some ⟨b0, 0, none⟩))]) (by kernel_rfl) (by decide) ?_
  rw [Option.bind_eq_some_iff] at h
  obtain ⟨t1, ht2, h⟩ := h
  refine WL.op (op := .call { callee := (.value (.func 9)), args := #[(.tmp 4)], argTypes := #[22] }) (ty := 25) (d := some 5) (g := none) (by kernel_rfl) (by kernel_rfl) (by kernel_rfl) (Does.call (f := 9) (args := [.pointer (some ⟨b0, 0, none⟩)]) (by kernel_rfl) (fun W hI => (state_State_W_27_calls a0 b0 Aa0_f0 ca0_f0 Ca0_f0 Ha0_f0 Aa0_f1 ca0_f1 Ca0_f1 Ha0_f1 Aa0_f2 ca0_f2 Ca0_f2 Ha0_f2 t1 ht2 hI))) ?_
  rintro _ _ _ ⟨AR3, cR3, CR3, rfl, HR3, rfl, rfl⟩
  refine WL.reperm (Γ' := [(b0, .cells #[.slice Aa0_f0 a0.f0.length ca0_f0, .slice Aa0_f1 a0.f1.length ca0_f1, mpv Aa0_f2] 59 (0, 0))] :: Ca0_f0 :: Ca0_f1 :: Ca0_f2 :: CR3 :: Γ) (perm_sel [1, 2, 3, 4, 0] (by kernel_rfl) rfl) ?_
  rw [Option.bind_eq_some_iff] at h
  obtain ⟨t5, ht6, h⟩ := h
  refine WL.op (op := .call { callee := (.value (.func 22)), args := #[(.tmp 3), (.tmp 5)], argTypes := #[22, 25] }) (ty := 24) (d := some 6) (g := none) (by kernel_rfl) (by kernel_rfl) (by kernel_rfl) (Does.call (Φ := fun v' G' Γ' => ∃ (AR7 : Option Addr), ∃ (cR7 : Nat), ∃ (CR7 : Chunk), v' = .slice AR7 t5.length cR7 ∧ Ow k38 G AR7 cR7 t5 CR7 ∧ G = G' ∧ CR7 :: [(b0, .cells #[.slice Aa0_f0 a0.f0.length ca0_f0, .slice Aa0_f1 a0.f1.length ca0_f1, mpv Aa0_f2] 59 (0, 0))] :: Ca0_f0 :: Ca0_f1 :: Ca0_f2 :: CR3 :: Γ = Γ') (f := 22) (args := [.pointer (some ⟨b0, 0, none⟩), .slice AR3 t1.length cR3]) (by kernel_rfl) (fun W hI => (Calls.lendN (Φ := fun v' N => ∃ (AR7 : Option Addr), ∃ (cR7 : Nat), ∃ (CR7 : Chunk), v' = .slice AR7 t5.length cR7 ∧ Ow k38 G AR7 cR7 t5 CR7 ∧ N = [CR7, [(b0, .cells #[.slice Aa0_f0 a0.f0.length ca0_f0, .slice Aa0_f1 a0.f1.length ca0_f1, mpv Aa0_f2] 59 (0, 0))], Ca0_f0, Ca0_f1, Ca0_f2]) (H := [[(b0, .cells #[.slice Aa0_f0 a0.f0.length ca0_f0, .slice Aa0_f1 a0.f1.length ca0_f1, mpv Aa0_f2] 59 (0, 0))], Ca0_f0, Ca0_f1, Ca0_f2]) (i := 0) rfl hI (fun _ e l9 nl9 hI => by subst e; exact (((state_State_above_29_calls k a0 t1 b0 Aa0_f0 ca0_f0 Ca0_f0 (Ha0_f0.mono l9) Aa0_f1 ca0_f1 Ca0_f1 (Ha0_f1.mono l9) Aa0_f2 ca0_f2 Ca0_f2 (Ha0_f2.mono l9) AR3 cR3 (HR3.rdN l9 nl9) t5 ht6 hI)).mono fun _ _ hr => by obtain ⟨_, _, _, rfl, hd, hI⟩ := hr; obtain ⟨AR7, cR7, CR7, rfl, HR7, rfl, rfl⟩ := hd; exact ⟨_, _, _, rfl, ⟨[CR7, [(b0, .cells #[.slice Aa0_f0 a0.f0.length ca0_f0, .slice Aa0_f1 a0.f1.length ca0_f1, mpv Aa0_f2] 59 (0, 0))], Ca0_f0, Ca0_f1, Ca0_f2], ⟨AR7, cR7, CR7, rfl, (HR7.flat (kFlat_flat _ _ _ _)), rfl⟩, rfl, rfl⟩, hI⟩))).mono fun _ _ hr => by obtain ⟨_, _, _, rfl, ⟨_, hd, rfl, rfl⟩, hI⟩ := hr; obtain ⟨AR7, cR7, CR7, rfl, HR7, rfl⟩ := hd; exact ⟨_, _, _, rfl, ⟨AR7, cR7, CR7, rfl, HR7, rfl, rfl⟩, hI⟩)) ?_
  rintro _ _ _ ⟨AR7, cR7, CR7, rfl, HR7, rfl, rfl⟩
  refine WL.restQ 4 [2] (L' := [(2, .slice AR7 t5.length cR7)]) (by kernel_rfl) ?_
  refine WP.dropAt 5 ?_
  refine WP.ret ?_
  obtain rfl := Option.some.inj h
  exact QP.returned [2] [.slice AR7 t5.length cR7] _ (by kernel_rfl) (by kernel_rfl) (by kernel_rfl) (fun W hI => ⟨_, _, _, rfl, ⟨AR7, cR7, CR7, rfl, HR7, rfl, rfl⟩, hI⟩)

/-! ### grapevine/vector.May: function 23 -/
def vector_May_l0 (l0 : List Int) : Nat → Int → Option (Sum Bool Unit)
  | 0, _ => none
  | k + 1, y8 => (if y8 < (l0.length : Int) then (if 0 ≤ y8 ∧ y8 < (l0.length : Int) then ((if (l0.getD y8.toNat 0) < 0 then some true else some (decide ((l0.getD y8.toNat 0) > 1023))).bind fun s13 => (if s13 = true then some (Sum.inl false) else vector_May_l0 l0 k (IntKind.i64.wrap (y8 + 1)))) else none) else some (Sum.inr ()))
def vector_May (k : Nat) (l0 : List Int) (a1 : Int) : Option Bool := ((if a1 < 1 then some true else (if a1 > 8 then some true else some ((l0.length : Int) != a1))).bind fun s1 => (if s1 = true then some false else ((vector_May_l0 l0 k 0).bind fun os6 => match os6 with | Sum.inl r => some r | Sum.inr s6 => some true)))
set_option maxHeartbeats 4000000 in
theorem vector_May_calls {B : World} {G : GMap} {Γ : List Chunk} {W : World} (k : Nat) (l0 : List Int) (a1 : Int) (Al0 : Option Addr) (cl0 : Nat) (Hl0 : Rd (kInt .i64) G Al0 cl0 l0) (r : Bool) (h : vector_May k l0 a1 = some r) (hI : Inv B G (Γ) W) :
    Calls Tryz.prog 23 [.slice Al0 l0.length cl0, .int .i64 a1].toArray W (Ret B (fun v G' Γ' => v = .bool r ∧ G = G' ∧ Γ = Γ')) := by
  refine calls_WP (Γ := Γ) (G := G) (B := B) Tryz.func23 rfl (by kernel_rfl) ?_ hI
  clear hI
  unfold vector_May at h
  refine WP.seqP [0, 1] (L' := [(0, .slice Al0 l0.length cl0), (1, .int .i64 a1)]) (by kernel_rfl) ?_
  refine WP.seq ?_
  rw [Option.bind_eq_some_iff] at h
  obtain ⟨os1, h, hk2⟩ := h
  refine WP.cut (fun L' G' Γ' => ∃ s1 : Bool, s1 = os1 ∧ L' = [(0, .slice Al0 l0.length cl0), (18, .bool s1)] ∧ G = G' ∧ Γ = Γ') ?_ ?_
  · clear hk2
    refine WP.region ?_
    refine WL.pure 0 3 [0, 1, 9] (L' := [(0, .slice Al0 l0.length cl0), (1, .int .i64 a1), (9, .bool (decide (a1 < 1)))]) (by kernel_rfl) (by decide) ?_
    refine WL.split 9 (b := decide (a1 < 1)) (by kernel_rfl) (fun hc => ?_) (fun hc => ?_)
    · replace hc := of_decide_eq_true hc
      rw [if_pos hc] at h
      have hc3 := hc
      clear hc
      refine WL.rest 3 [0, 18] (L' := [(0, .slice Al0 l0.length cl0), (18, .bool true)]) (by kernel_rfl) ?_
      refine QP.pick [0, 18] ?_
      exact QP.meet ⟨_, Option.some.inj h, rfl, rfl, rfl⟩
    · replace hc := of_decide_eq_false hc
      rw [if_neg hc] at h
      have hc3 := hc
      clear hc
      refine WL.pure 3 7 [0, 1, 13] (L' := [(0, .slice Al0 l0.length cl0), (1, .int .i64 a1), (13, .bool (decide (a1 > 8)))]) (by kernel_rfl) (by decide) ?_
      refine WL.split 13 (b := decide (a1 > 8)) (by kernel_rfl) (fun hc => ?_) (fun hc => ?_)
      · replace hc := of_decide_eq_true hc
        rw [if_pos hc] at h
        have hc4 := hc
        clear hc
        refine WL.rest 7 [0, 18] (L' := [(0, .slice Al0 l0.length cl0), (18, .bool true)]) (by kernel_rfl) ?_
        refine QP.pick [0, 18] ?_
        exact QP.meet ⟨_, Option.some.inj h, rfl, rfl, rfl⟩
      · replace hc := of_decide_eq_false hc
        rw [if_neg hc] at h
        have hc4 := hc
        clear hc
        refine WL.rest 7 [0, 18] (L' := [(0, .slice Al0 l0.length cl0), (18, .bool ((l0.length : Int) != a1))]) (by kernel_rfl) ?_
        refine QP.pick [0, 18] ?_
        exact QP.meet ⟨_, Option.some.inj h, rfl, rfl, rfl⟩
  · rintro _ _ _ ⟨s1, rfl, rfl, rfl, rfl⟩
    clear h
    replace h := hk2
    refine WP.cond (b := s1) (by kernel_rfl) (fun hc => ?_) (fun hc => ?_)
    · replace hc := hc
      rw [if_pos hc] at h
      have hc5 := hc
      clear hc
      refine WP.seqP [4] (L' := [(4, .bool false)]) (by kernel_rfl) ?_
      refine WP.ret ?_
      refine QP.thenR ?_
      obtain rfl := Option.some.inj h
      exact QP.returned [4] [.bool false] _ (by kernel_rfl) (by kernel_rfl) (by kernel_rfl) (fun W hI => ⟨_, _, _, rfl, ⟨rfl, rfl, rfl⟩, hI⟩)
    · replace hc := (Bool.eq_false_iff.1 hc)
      rw [if_neg hc] at h
      have hc5 := hc
      clear hc
      refine WP.skip ?_
      refine QP.next ?_
      refine WP.pick [0] ?_
      refine WP.seq ?_
      refine WP.seqP [19, 20, 21] (L' := [(19, .slice Al0 l0.length cl0), (20, .int .i64 (l0.length : Int)), (21, .int .i64 0)]) (by kernel_rfl) ?_
      rw [Option.bind_eq_some_iff] at h
      obtain ⟨os6, h, hk7⟩ := h
      refine WP.cutQ (fun L' G' Γ' => ∃ s6 : Unit, Sum.inr s6 = os6 ∧ L' = [] ∧ G = G' ∧ Γ = Γ') ?_ ?_
      · skip
        refine WP.block ?_
        refine WP.pick [19, 20, 21] ?_
        refine WP.loopF (fun kn9 L' G' Γ' => ∃ (y8 : Int), vector_May_l0 l0 kn9 y8 = some os6 ∧ L' = [(19, .slice Al0 l0.length cl0), (20, .int .i64 (l0.length : Int)), (21, .int .i64 y8)] ∧ G = G' ∧ Γ = Γ') ?_ k ⟨0, h, rfl, rfl, rfl⟩
        clear h
        rintro kn10 _ _ _ ⟨y8, h, rfl, rfl, rfl⟩
        cases kn10 with
        | zero => exact absurd h (by simp [vector_May_l0])
        | succ kn10 =>
          simp only [vector_May_l0] at h
          refine WP.seqP [19, 20, 21, 22] (L' := [(19, .slice Al0 l0.length cl0), (20, .int .i64 (l0.length : Int)), (21, .int .i64 y8), (22, .bool (decide (y8 < (l0.length : Int))))]) (by kernel_rfl) ?_
          refine WP.seq ?_
          refine WP.cond (b := decide (y8 < (l0.length : Int))) (by kernel_rfl) (fun hc => ?_) (fun hc => ?_)
          · replace hc := of_decide_eq_true hc
            rw [if_pos hc] at h
            have hc11 := hc
            clear hc
            refine WP.skip ?_
            refine QP.next ?_
            refine WP.pick [19, 20, 21] ?_
            refine WP.seq ?_
            refine WP.block ?_
            refine WP.seqR ?_
            by_cases hb12 : 0 ≤ y8 ∧ y8 < (l0.length : Int)
            case neg => rw [if_neg hb12] at h; cases h
            rw [if_pos hb12] at h
            refine WL.tell (op := .indexAddr 25 (.tmp 19) (.tmp 21)) (ty := 0) (d := some 23) (g := none) (by kernel_rfl) (by kernel_rfl) (by kernel_rfl) (Tells.indexAddr (A := Al0) (n := l0.length) (c := cl0) (k := .i64) (j := y8) (by kernel_rfl) (by kernel_rfl) (Hl0.isSome hb12.1 hb12.2) hb12.1 hb12.2 sl25) ?_
            refine WL.tellE (op := .load 3 (.tmp 23)) (ty := 3) (d := some 24) (g := none) (by kernel_rfl) (by kernel_rfl) (by kernel_rfl) (Hl0.load (agg := false) hb12.1 hb12.2 0 ag3 (fun _ => rfl) (by kernel_rfl)) ?_
            rintro _ rfl
            refine WL.restQ 2 [6, 19, 20, 21] (L' := [(6, .int .i64 (l0.getD y8.toNat 0)), (19, .slice Al0 l0.length cl0), (20, .int .i64 (l0.length : Int)), (21, .int .i64 y8)]) (by kernel_rfl) ?_
            rw [Option.bind_eq_some_iff] at h
            obtain ⟨os13, h, hk14⟩ := h
            refine WP.cut (fun L' G' Γ' => ∃ s13 : Bool, s13 = os13 ∧ L' = [(19, .slice Al0 l0.length cl0), (20, .int .i64 (l0.length : Int)), (21, .int .i64 y8), (30, .bool s13)] ∧ G = G' ∧ Γ = Γ') ?_ ?_
            · clear hk14
              refine WP.region ?_
              refine WL.pure 0 3 [6, 19, 20, 21, 27] (L' := [(6, .int .i64 (l0.getD y8.toNat 0)), (19, .slice Al0 l0.length cl0), (20, .int .i64 (l0.length : Int)), (21, .int .i64 y8), (27, .bool (decide ((l0.getD y8.toNat 0) < 0)))]) (by kernel_rfl) (by decide) ?_
              refine WL.split 27 (b := decide ((l0.getD y8.toNat 0) < 0)) (by kernel_rfl) (fun hc => ?_) (fun hc => ?_)
              · replace hc := of_decide_eq_true hc
                rw [if_pos hc] at h
                have hc15 := hc
                clear hc
                refine WL.rest 3 [19, 20, 21, 30] (L' := [(19, .slice Al0 l0.length cl0), (20, .int .i64 (l0.length : Int)), (21, .int .i64 y8), (30, .bool true)]) (by kernel_rfl) ?_
                refine QP.pick [19, 20, 21, 30] ?_
                exact QP.meet ⟨_, Option.some.inj h, rfl, rfl, rfl⟩
              · replace hc := of_decide_eq_false hc
                rw [if_neg hc] at h
                have hc15 := hc
                clear hc
                refine WL.rest 3 [19, 20, 21, 30] (L' := [(19, .slice Al0 l0.length cl0), (20, .int .i64 (l0.length : Int)), (21, .int .i64 y8), (30, .bool (decide ((l0.getD y8.toNat 0) > 1023)))]) (by kernel_rfl) ?_
                refine QP.pick [19, 20, 21, 30] ?_
                exact QP.meet ⟨_, Option.some.inj h, rfl, rfl, rfl⟩
            · rintro _ _ _ ⟨s13, rfl, rfl, rfl, rfl⟩
              clear h
              replace h := hk14
              refine WP.cond (b := s13) (by kernel_rfl) (fun hc => ?_) (fun hc => ?_)
              · replace hc := hc
                rw [if_pos hc] at h
                have hc16 := hc
                clear hc
                refine WP.seqP [4] (L' := [(4, .bool false)]) (by kernel_rfl) ?_
                refine WP.ret ?_
                refine QP.blockR ?_
                refine QP.thenR ?_
                refine QP.thenR ?_
                refine QP.blockR ?_
                refine QP.thenR ?_
                refine QP.thenR ?_
                obtain rfl := Option.some.inj h
                obtain rfl := Option.some.inj (show some _ = some _ from hk7)
                exact QP.returned [4] [.bool false] _ (by kernel_rfl) (by kernel_rfl) (by kernel_rfl) (fun W hI => ⟨_, _, _, rfl, ⟨rfl, rfl, rfl⟩, hI⟩)
              · replace hc := (Bool.eq_false_iff.1 hc)
                rw [if_neg hc] at h
                have hc16 := hc
                clear hc
                refine WP.skip ?_
                refine QP.blockN ?_
                refine QP.next ?_
                refine WP.pick [19, 20, 21] ?_
                refine WP.regionP [19, 20, 21] (L' := [(19, .slice Al0 l0.length cl0), (20, .int .i64 (l0.length : Int)), (21, .int .i64 (IntKind.i64.wrap (y8 + 1)))]) (by kernel_rfl) ?_
                refine QP.pick [19, 20, 21] ?_
                exact QP.meet ⟨kn10, Nat.lt_succ_self _, (IntKind.i64.wrap (y8 + 1)), h, rfl, rfl, rfl⟩
          · replace hc := of_decide_eq_false hc
            rw [if_neg hc] at h
            have hc11 := hc
            clear hc
            refine WP.exit ?_
            refine QP.thenE ?_
            refine QP.thenE ?_
            refine QP.blockE ?_
            refine QP.pick [] ?_
            exact QP.meet ⟨_, Option.some.inj h, rfl, rfl, rfl⟩
      · rintro _ _ _ ⟨s6, rfl, rfl, rfl, rfl⟩
        clear h
        replace h := hk7
        dsimp only at h
        refine QP.next ?_
        refine WP.pick [] ?_
        refine WP.seqP [4] (L' := [(4, .bool true)]) (by kernel_rfl) ?_
        refine WP.ret ?_
        obtain rfl := Option.some.inj h
        exact QP.returned [4] [.bool true] _ (by kernel_rfl) (by kernel_rfl) (by kernel_rfl) (fun W hI => ⟨_, _, _, rfl, ⟨rfl, rfl, rfl⟩, hI⟩)

/-! ### grapevine/vector.Join$1: function 47 -/
def vector_Join_1 (a0 : Int) (a1 : Int) : Option Int := some (if a1 > a0 then a1 else a0)
set_option maxHeartbeats 4000000 in
theorem vector_Join_1_calls {B : World} {G : GMap} {Γ : List Chunk} {W : World} (a0 : Int) (a1 : Int) (r : Int) (h : vector_Join_1 a0 a1 = some r) (hI : Inv B G (Γ) W) :
    Calls Tryz.prog 47 [.int .i64 a0, .int .i64 a1].toArray W (Ret B (fun v G' Γ' => v = .int .i64 r ∧ G = G' ∧ Γ = Γ')) := by
  refine calls_WP (Γ := Γ) (G := G) (B := B) Tryz.func47 rfl (by kernel_rfl) ?_ hI
  clear hI
  unfold vector_Join_1 at h
  refine WP.seqP [0, 1] (L' := [(0, .int .i64 a0), (1, .int .i64 a1)]) (by kernel_rfl) ?_
  refine WP.seqP [4] (L' := [(4, .int .i64 (if a1 > a0 then a1 else a0))]) (by kernel_rfl) ?_
  refine WP.ret ?_
  obtain rfl := Option.some.inj h
  exact QP.returned [4] [.int .i64 (if a1 > a0 then a1 else a0)] _ (by kernel_rfl) (by kernel_rfl) (by kernel_rfl) (fun W hI => ⟨_, _, _, rfl, ⟨rfl, rfl, rfl⟩, hI⟩)
end Go.Proofs.YtcapnncebfgcfaaGreatDoor.Gf
