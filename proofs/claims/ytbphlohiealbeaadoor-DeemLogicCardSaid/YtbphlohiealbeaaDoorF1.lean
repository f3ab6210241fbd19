/- Walks of Go functions: what each tells, as a plain Lean function, and that the Go code comes to it. Written by gg.py of this repo. -/
import Derived.Test.YtbphlohiealbeaaDoorT
import Derived.Test.YtbphlohiealbeaaDoorF0
namespace Go.Proofs.YtbphlohiealbeaaDoor.Gf
open Go Go.Gg
set_option maxRecDepth 100000
set_option linter.unusedVariables false
set_option linter.unusedSimpArgs false

/-! ### grapevine/record.May: function 17 -/
def record_May (a0 : T31) : Option Bool := ((if a0.f0 ≥ 0 then (if a0.f0 < 8 then (if a0.f1 ≥ 1 then (if a0.f1 ≤ 1023 then ((stamp_May (⟨a0.f2, a0.f3⟩ : T29)).bind fun t8 => (if t8 = true then ((tokens_May a0.f4).bind fun t13 => some t13) else some false)) else some false) else some false) else some false) else some false).bind fun s2 => some s2)
set_option maxHeartbeats 4000000 in
theorem record_May_calls {B : World} {G : GMap} {Γ : List Chunk} {W : World} (HT : Tabs B G) (a0 : T31) (r : Bool) (h : record_May a0 = some r) (hI : Inv B G (Γ) W) :
    Calls Tryd.prog 17 [.agg #[.int .i64 a0.f0, .int .i64 a0.f1, .int .i64 a0.f2, .int .i64 a0.f3, .string a0.f4]].toArray W (Ret B (fun v G' Γ' => v = .bool r ∧ G = G' ∧ Γ = Γ')) := by
  refine calls_WP (Γ := Γ) (G := G) (B := B) Tryd.func17 rfl (by kernel_rfl) ?_ hI
  clear hI
  unfold record_May at h
  refine WP.seqR ?_
  refine WL.op (op := .box 31 (.tmp 0)) (ty := 0) (d := some 1) (g := none) (by kernel_rfl) (by kernel_rfl) (by kernel_rfl) (Does.new (o := .cells #[.int .i64 a0.f0, .int .i64 a0.f1, .int .i64 a0.f2, .int .i64 a0.f3, .string a0.f4] 31 (0, 0)) (v := fun r => .pointer (some ⟨r, 0, none⟩)) (fun r => by kernel_rfl)) ?_
  rintro _ _ _ ⟨b1, rfl, rfl, rfl⟩
  refine WL.restQ 1 [1] (L' := [(1, .pointer (some ⟨b1, 0, none⟩))]) (by kernel_rfl) ?_
  rw [Option.bind_eq_some_iff] at h
  obtain ⟨os2, h, hk3⟩ := h
  refine WP.cut (fun L' G' Γ' => ∃ s2 : Bool, s2 = os2 ∧ L' = [(2, .bool s2)] ∧ G = G' ∧ Γ = Γ') ?_ ?_
  · clear hk3
    refine WP.region ?_
    refine WL.pure 0 2 [1, 4] (L' := [(1, .pointer (some ⟨b1, 0, none⟩)), (4, .pointer (some ⟨b1, 0, none⟩))]) (by kernel_rfl) (by decide) ?_
    refine WL.tell (op := .load 3 (.tmp 4)) (ty := 3) (d := some 5) (g := none) (by kernel_rfl) (by kernel_rfl) (by kernel_rfl) (Tells.load_box (i := 0) (b := b1) (o := 0) (agg := false) (by rfl) ag3 (by kernel_rfl) (fun _ => rfl) (Nat.le_of_ble_eq_true rfl) (v := .int .i64 a0.f0) (by kernel_rfl)) ?_
    refine WL.pure 3 5 [1, 7] (L' := [(1, .pointer (some ⟨b1, 0, none⟩)), (7, .bool (decide (a0.f0 ≥ 0)))]) (by kernel_rfl) (by decide) ?_
    refine WL.split 7 (b := decide (a0.f0 ≥ 0)) (by kernel_rfl) (fun hc => ?_) (fun hc => ?_)
    · replace hc := of_decide_eq_true hc
      rw [if_pos hc] at h
      have hc4 := hc
      clear hc
      refine WL.pure 5 7 [1, 7, 9] (L' := [(1, .pointer (some ⟨b1, 0, none⟩)), (7, .bool true), (9, .pointer (some ⟨b1, 0, none⟩))]) (by kernel_rfl) (by decide) ?_
      refine WL.tell (op := .load 3 (.tmp 9)) (ty := 3) (d := some 10) (g := some (4, true)) (by kernel_rfl) (by kernel_rfl) (by kernel_rfl) (Tells.load_box (i := 0) (b := b1) (o := 0) (agg := false) (by rfl) ag3 (by kernel_rfl) (fun _ => rfl) (Nat.le_of_ble_eq_true rfl) (v := .int .i64 a0.f0) (by kernel_rfl)) ?_
      refine WL.pure 8 11 [1, 13] (L' := [(1, .pointer (some ⟨b1, 0, none⟩)), (13, .bool (decide (a0.f0 < 8)))]) (by kernel_rfl) (by decide) ?_
      refine WL.split 13 (b := decide (a0.f0 < 8)) (by kernel_rfl) (fun hc => ?_) (fun hc => ?_)
      · replace hc := of_decide_eq_true hc
        rw [if_pos hc] at h
        have hc5 := hc
        clear hc
        refine WL.pure 11 13 [1, 13, 15] (L' := [(1, .pointer (some ⟨b1, 0, none⟩)), (13, .bool true), (15, .pointer (some ⟨b1, 1, none⟩))]) (by kernel_rfl) (by decide) ?_
        refine WL.tell (op := .load 3 (.tmp 15)) (ty := 3) (d := some 16) (g := some (10, true)) (by kernel_rfl) (by kernel_rfl) (by kernel_rfl) (Tells.load_box (i := 0) (b := b1) (o := 1) (agg := false) (by rfl) ag3 (by kernel_rfl) (fun _ => rfl) (Nat.le_of_ble_eq_true rfl) (v := .int .i64 a0.f1) (by kernel_rfl)) ?_
        refine WL.pure 14 17 [1, 19] (L' := [(1, .pointer (some ⟨b1, 0, none⟩)), (19, .bool (decide (a0.f1 ≥ 1)))]) (by kernel_rfl) (by decide) ?_
        refine WL.split 19 (b := decide (a0.f1 ≥ 1)) (by kernel_rfl) (fun hc => ?_) (fun hc => ?_)
        · replace hc := of_decide_eq_true hc
          rw [if_pos hc] at h
          have hc6 := hc
          clear hc
          refine WL.pure 17 19 [1, 19, 21] (L' := [(1, .pointer (some ⟨b1, 0, none⟩)), (19, .bool true), (21, .pointer (some ⟨b1, 1, none⟩))]) (by kernel_rfl) (by decide) ?_
          refine WL.tell (op := .load 3 (.tmp 21)) (ty := 3) (d := some 22) (g := some (16, true)) (by kernel_rfl) (by kernel_rfl) (by kernel_rfl) (Tells.load_box (i := 0) (b := b1) (o := 1) (agg := false) (by rfl) ag3 (by kernel_rfl) (fun _ => rfl) (Nat.le_of_ble_eq_true rfl) (v := .int .i64 a0.f1) (by kernel_rfl)) ?_
          refine WL.pure 20 23 [1, 25] (L' := [(1, .pointer (some ⟨b1, 0, none⟩)), (25, .bool (decide (a0.f1 ≤ 1023)))]) (by kernel_rfl) (by decide) ?_
          refine WL.split 25 (b := decide (a0.f1 ≤ 1023)) (by kernel_rfl) (fun hc => ?_) (fun hc => ?_)
          · replace hc := of_decide_eq_true hc
            rw [if_pos hc] at h
            have hc7 := hc
            clear hc
            refine WL.pure 23 24 [1, 25, 26] (L' := [(1, .pointer (some ⟨b1, 0, none⟩)), (25, .bool true), (26, .pointer (some ⟨b1, 2, none⟩))]) (by kernel_rfl) (by decide) ?_
            refine WL.tell (op := .load 29 (.tmp 26)) (ty := 29) (d := some 27) (g := some (22, true)) (by kernel_rfl) (by kernel_rfl) (by kernel_rfl) (Tells.load_box (i := 0) (b := b1) (o := 2) (agg := true) (by rfl) ag29 (by kernel_rfl) (fun h => by cases h) (Nat.le_of_ble_eq_true rfl) (v := .agg #[.int .i64 a0.f2, .int .i64 a0.f3]) (by kernel_rfl)) ?_
            rw [Option.bind_eq_some_iff] at h
            obtain ⟨t8, ht9, h⟩ := h
            refine WL.op (op := .call { callee := (.value (.func 35)), args := #[(.tmp 27)], argTypes := #[29] }) (ty := 4) (d := some 28) (g := some (22, true)) (by kernel_rfl) (by kernel_rfl) (by kernel_rfl) (Does.call (f := 35) (args := [.agg #[.int .i64 a0.f2, .int .i64 a0.f3]]) (by kernel_rfl) (fun W hI => (stamp_May_calls (⟨a0.f2, a0.f3⟩ : T29)  t8 ht9 hI))) ?_
            rintro _ _ _ ⟨rfl, rfl, rfl⟩
            refine WL.pure 26 28 [1, 30] (L' := [(1, .pointer (some ⟨b1, 0, none⟩)), (30, .bool t8)]) (by kernel_rfl) (by decide) ?_
            refine WL.split 30 (b := t8) (by kernel_rfl) (fun hc => ?_) (fun hc => ?_)
            · replace hc := hc
              rw [if_pos hc] at h
              have hc12 := hc
              clear hc
              refine WL.pure 28 29 [30, 31] (L' := [(30, .bool true), (31, .pointer (some ⟨b1, 4, none⟩))]) (by kernel_rfl) (by decide) ?_
              refine WL.tell (op := .load 9 (.tmp 31)) (ty := 9) (d := some 32) (g := some (27, true)) (by kernel_rfl) (by kernel_rfl) (by kernel_rfl) (Tells.load_box (i := 0) (b := b1) (o := 4) (agg := false) (by rfl) ag9 (by kernel_rfl) (fun _ => rfl) (Nat.le_of_ble_eq_true rfl) (v := .string a0.f4) (by kernel_rfl)) ?_
              rw [Option.bind_eq_some_iff] at h
              obtain ⟨t13, ht14, h⟩ := h
              refine WL.op (op := .call { callee := (.value (.func 36)), args := #[(.tmp 32)], argTypes := #[9] }) (ty := 4) (d := some 33) (g := some (27, true)) (by kernel_rfl) (by kernel_rfl) (by kernel_rfl) (Does.call (f := 36) (args := [.string a0.f4]) (by kernel_rfl) (fun W hI => (tokens_May_calls HT a0.f4  t13 ht14 hI))) ?_
              rintro _ _ _ ⟨rfl, rfl, rfl⟩
              refine WL.rest 31 [2] (L' := [(2, .bool t13)]) (by kernel_rfl) ?_
              refine QP.dropAt 0 ?_
              refine QP.pick [2] ?_
              exact QP.meet ⟨_, Option.some.inj h, rfl, rfl, rfl⟩
            · replace hc := (Bool.eq_false_iff.1 hc)
              rw [if_neg hc] at h
              have hc12 := hc
              clear hc
              refine WL.rest 28 [2] (L' := [(2, .bool false)]) (by kernel_rfl) ?_
              refine QP.dropAt 0 ?_
              refine QP.pick [2] ?_
              exact QP.meet ⟨_, Option.some.inj h, rfl, rfl, rfl⟩
          · replace hc := of_decide_eq_false hc
            rw [if_neg hc] at h
            have hc7 := hc
            clear hc
            refine WL.rest 23 [2] (L' := [(2, .bool false)]) (by kernel_rfl) ?_
            refine QP.dropAt 0 ?_
            refine QP.pick [2] ?_
            exact QP.meet ⟨_, Option.some.inj h, rfl, rfl, rfl⟩
        · replace hc := of_decide_eq_false hc
          rw [if_neg hc] at h
          have hc6 := hc
          clear hc
          refine WL.rest 17 [2] (L' := [(2, .bool false)]) (by kernel_rfl) ?_
          refine QP.dropAt 0 ?_
          refine QP.pick [2] ?_
          exact QP.meet ⟨_, Option.some.inj h, rfl, rfl, rfl⟩
      · replace hc := of_decide_eq_false hc
        rw [if_neg hc] at h
        have hc5 := hc
        clear hc
        refine WL.rest 11 [2] (L' := [(2, .bool false)]) (by kernel_rfl) ?_
        refine QP.dropAt 0 ?_
        refine QP.pick [2] ?_
        exact QP.meet ⟨_, Option.some.inj h, rfl, rfl, rfl⟩
    · replace hc := of_decide_eq_false hc
      rw [if_neg hc] at h
      have hc4 := hc
      clear hc
      refine WL.rest 5 [2] (L' := [(2, .bool false)]) (by kernel_rfl) ?_
      refine QP.dropAt 0 ?_
      refine QP.pick [2] ?_
      exact QP.meet ⟨_, Option.some.inj h, rfl, rfl, rfl⟩
  · rintro _ _ _ ⟨s2, rfl, rfl, rfl, rfl⟩
    clear h
    replace h := hk3
    refine WP.ret ?_
    obtain rfl := Option.some.inj h
    exact QP.returned [2] [.bool s2] _ (by kernel_rfl) (by kernel_rfl) (by kernel_rfl) (fun W hI => ⟨_, _, _, rfl, ⟨rfl, rfl, rfl⟩, hI⟩)

/-! ### grapevine/grapevinelaw15.rec: function 26 -/
def grapevinelaw15_rec (a0 : ByteArray) : Option T31 := some (⟨1, 2, 5, 0, a0⟩ : T31)
set_option maxHeartbeats 4000000 in
theorem grapevinelaw15_rec_calls {B : World} {G : GMap} {Γ : List Chunk} {W : World} (a0 : ByteArray) (r : T31) (h : grapevinelaw15_rec a0 = some r) (hI : Inv B G (Γ) W) :
    Calls Tryd.prog 26 [.string a0].toArray W (Ret B (fun v G' Γ' => v = .agg #[.int .i64 r.f0, .int .i64 r.f1, .int .i64 r.f2, .int .i64 r.f3, .string r.f4] ∧ G = G' ∧ Γ = Γ')) := by
  refine calls_WP (Γ := Γ) (G := G) (B := B) Tryd.func26 rfl (by kernel_rfl) ?_ hI
  clear hI
  unfold grapevinelaw15_rec at h
  refine WP.seqR ?_
  refine WL.op (op := .alloc 31) (ty := 0) (d := some 2) (g := none) (by kernel_rfl) (by kernel_rfl) (by kernel_rfl) (Does.new (o := .cells #[.int .i64 0, .int .i64 0, .int .i64 0, .int .i64 0, .string (⟨#[]⟩ : ByteArray)] 31 (0, 0)) (v := fun r => .pointer (some ⟨r, 0, none⟩)) (fun r => by kernel_rfl)) ?_
  rintro _ _ _ ⟨b1, rfl, rfl, rfl⟩
  refine WL.restQ 1 [0, 2] (L' := [(0, .string a0), (2, .pointer (some ⟨b1, 0, none⟩))]) (by kernel_rfl) ?_
  refine WP.seqR ?_
  refine WL.pure 0 4 [2, 6] (L' := [(2, .pointer (some ⟨b1, 0, none⟩)), (6, .agg #[.int .i64 1, .int .i64 2, .int .i64 5, .int .i64 0, .string a0])]) (by kernel_rfl) (by decide) ?_
  refine WL.op (op := .store 31 (.tmp 2) (.tmp 6)) (ty := 0) (d := none) (g := none) (by kernel_rfl) (by kernel_rfl) (by kernel_rfl) (Does.store_box (i := 0) (b := b1) (o := 0) (v := .agg #[.int .i64 1, .int .i64 2, .int .i64 5, .int .i64 0, .string a0]) (by rfl) sz31 (by kernel_rfl) (by kernel_rfl) (by kernel_rfl) (Free.zero _) (Nat.le_of_ble_eq_true rfl) (cells' := #[.int .i64 1, .int .i64 2, .int .i64 5, .int .i64 0, .string a0]) (by kernel_rfl)) ?_
  rintro _ _ _ ⟨rfl, rfl, rfl⟩
  refine WL.restQ 5 [2] (L' := [(2, .pointer (some ⟨b1, 0, none⟩))]) (by kernel_rfl) ?_
  refine WP.ret ?_
  obtain rfl := Option.some.inj h
  exact QP.returnedM (rs := [.cell 2 31]) (by kernel_rfl) (ResAll.cons (Res1.box (p := 2) (i := 0) (o := 0) (agg := true) (by rfl) ag31 (by kernel_rfl) (fun h => by cases h) (Nat.le_of_ble_eq_true rfl) (v := .agg #[.int .i64 1, .int .i64 2, .int .i64 5, .int .i64 0, .string a0]) (by kernel_rfl)) ResAll.nil) (by kernel_rfl) (fun W hI => ⟨_, _, _, rfl, ⟨rfl, rfl, rfl⟩, (hI.less 0 rfl)⟩)

/-! ### strings.FieldsFunc: function 37 -/
def strings_FieldsFunc (a0 : ByteArray) : Option (List ByteArray) := (if a0.size ≤ 4294967296 ∧ RunesOk tokens_other then some (Lib.goFieldsP (fun x => (tokens_other (x : Int)).getD false) a0) else none)
set_option maxHeartbeats 4000000 in
theorem strings_FieldsFunc_calls {B : World} {G : GMap} {Γ : List Chunk} {W : World} (HT : Tabs B G) (a0 : ByteArray) (r : List ByteArray) (h : strings_FieldsFunc a0 = some r) (hI : Inv B G (Γ) W) :
    Calls Tryd.prog 37 [.string a0, .func (.func 38) #[] #[]].toArray W (Ret B (fun v G' Γ' => ∃ (AR : Option Addr), ∃ (cR : Nat), ∃ (CR : Chunk), v = .slice AR r.length cR ∧ Ow kStr G' AR cR r CR ∧ G = G' ∧ CR :: Γ = Γ')) := by
  unfold strings_FieldsFunc at h
  by_cases hs : a0.size ≤ 4294967296 ∧ RunesOk tokens_other
  case neg => rw [if_neg hs] at h; cases h
  rw [if_pos hs] at h
  obtain rfl := Option.some.inj h
  refine (Tryd.strings_FieldsFunc_grows 38 #[] (enters_of Tryd.func38 (by kernel_rfl) rfl) (fun x => (tokens_other (x : Int)).getD false) a0 W hs.1 (predGrows tokens_other hs.2 fun W' hb x b hx => ?_)).mono fun e w' hr => ?_
  · exact (tokens_other_calls (Tabs.start (Tab.below (HT.all hI) hb)) (x : Int) b hx (Inv.start W')).mono fun e w' hr => by obtain ⟨_, _, _, rfl, ⟨rfl, rfl, rfl⟩, hI'⟩ := hr; exact ⟨rfl, hI'.below⟩
  · obtain ⟨A, rfl, hA, hown, hb⟩ := hr
    obtain ⟨o, ho, hO⟩ := Ow.ofRow (kd := kStr) (G := G) (enc := Value.string) rfl (fun _ _ => rfl) hown
    exact ⟨_, _, _, rfl, ⟨_, _, _, rfl, hO, rfl, rfl⟩, hI.keptNew hb hA ho⟩

/-! ### grapevine/tokens.Of: function 18 -/
def tokens_Of_l0 (t6 : List ByteArray) : Nat → (List T45) → Int → Option (List T45)
  | 0, _, _ => none
  | k + 1, y12, y13 => (if y13 < (t6.length : Int) then (if 0 ≤ y13 ∧ y13 < (t6.length : Int) then ((some (t6.getD y13.toNat (⟨#[]⟩ : ByteArray))).bind fun v18 => ((tokens_Norm v18).bind fun t20 => (if y12.length + ([(⟨t20, y13⟩ : T45)] : List T45).length ≤ 1073741824 then tokens_Of_l0 t6 k (y12 ++ ([(⟨t20, y13⟩ : T45)] : List T45)) (IntKind.i64.wrap (y13 + 1)) else none))) else none) else some y12)
def tokens_Of (k : Nat) (a0 : ByteArray) : Option (List T45) := ((tokens_May a0).bind fun t1 => (if (!t1) = true then some ([] : List T45) else ((strings_FieldsFunc a0).bind fun t6 => ((tokens_Of_l0 t6 k ([] : List T45) 0).bind fun s10 => some s10))))
set_option maxHeartbeats 4000000 in
theorem tokens_Of_calls {B : World} {G : GMap} {Γ : List Chunk} {W : World} (HT : Tabs B G) (k : Nat) (a0 : ByteArray) (r : List T45) (h : tokens_Of k a0 = some r) (hI : Inv B G (Γ) W) :
    Calls Tryd.prog 18 [.string a0].toArray W (Ret B (fun v G' Γ' => ∃ (AR : Option Addr), ∃ (cR : Nat), ∃ (CR : Chunk), v = .slice AR r.length cR ∧ Ow k45 G' AR cR r CR ∧ G = G' ∧ CR :: Γ = Γ')) := by
  refine calls_WP (Γ := Γ) (G := G) (B := B) Tryd.func18 rfl (by kernel_rfl) ?_ hI
  clear hI
  unfold tokens_Of at h
  refine WP.seqP [0] (L' := [(0, .string a0)]) (by kernel_rfl) ?_
  refine WP.seq ?_
  refine WP.seqR ?_
  refine WL.pure 0 1 [0, 6] (L' := [(0, .string a0), (6, .string a0)]) (by kernel_rfl) (by decide) ?_
  rw [Option.bind_eq_some_iff] at h
  obtain ⟨t1, ht2, h⟩ := h
  refine WL.op (op := .call { callee := (.value (.func 36)), args := #[(.tmp 6)], argTypes := #[9] }) (ty := 4) (d := some 7) (g := none) (by kernel_rfl) (by kernel_rfl) (by kernel_rfl) (Does.call (f := 36) (args := [.string a0]) (by kernel_rfl) (fun W hI => (tokens_May_calls HT a0  t1 ht2 hI))) ?_
  rintro _ _ _ ⟨rfl, rfl, rfl⟩
  refine WL.restQ 2 [0, 8] (L' := [(0, .string a0), (8, .bool (!t1))]) (by kernel_rfl) ?_
  refine WP.cond (b := (!t1)) (by kernel_rfl) (fun hc => ?_) (fun hc => ?_)
  · replace hc := hc
    rw [if_pos hc] at h
    have hc5 := hc
    clear hc
    refine WP.seqP [2] (L' := [(2, .slice none 0 0)]) (by kernel_rfl) ?_
    refine WP.ret ?_
    refine QP.thenR ?_
    obtain rfl := Option.some.inj h
    refine QP.addNil ?_
    exact QP.returned [2] [.slice none ([] : List T45).length 0] _ (by kernel_rfl) (by kernel_rfl) (by kernel_rfl) (fun W hI => ⟨_, _, _, rfl, ⟨none, 0, [], rfl, (Ow.nil k45 _), rfl, rfl⟩, hI⟩)
  · replace hc := (Bool.eq_false_iff.1 hc)
    rw [if_neg hc] at h
    have hc5 := hc
    clear hc
    refine WP.skip ?_
    refine QP.next ?_
    refine WP.pick [0] ?_
    refine WP.seqP [0, 3] (L' := [(0, .string a0), (3, .slice none 0 0)]) (by kernel_rfl) ?_
    refine WP.seq ?_
    refine WP.seqR ?_
    refine WL.pure 0 1 [3, 9] (L' := [(3, .slice none 0 0), (9, .string a0)]) (by kernel_rfl) (by decide) ?_
    rw [Option.bind_eq_some_iff] at h
    obtain ⟨t6, ht7, h⟩ := h
    refine WL.op (op := .call { callee := (.value (.func 37)), args := #[(.tmp 9), (.func 38)], argTypes := #[9, 65] }) (ty := 22) (d := some 10) (g := none) (by kernel_rfl) (by kernel_rfl) (by kernel_rfl) (Does.call (f := 37) (args := [.string a0, .func (.func 38) #[] #[]]) (by kernel_rfl) (fun W hI => (strings_FieldsFunc_calls HT a0  t6 ht7 hI))) ?_
    rintro _ _ _ ⟨AR8, cR8, CR8, rfl, HR8, rfl, rfl⟩
    refine WL.restQ 2 [3, 10, 11, 12] (L' := [(3, .slice none 0 0), (10, .slice AR8 t6.length cR8), (11, .int .i64 (t6.length : Int)), (12, .int .i64 0)]) (by kernel_rfl) ?_
    rw [Option.bind_eq_some_iff] at h
    obtain ⟨os10, h, hk11⟩ := h
    refine WP.cutQ (fun L' G' Γ' => ∃ s10 : (List T45), s10 = os10 ∧ ∃ (As10 : Option Addr), ∃ (cs10 : Nat), ∃ (Cs10 : Chunk), L' = [(3, .slice As10 s10.length cs10)] ∧ G = G' ∧ Cs10 :: Γ = Γ' ∧ Ow k45 G As10 cs10 s10 Cs10) ?_ ?_
    · clear hk11
      refine WP.block ?_
      refine WP.addNil ?_
      refine WP.pick [3, 10, 11, 12] ?_
      refine WP.loopF (fun kn14 L' G' Γ' => ∃ (y12 : List T45), ∃ (y13 : Int), tokens_Of_l0 t6 kn14 y12 y13 = some os10 ∧ ∃ (Ay12 : Option Addr), ∃ (cy12 : Nat), ∃ (Cy12 : Chunk), L' = [(3, .slice Ay12 y12.length cy12), (10, .slice AR8 t6.length cR8), (11, .int .i64 (t6.length : Int)), (12, .int .i64 y13)] ∧ G = G' ∧ Cy12 :: CR8 :: Γ = Γ' ∧ Ow k45 G Ay12 cy12 y12 Cy12) ?_ k ⟨([] : List T45), 0, h, none, 0, [], rfl, rfl, rfl, (Ow.nil k45 _)⟩
      clear h
      rintro kn15 _ _ _ ⟨y12, y13, h, Ay12, cy12, Cy12, rfl, rfl, rfl, Hy12⟩
      cases kn15 with
      | zero => exact absurd h (by simp [tokens_Of_l0])
      | succ kn15 =>
        simp only [tokens_Of_l0] at h
        refine WP.seqP [3, 10, 11, 12, 13] (L' := [(3, .slice Ay12 y12.length cy12), (10, .slice AR8 t6.length cR8), (11, .int .i64 (t6.length : Int)), (12, .int .i64 y13), (13, .bool (decide (y13 < (t6.length : Int))))]) (by kernel_rfl) ?_
        refine WP.seq ?_
        refine WP.cond (b := decide (y13 < (t6.length : Int))) (by kernel_rfl) (fun hc => ?_) (fun hc => ?_)
        · replace hc := of_decide_eq_true hc
          rw [if_pos hc] at h
          have hc16 := hc
          clear hc
          refine WP.skip ?_
          refine QP.next ?_
          refine WP.pick [3, 10, 11, 12] ?_
          refine WP.seq ?_
          refine WP.block ?_
          refine WP.seqR ?_
          refine WL.pure 0 1 [3, 10, 11, 12, 14] (L' := [(3, .slice Ay12 y12.length cy12), (10, .slice AR8 t6.length cR8), (11, .int .i64 (t6.length : Int)), (12, .int .i64 y13), (14, .int .i64 y13)]) (by kernel_rfl) (by decide) ?_
          by_cases hb17 : 0 ≤ y13 ∧ y13 < (t6.length : Int)
          case neg => rw [if_neg hb17] at h; cases h
          rw [if_pos hb17] at h
          refine WL.tell (op := .indexAddr 22 (.tmp 10) (.tmp 12)) (ty := 0) (d := some 15) (g := none) (by kernel_rfl) (by kernel_rfl) (by kernel_rfl) (Tells.indexAddr (A := AR8) (n := t6.length) (c := cR8) (k := .i64) (j := y13) (by kernel_rfl) (by kernel_rfl) (HR8.isSome hb17.1 hb17.2) hb17.1 hb17.2 sl22) ?_
          refine WL.tellE (op := .load 9 (.tmp 15)) (ty := 9) (d := some 16) (g := none) (by kernel_rfl) (by kernel_rfl) (by kernel_rfl) (HR8.load (i := 1) rfl (agg := false) hb17.1 hb17.2 (⟨#[]⟩ : ByteArray) ag9 (fun _ => rfl) (by kernel_rfl)) ?_
          rintro _ rfl
          refine WL.restQ 3 [3, 4, 5, 10, 11, 12] (L' := [(3, .slice Ay12 y12.length cy12), (4, .int .i64 y13), (5, .string (t6.getD y13.toNat (⟨#[]⟩ : ByteArray))), (10, .slice AR8 t6.length cR8), (11, .int .i64 (t6.length : Int)), (12, .int .i64 y13)]) (by kernel_rfl) ?_
          obtain ⟨v18, hv19, h⟩ := Option.bind_eq_some_iff.1 h
          replace hv19 := Option.some.inj hv19
          refine WP.reput 5 (v := .string (t6.getD y13.toNat (⟨#[]⟩ : ByteArray))) (v' := .string v18) (by kernel_rfl) (by subst hv19; rfl) ?_
          refine WP.pick [3, 4, 5, 10, 11, 12] ?_
          refine WP.region ?_
          refine WL.pure 0 2 [3, 4, 10, 11, 12, 17, 18] (L' := [(3, .slice Ay12 y12.length cy12), (4, .int .i64 y13), (10, .slice AR8 t6.length cR8), (11, .int .i64 (t6.length : Int)), (12, .int .i64 y13), (17, .slice Ay12 y12.length cy12), (18, .string v18)]) (by kernel_rfl) (by decide) ?_
          rw [Option.bind_eq_some_iff] at h
          obtain ⟨t20, ht21, h⟩ := h
          refine WL.op (op := .call { callee := (.value (.func 39)), args := #[(.tmp 18)], argTypes := #[9] }) (ty := 9) (d := some 19) (g := none) (by kernel_rfl) (by kernel_rfl) (by kernel_rfl) (Does.call (f := 39) (args := [.string v18]) (by kernel_rfl) (fun W hI => (tokens_Norm_calls HT v18  t20 ht21 hI))) ?_
          rintro _ _ _ ⟨rfl, rfl, rfl⟩
          refine WL.pure 3 5 [3, 10, 11, 12, 17, 21] (L' := [(3, .slice Ay12 y12.length cy12), (10, .slice AR8 t6.length cR8), (11, .int .i64 (t6.length : Int)), (12, .int .i64 y13), (17, .slice Ay12 y12.length cy12), (21, .agg #[.string t20, .int .i64 y13])]) (by kernel_rfl) (by decide) ?_
          refine WL.op (op := .buildSlice 32 1 #[(0, (.tmp 21))]) (ty := 32) (d := some 22) (g := none) (by kernel_rfl) (by kernel_rfl) (by kernel_rfl) (Does.new (o := .cells #[.string t20, .int .i64 y13] 45 (0, 0)) (v := fun r => .slice (some ⟨r, 0, none⟩) 1 1) (fun r => by kernel_rfl)) ?_
          rintro _ _ _ ⟨b24, rfl, rfl, rfl⟩
          have Ho26 : Ow k45 G (some ⟨b24, 0, none⟩) 1 ([(⟨t20, y13⟩ : T45)] : List T45) [(b24, .cells #[.string t20, .int .i64 y13] 45 (0, 0))] := Ow.lit (kd := k45) (G := G) (b := b24) (T := 45) (xs := ([(⟨t20, y13⟩ : T45)] : List T45)) (cs := [.string t20, .int .i64 y13]) (.cons (x := (⟨t20, y13⟩ : T45)) (cs := [.string t20, .int .i64 y13]) (by exact rfl) .nil)
          by_cases hb27 : y12.length + ([(⟨t20, y13⟩ : T45)] : List T45).length ≤ 1073741824
          case neg => rw [if_neg hb27] at h; cases h
          rw [if_pos hb27] at h
          refine WL.op (op := .call { callee := (.builtin .append), args := #[(.tmp 17), (.tmp 22)], argTypes := #[32, 32] }) (ty := 32) (d := some 23) (g := none) (by kernel_rfl) (by kernel_rfl) (by kernel_rfl) (Ow.append (ys := ([(⟨t20, y13⟩ : T45)] : List T45)) (v := .slice (some ⟨b24, 0, none⟩) ([(⟨t20, y13⟩ : T45)] : List T45).length 1) Hy12 (i := 1) rfl (by kernel_rfl) (by kernel_rfl) (Ho26.src (i := 0) rfl) sl32 ze45 nt32 (by decide) hb27) ?_
          rintro _ _ _ ⟨rfl, AN28, cN28, CN28, rfl, HN28, rfl⟩
          refine WL.rest 7 [3, 10, 11, 12] (L' := [(3, .slice AN28 (y12 ++ ([(⟨t20, y13⟩ : T45)] : List T45)).length cN28), (10, .slice AR8 t6.length cR8), (11, .int .i64 (t6.length : Int)), (12, .int .i64 y13)]) (by kernel_rfl) ?_
          refine QP.blockN ?_
          refine QP.next ?_
          refine WP.pick [3, 10, 11, 12] ?_
          refine WP.regionP [3, 10, 11, 12] (L' := [(3, .slice AN28 (y12 ++ ([(⟨t20, y13⟩ : T45)] : List T45)).length cN28), (10, .slice AR8 t6.length cR8), (11, .int .i64 (t6.length : Int)), (12, .int .i64 (IntKind.i64.wrap (y13 + 1)))]) (by kernel_rfl) ?_
          refine QP.dropAt 0 ?_
          refine QP.front (i := 1) rfl ?_
          refine QP.front (i := 1) rfl ?_
          refine QP.pick [3, 10, 11, 12] ?_
          exact QP.meet ⟨kn15, Nat.lt_succ_self _, (y12 ++ ([(⟨t20, y13⟩ : T45)] : List T45)), (IntKind.i64.wrap (y13 + 1)), h, AN28, cN28, CN28, rfl, rfl, rfl, HN28⟩
        · replace hc := of_decide_eq_false hc
          rw [if_neg hc] at h
          have hc16 := hc
          clear hc
          refine WP.exit ?_
          refine QP.thenE ?_
          refine QP.thenE ?_
          refine QP.blockE ?_
          refine QP.dropAt 1 ?_
          refine QP.pick [3] ?_
          exact QP.meet ⟨_, Option.some.inj h, Ay12, cy12, Cy12, rfl, rfl, rfl, Hy12⟩
    · rintro _ _ _ ⟨s10, rfl, As10, cs10, Cs10, rfl, rfl, rfl, Hs10⟩
      clear h
      replace h := hk11
      refine QP.next ?_
      refine WP.pick [3] ?_
      refine WP.seqP [2] (L' := [(2, .slice As10 s10.length cs10)]) (by kernel_rfl) ?_
      refine WP.ret ?_
      obtain rfl := Option.some.inj h
      exact QP.returned [2] [.slice As10 s10.length cs10] _ (by kernel_rfl) (by kernel_rfl) (by kernel_rfl) (fun W hI => ⟨_, _, _, rfl, ⟨As10, cs10, Cs10, rfl, Hs10, rfl, rfl⟩, hI⟩)

/-! ### grapevine/deem.Phrase: function 14 -/
def deem_Phrase_l1 (l0 : List T45) (l1 : List ByteArray) (y3 : Int) : Nat → Int → Option Int
  | 0, _ => none
  | k + 1, y9 => ((if y9 < (l1.length : Int) then (if (IntKind.i64.wrap (y3 + y9)) < (l0.length : Int) then (if 0 ≤ (IntKind.i64.wrap (y3 + y9)) ∧ (IntKind.i64.wrap (y3 + y9)) < (l0.length : Int) then (if 0 ≤ y9 ∧ y9 < (l1.length : Int) then (if 0 ≤ y3 ∧ y3 < (l0.length : Int) then some (decide ((l0.getD (IntKind.i64.wrap (y3 + y9)).toNat z45) = (⟨(l1.getD y9.toNat (⟨#[]⟩ : ByteArray)), IntKind.i64.wrap (((l0.getD y3.toNat z45).f1) + y9)⟩ : T45))) else none) else none) else none) else some false) else some false).bind fun s12 => (if s12 = true then deem_Phrase_l1 l0 l1 y3 k (IntKind.i64.wrap (y9 + 1)) else some y9))
def deem_Phrase_l0 (l0 : List T45) (l1 : List ByteArray) : Nat → Int → Option (Sum Bool Unit)
  | 0, _ => none
  | k + 1, y3 => (if y3 < (l0.length : Int) then ((deem_Phrase_l1 l0 l1 y3 k 0).bind fun s7 => ((if s7 > 0 then some (s7 == (l1.length : Int)) else some false).bind fun s20 => (if s20 = true then some (Sum.inl true) else deem_Phrase_l0 l0 l1 k (IntKind.i64.wrap (y3 + 1))))) else some (Sum.inr ()))
def deem_Phrase (k : Nat) (l0 : List T45) (l1 : List ByteArray) : Option Bool := ((deem_Phrase_l0 l0 l1 k 0).bind fun os1 => match os1 with | Sum.inl r => some r | Sum.inr s1 => some false)
set_option maxHeartbeats 4000000 in
theorem deem_Phrase_calls {B : World} {G : GMap} {Γ : List Chunk} {W : World} (k : Nat) (l0 : List T45) (l1 : List ByteArray) (Al0 : Option Addr) (cl0 : Nat) (Hl0 : Rd k45 G Al0 cl0 l0) (Al1 : Option Addr) (cl1 : Nat) (Hl1 : Rd kStr G Al1 cl1 l1) (r : Bool) (h : deem_Phrase k l0 l1 = some r) (hI : Inv B G (Γ) W) :
    Calls Tryd.prog 14 [.slice Al0 l0.length cl0, .slice Al1 l1.length cl1].toArray W (Ret B (fun v G' Γ' => v = .bool r ∧ G = G' ∧ Γ = Γ')) := by
  refine calls_WP (Γ := Γ) (G := G) (B := B) Tryd.func14 rfl (by kernel_rfl) ?_ hI
  clear hI
  unfold deem_Phrase at h
  refine WP.seqP [0, 1] (L' := [(0, .slice Al0 l0.length cl0), (1, .slice Al1 l1.length cl1)]) (by kernel_rfl) ?_
  refine WP.seq ?_
  refine WP.seqP [0, 1, 8, 9] (L' := [(0, .slice Al0 l0.length cl0), (1, .slice Al1 l1.length cl1), (8, .int .i64 (l0.length : Int)), (9, .int .i64 0)]) (by kernel_rfl) ?_
  rw [Option.bind_eq_some_iff] at h
  obtain ⟨os1, h, hk2⟩ := h
  refine WP.cutQ (fun L' G' Γ' => ∃ s1 : Unit, Sum.inr s1 = os1 ∧ L' = [] ∧ G = G' ∧ Γ = Γ') ?_ ?_
  · skip
    refine WP.block ?_
    refine WP.pick [0, 1, 8, 9] ?_
    refine WP.loopF (fun kn4 L' G' Γ' => ∃ (y3 : Int), deem_Phrase_l0 l0 l1 kn4 y3 = some os1 ∧ L' = [(0, .slice Al0 l0.length cl0), (1, .slice Al1 l1.length cl1), (8, .int .i64 (l0.length : Int)), (9, .int .i64 y3)] ∧ G = G' ∧ Γ = Γ') ?_ k ⟨0, h, rfl, rfl, rfl⟩
    clear h
    rintro kn5 _ _ _ ⟨y3, h, rfl, rfl, rfl⟩
    cases kn5 with
    | zero => exact absurd h (by simp [deem_Phrase_l0])
    | succ kn5 =>
      simp only [deem_Phrase_l0] at h
      refine WP.seqP [0, 1, 8, 9, 10] (L' := [(0, .slice Al0 l0.length cl0), (1, .slice Al1 l1.length cl1), (8, .int .i64 (l0.length : Int)), (9, .int .i64 y3), (10, .bool (decide (y3 < (l0.length : Int))))]) (by kernel_rfl) ?_
      refine WP.seq ?_
      refine WP.cond (b := decide (y3 < (l0.length : Int))) (by kernel_rfl) (fun hc => ?_) (fun hc => ?_)
      · replace hc := of_decide_eq_true hc
        rw [if_pos hc] at h
        have hc6 := hc
        clear hc
        refine WP.skip ?_
        refine QP.next ?_
        refine WP.pick [0, 1, 8, 9] ?_
        refine WP.seq ?_
        refine WP.block ?_
        refine WP.seqP [0, 1, 5, 8, 9] (L' := [(0, .slice Al0 l0.length cl0), (1, .slice Al1 l1.length cl1), (5, .int .i64 y3), (8, .int .i64 (l0.length : Int)), (9, .int .i64 y3)]) (by kernel_rfl) ?_
        refine WP.seqP [0, 1, 5, 6, 8, 9] (L' := [(0, .slice Al0 l0.length cl0), (1, .slice Al1 l1.length cl1), (5, .int .i64 y3), (6, .int .i64 0), (8, .int .i64 (l0.length : Int)), (9, .int .i64 y3)]) (by kernel_rfl) ?_
        rw [Option.bind_eq_some_iff] at h
        obtain ⟨os7, h, hk8⟩ := h
        refine WP.cut (fun L' G' Γ' => ∃ s7 : Int, s7 = os7 ∧ L' = [(0, .slice Al0 l0.length cl0), (1, .slice Al1 l1.length cl1), (6, .int .i64 s7), (8, .int .i64 (l0.length : Int)), (9, .int .i64 y3)] ∧ G = G' ∧ Γ = Γ') ?_ ?_
        · clear hk8
          refine WP.block ?_
          refine WP.pick [0, 1, 5, 6, 8, 9] ?_
          refine WP.loopF (fun kn10 L' G' Γ' => ∃ (y9 : Int), deem_Phrase_l1 l0 l1 y3 kn10 y9 = some os7 ∧ L' = [(0, .slice Al0 l0.length cl0), (1, .slice Al1 l1.length cl1), (5, .int .i64 y3), (6, .int .i64 y9), (8, .int .i64 (l0.length : Int)), (9, .int .i64 y3)] ∧ G = G' ∧ Γ = Γ') ?_ kn5 ⟨0, h, rfl, rfl, rfl⟩
          clear h
          rintro kn11 _ _ _ ⟨y9, h, rfl, rfl, rfl⟩
          cases kn11 with
          | zero => exact absurd h (by simp [deem_Phrase_l1])
          | succ kn11 =>
            simp only [deem_Phrase_l1] at h
            refine WP.seq ?_
            rw [Option.bind_eq_some_iff] at h
            obtain ⟨os12, h, hk13⟩ := h
            refine WP.cut (fun L' G' Γ' => ∃ s12 : Bool, s12 = os12 ∧ L' = [(0, .slice Al0 l0.length cl0), (1, .slice Al1 l1.length cl1), (5, .int .i64 y3), (6, .int .i64 y9), (8, .int .i64 (l0.length : Int)), (9, .int .i64 y3), (44, .bool s12)] ∧ G = G' ∧ Γ = Γ') ?_ ?_
            · clear hk13
              skip
              refine WP.any (N := 33) (S := [⟨some 12, [6], []⟩, ⟨some 13, [1], []⟩, ⟨some 14, [13], [1]⟩, ⟨some 15, [12, 14], [0, 2]⟩, ⟨some 16, [15], [3]⟩, ⟨some 17, [5, 16], [4]⟩, ⟨some 18, [6, 16], [4]⟩, ⟨some 19, [16, 17, 18], [4, 5, 6]⟩, ⟨some 20, [0, 16], [4]⟩, ⟨some 21, [16, 20], [4, 8]⟩, ⟨some 22, [16, 19, 21], [4, 7, 9]⟩, ⟨some 23, [16, 22], [4, 10]⟩, ⟨some 24, [23], [4, 11]⟩, ⟨some 25, [0, 24], [12]⟩, ⟨some 26, [5, 24], [12]⟩, ⟨some 27, [6, 24], [12]⟩, ⟨some 28, [24, 26, 27], [12, 14, 15]⟩, ⟨some 29, [24, 25, 28], [12, 13, 16]⟩, ⟨some 30, [24, 29], [12, 17]⟩, ⟨some 31, [1, 24], [12]⟩, ⟨some 32, [6, 24], [12]⟩, ⟨some 33, [24, 31, 32], [12, 19, 20]⟩, ⟨some 34, [24, 33], [12, 21]⟩, ⟨some 35, [0, 24], [12]⟩, ⟨some 36, [5, 24], [12]⟩, ⟨some 37, [24, 35, 36], [12, 23, 24]⟩, ⟨some 38, [24, 37], [12, 25]⟩, ⟨some 39, [24, 38], [12, 26]⟩, ⟨some 40, [6, 24], [12]⟩, ⟨some 41, [24, 39, 40], [12, 27, 28]⟩, ⟨some 42, [24, 34, 41], [12, 22, 29]⟩, ⟨some 43, [24, 30, 42], [12, 18, 30]⟩, ⟨some 44, [24, 43], [12, 31]⟩]) (kw := 33) (G0 := G) (Γ0 := Γ) mo (by kernel_rfl) (fun hS => ?_)
              refine WA.pure [0, 1, 2, 3, 4] [0, 1, 5, 6, 8, 9, 16] (m := 28) (b' := 31) (L' := [(0, .slice Al0 l0.length cl0), (1, .slice Al1 l1.length cl1), (5, .int .i64 y3), (6, .int .i64 y9), (8, .int .i64 (l0.length : Int)), (9, .int .i64 y3), (16, .bool (decide (y9 < (l1.length : Int))))]) (by kernel_rfl) (NoPanic.then (NoPanic.then (NoPanic.then (NoPanic.block (NoPanic.then (NoPanic.block (NoPanic.then (NoPanic.then (NoPanic.block (NoPanic.then (NoPanic.then (NoPanic.body)))))))))))) Under.refl hS (by kernel_rfl) ?_
              refine WA.split 16 (b := decide (y9 < (l1.length : Int))) (by kernel_rfl) (fun hc => ?_) (fun hc => ?_)
              · replace hc := of_decide_eq_true hc
                rw [if_pos hc] at h
                have hc14 := hc
                clear hc
                refine WA.pure [5, 6, 7, 8, 9, 10, 11, 12] [0, 1, 5, 6, 8, 9, 24] (m := 20) (b' := 8191) (L' := [(0, .slice Al0 l0.length cl0), (1, .slice Al1 l1.length cl1), (5, .int .i64 y3), (6, .int .i64 y9), (8, .int .i64 (l0.length : Int)), (9, .int .i64 y3), (24, .bool (decide ((IntKind.i64.wrap (y3 + y9)) < (l0.length : Int))))]) (by kernel_rfl) (NoPanic.then (NoPanic.then (NoPanic.then (NoPanic.block (NoPanic.then (NoPanic.block (NoPanic.then (NoPanic.then (NoPanic.block (NoPanic.then (NoPanic.then (NoPanic.body)))))))))))) Under.refl hS (by kernel_rfl) ?_
                refine WA.split 24 (b := decide ((IntKind.i64.wrap (y3 + y9)) < (l0.length : Int))) (by kernel_rfl) (fun hc => ?_) (fun hc => ?_)
                · replace hc := of_decide_eq_true hc
                  rw [if_pos hc] at h
                  have hc15 := hc
                  clear hc
                  refine WA.pure [13, 14, 15, 16, 19, 20, 23, 24, 28] [0, 1, 5, 6, 8, 9, 24, 25, 28, 31, 32, 35, 36, 40] (m := 11) (b' := 295305215) (L' := [(0, .slice Al0 l0.length cl0), (1, .slice Al1 l1.length cl1), (5, .int .i64 y3), (6, .int .i64 y9), (8, .int .i64 (l0.length : Int)), (9, .int .i64 y3), (24, .bool true), (25, .slice Al0 l0.length cl0), (28, .int .i64 (IntKind.i64.wrap (y3 + y9))), (31, .slice Al1 l1.length cl1), (32, .int .i64 y9), (35, .slice Al0 l0.length cl0), (36, .int .i64 y3), (40, .int .i64 y9)]) (by kernel_rfl) (NoPanic.then (NoPanic.then (NoPanic.then (NoPanic.block (NoPanic.then (NoPanic.block (NoPanic.then (NoPanic.then (NoPanic.block (NoPanic.then (NoPanic.then (NoPanic.body)))))))))))) Under.refl hS (by kernel_rfl) ?_
                  by_cases hb16 : 0 ≤ (IntKind.i64.wrap (y3 + y9)) ∧ (IntKind.i64.wrap (y3 + y9)) < (l0.length : Int)
                  case neg => rw [if_neg hb16] at h; cases h
                  rw [if_pos hb16] at h
                  refine WA.tellD [] (i := 17) (m := 10) (b' := 295436287) (by kernel_rfl) (NoPanic.then (NoPanic.then (NoPanic.then (NoPanic.block (NoPanic.then (NoPanic.block (NoPanic.then (NoPanic.then (NoPanic.block (NoPanic.then (NoPanic.then (NoPanic.body)))))))))))) Under.refl hS (by kernel_rfl) (op := .indexAddr 32 (.tmp 25) (.tmp 28)) (ty := 0) (d := some 29) (g := some (12, true)) (by kernel_rfl) (by kernel_rfl) (by kernel_rfl) (Tells.indexAddr (A := Al0) (n := l0.length) (c := cl0) (k := .i64) (j := (IntKind.i64.wrap (y3 + y9))) (by kernel_rfl) (by kernel_rfl) (Hl0.isSome hb16.1 hb16.2) hb16.1 hb16.2 sl32) ?_
                  refine WA.tellDE [] (i := 18) (m := 9) (b' := 295698431) (by kernel_rfl) (NoPanic.then (NoPanic.then (NoPanic.then (NoPanic.block (NoPanic.then (NoPanic.block (NoPanic.then (NoPanic.then (NoPanic.block (NoPanic.then (NoPanic.then (NoPanic.body)))))))))))) Under.refl hS (by kernel_rfl) (op := .load 45 (.tmp 29)) (ty := 45) (d := some 30) (g := some (12, true)) (by kernel_rfl) (by kernel_rfl) (by kernel_rfl) (Hl0.load (agg := true) hb16.1 hb16.2 z45 ag45 (fun h => by cases h) (by kernel_rfl)) ?_
                  rintro _ rfl
                  by_cases hb17 : 0 ≤ y9 ∧ y9 < (l1.length : Int)
                  case neg => rw [if_neg hb17] at h; cases h
                  rw [if_pos hb17] at h
                  refine WA.tellD [] (i := 21) (m := 8) (b' := 297795583) (by kernel_rfl) (NoPanic.then (NoPanic.then (NoPanic.then (NoPanic.block (NoPanic.then (NoPanic.block (NoPanic.then (NoPanic.then (NoPanic.block (NoPanic.then (NoPanic.then (NoPanic.body)))))))))))) Under.refl hS (by kernel_rfl) (op := .indexAddr 22 (.tmp 31) (.tmp 32)) (ty := 0) (d := some 33) (g := some (12, true)) (by kernel_rfl) (by kernel_rfl) (by kernel_rfl) (Tells.indexAddr (A := Al1) (n := l1.length) (c := cl1) (k := .i64) (j := y9) (by kernel_rfl) (by kernel_rfl) (Hl1.isSome hb17.1 hb17.2) hb17.1 hb17.2 sl22) ?_
                  refine WA.tellDE [] (i := 22) (m := 7) (b' := 301989887) (by kernel_rfl) (NoPanic.then (NoPanic.then (NoPanic.then (NoPanic.block (NoPanic.then (NoPanic.block (NoPanic.then (NoPanic.then (NoPanic.block (NoPanic.then (NoPanic.then (NoPanic.body)))))))))))) Under.refl hS (by kernel_rfl) (op := .load 9 (.tmp 33)) (ty := 9) (d := some 34) (g := some (12, true)) (by kernel_rfl) (by kernel_rfl) (by kernel_rfl) (Hl1.load (agg := false) hb17.1 hb17.2 (⟨#[]⟩ : ByteArray) ag9 (fun _ => rfl) (by kernel_rfl)) ?_
                  rintro _ rfl
                  by_cases hb18 : 0 ≤ y3 ∧ y3 < (l0.length : Int)
                  case neg => rw [if_neg hb18] at h; cases h
                  rw [if_pos hb18] at h
                  refine WA.tellD [] (i := 25) (m := 6) (b' := 335544319) (by kernel_rfl) (NoPanic.then (NoPanic.then (NoPanic.then (NoPanic.block (NoPanic.then (NoPanic.block (NoPanic.then (NoPanic.then (NoPanic.block (NoPanic.then (NoPanic.then (NoPanic.body)))))))))))) Under.refl hS (by kernel_rfl) (op := .indexAddr 32 (.tmp 35) (.tmp 36)) (ty := 0) (d := some 37) (g := some (12, true)) (by kernel_rfl) (by kernel_rfl) (by kernel_rfl) (Tells.indexAddr (A := Al0) (n := l0.length) (c := cl0) (k := .i64) (j := y3) (by kernel_rfl) (by kernel_rfl) (Hl0.isSome hb18.1 hb18.2) hb18.1 hb18.2 sl32) ?_
                  refine WA.tellD [] (i := 26) (m := 5) (b' := 402653183) (by kernel_rfl) (NoPanic.then (NoPanic.then (NoPanic.then (NoPanic.block (NoPanic.then (NoPanic.block (NoPanic.then (NoPanic.then (NoPanic.block (NoPanic.then (NoPanic.then (NoPanic.body)))))))))))) Under.refl hS (by kernel_rfl) (op := .fieldAddr 45 (.tmp 37) 1) (ty := 0) (d := some 38) (g := some (12, true)) (by kernel_rfl) (by kernel_rfl) (by kernel_rfl) (Tells.fieldElem (m := y3.toNat * 2) (A := Al0) (by kernel_rfl) (Hl0.isSome hb18.1 hb18.2) fi45_1) ?_
                  refine WA.tellDE [] (i := 27) (m := 4) (b' := 536870911) (by kernel_rfl) (NoPanic.then (NoPanic.then (NoPanic.then (NoPanic.block (NoPanic.then (NoPanic.block (NoPanic.then (NoPanic.then (NoPanic.block (NoPanic.then (NoPanic.then (NoPanic.body)))))))))))) Under.refl hS (by kernel_rfl) (op := .load 3 (.tmp 38)) (ty := 3) (d := some 39) (g := some (12, true)) (by kernel_rfl) (by kernel_rfl) (by kernel_rfl) (Hl0.loadF (agg := false) (off := 1) hb18.1 hb18.2 z45 ag3 (fun _ => rfl) (by decide) (by kernel_rfl)) ?_
                  rintro _ rfl
                  refine WA.pure [29, 30] [0, 1, 5, 6, 8, 9, 24, 30, 42] (m := 2) (b' := 2147483647) (L' := [(0, .slice Al0 l0.length cl0), (1, .slice Al1 l1.length cl1), (5, .int .i64 y3), (6, .int .i64 y9), (8, .int .i64 (l0.length : Int)), (9, .int .i64 y3), (24, .bool true), (30, .agg #[.string ((l0.getD (IntKind.i64.wrap (y3 + y9)).toNat z45).f0), .int .i64 ((l0.getD (IntKind.i64.wrap (y3 + y9)).toNat z45).f1)]), (42, .agg #[.string (l1.getD y9.toNat (⟨#[]⟩ : ByteArray)), .int .i64 (IntKind.i64.wrap (((l0.getD y3.toNat z45).f1) + y9))])]) (by kernel_rfl) (NoPanic.then (NoPanic.then (NoPanic.then (NoPanic.block (NoPanic.then (NoPanic.block (NoPanic.then (NoPanic.then (NoPanic.block (NoPanic.then (NoPanic.then (NoPanic.body)))))))))))) Under.refl hS (by kernel_rfl) ?_
                  refine WA.tellD [] (i := 31) (m := 1) (b' := 4294967295) (by kernel_rfl) (NoPanic.then (NoPanic.then (NoPanic.then (NoPanic.block (NoPanic.then (NoPanic.block (NoPanic.then (NoPanic.then (NoPanic.block (NoPanic.then (NoPanic.then (NoPanic.body)))))))))))) Under.refl hS (by kernel_rfl) (op := .binOp .eql 45 (.tmp 30) (.tmp 42) 45) (ty := 4) (d := some 43) (g := some (12, true)) (by kernel_rfl) (by kernel_rfl) (by kernel_rfl) (Tells.eqAgg (xs := #[.string ((l0.getD (IntKind.i64.wrap (y3 + y9)).toNat z45).f0), .int .i64 ((l0.getD (IntKind.i64.wrap (y3 + y9)).toNat z45).f1)]) (ys := #[.string (l1.getD y9.toNat (⟨#[]⟩ : ByteArray)), .int .i64 (IntKind.i64.wrap (((l0.getD y3.toNat z45).f1) + y9))]) (ls := [.str ((l0.getD (IntKind.i64.wrap (y3 + y9)).toNat z45).f0) (l1.getD y9.toNat (⟨#[]⟩ : ByteArray)), .int ((l0.getD (IntKind.i64.wrap (y3 + y9)).toNat z45).f1) (IntKind.i64.wrap (((l0.getD y3.toNat z45).f1) + y9))]) (by kernel_rfl) (by kernel_rfl) (by kernel_rfl) eg45) ?_
                  refine WA.reput 43 (v := .bool ([.str ((l0.getD (IntKind.i64.wrap (y3 + y9)).toNat z45).f0) (l1.getD y9.toNat (⟨#[]⟩ : ByteArray)), .int ((l0.getD (IntKind.i64.wrap (y3 + y9)).toNat z45).f1) (IntKind.i64.wrap (((l0.getD y3.toNat z45).f1) + y9))].all Lf.ok)) (v' := .bool (decide ((l0.getD (IntKind.i64.wrap (y3 + y9)).toNat z45) = (⟨(l1.getD y9.toNat (⟨#[]⟩ : ByteArray)), IntKind.i64.wrap (((l0.getD y3.toNat z45).f1) + y9)⟩ : T45)))) (by kernel_rfl) (by exact (congrArg Value.bool (eqT45 (l0.getD (IntKind.i64.wrap (y3 + y9)).toNat z45) (⟨(l1.getD y9.toNat (⟨#[]⟩ : ByteArray)), IntKind.i64.wrap (((l0.getD y3.toNat z45).f1) + y9)⟩ : T45)))) ?_
                  refine WA.pure [32] [0, 1, 5, 6, 8, 9, 44] (m := 0) (b' := 8589934591) (L' := [(0, .slice Al0 l0.length cl0), (1, .slice Al1 l1.length cl1), (5, .int .i64 y3), (6, .int .i64 y9), (8, .int .i64 (l0.length : Int)), (9, .int .i64 y3), (44, .bool (decide ((l0.getD (IntKind.i64.wrap (y3 + y9)).toNat z45) = (⟨(l1.getD y9.toNat (⟨#[]⟩ : ByteArray)), IntKind.i64.wrap (((l0.getD y3.toNat z45).f1) + y9)⟩ : T45))))]) (by kernel_rfl) (NoPanic.then (NoPanic.then (NoPanic.then (NoPanic.block (NoPanic.then (NoPanic.block (NoPanic.then (NoPanic.then (NoPanic.block (NoPanic.then (NoPanic.then (NoPanic.body)))))))))))) Under.refl hS (by kernel_rfl) ?_
                  refine WA.done hS (by kernel_rfl) ?_
                  refine QP.pick [0, 1, 5, 6, 8, 9, 44] ?_
                  refine QP.pick [0, 1, 5, 6, 8, 9, 44] ?_
                  exact QP.meet ⟨_, Option.some.inj h, rfl, rfl, rfl⟩
                · replace hc := of_decide_eq_false hc
                  rw [if_neg hc] at h
                  have hc15 := hc
                  clear hc
                  refine WA.pure [13, 14, 15, 16, 17, 18, 19, 20, 21, 22, 23, 24, 25, 26, 27, 28, 29, 30, 31, 32] [0, 1, 5, 6, 8, 9, 44] (m := 0) (b' := 8589934591) (L' := [(0, .slice Al0 l0.length cl0), (1, .slice Al1 l1.length cl1), (5, .int .i64 y3), (6, .int .i64 y9), (8, .int .i64 (l0.length : Int)), (9, .int .i64 y3), (44, .bool false)]) (by kernel_rfl) (NoPanic.then (NoPanic.then (NoPanic.then (NoPanic.block (NoPanic.then (NoPanic.block (NoPanic.then (NoPanic.then (NoPanic.block (NoPanic.then (NoPanic.then (NoPanic.body)))))))))))) Under.refl hS (by kernel_rfl) ?_
                  refine WA.done hS (by kernel_rfl) ?_
                  refine QP.pick [0, 1, 5, 6, 8, 9, 44] ?_
                  refine QP.pick [0, 1, 5, 6, 8, 9, 44] ?_
                  exact QP.meet ⟨_, Option.some.inj h, rfl, rfl, rfl⟩
              · replace hc := of_decide_eq_false hc
                rw [if_neg hc] at h
                have hc14 := hc
                clear hc
                refine WA.pure [5, 6, 7, 8, 9, 10, 11, 12, 13, 14, 15, 16, 17, 18, 19, 20, 21, 22, 23, 24, 25, 26, 27, 28, 29, 30, 31, 32] [0, 1, 5, 6, 8, 9, 44] (m := 0) (b' := 8589934591) (L' := [(0, .slice Al0 l0.length cl0), (1, .slice Al1 l1.length cl1), (5, .int .i64 y3), (6, .int .i64 y9), (8, .int .i64 (l0.length : Int)), (9, .int .i64 y3), (44, .bool false)]) (by kernel_rfl) (NoPanic.then (NoPanic.then (NoPanic.then (NoPanic.block (NoPanic.then (NoPanic.block (NoPanic.then (NoPanic.then (NoPanic.block (NoPanic.then (NoPanic.then (NoPanic.body)))))))))))) Under.refl hS (by kernel_rfl) ?_
                refine WA.done hS (by kernel_rfl) ?_
                refine QP.pick [0, 1, 5, 6, 8, 9, 44] ?_
                refine QP.pick [0, 1, 5, 6, 8, 9, 44] ?_
                exact QP.meet ⟨_, Option.some.inj h, rfl, rfl, rfl⟩
            · rintro _ _ _ ⟨s12, rfl, rfl, rfl, rfl⟩
              clear h
              replace h := hk13
              refine WP.cond (b := s12) (by kernel_rfl) (fun hc => ?_) (fun hc => ?_)
              · replace hc := hc
                rw [if_pos hc] at h
                have hc19 := hc
                clear hc
                refine WP.skip ?_
                refine QP.next ?_
                refine WP.pick [0, 1, 5, 6, 8, 9] ?_
                refine WP.block ?_
                refine WP.regionP [0, 1, 5, 6, 8, 9] (L' := [(0, .slice Al0 l0.length cl0), (1, .slice Al1 l1.length cl1), (5, .int .i64 y3), (6, .int .i64 (IntKind.i64.wrap (y9 + 1))), (8, .int .i64 (l0.length : Int)), (9, .int .i64 y3)]) (by kernel_rfl) ?_
                refine QP.blockN ?_
                refine QP.pick [0, 1, 5, 6, 8, 9] ?_
                exact QP.meet ⟨kn11, Nat.lt_succ_self _, (IntKind.i64.wrap (y9 + 1)), h, rfl, rfl, rfl⟩
              · replace hc := (Bool.eq_false_iff.1 hc)
                rw [if_neg hc] at h
                have hc19 := hc
                clear hc
                refine WP.exit ?_
                refine QP.thenE ?_
                refine QP.thenE ?_
                refine QP.blockE ?_
                refine QP.pick [0, 1, 6, 8, 9] ?_
                exact QP.meet ⟨_, Option.some.inj h, rfl, rfl, rfl⟩
        · rintro _ _ _ ⟨s7, rfl, rfl, rfl, rfl⟩
          clear h
          replace h := hk8
          rw [Option.bind_eq_some_iff] at h
          obtain ⟨os20, h, hk21⟩ := h
          refine WP.cut (fun L' G' Γ' => ∃ s20 : Bool, s20 = os20 ∧ L' = [(0, .slice Al0 l0.length cl0), (1, .slice Al1 l1.length cl1), (8, .int .i64 (l0.length : Int)), (9, .int .i64 y3), (54, .bool s20)] ∧ G = G' ∧ Γ = Γ') ?_ ?_
          · clear hk21
            refine WP.region ?_
            refine WL.pure 0 3 [0, 1, 6, 8, 9, 49] (L' := [(0, .slice Al0 l0.length cl0), (1, .slice Al1 l1.length cl1), (6, .int .i64 s7), (8, .int .i64 (l0.length : Int)), (9, .int .i64 y3), (49, .bool (decide (s7 > 0)))]) (by kernel_rfl) (by decide) ?_
            refine WL.split 49 (b := decide (s7 > 0)) (by kernel_rfl) (fun hc => ?_) (fun hc => ?_)
            · replace hc := of_decide_eq_true hc
              rw [if_pos hc] at h
              have hc22 := hc
              clear hc
              refine WL.rest 3 [0, 1, 8, 9, 54] (L' := [(0, .slice Al0 l0.length cl0), (1, .slice Al1 l1.length cl1), (8, .int .i64 (l0.length : Int)), (9, .int .i64 y3), (54, .bool (s7 == (l1.length : Int)))]) (by kernel_rfl) ?_
              refine QP.pick [0, 1, 8, 9, 54] ?_
              exact QP.meet ⟨_, Option.some.inj h, rfl, rfl, rfl⟩
            · replace hc := of_decide_eq_false hc
              rw [if_neg hc] at h
              have hc22 := hc
              clear hc
              refine WL.rest 3 [0, 1, 8, 9, 54] (L' := [(0, .slice Al0 l0.length cl0), (1, .slice Al1 l1.length cl1), (8, .int .i64 (l0.length : Int)), (9, .int .i64 y3), (54, .bool false)]) (by kernel_rfl) ?_
              refine QP.pick [0, 1, 8, 9, 54] ?_
              exact QP.meet ⟨_, Option.some.inj h, rfl, rfl, rfl⟩
          · rintro _ _ _ ⟨s20, rfl, rfl, rfl, rfl⟩
            clear h
            replace h := hk21
            refine WP.cond (b := s20) (by kernel_rfl) (fun hc => ?_) (fun hc => ?_)
            · replace hc := hc
              rw [if_pos hc] at h
              have hc23 := hc
              clear hc
              refine WP.seqP [4] (L' := [(4, .bool true)]) (by kernel_rfl) ?_
              refine WP.ret ?_
              refine QP.blockR ?_
              refine QP.thenR ?_
              refine QP.thenR ?_
              refine QP.blockR ?_
              refine QP.thenR ?_
              refine QP.thenR ?_
              obtain rfl := Option.some.inj h
              obtain rfl := Option.some.inj (show some _ = some _ from hk2)
              exact QP.returned [4] [.bool true] _ (by kernel_rfl) (by kernel_rfl) (by kernel_rfl) (fun W hI => ⟨_, _, _, rfl, ⟨rfl, rfl, rfl⟩, hI⟩)
            · replace hc := (Bool.eq_false_iff.1 hc)
              rw [if_neg hc] at h
              have hc23 := hc
              clear hc
              refine WP.skip ?_
              refine QP.blockN ?_
              refine QP.next ?_
              refine WP.pick [0, 1, 8, 9] ?_
              refine WP.regionP [0, 1, 8, 9] (L' := [(0, .slice Al0 l0.length cl0), (1, .slice Al1 l1.length cl1), (8, .int .i64 (l0.length : Int)), (9, .int .i64 (IntKind.i64.wrap (y3 + 1)))]) (by kernel_rfl) ?_
              refine QP.pick [0, 1, 8, 9] ?_
              exact QP.meet ⟨kn5, Nat.lt_succ_self _, (IntKind.i64.wrap (y3 + 1)), h, rfl, rfl, rfl⟩
      · replace hc := of_decide_eq_false hc
        rw [if_neg hc] at h
        have hc6 := hc
        clear hc
        refine WP.exit ?_
        refine QP.thenE ?_
        refine QP.thenE ?_
        refine QP.blockE ?_
        refine QP.pick [] ?_
        exact QP.meet ⟨_, Option.some.inj h, rfl, rfl, rfl⟩
  · rintro _ _ _ ⟨s1, rfl, rfl, rfl, rfl⟩
    clear h
    replace h := hk2
    dsimp only at h
    refine QP.next ?_
    refine WP.pick [] ?_
    refine WP.seqP [4] (L' := [(4, .bool false)]) (by kernel_rfl) ?_
    refine WP.ret ?_
    obtain rfl := Option.some.inj h
    exact QP.returned [4] [.bool false] _ (by kernel_rfl) (by kernel_rfl) (by kernel_rfl) (fun W hI => ⟨_, _, _, rfl, ⟨rfl, rfl, rfl⟩, hI⟩)

/-! ### internal/stringslite.HasPrefix: function 76 -/
def stringslite_HasPrefix (a0 : ByteArray) (a1 : ByteArray) : Option Bool := ((if (a0.size : Int) ≥ (a1.size : Int) then (if 0 ≤ (0 : Int) ∧ (0 : Int) ≤ (a1.size : Int) ∧ (a1.size : Int) ≤ (a0.size : Int) then some ((a0.extract (0 : Int).toNat (a1.size : Int).toNat).toList == a1.toList) else none) else some false).bind fun s1 => some s1)
set_option maxHeartbeats 4000000 in
theorem stringslite_HasPrefix_calls {B : World} {G : GMap} {Γ : List Chunk} {W : World} (a0 : ByteArray) (a1 : ByteArray) (r : Bool) (h : stringslite_HasPrefix a0 a1 = some r) (hI : Inv B G (Γ) W) :
    Calls Tryd.prog 76 [.string a0, .string a1].toArray W (Ret B (fun v G' Γ' => v = .bool r ∧ G = G' ∧ Γ = Γ')) := by
  refine calls_WP (Γ := Γ) (G := G) (B := B) Tryd.func76 rfl (by kernel_rfl) ?_ hI
  clear hI
  unfold stringslite_HasPrefix at h
  refine WP.seqP [0, 1] (L' := [(0, .string a0), (1, .string a1)]) (by kernel_rfl) ?_
  rw [Option.bind_eq_some_iff] at h
  obtain ⟨os1, h, hk2⟩ := h
  refine WP.cut (fun L' G' Γ' => ∃ s1 : Bool, s1 = os1 ∧ L' = [(4, .bool s1)] ∧ G = G' ∧ Γ = Γ') ?_ ?_
  · clear hk2
    refine WP.region ?_
    refine WL.pure 0 6 [0, 1, 10] (L' := [(0, .string a0), (1, .string a1), (10, .bool (decide ((a0.size : Int) ≥ (a1.size : Int))))]) (by kernel_rfl) (by decide) ?_
    refine WL.split 10 (b := decide ((a0.size : Int) ≥ (a1.size : Int))) (by kernel_rfl) (fun hc => ?_) (fun hc => ?_)
    · replace hc := of_decide_eq_true hc
      rw [if_pos hc] at h
      have hc3 := hc
      clear hc
      refine WL.pure 6 9 [1, 10, 11, 13] (L' := [(1, .string a1), (10, .bool true), (11, .string a0), (13, .int .i64 (a1.size : Int))]) (by kernel_rfl) (by decide) ?_
      by_cases hb4 : 0 ≤ (0 : Int) ∧ (0 : Int) ≤ (a1.size : Int) ∧ (a1.size : Int) ≤ (a0.size : Int)
      case neg => rw [if_neg hb4] at h; cases h
      rw [if_pos hb4] at h
      refine WL.tell (op := .slice 9 (.tmp 11) none (some (.tmp 13)) none) (ty := 9) (d := some 14) (g := some (5, true)) (by kernel_rfl) (by kernel_rfl) (by kernel_rfl) (Tells.strPart (s := a0) (l := 0) (h := (a1.size : Int)) (by kernel_rfl) rfl ⟨.i64, by kernel_rfl⟩ hb4.1 hb4.2.1 hb4.2.2 st9) ?_
      refine WL.rest 10 [4] (L' := [(4, .bool ((a0.extract (0 : Int).toNat (a1.size : Int).toNat).toList == a1.toList))]) (by kernel_rfl) ?_
      refine QP.pick [4] ?_
      exact QP.meet ⟨_, Option.some.inj h, rfl, rfl, rfl⟩
    · replace hc := of_decide_eq_false hc
      rw [if_neg hc] at h
      have hc3 := hc
      clear hc
      refine WL.rest 6 [4] (L' := [(4, .bool false)]) (by kernel_rfl) ?_
      refine QP.pick [4] ?_
      exact QP.meet ⟨_, Option.some.inj h, rfl, rfl, rfl⟩
  · rintro _ _ _ ⟨s1, rfl, rfl, rfl, rfl⟩
    clear h
    replace h := hk2
    refine WP.ret ?_
    obtain rfl := Option.some.inj h
    exact QP.returned [4] [.bool s1] _ (by kernel_rfl) (by kernel_rfl) (by kernel_rfl) (fun W hI => ⟨_, _, _, rfl, ⟨rfl, rfl, rfl⟩, hI⟩)

/-! ### strings.HasPrefix: function 48 -/
def strings_HasPrefix (a0 : ByteArray) (a1 : ByteArray) : Option Bool := ((stringslite_HasPrefix a0 a1).bind fun t1 => some t1)
set_option maxHeartbeats 4000000 in
theorem strings_HasPrefix_calls {B : World} {G : GMap} {Γ : List Chunk} {W : World} (a0 : ByteArray) (a1 : ByteArray) (r : Bool) (h : strings_HasPrefix a0 a1 = some r) (hI : Inv B G (Γ) W) :
    Calls Tryd.prog 48 [.string a0, .string a1].toArray W (Ret B (fun v G' Γ' => v = .bool r ∧ G = G' ∧ Γ = Γ')) := by
  refine calls_WP (Γ := Γ) (G := G) (B := B) Tryd.func48 rfl (by kernel_rfl) ?_ hI
  clear hI
  unfold strings_HasPrefix at h
  refine WP.seqP [0, 1] (L' := [(0, .string a0), (1, .string a1)]) (by kernel_rfl) ?_
  refine WP.seqR ?_
  refine WL.pure 0 2 [5, 6] (L' := [(5, .string a0), (6, .string a1)]) (by kernel_rfl) (by decide) ?_
  rw [Option.bind_eq_some_iff] at h
  obtain ⟨t1, ht2, h⟩ := h
  refine WL.op (op := .call { callee := (.value (.func 76)), args := #[(.tmp 5), (.tmp 6)], argTypes := #[9, 9] }) (ty := 4) (d := some 7) (g := none) (by kernel_rfl) (by kernel_rfl) (by kernel_rfl) (Does.call (f := 76) (args := [.string a0, .string a1]) (by kernel_rfl) (fun W hI => (stringslite_HasPrefix_calls a0 a1  t1 ht2 hI))) ?_
  rintro _ _ _ ⟨rfl, rfl, rfl⟩
  refine WL.restQ 3 [4] (L' := [(4, .bool t1)]) (by kernel_rfl) ?_
  refine WP.ret ?_
  obtain rfl := Option.some.inj h
  exact QP.returned [4] [.bool t1] _ (by kernel_rfl) (by kernel_rfl) (by kernel_rfl) (fun W hI => ⟨_, _, _, rfl, ⟨rfl, rfl, rfl⟩, hI⟩)

/-! ### (grapevine/deem.look).holds$1: function 47 -/
def deem_look_holds_1 (a0 : T45) (a1 : T25) : Option Bool := (if 0 ≤ (0 : Int) ∧ (0 : Int) < (a1.f2.length : Int) then ((strings_HasPrefix a0.f0 (a1.f2.getD (0 : Int).toNat (⟨#[]⟩ : ByteArray))).bind fun t3 => some t3) else none)
set_option maxHeartbeats 4000000 in
theorem deem_look_holds_1_calls {B : World} {G : GMap} {Γ : List Chunk} {W : World} (a0 : T45) (a1 : T25) (bp1 : Nat) (Aa1_f2 : Option Addr) (ca1_f2 : Nat) (Ha1_f2 : Rd kStr G Aa1_f2 ca1_f2 a1.f2) (Aa1_f3 : Option Addr) (ca1_f3 : Nat) (Ha1_f3 : Rd k25 G Aa1_f3 ca1_f3 a1.f3) (r : Bool) (h : deem_look_holds_1 a0 a1 = some r) (hI : Inv B G ([(bp1, .cells #[.int .i64 a1.f0, .int .i64 a1.f1, .slice Aa1_f2 a1.f2.length ca1_f2, .slice Aa1_f3 a1.f3.length ca1_f3] 25 (0, 0))] :: Γ) W) :
    Calls Tryd.prog 47 [.agg #[.string a0.f0, .int .i64 a0.f1], .pointer (some ⟨bp1, 0, none⟩)].toArray W (Ret B (fun v G' Γ' => v = .bool r ∧ G = G' ∧ [(bp1, .cells #[.int .i64 a1.f0, .int .i64 a1.f1, .slice Aa1_f2 a1.f2.length ca1_f2, .slice Aa1_f3 a1.f3.length ca1_f3] 25 (0, 0))] :: Γ = Γ')) := by
  refine calls_WP (Γ := [(bp1, .cells #[.int .i64 a1.f0, .int .i64 a1.f1, .slice Aa1_f2 a1.f2.length ca1_f2, .slice Aa1_f3 a1.f3.length ca1_f3] 25 (0, 0))] :: Γ) (G := G) (B := B) Tryd.func47 rfl (by kernel_rfl) ?_ hI
  clear hI
  unfold deem_look_holds_1 at h
  refine WP.seqR ?_
  refine WL.op (op := .box 45 (.tmp 0)) (ty := 0) (d := some 2) (g := none) (by kernel_rfl) (by kernel_rfl) (by kernel_rfl) (Does.new (o := .cells #[.string a0.f0, .int .i64 a0.f1] 45 (0, 0)) (v := fun r => .pointer (some ⟨r, 0, none⟩)) (fun r => by kernel_rfl)) ?_
  rintro _ _ _ ⟨b1, rfl, rfl, rfl⟩
  refine WL.restQ 1 [1, 2] (L' := [(1, .pointer (some ⟨bp1, 0, none⟩)), (2, .pointer (some ⟨b1, 0, none⟩))]) (by kernel_rfl) ?_
  refine WP.seq ?_
  refine WP.any (N := 8) (S := [⟨some 4, [2], []⟩, ⟨some 5, [4], [0]⟩, ⟨some 6, [1], []⟩, ⟨some 7, [6], [2]⟩, ⟨some 8, [7], [3]⟩, ⟨some 9, [8], [4]⟩, ⟨some 10, [5, 9], [1, 5]⟩, ⟨some 3, [10], [0, 1, 2, 3, 4, 5, 6]⟩]) (kw := 8) (G0 := G) (Γ0 := [(b1, .cells #[.string a0.f0, .int .i64 a0.f1] 45 (0, 0))] :: [(bp1, .cells #[.int .i64 a1.f0, .int .i64 a1.f1, .slice Aa1_f2 a1.f2.length ca1_f2, .slice Aa1_f3 a1.f3.length ca1_f3] 25 (0, 0))] :: Γ) mo (by kernel_rfl) (fun hS => ?_)
  refine WA.pure [0, 2] [4, 6] (m := 6) (b' := 5) (L' := [(4, .pointer (some ⟨b1, 0, none⟩)), (6, .pointer (some ⟨bp1, 2, none⟩))]) (by kernel_rfl) (NoPanic.then (NoPanic.body)) Under.refl hS (by kernel_rfl) ?_
  refine WA.tellD [] (i := 1) (m := 5) (b' := 7) (by kernel_rfl) (NoPanic.then (NoPanic.body)) Under.refl hS (by kernel_rfl) (op := .load 9 (.tmp 4)) (ty := 9) (d := some 5) (g := none) (by kernel_rfl) (by kernel_rfl) (by kernel_rfl) (Tells.load_box (i := 0) (b := b1) (o := 0) (agg := false) (by rfl) ag9 (by kernel_rfl) (fun _ => rfl) (Nat.le_of_ble_eq_true rfl) (v := .string a0.f0) (by kernel_rfl)) ?_
  refine WA.tellD [] (i := 3) (m := 4) (b' := 15) (by kernel_rfl) (NoPanic.then (NoPanic.body)) Under.refl hS (by kernel_rfl) (op := .load 22 (.tmp 6)) (ty := 22) (d := some 7) (g := none) (by kernel_rfl) (by kernel_rfl) (by kernel_rfl) (Tells.load_box (i := 1) (b := bp1) (o := 2) (agg := false) (by rfl) ag22 (by kernel_rfl) (fun _ => rfl) (Nat.le_of_ble_eq_true rfl) (v := .slice Aa1_f2 a1.f2.length ca1_f2) (by kernel_rfl)) ?_
  by_cases hb2 : 0 ≤ (0 : Int) ∧ (0 : Int) < (a1.f2.length : Int)
  case neg => rw [if_neg hb2] at h; cases h
  rw [if_pos hb2] at h
  refine WA.tellD [] (i := 4) (m := 3) (b' := 31) (by kernel_rfl) (NoPanic.then (NoPanic.body)) Under.refl hS (by kernel_rfl) (op := .indexAddr 22 (.tmp 7) (.const (.int .i64 0))) (ty := 0) (d := some 8) (g := none) (by kernel_rfl) (by kernel_rfl) (by kernel_rfl) (Tells.indexAddr (A := Aa1_f2) (n := a1.f2.length) (c := ca1_f2) (k := .i64) (j := 0) (by kernel_rfl) (by kernel_rfl) (Ha1_f2.isSome hb2.1 hb2.2) hb2.1 hb2.2 sl22) ?_
  refine WA.tellDE [] (i := 5) (m := 2) (b' := 63) (by kernel_rfl) (NoPanic.then (NoPanic.body)) Under.refl hS (by kernel_rfl) (op := .load 9 (.tmp 8)) (ty := 9) (d := some 9) (g := none) (by kernel_rfl) (by kernel_rfl) (by kernel_rfl) (Ha1_f2.load (agg := false) hb2.1 hb2.2 (⟨#[]⟩ : ByteArray) ag9 (fun _ => rfl) (by kernel_rfl)) ?_
  rintro _ rfl
  rw [Option.bind_eq_some_iff] at h
  obtain ⟨t3, ht4, h⟩ := h
  refine WA.op (i := 6) (m := 1) (b' := 127) (by kernel_rfl) hS (by kernel_rfl) (op := .call { callee := (.value (.func 48)), args := #[(.tmp 5), (.tmp 9)], argTypes := #[9, 9] }) (ty := 4) (d := some 10) (g := none) (by kernel_rfl) (by kernel_rfl) (by kernel_rfl) (Does.call (f := 48) (args := [.string a0.f0, .string (a1.f2.getD (0 : Int).toNat (⟨#[]⟩ : ByteArray))]) (by kernel_rfl) (fun W hI => (strings_HasPrefix_calls a0.f0 (a1.f2.getD (0 : Int).toNat (⟨#[]⟩ : ByteArray))  t3 ht4 hI))) ?_
  rintro _ _ _ ⟨rfl, rfl, rfl⟩
  refine ⟨_, _, Under.refl, Under.refl, ?_⟩
  refine WA.pure [7] [3] (m := 0) (b' := 255) (L' := [(3, .bool t3)]) (by kernel_rfl) (NoPanic.then (NoPanic.body)) Under.refl hS (by kernel_rfl) ?_
  refine WA.done hS (by kernel_rfl) ?_
  refine QP.pick [3] ?_
  refine QP.next ?_
  refine WP.dropAt 0 ?_
  refine WP.ret ?_
  obtain rfl := Option.some.inj h
  exact QP.returned [3] [.bool t3] _ (by kernel_rfl) (by kernel_rfl) (by kernel_rfl) (fun W hI => ⟨_, _, _, rfl, ⟨rfl, rfl, rfl⟩, hI⟩)

/-! ### slices.IndexFunc[[]grapevine/api.Word,grapevine/api.Word]: function 75 -/
def slices_IndexFunc_36_l0 (l0 : List T45) (a1q0 : T25) : Nat → Int → Option (Sum Int Unit)
  | 0, _ => none
  | k + 1, y3 => (if y3 < (l0.length : Int) then (if 0 ≤ y3 ∧ y3 < (l0.length : Int) then ((deem_look_holds_1 (l0.getD y3.toNat z45) a1q0).bind fun t8 => (if t8 = true then some (Sum.inl y3) else slices_IndexFunc_36_l0 l0 a1q0 k (IntKind.i64.wrap (y3 + 1)))) else none) else some (Sum.inr ()))
def slices_IndexFunc_36 (k : Nat) (l0 : List T45) (a1q0 : T25) : Option Int := ((slices_IndexFunc_36_l0 l0 a1q0 k 0).bind fun os1 => match os1 with | Sum.inl r => some r | Sum.inr s1 => some (-1))
set_option maxHeartbeats 4000000 in
theorem slices_IndexFunc_36_calls {B : World} {G : GMap} {Γ : List Chunk} {W : World} (k : Nat) (l0 : List T45) (a1q0 : T25) (Al0 : Option Addr) (cl0 : Nat) (Hl0 : Rd k45 G Al0 cl0 l0) (bp1q0 : Nat) (Aa1q0_f2 : Option Addr) (ca1q0_f2 : Nat) (Ha1q0_f2 : Rd kStr G Aa1q0_f2 ca1q0_f2 a1q0.f2) (Aa1q0_f3 : Option Addr) (ca1q0_f3 : Nat) (Ha1q0_f3 : Rd k25 G Aa1q0_f3 ca1q0_f3 a1q0.f3) (r : Int) (h : slices_IndexFunc_36 k l0 a1q0 = some r) (hI : Inv B G ([(bp1q0, .cells #[.int .i64 a1q0.f0, .int .i64 a1q0.f1, .slice Aa1q0_f2 a1q0.f2.length ca1q0_f2, .slice Aa1q0_f3 a1q0.f3.length ca1q0_f3] 25 (0, 0))] :: Γ) W) :
    Calls Tryd.prog 75 [.slice Al0 l0.length cl0, .func (.func 47) #[] #[.pointer (some ⟨bp1q0, 0, none⟩)]].toArray W (Ret B (fun v G' Γ' => v = .int .i64 r ∧ G = G' ∧ [(bp1q0, .cells #[.int .i64 a1q0.f0, .int .i64 a1q0.f1, .slice Aa1q0_f2 a1q0.f2.length ca1q0_f2, .slice Aa1q0_f3 a1q0.f3.length ca1q0_f3] 25 (0, 0))] :: Γ = Γ')) := by
  refine calls_WP (Γ := [(bp1q0, .cells #[.int .i64 a1q0.f0, .int .i64 a1q0.f1, .slice Aa1q0_f2 a1q0.f2.length ca1q0_f2, .slice Aa1q0_f3 a1q0.f3.length ca1q0_f3] 25 (0, 0))] :: Γ) (G := G) (B := B) Tryd.func75 rfl (by kernel_rfl) ?_ hI
  clear hI
  unfold slices_IndexFunc_36 at h
  refine WP.seqP [0, 1] (L' := [(0, .slice Al0 l0.length cl0), (1, .func (.func 47) #[] #[.pointer (some ⟨bp1q0, 0, none⟩)])]) (by kernel_rfl) ?_
  refine WP.seq ?_
  refine WP.seqP [0, 1, 7, 8] (L' := [(0, .slice Al0 l0.length cl0), (1, .func (.func 47) #[] #[.pointer (some ⟨bp1q0, 0, none⟩)]), (7, .int .i64 (l0.length : Int)), (8, .int .i64 0)]) (by kernel_rfl) ?_
  rw [Option.bind_eq_some_iff] at h
  obtain ⟨os1, h, hk2⟩ := h
  refine WP.cutQ (fun L' G' Γ' => ∃ s1 : Unit, Sum.inr s1 = os1 ∧ L' = [] ∧ G = G' ∧ [(bp1q0, .cells #[.int .i64 a1q0.f0, .int .i64 a1q0.f1, .slice Aa1q0_f2 a1q0.f2.length ca1q0_f2, .slice Aa1q0_f3 a1q0.f3.length ca1q0_f3] 25 (0, 0))] :: Γ = Γ') ?_ ?_
  · skip
    refine WP.block ?_
    refine WP.pick [0, 1, 7, 8] ?_
    refine WP.loopF (fun kn4 L' G' Γ' => ∃ (y3 : Int), slices_IndexFunc_36_l0 l0 a1q0 kn4 y3 = some os1 ∧ L' = [(0, .slice Al0 l0.length cl0), (1, .func (.func 47) #[] #[.pointer (some ⟨bp1q0, 0, none⟩)]), (7, .int .i64 (l0.length : Int)), (8, .int .i64 y3)] ∧ G = G' ∧ [(bp1q0, .cells #[.int .i64 a1q0.f0, .int .i64 a1q0.f1, .slice Aa1q0_f2 a1q0.f2.length ca1q0_f2, .slice Aa1q0_f3 a1q0.f3.length ca1q0_f3] 25 (0, 0))] :: Γ = Γ') ?_ k ⟨0, h, rfl, rfl, rfl⟩
    clear h
    rintro kn5 _ _ _ ⟨y3, h, rfl, rfl, rfl⟩
    cases kn5 with
    | zero => exact absurd h (by simp [slices_IndexFunc_36_l0])
    | succ kn5 =>
      simp only [slices_IndexFunc_36_l0] at h
      refine WP.seqP [0, 1, 7, 8, 9] (L' := [(0, .slice Al0 l0.length cl0), (1, .func (.func 47) #[] #[.pointer (some ⟨bp1q0, 0, none⟩)]), (7, .int .i64 (l0.length : Int)), (8, .int .i64 y3), (9, .bool (decide (y3 < (l0.length : Int))))]) (by kernel_rfl) ?_
      refine WP.seq ?_
      refine WP.cond (b := decide (y3 < (l0.length : Int))) (by kernel_rfl) (fun hc => ?_) (fun hc => ?_)
      · replace hc := of_decide_eq_true hc
        rw [if_pos hc] at h
        have hc6 := hc
        clear hc
        refine WP.skip ?_
        refine QP.next ?_
        refine WP.pick [0, 1, 7, 8] ?_
        refine WP.seq ?_
        refine WP.block ?_
        refine WP.seqP [0, 1, 5, 7, 8] (L' := [(0, .slice Al0 l0.length cl0), (1, .func (.func 47) #[] #[.pointer (some ⟨bp1q0, 0, none⟩)]), (5, .int .i64 y3), (7, .int .i64 (l0.length : Int)), (8, .int .i64 y3)]) (by kernel_rfl) ?_
        refine WP.seqR ?_
        refine WL.pure 0 3 [0, 1, 5, 7, 8, 11, 12, 13] (L' := [(0, .slice Al0 l0.length cl0), (1, .func (.func 47) #[] #[.pointer (some ⟨bp1q0, 0, none⟩)]), (5, .int .i64 y3), (7, .int .i64 (l0.length : Int)), (8, .int .i64 y3), (11, .func (.func 47) #[] #[.pointer (some ⟨bp1q0, 0, none⟩)]), (12, .slice Al0 l0.length cl0), (13, .int .i64 y3)]) (by kernel_rfl) (by decide) ?_
        by_cases hb7 : 0 ≤ y3 ∧ y3 < (l0.length : Int)
        case neg => rw [if_neg hb7] at h; cases h
        rw [if_pos hb7] at h
        refine WL.tell (op := .indexAddr 32 (.tmp 12) (.tmp 13)) (ty := 0) (d := some 14) (g := none) (by kernel_rfl) (by kernel_rfl) (by kernel_rfl) (Tells.indexAddr (A := Al0) (n := l0.length) (c := cl0) (k := .i64) (j := y3) (by kernel_rfl) (by kernel_rfl) (Hl0.isSome hb7.1 hb7.2) hb7.1 hb7.2 sl32) ?_
        refine WL.tellE (op := .load 45 (.tmp 14)) (ty := 45) (d := some 15) (g := none) (by kernel_rfl) (by kernel_rfl) (by kernel_rfl) (Hl0.load (agg := true) hb7.1 hb7.2 z45 ag45 (fun h => by cases h) (by kernel_rfl)) ?_
        rintro _ rfl
        rw [Option.bind_eq_some_iff] at h
        obtain ⟨t8, ht9, h⟩ := h
        refine WL.op (op := .call { callee := (.value (.tmp 11)), args := #[(.tmp 15)], argTypes := #[45] }) (ty := 4) (d := some 16) (g := none) (by kernel_rfl) (by kernel_rfl) (by kernel_rfl) (Does.call (f := 47) (args := [.agg #[.string ((l0.getD y3.toNat z45).f0), .int .i64 ((l0.getD y3.toNat z45).f1)], .pointer (some ⟨bp1q0, 0, none⟩)]) (by kernel_rfl) (fun W hI => (deem_look_holds_1_calls (l0.getD y3.toNat z45) a1q0 bp1q0 Aa1q0_f2 ca1q0_f2 Ha1q0_f2 Aa1q0_f3 ca1q0_f3 Ha1q0_f3 t8 ht9 hI))) ?_
        rintro _ _ _ ⟨rfl, rfl, rfl⟩
        refine WL.restQ 6 [0, 1, 5, 7, 8, 16] (L' := [(0, .slice Al0 l0.length cl0), (1, .func (.func 47) #[] #[.pointer (some ⟨bp1q0, 0, none⟩)]), (5, .int .i64 y3), (7, .int .i64 (l0.length : Int)), (8, .int .i64 y3), (16, .bool t8)]) (by kernel_rfl) ?_
        refine WP.cond (b := t8) (by kernel_rfl) (fun hc => ?_) (fun hc => ?_)
        · replace hc := hc
          rw [if_pos hc] at h
          have hc12 := hc
          clear hc
          refine WP.seqP [4] (L' := [(4, .int .i64 y3)]) (by kernel_rfl) ?_
          refine WP.ret ?_
          refine QP.blockR ?_
          refine QP.thenR ?_
          refine QP.thenR ?_
          refine QP.blockR ?_
          refine QP.thenR ?_
          refine QP.thenR ?_
          obtain rfl := Option.some.inj h
          obtain rfl := Option.some.inj (show some _ = some _ from hk2)
          exact QP.returned [4] [.int .i64 y3] _ (by kernel_rfl) (by kernel_rfl) (by kernel_rfl) (fun W hI => ⟨_, _, _, rfl, ⟨rfl, rfl, rfl⟩, hI⟩)
        · replace hc := (Bool.eq_false_iff.1 hc)
          rw [if_neg hc] at h
          have hc12 := hc
          clear hc
          refine WP.skip ?_
          refine QP.blockN ?_
          refine QP.next ?_
          refine WP.pick [0, 1, 7, 8] ?_
          refine WP.regionP [0, 1, 7, 8] (L' := [(0, .slice Al0 l0.length cl0), (1, .func (.func 47) #[] #[.pointer (some ⟨bp1q0, 0, none⟩)]), (7, .int .i64 (l0.length : Int)), (8, .int .i64 (IntKind.i64.wrap (y3 + 1)))]) (by kernel_rfl) ?_
          refine QP.pick [0, 1, 7, 8] ?_
          exact QP.meet ⟨kn5, Nat.lt_succ_self _, (IntKind.i64.wrap (y3 + 1)), h, rfl, rfl, rfl⟩
      · replace hc := of_decide_eq_false hc
        rw [if_neg hc] at h
        have hc6 := hc
        clear hc
        refine WP.exit ?_
        refine QP.thenE ?_
        refine QP.thenE ?_
        refine QP.blockE ?_
        refine QP.pick [] ?_
        exact QP.meet ⟨_, Option.some.inj h, rfl, rfl, rfl⟩
  · rintro _ _ _ ⟨s1, rfl, rfl, rfl, rfl⟩
    clear h
    replace h := hk2
    dsimp only at h
    refine QP.next ?_
    refine WP.pick [] ?_
    refine WP.seqP [4] (L' := [(4, .int .i64 (-1))]) (by kernel_rfl) ?_
    refine WP.ret ?_
    obtain rfl := Option.some.inj h
    exact QP.returned [4] [.int .i64 (-1)] _ (by kernel_rfl) (by kernel_rfl) (by kernel_rfl) (fun W hI => ⟨_, _, _, rfl, ⟨rfl, rfl, rfl⟩, hI⟩)

/-! ### slices.ContainsFunc[[]grapevine/api.Word,grapevine/api.Word]: function 46 -/
def slices_ContainsFunc_35 (k : Nat) (l0 : List T45) (a1q0 : T25) : Option Bool := ((slices_IndexFunc_36 k l0 a1q0).bind fun t1 => some (decide (t1 ≥ 0)))
set_option maxHeartbeats 4000000 in
theorem slices_ContainsFunc_35_calls {B : World} {G : GMap} {Γ : List Chunk} {W : World} (k : Nat) (l0 : List T45) (a1q0 : T25) (Al0 : Option Addr) (cl0 : Nat) (Hl0 : Rd k45 G Al0 cl0 l0) (bp1q0 : Nat) (Aa1q0_f2 : Option Addr) (ca1q0_f2 : Nat) (Ha1q0_f2 : Rd kStr G Aa1q0_f2 ca1q0_f2 a1q0.f2) (Aa1q0_f3 : Option Addr) (ca1q0_f3 : Nat) (Ha1q0_f3 : Rd k25 G Aa1q0_f3 ca1q0_f3 a1q0.f3) (r : Bool) (h : slices_ContainsFunc_35 k l0 a1q0 = some r) (hI : Inv B G ([(bp1q0, .cells #[.int .i64 a1q0.f0, .int .i64 a1q0.f1, .slice Aa1q0_f2 a1q0.f2.length ca1q0_f2, .slice Aa1q0_f3 a1q0.f3.length ca1q0_f3] 25 (0, 0))] :: Γ) W) :
    Calls Tryd.prog 46 [.slice Al0 l0.length cl0, .func (.func 47) #[] #[.pointer (some ⟨bp1q0, 0, none⟩)]].toArray W (Ret B (fun v G' Γ' => v = .bool r ∧ G = G' ∧ [(bp1q0, .cells #[.int .i64 a1q0.f0, .int .i64 a1q0.f1, .slice Aa1q0_f2 a1q0.f2.length ca1q0_f2, .slice Aa1q0_f3 a1q0.f3.length ca1q0_f3] 25 (0, 0))] :: Γ = Γ')) := by
  refine calls_WP (Γ := [(bp1q0, .cells #[.int .i64 a1q0.f0, .int .i64 a1q0.f1, .slice Aa1q0_f2 a1q0.f2.length ca1q0_f2, .slice Aa1q0_f3 a1q0.f3.length ca1q0_f3] 25 (0, 0))] :: Γ) (G := G) (B := B) Tryd.func46 rfl (by kernel_rfl) ?_ hI
  clear hI
  unfold slices_ContainsFunc_35 at h
  refine WP.seqP [0, 1] (L' := [(0, .slice Al0 l0.length cl0), (1, .func (.func 47) #[] #[.pointer (some ⟨bp1q0, 0, none⟩)])]) (by kernel_rfl) ?_
  refine WP.seqR ?_
  refine WL.pure 0 2 [5, 6] (L' := [(5, .slice Al0 l0.length cl0), (6, .func (.func 47) #[] #[.pointer (some ⟨bp1q0, 0, none⟩)])]) (by kernel_rfl) (by decide) ?_
  rw [Option.bind_eq_some_iff] at h
  obtain ⟨t1, ht2, h⟩ := h
  refine WL.op (op := .call { callee := (.value (.func 75)), args := #[(.tmp 5), (.tmp 6)], argTypes := #[32, 77] }) (ty := 3) (d := some 7) (g := none) (by kernel_rfl) (by kernel_rfl) (by kernel_rfl) (Does.call (f := 75) (args := [.slice Al0 l0.length cl0, .func (.func 47) #[] #[.pointer (some ⟨bp1q0, 0, none⟩)]]) (by kernel_rfl) (fun W hI => (slices_IndexFunc_36_calls k l0 a1q0 Al0 cl0 Hl0 bp1q0 Aa1q0_f2 ca1q0_f2 Ha1q0_f2 Aa1q0_f3 ca1q0_f3 Ha1q0_f3 t1 ht2 hI))) ?_
  rintro _ _ _ ⟨rfl, rfl, rfl⟩
  refine WL.restQ 3 [4] (L' := [(4, .bool (decide (t1 ≥ 0)))]) (by kernel_rfl) ?_
  refine WP.ret ?_
  obtain rfl := Option.some.inj h
  exact QP.returned [4] [.bool (decide (t1 ≥ 0))] _ (by kernel_rfl) (by kernel_rfl) (by kernel_rfl) (fun W hI => ⟨_, _, _, rfl, ⟨rfl, rfl, rfl⟩, hI⟩)

/-! ### slices.IndexFunc[[]grapevine/api.Ask,grapevine/api.Ask]: function 77 -/
def slices_IndexFunc_41_l0 (l0 : List T25) (a1q0 : T59) (rec_ : T59 → T25 → Option Bool) : Nat → Int → Option (Sum Int Unit)
  | 0, _ => none
  | k + 1, y3 => (if y3 < (l0.length : Int) then (if 0 ≤ y3 ∧ y3 < (l0.length : Int) then ((rec_ a1q0 (l0.getD y3.toNat z25)).bind fun t10 => (if t10 = true then some (Sum.inl y3) else slices_IndexFunc_41_l0 l0 a1q0 rec_ k (IntKind.i64.wrap (y3 + 1)))) else none) else some (Sum.inr ()))
def slices_IndexFunc_41 (rec_ : T59 → T25 → Option Bool) (k : Nat) (l0 : List T25) (a1q0 : T59) : Option Int := ((slices_IndexFunc_41_l0 l0 a1q0 rec_ k 0).bind fun os1 => match os1 with | Sum.inl r => some r | Sum.inr s1 => some (-1))
set_option maxHeartbeats 4000000 in
theorem slices_IndexFunc_41_calls {B : World} {G : GMap} {Γ : List Chunk} {W : World} (rec_ : T59 → T25 → Option Bool) (Hrec : ∀ {B : World} {G : GMap} {Γ : List Chunk} {W : World} (a0 : T59) (a1 : T25) (Aa0_f5 : Option Addr) (ca0_f5 : Nat) (Ha0_f5 : Rd k45 G Aa0_f5 ca0_f5 a0.f5) (Aa1_f2 : Option Addr) (ca1_f2 : Nat) (Ha1_f2 : Rd kStr G Aa1_f2 ca1_f2 a1.f2) (Aa1_f3 : Option Addr) (ca1_f3 : Nat) (Ha1_f3 : Rd k25 G Aa1_f3 ca1_f3 a1.f3) (r : Bool) (h : rec_ a0 a1 = some r) (hI : Inv B G (Γ) W),
    Calls Tryd.prog 27 [.agg #[.int .i64 a0.f0, .int .i64 a0.f1, .int .i64 a0.f2, .int .i64 a0.f3, .string a0.f4, .slice Aa0_f5 a0.f5.length ca0_f5], .agg #[.int .i64 a1.f0, .int .i64 a1.f1, .slice Aa1_f2 a1.f2.length ca1_f2, .slice Aa1_f3 a1.f3.length ca1_f3]].toArray W (Ret B (fun v G' Γ' => v = .bool r ∧ G = G' ∧ Γ = Γ'))) (k : Nat) (l0 : List T25) (a1q0 : T59) (Al0 : Option Addr) (cl0 : Nat) (Hl0 : Rd k25 G Al0 cl0 l0) (Aa1q0_f5 : Option Addr) (ca1q0_f5 : Nat) (Ha1q0_f5 : Rd k45 G Aa1q0_f5 ca1q0_f5 a1q0.f5) (r : Int) (h : slices_IndexFunc_41 rec_ k l0 a1q0 = some r) (hI : Inv B G (Γ) W) :
    Calls Tryd.prog 77 [.slice Al0 l0.length cl0, .func (.func 27) #[.agg #[.int .i64 a1q0.f0, .int .i64 a1q0.f1, .int .i64 a1q0.f2, .int .i64 a1q0.f3, .string a1q0.f4, .slice Aa1q0_f5 a1q0.f5.length ca1q0_f5]] #[]].toArray W (Ret B (fun v G' Γ' => v = .int .i64 r ∧ G = G' ∧ Γ = Γ')) := by
  refine calls_WP (Γ := Γ) (G := G) (B := B) Tryd.func77 rfl (by kernel_rfl) ?_ hI
  clear hI
  unfold slices_IndexFunc_41 at h
  refine WP.seqP [0, 1] (L' := [(0, .slice Al0 l0.length cl0), (1, .func (.func 27) #[.agg #[.int .i64 a1q0.f0, .int .i64 a1q0.f1, .int .i64 a1q0.f2, .int .i64 a1q0.f3, .string a1q0.f4, .slice Aa1q0_f5 a1q0.f5.length ca1q0_f5]] #[])]) (by kernel_rfl) ?_
  refine WP.seq ?_
  refine WP.seqP [0, 1, 7, 8] (L' := [(0, .slice Al0 l0.length cl0), (1, .func (.func 27) #[.agg #[.int .i64 a1q0.f0, .int .i64 a1q0.f1, .int .i64 a1q0.f2, .int .i64 a1q0.f3, .string a1q0.f4, .slice Aa1q0_f5 a1q0.f5.length ca1q0_f5]] #[]), (7, .int .i64 (l0.length : Int)), (8, .int .i64 0)]) (by kernel_rfl) ?_
  rw [Option.bind_eq_some_iff] at h
  obtain ⟨os1, h, hk2⟩ := h
  refine WP.cutQ (fun L' G' Γ' => ∃ s1 : Unit, Sum.inr s1 = os1 ∧ L' = [] ∧ G = G' ∧ Γ = Γ') ?_ ?_
  · skip
    refine WP.block ?_
    refine WP.pick [0, 1, 7, 8] ?_
    refine WP.loopF (fun kn4 L' G' Γ' => ∃ (y3 : Int), slices_IndexFunc_41_l0 l0 a1q0 rec_ kn4 y3 = some os1 ∧ L' = [(0, .slice Al0 l0.length cl0), (1, .func (.func 27) #[.agg #[.int .i64 a1q0.f0, .int .i64 a1q0.f1, .int .i64 a1q0.f2, .int .i64 a1q0.f3, .string a1q0.f4, .slice Aa1q0_f5 a1q0.f5.length ca1q0_f5]] #[]), (7, .int .i64 (l0.length : Int)), (8, .int .i64 y3)] ∧ G = G' ∧ Γ = Γ') ?_ k ⟨0, h, rfl, rfl, rfl⟩
    clear h
    rintro kn5 _ _ _ ⟨y3, h, rfl, rfl, rfl⟩
    cases kn5 with
    | zero => exact absurd h (by simp [slices_IndexFunc_41_l0])
    | succ kn5 =>
      simp only [slices_IndexFunc_41_l0] at h
      refine WP.seqP [0, 1, 7, 8, 9] (L' := [(0, .slice Al0 l0.length cl0), (1, .func (.func 27) #[.agg #[.int .i64 a1q0.f0, .int .i64 a1q0.f1, .int .i64 a1q0.f2, .int .i64 a1q0.f3, .string a1q0.f4, .slice Aa1q0_f5 a1q0.f5.length ca1q0_f5]] #[]), (7, .int .i64 (l0.length : Int)), (8, .int .i64 y3), (9, .bool (decide (y3 < (l0.length : Int))))]) (by kernel_rfl) ?_
      refine WP.seq ?_
      refine WP.cond (b := decide (y3 < (l0.length : Int))) (by kernel_rfl) (fun hc => ?_) (fun hc => ?_)
      · replace hc := of_decide_eq_true hc
        rw [if_pos hc] at h
        have hc6 := hc
        clear hc
        refine WP.skip ?_
        refine QP.next ?_
        refine WP.pick [0, 1, 7, 8] ?_
        refine WP.seq ?_
        refine WP.block ?_
        refine WP.seqP [0, 1, 5, 7, 8] (L' := [(0, .slice Al0 l0.length cl0), (1, .func (.func 27) #[.agg #[.int .i64 a1q0.f0, .int .i64 a1q0.f1, .int .i64 a1q0.f2, .int .i64 a1q0.f3, .string a1q0.f4, .slice Aa1q0_f5 a1q0.f5.length ca1q0_f5]] #[]), (5, .int .i64 y3), (7, .int .i64 (l0.length : Int)), (8, .int .i64 y3)]) (by kernel_rfl) ?_
        refine WP.seqR ?_
        refine WL.pure 0 3 [0, 1, 5, 7, 8, 11, 12, 13] (L' := [(0, .slice Al0 l0.length cl0), (1, .func (.func 27) #[.agg #[.int .i64 a1q0.f0, .int .i64 a1q0.f1, .int .i64 a1q0.f2, .int .i64 a1q0.f3, .string a1q0.f4, .slice Aa1q0_f5 a1q0.f5.length ca1q0_f5]] #[]), (5, .int .i64 y3), (7, .int .i64 (l0.length : Int)), (8, .int .i64 y3), (11, .func (.func 27) #[.agg #[.int .i64 a1q0.f0, .int .i64 a1q0.f1, .int .i64 a1q0.f2, .int .i64 a1q0.f3, .string a1q0.f4, .slice Aa1q0_f5 a1q0.f5.length ca1q0_f5]] #[]), (12, .slice Al0 l0.length cl0), (13, .int .i64 y3)]) (by kernel_rfl) (by decide) ?_
        by_cases hb7 : 0 ≤ y3 ∧ y3 < (l0.length : Int)
        case neg => rw [if_neg hb7] at h; cases h
        rw [if_pos hb7] at h
        refine WL.tell (op := .indexAddr 23 (.tmp 12) (.tmp 13)) (ty := 0) (d := some 14) (g := none) (by kernel_rfl) (by kernel_rfl) (by kernel_rfl) (Tells.indexAddr (A := Al0) (n := l0.length) (c := cl0) (k := .i64) (j := y3) (by kernel_rfl) (by kernel_rfl) (Hl0.isSome hb7.1 hb7.2) hb7.1 hb7.2 sl23) ?_
        refine WL.tellE (op := .load 25 (.tmp 14)) (ty := 25) (d := some 15) (g := none) (by kernel_rfl) (by kernel_rfl) (by kernel_rfl) (Hl0.load (agg := true) hb7.1 hb7.2 z25 ag25 (fun h => by cases h) (by kernel_rfl)) ?_
        rintro _ hrel
        obtain ⟨_, _, rfl, rfl, ⟨_, _, rfl, rfl, ⟨_, _, rfl, ⟨Ae8, ce8, rfl, He8⟩, ⟨Ae9, ce9, rfl, He9⟩⟩⟩⟩ := k25_out hrel
        replace He8 : Rd kStr G Ae8 ce8 ((l0.getD y3.toNat z25).f2) := He8
        replace He9 : Rd k25 G Ae9 ce9 ((l0.getD y3.toNat z25).f3) := He9
        rw [Option.bind_eq_some_iff] at h
        obtain ⟨t10, ht11, h⟩ := h
        refine WL.op (op := .call { callee := (.value (.tmp 11)), args := #[(.tmp 15)], argTypes := #[25] }) (ty := 4) (d := some 16) (g := none) (by kernel_rfl) (by kernel_rfl) (by kernel_rfl) (Does.call (f := 27) (args := [.agg #[.int .i64 a1q0.f0, .int .i64 a1q0.f1, .int .i64 a1q0.f2, .int .i64 a1q0.f3, .string a1q0.f4, .slice Aa1q0_f5 a1q0.f5.length ca1q0_f5], .agg #[.int .i64 ((l0.getD y3.toNat z25).f0), .int .i64 ((l0.getD y3.toNat z25).f1), .slice Ae8 ((l0.getD y3.toNat z25).f2).length ce8, .slice Ae9 ((l0.getD y3.toNat z25).f3).length ce9]]) (by kernel_rfl) (fun W hI => (Hrec a1q0 (l0.getD y3.toNat z25) Aa1q0_f5 ca1q0_f5 Ha1q0_f5 Ae8 ce8 He8 Ae9 ce9 He9 t10 ht11 hI))) ?_
        rintro _ _ _ ⟨rfl, rfl, rfl⟩
        refine WL.restQ 6 [0, 1, 5, 7, 8, 16] (L' := [(0, .slice Al0 l0.length cl0), (1, .func (.func 27) #[.agg #[.int .i64 a1q0.f0, .int .i64 a1q0.f1, .int .i64 a1q0.f2, .int .i64 a1q0.f3, .string a1q0.f4, .slice Aa1q0_f5 a1q0.f5.length ca1q0_f5]] #[]), (5, .int .i64 y3), (7, .int .i64 (l0.length : Int)), (8, .int .i64 y3), (16, .bool t10)]) (by kernel_rfl) ?_
        refine WP.cond (b := t10) (by kernel_rfl) (fun hc => ?_) (fun hc => ?_)
        · replace hc := hc
          rw [if_pos hc] at h
          have hc14 := hc
          clear hc
          refine WP.seqP [4] (L' := [(4, .int .i64 y3)]) (by kernel_rfl) ?_
          refine WP.ret ?_
          refine QP.blockR ?_
          refine QP.thenR ?_
          refine QP.thenR ?_
          refine QP.blockR ?_
          refine QP.thenR ?_
          refine QP.thenR ?_
          obtain rfl := Option.some.inj h
          obtain rfl := Option.some.inj (show some _ = some _ from hk2)
          exact QP.returned [4] [.int .i64 y3] _ (by kernel_rfl) (by kernel_rfl) (by kernel_rfl) (fun W hI => ⟨_, _, _, rfl, ⟨rfl, rfl, rfl⟩, hI⟩)
        · replace hc := (Bool.eq_false_iff.1 hc)
          rw [if_neg hc] at h
          have hc14 := hc
          clear hc
          refine WP.skip ?_
          refine QP.blockN ?_
          refine QP.next ?_
          refine WP.pick [0, 1, 7, 8] ?_
          refine WP.regionP [0, 1, 7, 8] (L' := [(0, .slice Al0 l0.length cl0), (1, .func (.func 27) #[.agg #[.int .i64 a1q0.f0, .int .i64 a1q0.f1, .int .i64 a1q0.f2, .int .i64 a1q0.f3, .string a1q0.f4, .slice Aa1q0_f5 a1q0.f5.length ca1q0_f5]] #[]), (7, .int .i64 (l0.length : Int)), (8, .int .i64 (IntKind.i64.wrap (y3 + 1)))]) (by kernel_rfl) ?_
          refine QP.pick [0, 1, 7, 8] ?_
          exact QP.meet ⟨kn5, Nat.lt_succ_self _, (IntKind.i64.wrap (y3 + 1)), h, rfl, rfl, rfl⟩
      · replace hc := of_decide_eq_false hc
        rw [if_neg hc] at h
        have hc6 := hc
        clear hc
        refine WP.exit ?_
        refine QP.thenE ?_
        refine QP.thenE ?_
        refine QP.blockE ?_
        refine QP.pick [] ?_
        exact QP.meet ⟨_, Option.some.inj h, rfl, rfl, rfl⟩
  · rintro _ _ _ ⟨s1, rfl, rfl, rfl, rfl⟩
    clear h
    replace h := hk2
    dsimp only at h
    refine QP.next ?_
    refine WP.pick [] ?_
    refine WP.seqP [4] (L' := [(4, .int .i64 (-1))]) (by kernel_rfl) ?_
    refine WP.ret ?_
    obtain rfl := Option.some.inj h
    exact QP.returned [4] [.int .i64 (-1)] _ (by kernel_rfl) (by kernel_rfl) (by kernel_rfl) (fun W hI => ⟨_, _, _, rfl, ⟨rfl, rfl, rfl⟩, hI⟩)

/-! ### slices.ContainsFunc[[]grapevine/api.Ask,grapevine/api.Ask]: function 49 -/
def slices_ContainsFunc_40 (rec_ : T59 → T25 → Option Bool) (k : Nat) (l0 : List T25) (a1q0 : T59) : Option Bool := ((slices_IndexFunc_41 rec_ k l0 a1q0).bind fun t1 => some (decide (t1 ≥ 0)))
set_option maxHeartbeats 4000000 in
theorem slices_ContainsFunc_40_calls {B : World} {G : GMap} {Γ : List Chunk} {W : World} (rec_ : T59 → T25 → Option Bool) (Hrec : ∀ {B : World} {G : GMap} {Γ : List Chunk} {W : World} (a0 : T59) (a1 : T25) (Aa0_f5 : Option Addr) (ca0_f5 : Nat) (Ha0_f5 : Rd k45 G Aa0_f5 ca0_f5 a0.f5) (Aa1_f2 : Option Addr) (ca1_f2 : Nat) (Ha1_f2 : Rd kStr G Aa1_f2 ca1_f2 a1.f2) (Aa1_f3 : Option Addr) (ca1_f3 : Nat) (Ha1_f3 : Rd k25 G Aa1_f3 ca1_f3 a1.f3) (r : Bool) (h : rec_ a0 a1 = some r) (hI : Inv B G (Γ) W),
    Calls Tryd.prog 27 [.agg #[.int .i64 a0.f0, .int .i64 a0.f1, .int .i64 a0.f2, .int .i64 a0.f3, .string a0.f4, .slice Aa0_f5 a0.f5.length ca0_f5], .agg #[.int .i64 a1.f0, .int .i64 a1.f1, .slice Aa1_f2 a1.f2.length ca1_f2, .slice Aa1_f3 a1.f3.length ca1_f3]].toArray W (Ret B (fun v G' Γ' => v = .bool r ∧ G = G' ∧ Γ = Γ'))) (k : Nat) (l0 : List T25) (a1q0 : T59) (Al0 : Option Addr) (cl0 : Nat) (Hl0 : Rd k25 G Al0 cl0 l0) (Aa1q0_f5 : Option Addr) (ca1q0_f5 : Nat) (Ha1q0_f5 : Rd k45 G Aa1q0_f5 ca1q0_f5 a1q0.f5) (r : Bool) (h : slices_ContainsFunc_40 rec_ k l0 a1q0 = some r) (hI : Inv B G (Γ) W) :
    Calls Tryd.prog 49 [.slice Al0 l0.length cl0, .func (.func 27) #[.agg #[.int .i64 a1q0.f0, .int .i64 a1q0.f1, .int .i64 a1q0.f2, .int .i64 a1q0.f3, .string a1q0.f4, .slice Aa1q0_f5 a1q0.f5.length ca1q0_f5]] #[]].toArray W (Ret B (fun v G' Γ' => v = .bool r ∧ G = G' ∧ Γ = Γ')) := by
  refine calls_WP (Γ := Γ) (G := G) (B := B) Tryd.func49 rfl (by kernel_rfl) ?_ hI
  clear hI
  unfold slices_ContainsFunc_40 at h
  refine WP.seqP [0, 1] (L' := [(0, .slice Al0 l0.length cl0), (1, .func (.func 27) #[.agg #[.int .i64 a1q0.f0, .int .i64 a1q0.f1, .int .i64 a1q0.f2, .int .i64 a1q0.f3, .string a1q0.f4, .slice Aa1q0_f5 a1q0.f5.length ca1q0_f5]] #[])]) (by kernel_rfl) ?_
  refine WP.seqR ?_
  refine WL.pure 0 2 [5, 6] (L' := [(5, .slice Al0 l0.length cl0), (6, .func (.func 27) #[.agg #[.int .i64 a1q0.f0, .int .i64 a1q0.f1, .int .i64 a1q0.f2, .int .i64 a1q0.f3, .string a1q0.f4, .slice Aa1q0_f5 a1q0.f5.length ca1q0_f5]] #[])]) (by kernel_rfl) (by decide) ?_
  rw [Option.bind_eq_some_iff] at h
  obtain ⟨t1, ht2, h⟩ := h
  refine WL.op (op := .call { callee := (.value (.func 77)), args := #[(.tmp 5), (.tmp 6)], argTypes := #[23, 33] }) (ty := 3) (d := some 7) (g := none) (by kernel_rfl) (by kernel_rfl) (by kernel_rfl) (Does.call (f := 77) (args := [.slice Al0 l0.length cl0, .func (.func 27) #[.agg #[.int .i64 a1q0.f0, .int .i64 a1q0.f1, .int .i64 a1q0.f2, .int .i64 a1q0.f3, .string a1q0.f4, .slice Aa1q0_f5 a1q0.f5.length ca1q0_f5]] #[]]) (by kernel_rfl) (fun W hI => (slices_IndexFunc_41_calls rec_ Hrec k l0 a1q0 Al0 cl0 Hl0 Aa1q0_f5 ca1q0_f5 Ha1q0_f5 t1 ht2 hI))) ?_
  rintro _ _ _ ⟨rfl, rfl, rfl⟩
  refine WL.restQ 3 [4] (L' := [(4, .bool (decide (t1 ≥ 0)))]) (by kernel_rfl) ?_
  refine WP.ret ?_
  obtain rfl := Option.some.inj h
  exact QP.returned [4] [.bool (decide (t1 ≥ 0))] _ (by kernel_rfl) (by kernel_rfl) (by kernel_rfl) (fun W hI => ⟨_, _, _, rfl, ⟨rfl, rfl, rfl⟩, hI⟩)

/-! ### (grapevine/deem.look).holds$2: function 50 -/
def deem_look_holds_2 (rec_ : T59 → T25 → Option Bool) (a0 : T25) (a1 : T59) : Option Bool := ((rec_ a1 a0).bind fun t2 => some (!t2))
set_option maxHeartbeats 4000000 in
theorem deem_look_holds_2_calls {B : World} {G : GMap} {Γ : List Chunk} {W : World} (rec_ : T59 → T25 → Option Bool) (Hrec : ∀ {B : World} {G : GMap} {Γ : List Chunk} {W : World} (a0 : T59) (a1 : T25) (Aa0_f5 : Option Addr) (ca0_f5 : Nat) (Ha0_f5 : Rd k45 G Aa0_f5 ca0_f5 a0.f5) (Aa1_f2 : Option Addr) (ca1_f2 : Nat) (Ha1_f2 : Rd kStr G Aa1_f2 ca1_f2 a1.f2) (Aa1_f3 : Option Addr) (ca1_f3 : Nat) (Ha1_f3 : Rd k25 G Aa1_f3 ca1_f3 a1.f3) (r : Bool) (h : rec_ a0 a1 = some r) (hI : Inv B G (Γ) W),
    Calls Tryd.prog 27 [.agg #[.int .i64 a0.f0, .int .i64 a0.f1, .int .i64 a0.f2, .int .i64 a0.f3, .string a0.f4, .slice Aa0_f5 a0.f5.length ca0_f5], .agg #[.int .i64 a1.f0, .int .i64 a1.f1, .slice Aa1_f2 a1.f2.length ca1_f2, .slice Aa1_f3 a1.f3.length ca1_f3]].toArray W (Ret B (fun v G' Γ' => v = .bool r ∧ G = G' ∧ Γ = Γ'))) (a0 : T25) (a1 : T59) (Aa0_f2 : Option Addr) (ca0_f2 : Nat) (Ha0_f2 : Rd kStr G Aa0_f2 ca0_f2 a0.f2) (Aa0_f3 : Option Addr) (ca0_f3 : Nat) (Ha0_f3 : Rd k25 G Aa0_f3 ca0_f3 a0.f3) (bp1 : Nat) (Aa1_f5 : Option Addr) (ca1_f5 : Nat) (Ha1_f5 : Rd k45 G Aa1_f5 ca1_f5 a1.f5) (r : Bool) (h : deem_look_holds_2 rec_ a0 a1 = some r) (hI : Inv B G ([(bp1, .cells #[.int .i64 a1.f0, .int .i64 a1.f1, .int .i64 a1.f2, .int .i64 a1.f3, .string a1.f4, .slice Aa1_f5 a1.f5.length ca1_f5] 59 (0, 0))] :: Γ) W) :
    Calls Tryd.prog 50 [.agg #[.int .i64 a0.f0, .int .i64 a0.f1, .slice Aa0_f2 a0.f2.length ca0_f2, .slice Aa0_f3 a0.f3.length ca0_f3], .pointer (some ⟨bp1, 0, none⟩)].toArray W (Ret B (fun v G' Γ' => v = .bool r ∧ G = G' ∧ [(bp1, .cells #[.int .i64 a1.f0, .int .i64 a1.f1, .int .i64 a1.f2, .int .i64 a1.f3, .string a1.f4, .slice Aa1_f5 a1.f5.length ca1_f5] 59 (0, 0))] :: Γ = Γ')) := by
  refine calls_WP (Γ := [(bp1, .cells #[.int .i64 a1.f0, .int .i64 a1.f1, .int .i64 a1.f2, .int .i64 a1.f3, .string a1.f4, .slice Aa1_f5 a1.f5.length ca1_f5] 59 (0, 0))] :: Γ) (G := G) (B := B) Tryd.func50 rfl (by kernel_rfl) ?_ hI
  clear hI
  unfold deem_look_holds_2 at h
  refine WP.seqR ?_
  refine WL.op (op := .box 25 (.tmp 0)) (ty := 0) (d := some 2) (g := none) (by kernel_rfl) (by kernel_rfl) (by kernel_rfl) (Does.new (o := .cells #[.int .i64 a0.f0, .int .i64 a0.f1, .slice Aa0_f2 a0.f2.length ca0_f2, .slice Aa0_f3 a0.f3.length ca0_f3] 25 (0, 0)) (v := fun r => .pointer (some ⟨r, 0, none⟩)) (fun r => by kernel_rfl)) ?_
  rintro _ _ _ ⟨b1, rfl, rfl, rfl⟩
  refine WL.restQ 1 [1, 2] (L' := [(1, .pointer (some ⟨bp1, 0, none⟩)), (2, .pointer (some ⟨b1, 0, none⟩))]) (by kernel_rfl) ?_
  refine WP.seqR ?_
  refine WL.tell (op := .load 59 (.tmp 1)) (ty := 59) (d := some 4) (g := none) (by kernel_rfl) (by kernel_rfl) (by kernel_rfl) (Tells.load_box (i := 1) (b := bp1) (o := 0) (agg := true) (by rfl) ag59 (by kernel_rfl) (fun h => by cases h) (Nat.le_of_ble_eq_true rfl) (v := .agg #[.int .i64 a1.f0, .int .i64 a1.f1, .int .i64 a1.f2, .int .i64 a1.f3, .string a1.f4, .slice Aa1_f5 a1.f5.length ca1_f5]) (by kernel_rfl)) ?_
  refine WL.tell (op := .load 25 (.tmp 2)) (ty := 25) (d := some 5) (g := none) (by kernel_rfl) (by kernel_rfl) (by kernel_rfl) (Tells.load_box (i := 0) (b := b1) (o := 0) (agg := true) (by rfl) ag25 (by kernel_rfl) (fun h => by cases h) (Nat.le_of_ble_eq_true rfl) (v := .agg #[.int .i64 a0.f0, .int .i64 a0.f1, .slice Aa0_f2 a0.f2.length ca0_f2, .slice Aa0_f3 a0.f3.length ca0_f3]) (by kernel_rfl)) ?_
  rw [Option.bind_eq_some_iff] at h
  obtain ⟨t2, ht3, h⟩ := h
  refine WL.op (op := .call { callee := (.value (.func 27)), args := #[(.tmp 4), (.tmp 5)], argTypes := #[59, 25] }) (ty := 4) (d := some 6) (g := none) (by kernel_rfl) (by kernel_rfl) (by kernel_rfl) (Does.call (f := 27) (args := [.agg #[.int .i64 a1.f0, .int .i64 a1.f1, .int .i64 a1.f2, .int .i64 a1.f3, .string a1.f4, .slice Aa1_f5 a1.f5.length ca1_f5], .agg #[.int .i64 a0.f0, .int .i64 a0.f1, .slice Aa0_f2 a0.f2.length ca0_f2, .slice Aa0_f3 a0.f3.length ca0_f3]]) (by kernel_rfl) (fun W hI => (Hrec a1 a0 Aa1_f5 ca1_f5 Ha1_f5 Aa0_f2 ca0_f2 Ha0_f2 Aa0_f3 ca0_f3 Ha0_f3 t2 ht3 hI))) ?_
  rintro _ _ _ ⟨rfl, rfl, rfl⟩
  refine WL.restQ 3 [3] (L' := [(3, .bool (!t2))]) (by kernel_rfl) ?_
  refine WP.dropAt 0 ?_
  refine WP.ret ?_
  obtain rfl := Option.some.inj h
  exact QP.returned [3] [.bool (!t2)] _ (by kernel_rfl) (by kernel_rfl) (by kernel_rfl) (fun W hI => ⟨_, _, _, rfl, ⟨rfl, rfl, rfl⟩, hI⟩)

/-! ### slices.IndexFunc[[]grapevine/api.Ask,grapevine/api.Ask]: function 77 -/
def slices_IndexFunc_44_l0 (l0 : List T25) (a1q0 : T59) (rec_ : T59 → T25 → Option Bool) : Nat → Int → Option (Sum Int Unit)
  | 0, _ => none
  | k + 1, y3 => (if y3 < (l0.length : Int) then (if 0 ≤ y3 ∧ y3 < (l0.length : Int) then ((deem_look_holds_2 rec_ (l0.getD y3.toNat z25) a1q0).bind fun t10 => (if t10 = true then some (Sum.inl y3) else slices_IndexFunc_44_l0 l0 a1q0 rec_ k (IntKind.i64.wrap (y3 + 1)))) else none) else some (Sum.inr ()))
def slices_IndexFunc_44 (rec_ : T59 → T25 → Option Bool) (k : Nat) (l0 : List T25) (a1q0 : T59) : Option Int := ((slices_IndexFunc_44_l0 l0 a1q0 rec_ k 0).bind fun os1 => match os1 with | Sum.inl r => some r | Sum.inr s1 => some (-1))
set_option maxHeartbeats 4000000 in
theorem slices_IndexFunc_44_calls {B : World} {G : GMap} {Γ : List Chunk} {W : World} (rec_ : T59 → T25 → Option Bool) (Hrec : ∀ {B : World} {G : GMap} {Γ : List Chunk} {W : World} (a0 : T59) (a1 : T25) (Aa0_f5 : Option Addr) (ca0_f5 : Nat) (Ha0_f5 : Rd k45 G Aa0_f5 ca0_f5 a0.f5) (Aa1_f2 : Option Addr) (ca1_f2 : Nat) (Ha1_f2 : Rd kStr G Aa1_f2 ca1_f2 a1.f2) (Aa1_f3 : Option Addr) (ca1_f3 : Nat) (Ha1_f3 : Rd k25 G Aa1_f3 ca1_f3 a1.f3) (r : Bool) (h : rec_ a0 a1 = some r) (hI : Inv B G (Γ) W),
    Calls Tryd.prog 27 [.agg #[.int .i64 a0.f0, .int .i64 a0.f1, .int .i64 a0.f2, .int .i64 a0.f3, .string a0.f4, .slice Aa0_f5 a0.f5.length ca0_f5], .agg #[.int .i64 a1.f0, .int .i64 a1.f1, .slice Aa1_f2 a1.f2.length ca1_f2, .slice Aa1_f3 a1.f3.length ca1_f3]].toArray W (Ret B (fun v G' Γ' => v = .bool r ∧ G = G' ∧ Γ = Γ'))) (k : Nat) (l0 : List T25) (a1q0 : T59) (Al0 : Option Addr) (cl0 : Nat) (Hl0 : Rd k25 G Al0 cl0 l0) (bp1q0 : Nat) (Aa1q0_f5 : Option Addr) (ca1q0_f5 : Nat) (Ha1q0_f5 : Rd k45 G Aa1q0_f5 ca1q0_f5 a1q0.f5) (r : Int) (h : slices_IndexFunc_44 rec_ k l0 a1q0 = some r) (hI : Inv B G ([(bp1q0, .cells #[.int .i64 a1q0.f0, .int .i64 a1q0.f1, .int .i64 a1q0.f2, .int .i64 a1q0.f3, .string a1q0.f4, .slice Aa1q0_f5 a1q0.f5.length ca1q0_f5] 59 (0, 0))] :: Γ) W) :
    Calls Tryd.prog 77 [.slice Al0 l0.length cl0, .func (.func 50) #[] #[.pointer (some ⟨bp1q0, 0, none⟩)]].toArray W (Ret B (fun v G' Γ' => v = .int .i64 r ∧ G = G' ∧ [(bp1q0, .cells #[.int .i64 a1q0.f0, .int .i64 a1q0.f1, .int .i64 a1q0.f2, .int .i64 a1q0.f3, .string a1q0.f4, .slice Aa1q0_f5 a1q0.f5.length ca1q0_f5] 59 (0, 0))] :: Γ = Γ')) := by
  refine calls_WP (Γ := [(bp1q0, .cells #[.int .i64 a1q0.f0, .int .i64 a1q0.f1, .int .i64 a1q0.f2, .int .i64 a1q0.f3, .string a1q0.f4, .slice Aa1q0_f5 a1q0.f5.length ca1q0_f5] 59 (0, 0))] :: Γ) (G := G) (B := B) Tryd.func77 rfl (by kernel_rfl) ?_ hI
  clear hI
  unfold slices_IndexFunc_44 at h
  refine WP.seqP [0, 1] (L' := [(0, .slice Al0 l0.length cl0), (1, .func (.func 50) #[] #[.pointer (some ⟨bp1q0, 0, none⟩)])]) (by kernel_rfl) ?_
  refine WP.seq ?_
  refine WP.seqP [0, 1, 7, 8] (L' := [(0, .slice Al0 l0.length cl0), (1, .func (.func 50) #[] #[.pointer (some ⟨bp1q0, 0, none⟩)]), (7, .int .i64 (l0.length : Int)), (8, .int .i64 0)]) (by kernel_rfl) ?_
  rw [Option.bind_eq_some_iff] at h
  obtain ⟨os1, h, hk2⟩ := h
  refine WP.cutQ (fun L' G' Γ' => ∃ s1 : Unit, Sum.inr s1 = os1 ∧ L' = [] ∧ G = G' ∧ [(bp1q0, .cells #[.int .i64 a1q0.f0, .int .i64 a1q0.f1, .int .i64 a1q0.f2, .int .i64 a1q0.f3, .string a1q0.f4, .slice Aa1q0_f5 a1q0.f5.length ca1q0_f5] 59 (0, 0))] :: Γ = Γ') ?_ ?_
  · skip
    refine WP.block ?_
    refine WP.pick [0, 1, 7, 8] ?_
    refine WP.loopF (fun kn4 L' G' Γ' => ∃ (y3 : Int), slices_IndexFunc_44_l0 l0 a1q0 rec_ kn4 y3 = some os1 ∧ L' = [(0, .slice Al0 l0.length cl0), (1, .func (.func 50) #[] #[.pointer (some ⟨bp1q0, 0, none⟩)]), (7, .int .i64 (l0.length : Int)), (8, .int .i64 y3)] ∧ G = G' ∧ [(bp1q0, .cells #[.int .i64 a1q0.f0, .int .i64 a1q0.f1, .int .i64 a1q0.f2, .int .i64 a1q0.f3, .string a1q0.f4, .slice Aa1q0_f5 a1q0.f5.length ca1q0_f5] 59 (0, 0))] :: Γ = Γ') ?_ k ⟨0, h, rfl, rfl, rfl⟩
    clear h
    rintro kn5 _ _ _ ⟨y3, h, rfl, rfl, rfl⟩
    cases kn5 with
    | zero => exact absurd h (by simp [slices_IndexFunc_44_l0])
    | succ kn5 =>
      simp only [slices_IndexFunc_44_l0] at h
      refine WP.seqP [0, 1, 7, 8, 9] (L' := [(0, .slice Al0 l0.length cl0), (1, .func (.func 50) #[] #[.pointer (some ⟨bp1q0, 0, none⟩)]), (7, .int .i64 (l0.length : Int)), (8, .int .i64 y3), (9, .bool (decide (y3 < (l0.length : Int))))]) (by kernel_rfl) ?_
      refine WP.seq ?_
      refine WP.cond (b := decide (y3 < (l0.length : Int))) (by kernel_rfl) (fun hc => ?_) (fun hc => ?_)
      · replace hc := of_decide_eq_true hc
        rw [if_pos hc] at h
        have hc6 := hc
        clear hc
        refine WP.skip ?_
        refine QP.next ?_
        refine WP.pick [0, 1, 7, 8] ?_
        refine WP.seq ?_
        refine WP.block ?_
        refine WP.seqP [0, 1, 5, 7, 8] (L' := [(0, .slice Al0 l0.length cl0), (1, .func (.func 50) #[] #[.pointer (some ⟨bp1q0, 0, none⟩)]), (5, .int .i64 y3), (7, .int .i64 (l0.length : Int)), (8, .int .i64 y3)]) (by kernel_rfl) ?_
        refine WP.seqR ?_
        refine WL.pure 0 3 [0, 1, 5, 7, 8, 11, 12, 13] (L' := [(0, .slice Al0 l0.length cl0), (1, .func (.func 50) #[] #[.pointer (some ⟨bp1q0, 0, none⟩)]), (5, .int .i64 y3), (7, .int .i64 (l0.length : Int)), (8, .int .i64 y3), (11, .func (.func 50) #[] #[.pointer (some ⟨bp1q0, 0, none⟩)]), (12, .slice Al0 l0.length cl0), (13, .int .i64 y3)]) (by kernel_rfl) (by decide) ?_
        by_cases hb7 : 0 ≤ y3 ∧ y3 < (l0.length : Int)
        case neg => rw [if_neg hb7] at h; cases h
        rw [if_pos hb7] at h
        refine WL.tell (op := .indexAddr 23 (.tmp 12) (.tmp 13)) (ty := 0) (d := some 14) (g := none) (by kernel_rfl) (by kernel_rfl) (by kernel_rfl) (Tells.indexAddr (A := Al0) (n := l0.length) (c := cl0) (k := .i64) (j := y3) (by kernel_rfl) (by kernel_rfl) (Hl0.isSome hb7.1 hb7.2) hb7.1 hb7.2 sl23) ?_
        refine WL.tellE (op := .load 25 (.tmp 14)) (ty := 25) (d := some 15) (g := none) (by kernel_rfl) (by kernel_rfl) (by kernel_rfl) (Hl0.load (agg := true) hb7.1 hb7.2 z25 ag25 (fun h => by cases h) (by kernel_rfl)) ?_
        rintro _ hrel
        obtain ⟨_, _, rfl, rfl, ⟨_, _, rfl, rfl, ⟨_, _, rfl, ⟨Ae8, ce8, rfl, He8⟩, ⟨Ae9, ce9, rfl, He9⟩⟩⟩⟩ := k25_out hrel
        replace He8 : Rd kStr G Ae8 ce8 ((l0.getD y3.toNat z25).f2) := He8
        replace He9 : Rd k25 G Ae9 ce9 ((l0.getD y3.toNat z25).f3) := He9
        rw [Option.bind_eq_some_iff] at h
        obtain ⟨t10, ht11, h⟩ := h
        refine WL.op (op := .call { callee := (.value (.tmp 11)), args := #[(.tmp 15)], argTypes := #[25] }) (ty := 4) (d := some 16) (g := none) (by kernel_rfl) (by kernel_rfl) (by kernel_rfl) (Does.call (f := 50) (args := [.agg #[.int .i64 ((l0.getD y3.toNat z25).f0), .int .i64 ((l0.getD y3.toNat z25).f1), .slice Ae8 ((l0.getD y3.toNat z25).f2).length ce8, .slice Ae9 ((l0.getD y3.toNat z25).f3).length ce9], .pointer (some ⟨bp1q0, 0, none⟩)]) (by kernel_rfl) (fun W hI => (deem_look_holds_2_calls rec_ Hrec (l0.getD y3.toNat z25) a1q0 Ae8 ce8 He8 Ae9 ce9 He9 bp1q0 Aa1q0_f5 ca1q0_f5 Ha1q0_f5 t10 ht11 hI))) ?_
        rintro _ _ _ ⟨rfl, rfl, rfl⟩
        refine WL.restQ 6 [0, 1, 5, 7, 8, 16] (L' := [(0, .slice Al0 l0.length cl0), (1, .func (.func 50) #[] #[.pointer (some ⟨bp1q0, 0, none⟩)]), (5, .int .i64 y3), (7, .int .i64 (l0.length : Int)), (8, .int .i64 y3), (16, .bool t10)]) (by kernel_rfl) ?_
        refine WP.cond (b := t10) (by kernel_rfl) (fun hc => ?_) (fun hc => ?_)
        · replace hc := hc
          rw [if_pos hc] at h
          have hc14 := hc
          clear hc
          refine WP.seqP [4] (L' := [(4, .int .i64 y3)]) (by kernel_rfl) ?_
          refine WP.ret ?_
          refine QP.blockR ?_
          refine QP.thenR ?_
          refine QP.thenR ?_
          refine QP.blockR ?_
          refine QP.thenR ?_
          refine QP.thenR ?_
          obtain rfl := Option.some.inj h
          obtain rfl := Option.some.inj (show some _ = some _ from hk2)
          exact QP.returned [4] [.int .i64 y3] _ (by kernel_rfl) (by kernel_rfl) (by kernel_rfl) (fun W hI => ⟨_, _, _, rfl, ⟨rfl, rfl, rfl⟩, hI⟩)
        · replace hc := (Bool.eq_false_iff.1 hc)
          rw [if_neg hc] at h
          have hc14 := hc
          clear hc
          refine WP.skip ?_
          refine QP.blockN ?_
          refine QP.next ?_
          refine WP.pick [0, 1, 7, 8] ?_
          refine WP.regionP [0, 1, 7, 8] (L' := [(0, .slice Al0 l0.length cl0), (1, .func (.func 50) #[] #[.pointer (some ⟨bp1q0, 0, none⟩)]), (7, .int .i64 (l0.length : Int)), (8, .int .i64 (IntKind.i64.wrap (y3 + 1)))]) (by kernel_rfl) ?_
          refine QP.pick [0, 1, 7, 8] ?_
          exact QP.meet ⟨kn5, Nat.lt_succ_self _, (IntKind.i64.wrap (y3 + 1)), h, rfl, rfl, rfl⟩
      · replace hc := of_decide_eq_false hc
        rw [if_neg hc] at h
        have hc6 := hc
        clear hc
        refine WP.exit ?_
        refine QP.thenE ?_
        refine QP.thenE ?_
        refine QP.blockE ?_
        refine QP.pick [] ?_
        exact QP.meet ⟨_, Option.some.inj h, rfl, rfl, rfl⟩
  · rintro _ _ _ ⟨s1, rfl, rfl, rfl, rfl⟩
    clear h
    replace h := hk2
    dsimp only at h
    refine QP.next ?_
    refine WP.pick [] ?_
    refine WP.seqP [4] (L' := [(4, .int .i64 (-1))]) (by kernel_rfl) ?_
    refine WP.ret ?_
    obtain rfl := Option.some.inj h
    exact QP.returned [4] [.int .i64 (-1)] _ (by kernel_rfl) (by kernel_rfl) (by kernel_rfl) (fun W hI => ⟨_, _, _, rfl, ⟨rfl, rfl, rfl⟩, hI⟩)

/-! ### slices.ContainsFunc[[]grapevine/api.Ask,grapevine/api.Ask]: function 49 -/
def slices_ContainsFunc_43 (rec_ : T59 → T25 → Option Bool) (k : Nat) (l0 : List T25) (a1q0 : T59) : Option Bool := ((slices_IndexFunc_44 rec_ k l0 a1q0).bind fun t1 => some (decide (t1 ≥ 0)))
set_option maxHeartbeats 4000000 in
theorem slices_ContainsFunc_43_calls {B : World} {G : GMap} {Γ : List Chunk} {W : World} (rec_ : T59 → T25 → Option Bool) (Hrec : ∀ {B : World} {G : GMap} {Γ : List Chunk} {W : World} (a0 : T59) (a1 : T25) (Aa0_f5 : Option Addr) (ca0_f5 : Nat) (Ha0_f5 : Rd k45 G Aa0_f5 ca0_f5 a0.f5) (Aa1_f2 : Option Addr) (ca1_f2 : Nat) (Ha1_f2 : Rd kStr G Aa1_f2 ca1_f2 a1.f2) (Aa1_f3 : Option Addr) (ca1_f3 : Nat) (Ha1_f3 : Rd k25 G Aa1_f3 ca1_f3 a1.f3) (r : Bool) (h : rec_ a0 a1 = some r) (hI : Inv B G (Γ) W),
    Calls Tryd.prog 27 [.agg #[.int .i64 a0.f0, .int .i64 a0.f1, .int .i64 a0.f2, .int .i64 a0.f3, .string a0.f4, .slice Aa0_f5 a0.f5.length ca0_f5], .agg #[.int .i64 a1.f0, .int .i64 a1.f1, .slice Aa1_f2 a1.f2.length ca1_f2, .slice Aa1_f3 a1.f3.length ca1_f3]].toArray W (Ret B (fun v G' Γ' => v = .bool r ∧ G = G' ∧ Γ = Γ'))) (k : Nat) (l0 : List T25) (a1q0 : T59) (Al0 : Option Addr) (cl0 : Nat) (Hl0 : Rd k25 G Al0 cl0 l0) (bp1q0 : Nat) (Aa1q0_f5 : Option Addr) (ca1q0_f5 : Nat) (Ha1q0_f5 : Rd k45 G Aa1q0_f5 ca1q0_f5 a1q0.f5) (r : Bool) (h : slices_ContainsFunc_43 rec_ k l0 a1q0 = some r) (hI : Inv B G ([(bp1q0, .cells #[.int .i64 a1q0.f0, .int .i64 a1q0.f1, .int .i64 a1q0.f2, .int .i64 a1q0.f3, .string a1q0.f4, .slice Aa1q0_f5 a1q0.f5.length ca1q0_f5] 59 (0, 0))] :: Γ) W) :
    Calls Tryd.prog 49 [.slice Al0 l0.length cl0, .func (.func 50) #[] #[.pointer (some ⟨bp1q0, 0, none⟩)]].toArray W (Ret B (fun v G' Γ' => v = .bool r ∧ G = G' ∧ [(bp1q0, .cells #[.int .i64 a1q0.f0, .int .i64 a1q0.f1, .int .i64 a1q0.f2, .int .i64 a1q0.f3, .string a1q0.f4, .slice Aa1q0_f5 a1q0.f5.length ca1q0_f5] 59 (0, 0))] :: Γ = Γ')) := by
  refine calls_WP (Γ := [(bp1q0, .cells #[.int .i64 a1q0.f0, .int .i64 a1q0.f1, .int .i64 a1q0.f2, .int .i64 a1q0.f3, .string a1q0.f4, .slice Aa1q0_f5 a1q0.f5.length ca1q0_f5] 59 (0, 0))] :: Γ) (G := G) (B := B) Tryd.func49 rfl (by kernel_rfl) ?_ hI
  clear hI
  unfold slices_ContainsFunc_43 at h
  refine WP.seqP [0, 1] (L' := [(0, .slice Al0 l0.length cl0), (1, .func (.func 50) #[] #[.pointer (some ⟨bp1q0, 0, none⟩)])]) (by kernel_rfl) ?_
  refine WP.seqR ?_
  refine WL.pure 0 2 [5, 6] (L' := [(5, .slice Al0 l0.length cl0), (6, .func (.func 50) #[] #[.pointer (some ⟨bp1q0, 0, none⟩)])]) (by kernel_rfl) (by decide) ?_
  rw [Option.bind_eq_some_iff] at h
  obtain ⟨t1, ht2, h⟩ := h
  refine WL.op (op := .call { callee := (.value (.func 77)), args := #[(.tmp 5), (.tmp 6)], argTypes := #[23, 33] }) (ty := 3) (d := some 7) (g := none) (by kernel_rfl) (by kernel_rfl) (by kernel_rfl) (Does.call (f := 77) (args := [.slice Al0 l0.length cl0, .func (.func 50) #[] #[.pointer (some ⟨bp1q0, 0, none⟩)]]) (by kernel_rfl) (fun W hI => (slices_IndexFunc_44_calls rec_ Hrec k l0 a1q0 Al0 cl0 Hl0 bp1q0 Aa1q0_f5 ca1q0_f5 Ha1q0_f5 t1 ht2 hI))) ?_
  rintro _ _ _ ⟨rfl, rfl, rfl⟩
  refine WL.restQ 3 [4] (L' := [(4, .bool (decide (t1 ≥ 0)))]) (by kernel_rfl) ?_
  refine WP.ret ?_
  obtain rfl := Option.some.inj h
  exact QP.returned [4] [.bool (decide (t1 ≥ 0))] _ (by kernel_rfl) (by kernel_rfl) (by kernel_rfl) (fun W hI => ⟨_, _, _, rfl, ⟨rfl, rfl, rfl⟩, hI⟩)

/-! ### (grapevine/deem.look).holds: function 27 -/
def deem_look_holds : Nat → T59 → T25 → Option Bool
  | 0, _, _ => none
  | k + 1, a0, a1 => (if a1.f0 = 1 then (if a1.f0 = 1 then ((deem_Phrase k a0.f5 a1.f2).bind fun t5 => some t5) else (if a1.f0 = 2 then ((slices_ContainsFunc_35 k a0.f5 a1).bind fun t10 => some t10) else (if a1.f0 = 4 then some (a0.f0 == a1.f1) else (if a1.f0 = 5 then some (decide (a0.f2 ≥ a1.f1)) else (if a1.f0 = 6 then some (decide (a0.f2 ≤ a1.f1)) else (if a1.f0 = 8 then ((slices_ContainsFunc_40 (deem_look_holds k) k a1.f3 a0).bind fun t18 => some t18) else (if a1.f0 = 9 then (if 0 ≤ (0 : Int) ∧ (0 : Int) < (a1.f3.length : Int) then ((deem_look_holds_2 (deem_look_holds k) (a1.f3.getD (0 : Int).toNat z25) a0).bind fun t26 => some t26) else none) else ((slices_ContainsFunc_43 (deem_look_holds k) k a1.f3 a0).bind fun t30 => some (!t30))))))))) else (if a1.f0 = 3 then ((deem_Phrase k a0.f5 a1.f2).bind fun t35 => some t35) else (if a1.f0 = 2 then ((slices_ContainsFunc_35 k a0.f5 a1).bind fun t40 => some t40) else (if a1.f0 = 4 then some (a0.f0 == a1.f1) else (if a1.f0 = 5 then some (decide (a0.f2 ≥ a1.f1)) else (if a1.f0 = 6 then some (decide (a0.f2 ≤ a1.f1)) else (if a1.f0 = 8 then ((slices_ContainsFunc_40 (deem_look_holds k) k a1.f3 a0).bind fun t48 => some t48) else (if a1.f0 = 9 then (if 0 ≤ (0 : Int) ∧ (0 : Int) < (a1.f3.length : Int) then ((deem_look_holds_2 (deem_look_holds k) (a1.f3.getD (0 : Int).toNat z25) a0).bind fun t56 => some t56) else none) else ((slices_ContainsFunc_43 (deem_look_holds k) k a1.f3 a0).bind fun t60 => some (!t60))))))))))
set_option maxHeartbeats 4000000 in
theorem deem_look_holds_calls_k (k : Nat) : ∀ {B : World} {G : GMap} {Γ : List Chunk} {W : World} (a0 : T59) (a1 : T25) (Aa0_f5 : Option Addr) (ca0_f5 : Nat) (Ha0_f5 : Rd k45 G Aa0_f5 ca0_f5 a0.f5) (Aa1_f2 : Option Addr) (ca1_f2 : Nat) (Ha1_f2 : Rd kStr G Aa1_f2 ca1_f2 a1.f2) (Aa1_f3 : Option Addr) (ca1_f3 : Nat) (Ha1_f3 : Rd k25 G Aa1_f3 ca1_f3 a1.f3) (r : Bool) (h : deem_look_holds k a0 a1 = some r) (hI : Inv B G (Γ) W),
    Calls Tryd.prog 27 [.agg #[.int .i64 a0.f0, .int .i64 a0.f1, .int .i64 a0.f2, .int .i64 a0.f3, .string a0.f4, .slice Aa0_f5 a0.f5.length ca0_f5], .agg #[.int .i64 a1.f0, .int .i64 a1.f1, .slice Aa1_f2 a1.f2.length ca1_f2, .slice Aa1_f3 a1.f3.length ca1_f3]].toArray W (Ret B (fun v G' Γ' => v = .bool r ∧ G = G' ∧ Γ = Γ')) := by
  induction k with
  | zero => intro B G Γ W a0 a1 Aa0_f5 ca0_f5 Ha0_f5 Aa1_f2 ca1_f2 Ha1_f2 Aa1_f3 ca1_f3 Ha1_f3 r h hI; exact absurd h (by simp [deem_look_holds])
  | succ kf ih =>
    intro B G Γ W a0 a1 Aa0_f5 ca0_f5 Ha0_f5 Aa1_f2 ca1_f2 Ha1_f2 Aa1_f3 ca1_f3 Ha1_f3 r h hI
    refine calls_WP (Γ := Γ) (G := G) (B := B) Tryd.func27 rfl (by kernel_rfl) ?_ hI
    clear hI
    simp only [deem_look_holds] at h
    refine WP.seqR ?_
    refine WL.op (op := .box 59 (.tmp 0)) (ty := 0) (d := some 2) (g := none) (by kernel_rfl) (by kernel_rfl) (by kernel_rfl) (Does.new (o := .cells #[.int .i64 a0.f0, .int .i64 a0.f1, .int .i64 a0.f2, .int .i64 a0.f3, .string a0.f4, .slice Aa0_f5 a0.f5.length ca0_f5] 59 (0, 0)) (v := fun r => .pointer (some ⟨r, 0, none⟩)) (fun r => by kernel_rfl)) ?_
    rintro _ _ _ ⟨b1, rfl, rfl, rfl⟩
    refine WL.op (op := .box 25 (.tmp 1)) (ty := 0) (d := some 3) (g := none) (by kernel_rfl) (by kernel_rfl) (by kernel_rfl) (Does.new (o := .cells #[.int .i64 a1.f0, .int .i64 a1.f1, .slice Aa1_f2 a1.f2.length ca1_f2, .slice Aa1_f3 a1.f3.length ca1_f3] 25 (0, 0)) (v := fun r => .pointer (some ⟨r, 0, none⟩)) (fun r => by kernel_rfl)) ?_
    rintro _ _ _ ⟨b2, rfl, rfl, rfl⟩
    refine WL.restQ 2 [2, 3] (L' := [(2, .pointer (some ⟨b1, 0, none⟩)), (3, .pointer (some ⟨b2, 0, none⟩))]) (by kernel_rfl) ?_
    refine WP.seq ?_
    refine WP.seqR ?_
    refine WL.pure 0 1 [2, 3, 6] (L' := [(2, .pointer (some ⟨b1, 0, none⟩)), (3, .pointer (some ⟨b2, 0, none⟩)), (6, .pointer (some ⟨b2, 0, none⟩))]) (by kernel_rfl) (by decide) ?_
    refine WL.tell (op := .load 3 (.tmp 6)) (ty := 3) (d := some 7) (g := none) (by kernel_rfl) (by kernel_rfl) (by kernel_rfl) (Tells.load_box (i := 0) (b := b2) (o := 0) (agg := false) (by rfl) ag3 (by kernel_rfl) (fun _ => rfl) (Nat.le_of_ble_eq_true rfl) (v := .int .i64 a1.f0) (by kernel_rfl)) ?_
    refine WL.restQ 2 [2, 3, 7] (L' := [(2, .pointer (some ⟨b1, 0, none⟩)), (3, .pointer (some ⟨b2, 0, none⟩)), (7, .int .i64 a1.f0)]) (by kernel_rfl) ?_
    refine WP.block ?_
    refine WP.seq ?_
    refine WP.seqP [2, 3, 7, 8] (L' := [(2, .pointer (some ⟨b1, 0, none⟩)), (3, .pointer (some ⟨b2, 0, none⟩)), (7, .int .i64 a1.f0), (8, .bool (a1.f0 == 1))]) (by kernel_rfl) ?_
    refine WP.cond (b := (a1.f0 == 1)) (by kernel_rfl) (fun hc => ?_) (fun hc => ?_)
    · replace hc := eq_of_beq hc
      rw [if_pos hc] at h
      have hc3 := hc
      clear hc
      refine WP.skip ?_
      refine QP.next ?_
      refine WP.pick [2, 3, 7, 8] ?_
      refine WP.cond (b := (a1.f0 == 1)) (by kernel_rfl) (fun hc => ?_) (fun hc => ?_)
      · replace hc := eq_of_beq hc
        rw [if_pos hc] at h
        have hc4 := hc
        clear hc
        refine WP.seqR ?_
        refine WL.pure 0 1 [3, 11] (L' := [(3, .pointer (some ⟨b2, 0, none⟩)), (11, .pointer (some ⟨b1, 5, none⟩))]) (by kernel_rfl) (by decide) ?_
        refine WL.tell (op := .load 32 (.tmp 11)) (ty := 32) (d := some 12) (g := none) (by kernel_rfl) (by kernel_rfl) (by kernel_rfl) (Tells.load_box (i := 1) (b := b1) (o := 5) (agg := false) (by rfl) ag32 (by kernel_rfl) (fun _ => rfl) (Nat.le_of_ble_eq_true rfl) (v := .slice Aa0_f5 a0.f5.length ca0_f5) (by kernel_rfl)) ?_
        refine WL.pure 2 3 [12, 13] (L' := [(12, .slice Aa0_f5 a0.f5.length ca0_f5), (13, .pointer (some ⟨b2, 2, none⟩))]) (by kernel_rfl) (by decide) ?_
        refine WL.tell (op := .load 22 (.tmp 13)) (ty := 22) (d := some 14) (g := none) (by kernel_rfl) (by kernel_rfl) (by kernel_rfl) (Tells.load_box (i := 0) (b := b2) (o := 2) (agg := false) (by rfl) ag22 (by kernel_rfl) (fun _ => rfl) (Nat.le_of_ble_eq_true rfl) (v := .slice Aa1_f2 a1.f2.length ca1_f2) (by kernel_rfl)) ?_
        rw [Option.bind_eq_some_iff] at h
        obtain ⟨t5, ht6, h⟩ := h
        refine WL.op (op := .call { callee := (.value (.func 14)), args := #[(.tmp 12), (.tmp 14)], argTypes := #[32, 22] }) (ty := 4) (d := some 15) (g := none) (by kernel_rfl) (by kernel_rfl) (by kernel_rfl) (Does.call (f := 14) (args := [.slice Aa0_f5 a0.f5.length ca0_f5, .slice Aa1_f2 a1.f2.length ca1_f2]) (by kernel_rfl) (fun W hI => (deem_Phrase_calls kf a0.f5 a1.f2 Aa0_f5 ca0_f5 Ha0_f5 Aa1_f2 ca1_f2 Ha1_f2 t5 ht6 hI))) ?_
        rintro _ _ _ ⟨rfl, rfl, rfl⟩
        refine WL.restQ 5 [4] (L' := [(4, .bool t5)]) (by kernel_rfl) ?_
        refine WP.dropAt 1 ?_
        refine WP.dropAt 0 ?_
        refine WP.ret ?_
        refine QP.blockR ?_
        refine QP.thenR ?_
        obtain rfl := Option.some.inj h
        exact QP.returned [4] [.bool t5] _ (by kernel_rfl) (by kernel_rfl) (by kernel_rfl) (fun W hI => ⟨_, _, _, rfl, ⟨rfl, rfl, rfl⟩, hI⟩)
      · replace hc := ne_of_beq_false hc
        rw [if_neg hc] at h
        have hc4 := hc
        clear hc
        refine WP.seqP [2, 3, 7, 16] (L' := [(2, .pointer (some ⟨b1, 0, none⟩)), (3, .pointer (some ⟨b2, 0, none⟩)), (7, .int .i64 a1.f0), (16, .bool (a1.f0 == 2))]) (by kernel_rfl) ?_
        refine WP.cond (b := (a1.f0 == 2)) (by kernel_rfl) (fun hc => ?_) (fun hc => ?_)
        · replace hc := eq_of_beq hc
          rw [if_pos hc] at h
          have hc9 := hc
          clear hc
          refine WP.seqR ?_
          refine WL.pure 0 1 [3, 18] (L' := [(3, .pointer (some ⟨b2, 0, none⟩)), (18, .pointer (some ⟨b1, 5, none⟩))]) (by kernel_rfl) (by decide) ?_
          refine WL.tell (op := .load 32 (.tmp 18)) (ty := 32) (d := some 19) (g := none) (by kernel_rfl) (by kernel_rfl) (by kernel_rfl) (Tells.load_box (i := 1) (b := b1) (o := 5) (agg := false) (by rfl) ag32 (by kernel_rfl) (fun _ => rfl) (Nat.le_of_ble_eq_true rfl) (v := .slice Aa0_f5 a0.f5.length ca0_f5) (by kernel_rfl)) ?_
          refine WL.pure 2 3 [19, 20] (L' := [(19, .slice Aa0_f5 a0.f5.length ca0_f5), (20, .func (.func 47) #[] #[.pointer (some ⟨b2, 0, none⟩)])]) (by kernel_rfl) (by decide) ?_
          rw [Option.bind_eq_some_iff] at h
          obtain ⟨t10, ht11, h⟩ := h
          refine WL.op (op := .call { callee := (.value (.func 46)), args := #[(.tmp 19), (.tmp 20)], argTypes := #[32, 77] }) (ty := 4) (d := some 21) (g := none) (by kernel_rfl) (by kernel_rfl) (by kernel_rfl) (Does.call (f := 46) (args := [.slice Aa0_f5 a0.f5.length ca0_f5, .func (.func 47) #[] #[.pointer (some ⟨b2, 0, none⟩)]]) (by kernel_rfl) (fun W hI => (slices_ContainsFunc_35_calls kf a0.f5 a1 Aa0_f5 ca0_f5 Ha0_f5 b2 Aa1_f2 ca1_f2 Ha1_f2 Aa1_f3 ca1_f3 Ha1_f3 t10 ht11 hI))) ?_
          rintro _ _ _ ⟨rfl, rfl, rfl⟩
          refine WL.restQ 4 [4] (L' := [(4, .bool t10)]) (by kernel_rfl) ?_
          refine WP.dropAt 1 ?_
          refine WP.dropAt 0 ?_
          refine WP.ret ?_
          refine QP.blockR ?_
          refine QP.thenR ?_
          obtain rfl := Option.some.inj h
          exact QP.returned [4] [.bool t10] _ (by kernel_rfl) (by kernel_rfl) (by kernel_rfl) (fun W hI => ⟨_, _, _, rfl, ⟨rfl, rfl, rfl⟩, hI⟩)
        · replace hc := ne_of_beq_false hc
          rw [if_neg hc] at h
          have hc9 := hc
          clear hc
          refine WP.seqP [2, 3, 7, 22] (L' := [(2, .pointer (some ⟨b1, 0, none⟩)), (3, .pointer (some ⟨b2, 0, none⟩)), (7, .int .i64 a1.f0), (22, .bool (a1.f0 == 4))]) (by kernel_rfl) ?_
          refine WP.cond (b := (a1.f0 == 4)) (by kernel_rfl) (fun hc => ?_) (fun hc => ?_)
          · replace hc := eq_of_beq hc
            rw [if_pos hc] at h
            have hc14 := hc
            clear hc
            refine WP.seqR ?_
            refine WL.pure 0 3 [3, 26] (L' := [(3, .pointer (some ⟨b2, 0, none⟩)), (26, .pointer (some ⟨b1, 0, none⟩))]) (by kernel_rfl) (by decide) ?_
            refine WL.tell (op := .load 3 (.tmp 26)) (ty := 3) (d := some 27) (g := none) (by kernel_rfl) (by kernel_rfl) (by kernel_rfl) (Tells.load_box (i := 1) (b := b1) (o := 0) (agg := false) (by rfl) ag3 (by kernel_rfl) (fun _ => rfl) (Nat.le_of_ble_eq_true rfl) (v := .int .i64 a0.f0) (by kernel_rfl)) ?_
            refine WL.pure 4 5 [27, 28] (L' := [(27, .int .i64 a0.f0), (28, .pointer (some ⟨b2, 1, none⟩))]) (by kernel_rfl) (by decide) ?_
            refine WL.tell (op := .load 3 (.tmp 28)) (ty := 3) (d := some 29) (g := none) (by kernel_rfl) (by kernel_rfl) (by kernel_rfl) (Tells.load_box (i := 0) (b := b2) (o := 1) (agg := false) (by rfl) ag3 (by kernel_rfl) (fun _ => rfl) (Nat.le_of_ble_eq_true rfl) (v := .int .i64 a1.f1) (by kernel_rfl)) ?_
            refine WL.restQ 6 [4] (L' := [(4, .bool (a0.f0 == a1.f1))]) (by kernel_rfl) ?_
            refine WP.dropAt 1 ?_
            refine WP.dropAt 0 ?_
            refine WP.ret ?_
            refine QP.blockR ?_
            refine QP.thenR ?_
            obtain rfl := Option.some.inj h
            exact QP.returned [4] [.bool (a0.f0 == a1.f1)] _ (by kernel_rfl) (by kernel_rfl) (by kernel_rfl) (fun W hI => ⟨_, _, _, rfl, ⟨rfl, rfl, rfl⟩, hI⟩)
          · replace hc := ne_of_beq_false hc
            rw [if_neg hc] at h
            have hc14 := hc
            clear hc
            refine WP.seqP [2, 3, 7, 31] (L' := [(2, .pointer (some ⟨b1, 0, none⟩)), (3, .pointer (some ⟨b2, 0, none⟩)), (7, .int .i64 a1.f0), (31, .bool (a1.f0 == 5))]) (by kernel_rfl) ?_
            refine WP.cond (b := (a1.f0 == 5)) (by kernel_rfl) (fun hc => ?_) (fun hc => ?_)
            · replace hc := eq_of_beq hc
              rw [if_pos hc] at h
              have hc15 := hc
              clear hc
              refine WP.seqR ?_
              refine WL.pure 0 3 [3, 35] (L' := [(3, .pointer (some ⟨b2, 0, none⟩)), (35, .pointer (some ⟨b1, 2, none⟩))]) (by kernel_rfl) (by decide) ?_
              refine WL.tell (op := .load 3 (.tmp 35)) (ty := 3) (d := some 36) (g := none) (by kernel_rfl) (by kernel_rfl) (by kernel_rfl) (Tells.load_box (i := 1) (b := b1) (o := 2) (agg := false) (by rfl) ag3 (by kernel_rfl) (fun _ => rfl) (Nat.le_of_ble_eq_true rfl) (v := .int .i64 a0.f2) (by kernel_rfl)) ?_
              refine WL.pure 4 5 [36, 37] (L' := [(36, .int .i64 a0.f2), (37, .pointer (some ⟨b2, 1, none⟩))]) (by kernel_rfl) (by decide) ?_
              refine WL.tell (op := .load 3 (.tmp 37)) (ty := 3) (d := some 38) (g := none) (by kernel_rfl) (by kernel_rfl) (by kernel_rfl) (Tells.load_box (i := 0) (b := b2) (o := 1) (agg := false) (by rfl) ag3 (by kernel_rfl) (fun _ => rfl) (Nat.le_of_ble_eq_true rfl) (v := .int .i64 a1.f1) (by kernel_rfl)) ?_
              refine WL.restQ 6 [4] (L' := [(4, .bool (decide (a0.f2 ≥ a1.f1)))]) (by kernel_rfl) ?_
              refine WP.dropAt 1 ?_
              refine WP.dropAt 0 ?_
              refine WP.ret ?_
              refine QP.blockR ?_
              refine QP.thenR ?_
              obtain rfl := Option.some.inj h
              exact QP.returned [4] [.bool (decide (a0.f2 ≥ a1.f1))] _ (by kernel_rfl) (by kernel_rfl) (by kernel_rfl) (fun W hI => ⟨_, _, _, rfl, ⟨rfl, rfl, rfl⟩, hI⟩)
            · replace hc := ne_of_beq_false hc
              rw [if_neg hc] at h
              have hc15 := hc
              clear hc
              refine WP.seqP [2, 3, 7, 40] (L' := [(2, .pointer (some ⟨b1, 0, none⟩)), (3, .pointer (some ⟨b2, 0, none⟩)), (7, .int .i64 a1.f0), (40, .bool (a1.f0 == 6))]) (by kernel_rfl) ?_
              refine WP.cond (b := (a1.f0 == 6)) (by kernel_rfl) (fun hc => ?_) (fun hc => ?_)
              · replace hc := eq_of_beq hc
                rw [if_pos hc] at h
                have hc16 := hc
                clear hc
                refine WP.seqR ?_
                refine WL.pure 0 3 [3, 44] (L' := [(3, .pointer (some ⟨b2, 0, none⟩)), (44, .pointer (some ⟨b1, 2, none⟩))]) (by kernel_rfl) (by decide) ?_
                refine WL.tell (op := .load 3 (.tmp 44)) (ty := 3) (d := some 45) (g := none) (by kernel_rfl) (by kernel_rfl) (by kernel_rfl) (Tells.load_box (i := 1) (b := b1) (o := 2) (agg := false) (by rfl) ag3 (by kernel_rfl) (fun _ => rfl) (Nat.le_of_ble_eq_true rfl) (v := .int .i64 a0.f2) (by kernel_rfl)) ?_
                refine WL.pure 4 5 [45, 46] (L' := [(45, .int .i64 a0.f2), (46, .pointer (some ⟨b2, 1, none⟩))]) (by kernel_rfl) (by decide) ?_
                refine WL.tell (op := .load 3 (.tmp 46)) (ty := 3) (d := some 47) (g := none) (by kernel_rfl) (by kernel_rfl) (by kernel_rfl) (Tells.load_box (i := 0) (b := b2) (o := 1) (agg := false) (by rfl) ag3 (by kernel_rfl) (fun _ => rfl) (Nat.le_of_ble_eq_true rfl) (v := .int .i64 a1.f1) (by kernel_rfl)) ?_
                refine WL.restQ 6 [4] (L' := [(4, .bool (decide (a0.f2 ≤ a1.f1)))]) (by kernel_rfl) ?_
                refine WP.dropAt 1 ?_
                refine WP.dropAt 0 ?_
                refine WP.ret ?_
                refine QP.blockR ?_
                refine QP.thenR ?_
                obtain rfl := Option.some.inj h
                exact QP.returned [4] [.bool (decide (a0.f2 ≤ a1.f1))] _ (by kernel_rfl) (by kernel_rfl) (by kernel_rfl) (fun W hI => ⟨_, _, _, rfl, ⟨rfl, rfl, rfl⟩, hI⟩)
              · replace hc := ne_of_beq_false hc
                rw [if_neg hc] at h
                have hc16 := hc
                clear hc
                refine WP.seqP [2, 3, 49] (L' := [(2, .pointer (some ⟨b1, 0, none⟩)), (3, .pointer (some ⟨b2, 0, none⟩)), (49, .bool (a1.f0 == 8))]) (by kernel_rfl) ?_
                refine WP.cond (b := (a1.f0 == 8)) (by kernel_rfl) (fun hc => ?_) (fun hc => ?_)
                · replace hc := eq_of_beq hc
                  rw [if_pos hc] at h
                  have hc17 := hc
                  clear hc
                  refine WP.seqR ?_
                  refine WL.pure 0 1 [2, 51] (L' := [(2, .pointer (some ⟨b1, 0, none⟩)), (51, .pointer (some ⟨b2, 3, none⟩))]) (by kernel_rfl) (by decide) ?_
                  refine WL.tell (op := .load 23 (.tmp 51)) (ty := 23) (d := some 52) (g := none) (by kernel_rfl) (by kernel_rfl) (by kernel_rfl) (Tells.load_box (i := 0) (b := b2) (o := 3) (agg := false) (by rfl) ag23 (by kernel_rfl) (fun _ => rfl) (Nat.le_of_ble_eq_true rfl) (v := .slice Aa1_f3 a1.f3.length ca1_f3) (by kernel_rfl)) ?_
                  refine WL.tell (op := .load 59 (.tmp 2)) (ty := 59) (d := some 53) (g := none) (by kernel_rfl) (by kernel_rfl) (by kernel_rfl) (Tells.load_box (i := 1) (b := b1) (o := 0) (agg := true) (by rfl) ag59 (by kernel_rfl) (fun h => by cases h) (Nat.le_of_ble_eq_true rfl) (v := .agg #[.int .i64 a0.f0, .int .i64 a0.f1, .int .i64 a0.f2, .int .i64 a0.f3, .string a0.f4, .slice Aa0_f5 a0.f5.length ca0_f5]) (by kernel_rfl)) ?_
                  refine WL.pure 3 4 [52, 54] (L' := [(52, .slice Aa1_f3 a1.f3.length ca1_f3), (54, .func (.func 27) #[.agg #[.int .i64 a0.f0, .int .i64 a0.f1, .int .i64 a0.f2, .int .i64 a0.f3, .string a0.f4, .slice Aa0_f5 a0.f5.length ca0_f5]] #[])]) (by kernel_rfl) (by decide) ?_
                  rw [Option.bind_eq_some_iff] at h
                  obtain ⟨t18, ht19, h⟩ := h
                  refine WL.op (op := .call { callee := (.value (.func 49)), args := #[(.tmp 52), (.tmp 54)], argTypes := #[23, 33] }) (ty := 4) (d := some 55) (g := none) (by kernel_rfl) (by kernel_rfl) (by kernel_rfl) (Does.call (f := 49) (args := [.slice Aa1_f3 a1.f3.length ca1_f3, .func (.func 27) #[.agg #[.int .i64 a0.f0, .int .i64 a0.f1, .int .i64 a0.f2, .int .i64 a0.f3, .string a0.f4, .slice Aa0_f5 a0.f5.length ca0_f5]] #[]]) (by kernel_rfl) (fun W hI => (slices_ContainsFunc_40_calls (deem_look_holds kf) ih kf a1.f3 a0 Aa1_f3 ca1_f3 Ha1_f3 Aa0_f5 ca0_f5 Ha0_f5 t18 ht19 hI))) ?_
                  rintro _ _ _ ⟨rfl, rfl, rfl⟩
                  refine WL.restQ 5 [4] (L' := [(4, .bool t18)]) (by kernel_rfl) ?_
                  refine WP.dropAt 1 ?_
                  refine WP.dropAt 0 ?_
                  refine WP.ret ?_
                  refine QP.blockR ?_
                  refine QP.thenR ?_
                  obtain rfl := Option.some.inj h
                  exact QP.returned [4] [.bool t18] _ (by kernel_rfl) (by kernel_rfl) (by kernel_rfl) (fun W hI => ⟨_, _, _, rfl, ⟨rfl, rfl, rfl⟩, hI⟩)
                · replace hc := ne_of_beq_false hc
                  rw [if_neg hc] at h
                  have hc17 := hc
                  clear hc
                  refine WP.skip ?_
                  refine QP.blockN ?_
                  refine QP.next ?_
                  refine WP.pick [2, 3] ?_
                  refine WP.seqP [3, 5] (L' := [(3, .pointer (some ⟨b2, 0, none⟩)), (5, .func (.func 50) #[] #[.pointer (some ⟨b1, 0, none⟩)])]) (by kernel_rfl) ?_
                  refine WP.seq ?_
                  refine WP.seqR ?_
                  refine WL.pure 0 1 [3, 5, 57] (L' := [(3, .pointer (some ⟨b2, 0, none⟩)), (5, .func (.func 50) #[] #[.pointer (some ⟨b1, 0, none⟩)]), (57, .pointer (some ⟨b2, 0, none⟩))]) (by kernel_rfl) (by decide) ?_
                  refine WL.tell (op := .load 3 (.tmp 57)) (ty := 3) (d := some 58) (g := none) (by kernel_rfl) (by kernel_rfl) (by kernel_rfl) (Tells.load_box (i := 0) (b := b2) (o := 0) (agg := false) (by rfl) ag3 (by kernel_rfl) (fun _ => rfl) (Nat.le_of_ble_eq_true rfl) (v := .int .i64 a1.f0) (by kernel_rfl)) ?_
                  refine WL.restQ 2 [3, 5, 59] (L' := [(3, .pointer (some ⟨b2, 0, none⟩)), (5, .func (.func 50) #[] #[.pointer (some ⟨b1, 0, none⟩)]), (59, .bool (a1.f0 == 9))]) (by kernel_rfl) ?_
                  refine WP.cond (b := (a1.f0 == 9)) (by kernel_rfl) (fun hc => ?_) (fun hc => ?_)
                  · replace hc := eq_of_beq hc
                    rw [if_pos hc] at h
                    have hc22 := hc
                    clear hc
                    refine WP.seqR ?_
                    refine WL.pure 0 2 [60, 61] (L' := [(60, .func (.func 50) #[] #[.pointer (some ⟨b1, 0, none⟩)]), (61, .pointer (some ⟨b2, 3, none⟩))]) (by kernel_rfl) (by decide) ?_
                    refine WL.tell (op := .load 23 (.tmp 61)) (ty := 23) (d := some 62) (g := none) (by kernel_rfl) (by kernel_rfl) (by kernel_rfl) (Tells.load_box (i := 0) (b := b2) (o := 3) (agg := false) (by rfl) ag23 (by kernel_rfl) (fun _ => rfl) (Nat.le_of_ble_eq_true rfl) (v := .slice Aa1_f3 a1.f3.length ca1_f3) (by kernel_rfl)) ?_
                    by_cases hb23 : 0 ≤ (0 : Int) ∧ (0 : Int) < (a1.f3.length : Int)
                    case neg => rw [if_neg hb23] at h; cases h
                    rw [if_pos hb23] at h
                    refine WL.tell (op := .indexAddr 23 (.tmp 62) (.const (.int .i64 0))) (ty := 0) (d := some 63) (g := none) (by kernel_rfl) (by kernel_rfl) (by kernel_rfl) (Tells.indexAddr (A := Aa1_f3) (n := a1.f3.length) (c := ca1_f3) (k := .i64) (j := 0) (by kernel_rfl) (by kernel_rfl) (Ha1_f3.isSome hb23.1 hb23.2) hb23.1 hb23.2 sl23) ?_
                    refine WL.tellE (op := .load 25 (.tmp 63)) (ty := 25) (d := some 64) (g := none) (by kernel_rfl) (by kernel_rfl) (by kernel_rfl) (Ha1_f3.load (agg := true) hb23.1 hb23.2 z25 ag25 (fun h => by cases h) (by kernel_rfl)) ?_
                    rintro _ hrel
                    obtain ⟨_, _, rfl, rfl, ⟨_, _, rfl, rfl, ⟨_, _, rfl, ⟨Ae24, ce24, rfl, He24⟩, ⟨Ae25, ce25, rfl, He25⟩⟩⟩⟩ := k25_out hrel
                    replace He24 : Rd kStr G Ae24 ce24 ((a1.f3.getD (0 : Int).toNat z25).f2) := He24
                    replace He25 : Rd k25 G Ae25 ce25 ((a1.f3.getD (0 : Int).toNat z25).f3) := He25
                    refine WL.front (i := 1) rfl ?_
                    rw [Option.bind_eq_some_iff] at h
                    obtain ⟨t26, ht27, h⟩ := h
                    refine WL.op (op := .call { callee := (.value (.tmp 60)), args := #[(.tmp 64)], argTypes := #[25] }) (ty := 4) (d := some 65) (g := none) (by kernel_rfl) (by kernel_rfl) (by kernel_rfl) (Does.call (f := 50) (args := [.agg #[.int .i64 ((a1.f3.getD (0 : Int).toNat z25).f0), .int .i64 ((a1.f3.getD (0 : Int).toNat z25).f1), .slice Ae24 ((a1.f3.getD (0 : Int).toNat z25).f2).length ce24, .slice Ae25 ((a1.f3.getD (0 : Int).toNat z25).f3).length ce25], .pointer (some ⟨b1, 0, none⟩)]) (by kernel_rfl) (fun W hI => (deem_look_holds_2_calls (deem_look_holds kf) ih (a1.f3.getD (0 : Int).toNat z25) a0 Ae24 ce24 He24 Ae25 ce25 He25 b1 Aa0_f5 ca0_f5 Ha0_f5 t26 ht27 hI))) ?_
                    rintro _ _ _ ⟨rfl, rfl, rfl⟩
                    refine WL.restQ 6 [4] (L' := [(4, .bool t26)]) (by kernel_rfl) ?_
                    refine WP.dropAt 1 ?_
                    refine WP.dropAt 0 ?_
                    refine WP.ret ?_
                    refine QP.thenR ?_
                    obtain rfl := Option.some.inj h
                    exact QP.returned [4] [.bool t26] _ (by kernel_rfl) (by kernel_rfl) (by kernel_rfl) (fun W hI => ⟨_, _, _, rfl, ⟨rfl, rfl, rfl⟩, hI⟩)
                  · replace hc := ne_of_beq_false hc
                    rw [if_neg hc] at h
                    have hc22 := hc
                    clear hc
                    refine WP.skip ?_
                    refine QP.next ?_
                    refine WP.pick [3, 5] ?_
                    refine WP.seqR ?_
                    refine WL.pure 0 1 [5, 66] (L' := [(5, .func (.func 50) #[] #[.pointer (some ⟨b1, 0, none⟩)]), (66, .pointer (some ⟨b2, 3, none⟩))]) (by kernel_rfl) (by decide) ?_
                    refine WL.tell (op := .load 23 (.tmp 66)) (ty := 23) (d := some 67) (g := none) (by kernel_rfl) (by kernel_rfl) (by kernel_rfl) (Tells.load_box (i := 0) (b := b2) (o := 3) (agg := false) (by rfl) ag23 (by kernel_rfl) (fun _ => rfl) (Nat.le_of_ble_eq_true rfl) (v := .slice Aa1_f3 a1.f3.length ca1_f3) (by kernel_rfl)) ?_
                    refine WL.pure 2 3 [67, 68] (L' := [(67, .slice Aa1_f3 a1.f3.length ca1_f3), (68, .func (.func 50) #[] #[.pointer (some ⟨b1, 0, none⟩)])]) (by kernel_rfl) (by decide) ?_
                    refine WL.front (i := 1) rfl ?_
                    rw [Option.bind_eq_some_iff] at h
                    obtain ⟨t30, ht31, h⟩ := h
                    refine WL.op (op := .call { callee := (.value (.func 49)), args := #[(.tmp 67), (.tmp 68)], argTypes := #[23, 33] }) (ty := 4) (d := some 69) (g := none) (by kernel_rfl) (by kernel_rfl) (by kernel_rfl) (Does.call (f := 49) (args := [.slice Aa1_f3 a1.f3.length ca1_f3, .func (.func 50) #[] #[.pointer (some ⟨b1, 0, none⟩)]]) (by kernel_rfl) (fun W hI => (slices_ContainsFunc_43_calls (deem_look_holds kf) ih kf a1.f3 a0 Aa1_f3 ca1_f3 Ha1_f3 b1 Aa0_f5 ca0_f5 Ha0_f5 t30 ht31 hI))) ?_
                    rintro _ _ _ ⟨rfl, rfl, rfl⟩
                    refine WL.restQ 4 [4] (L' := [(4, .bool (!t30))]) (by kernel_rfl) ?_
                    refine WP.dropAt 1 ?_
                    refine WP.dropAt 0 ?_
                    refine WP.ret ?_
                    obtain rfl := Option.some.inj h
                    exact QP.returned [4] [.bool (!t30)] _ (by kernel_rfl) (by kernel_rfl) (by kernel_rfl) (fun W hI => ⟨_, _, _, rfl, ⟨rfl, rfl, rfl⟩, hI⟩)
    · replace hc := ne_of_beq_false hc
      rw [if_neg hc] at h
      have hc3 := hc
      clear hc
      refine WP.regionP [2, 3, 7, 8] (L' := [(2, .pointer (some ⟨b1, 0, none⟩)), (3, .pointer (some ⟨b2, 0, none⟩)), (7, .int .i64 a1.f0), (8, .bool (a1.f0 == 3))]) (by kernel_rfl) ?_
      refine QP.next ?_
      refine WP.pick [2, 3, 7, 8] ?_
      refine WP.cond (b := (a1.f0 == 3)) (by kernel_rfl) (fun hc => ?_) (fun hc => ?_)
      · replace hc := eq_of_beq hc
        rw [if_pos hc] at h
        have hc34 := hc
        clear hc
        refine WP.seqR ?_
        refine WL.pure 0 1 [3, 11] (L' := [(3, .pointer (some ⟨b2, 0, none⟩)), (11, .pointer (some ⟨b1, 5, none⟩))]) (by kernel_rfl) (by decide) ?_
        refine WL.tell (op := .load 32 (.tmp 11)) (ty := 32) (d := some 12) (g := none) (by kernel_rfl) (by kernel_rfl) (by kernel_rfl) (Tells.load_box (i := 1) (b := b1) (o := 5) (agg := false) (by rfl) ag32 (by kernel_rfl) (fun _ => rfl) (Nat.le_of_ble_eq_true rfl) (v := .slice Aa0_f5 a0.f5.length ca0_f5) (by kernel_rfl)) ?_
        refine WL.pure 2 3 [12, 13] (L' := [(12, .slice Aa0_f5 a0.f5.length ca0_f5), (13, .pointer (some ⟨b2, 2, none⟩))]) (by kernel_rfl) (by decide) ?_
        refine WL.tell (op := .load 22 (.tmp 13)) (ty := 22) (d := some 14) (g := none) (by kernel_rfl) (by kernel_rfl) (by kernel_rfl) (Tells.load_box (i := 0) (b := b2) (o := 2) (agg := false) (by rfl) ag22 (by kernel_rfl) (fun _ => rfl) (Nat.le_of_ble_eq_true rfl) (v := .slice Aa1_f2 a1.f2.length ca1_f2) (by kernel_rfl)) ?_
        rw [Option.bind_eq_some_iff] at h
        obtain ⟨t35, ht36, h⟩ := h
        refine WL.op (op := .call { callee := (.value (.func 14)), args := #[(.tmp 12), (.tmp 14)], argTypes := #[32, 22] }) (ty := 4) (d := some 15) (g := none) (by kernel_rfl) (by kernel_rfl) (by kernel_rfl) (Does.call (f := 14) (args := [.slice Aa0_f5 a0.f5.length ca0_f5, .slice Aa1_f2 a1.f2.length ca1_f2]) (by kernel_rfl) (fun W hI => (deem_Phrase_calls kf a0.f5 a1.f2 Aa0_f5 ca0_f5 Ha0_f5 Aa1_f2 ca1_f2 Ha1_f2 t35 ht36 hI))) ?_
        rintro _ _ _ ⟨rfl, rfl, rfl⟩
        refine WL.restQ 5 [4] (L' := [(4, .bool t35)]) (by kernel_rfl) ?_
        refine WP.dropAt 1 ?_
        refine WP.dropAt 0 ?_
        refine WP.ret ?_
        refine QP.blockR ?_
        refine QP.thenR ?_
        obtain rfl := Option.some.inj h
        exact QP.returned [4] [.bool t35] _ (by kernel_rfl) (by kernel_rfl) (by kernel_rfl) (fun W hI => ⟨_, _, _, rfl, ⟨rfl, rfl, rfl⟩, hI⟩)
      · replace hc := ne_of_beq_false hc
        rw [if_neg hc] at h
        have hc34 := hc
        clear hc
        refine WP.seqP [2, 3, 7, 16] (L' := [(2, .pointer (some ⟨b1, 0, none⟩)), (3, .pointer (some ⟨b2, 0, none⟩)), (7, .int .i64 a1.f0), (16, .bool (a1.f0 == 2))]) (by kernel_rfl) ?_
        refine WP.cond (b := (a1.f0 == 2)) (by kernel_rfl) (fun hc => ?_) (fun hc => ?_)
        · replace hc := eq_of_beq hc
          rw [if_pos hc] at h
          have hc39 := hc
          clear hc
          refine WP.seqR ?_
          refine WL.pure 0 1 [3, 18] (L' := [(3, .pointer (some ⟨b2, 0, none⟩)), (18, .pointer (some ⟨b1, 5, none⟩))]) (by kernel_rfl) (by decide) ?_
          refine WL.tell (op := .load 32 (.tmp 18)) (ty := 32) (d := some 19) (g := none) (by kernel_rfl) (by kernel_rfl) (by kernel_rfl) (Tells.load_box (i := 1) (b := b1) (o := 5) (agg := false) (by rfl) ag32 (by kernel_rfl) (fun _ => rfl) (Nat.le_of_ble_eq_true rfl) (v := .slice Aa0_f5 a0.f5.length ca0_f5) (by kernel_rfl)) ?_
          refine WL.pure 2 3 [19, 20] (L' := [(19, .slice Aa0_f5 a0.f5.length ca0_f5), (20, .func (.func 47) #[] #[.pointer (some ⟨b2, 0, none⟩)])]) (by kernel_rfl) (by decide) ?_
          rw [Option.bind_eq_some_iff] at h
          obtain ⟨t40, ht41, h⟩ := h
          refine WL.op (op := .call { callee := (.value (.func 46)), args := #[(.tmp 19), (.tmp 20)], argTypes := #[32, 77] }) (ty := 4) (d := some 21) (g := none) (by kernel_rfl) (by kernel_rfl) (by kernel_rfl) (Does.call (f := 46) (args := [.slice Aa0_f5 a0.f5.length ca0_f5, .func (.func 47) #[] #[.pointer (some ⟨b2, 0, none⟩)]]) (by kernel_rfl) (fun W hI => (slices_ContainsFunc_35_calls kf a0.f5 a1 Aa0_f5 ca0_f5 Ha0_f5 b2 Aa1_f2 ca1_f2 Ha1_f2 Aa1_f3 ca1_f3 Ha1_f3 t40 ht41 hI))) ?_
          rintro _ _ _ ⟨rfl, rfl, rfl⟩
          refine WL.restQ 4 [4] (L' := [(4, .bool t40)]) (by kernel_rfl) ?_
          refine WP.dropAt 1 ?_
          refine WP.dropAt 0 ?_
          refine WP.ret ?_
          refine QP.blockR ?_
          refine QP.thenR ?_
          obtain rfl := Option.some.inj h
          exact QP.returned [4] [.bool t40] _ (by kernel_rfl) (by kernel_rfl) (by kernel_rfl) (fun W hI => ⟨_, _, _, rfl, ⟨rfl, rfl, rfl⟩, hI⟩)
        · replace hc := ne_of_beq_false hc
          rw [if_neg hc] at h
          have hc39 := hc
          clear hc
          refine WP.seqP [2, 3, 7, 22] (L' := [(2, .pointer (some ⟨b1, 0, none⟩)), (3, .pointer (some ⟨b2, 0, none⟩)), (7, .int .i64 a1.f0), (22, .bool (a1.f0 == 4))]) (by kernel_rfl) ?_
          refine WP.cond (b := (a1.f0 == 4)) (by kernel_rfl) (fun hc => ?_) (fun hc => ?_)
          · replace hc := eq_of_beq hc
            rw [if_pos hc] at h
            have hc44 := hc
            clear hc
            refine WP.seqR ?_
            refine WL.pure 0 3 [3, 26] (L' := [(3, .pointer (some ⟨b2, 0, none⟩)), (26, .pointer (some ⟨b1, 0, none⟩))]) (by kernel_rfl) (by decide) ?_
            refine WL.tell (op := .load 3 (.tmp 26)) (ty := 3) (d := some 27) (g := none) (by kernel_rfl) (by kernel_rfl) (by kernel_rfl) (Tells.load_box (i := 1) (b := b1) (o := 0) (agg := false) (by rfl) ag3 (by kernel_rfl) (fun _ => rfl) (Nat.le_of_ble_eq_true rfl) (v := .int .i64 a0.f0) (by kernel_rfl)) ?_
            refine WL.pure 4 5 [27, 28] (L' := [(27, .int .i64 a0.f0), (28, .pointer (some ⟨b2, 1, none⟩))]) (by kernel_rfl) (by decide) ?_
            refine WL.tell (op := .load 3 (.tmp 28)) (ty := 3) (d := some 29) (g := none) (by kernel_rfl) (by kernel_rfl) (by kernel_rfl) (Tells.load_box (i := 0) (b := b2) (o := 1) (agg := false) (by rfl) ag3 (by kernel_rfl) (fun _ => rfl) (Nat.le_of_ble_eq_true rfl) (v := .int .i64 a1.f1) (by kernel_rfl)) ?_
            refine WL.restQ 6 [4] (L' := [(4, .bool (a0.f0 == a1.f1))]) (by kernel_rfl) ?_
            refine WP.dropAt 1 ?_
            refine WP.dropAt 0 ?_
            refine WP.ret ?_
            refine QP.blockR ?_
            refine QP.thenR ?_
            obtain rfl := Option.some.inj h
            exact QP.returned [4] [.bool (a0.f0 == a1.f1)] _ (by kernel_rfl) (by kernel_rfl) (by kernel_rfl) (fun W hI => ⟨_, _, _, rfl, ⟨rfl, rfl, rfl⟩, hI⟩)
          · replace hc := ne_of_beq_false hc
            rw [if_neg hc] at h
            have hc44 := hc
            clear hc
            refine WP.seqP [2, 3, 7, 31] (L' := [(2, .pointer (some ⟨b1, 0, none⟩)), (3, .pointer (some ⟨b2, 0, none⟩)), (7, .int .i64 a1.f0), (31, .bool (a1.f0 == 5))]) (by kernel_rfl) ?_
            refine WP.cond (b := (a1.f0 == 5)) (by kernel_rfl) (fun hc => ?_) (fun hc => ?_)
            · replace hc := eq_of_beq hc
              rw [if_pos hc] at h
              have hc45 := hc
              clear hc
              refine WP.seqR ?_
              refine WL.pure 0 3 [3, 35] (L' := [(3, .pointer (some ⟨b2, 0, none⟩)), (35, .pointer (some ⟨b1, 2, none⟩))]) (by kernel_rfl) (by decide) ?_
              refine WL.tell (op := .load 3 (.tmp 35)) (ty := 3) (d := some 36) (g := none) (by kernel_rfl) (by kernel_rfl) (by kernel_rfl) (Tells.load_box (i := 1) (b := b1) (o := 2) (agg := false) (by rfl) ag3 (by kernel_rfl) (fun _ => rfl) (Nat.le_of_ble_eq_true rfl) (v := .int .i64 a0.f2) (by kernel_rfl)) ?_
              refine WL.pure 4 5 [36, 37] (L' := [(36, .int .i64 a0.f2), (37, .pointer (some ⟨b2, 1, none⟩))]) (by kernel_rfl) (by decide) ?_
              refine WL.tell (op := .load 3 (.tmp 37)) (ty := 3) (d := some 38) (g := none) (by kernel_rfl) (by kernel_rfl) (by kernel_rfl) (Tells.load_box (i := 0) (b := b2) (o := 1) (agg := false) (by rfl) ag3 (by kernel_rfl) (fun _ => rfl) (Nat.le_of_ble_eq_true rfl) (v := .int .i64 a1.f1) (by kernel_rfl)) ?_
              refine WL.restQ 6 [4] (L' := [(4, .bool (decide (a0.f2 ≥ a1.f1)))]) (by kernel_rfl) ?_
              refine WP.dropAt 1 ?_
              refine WP.dropAt 0 ?_
              refine WP.ret ?_
              refine QP.blockR ?_
              refine QP.thenR ?_
              obtain rfl := Option.some.inj h
              exact QP.returned [4] [.bool (decide (a0.f2 ≥ a1.f1))] _ (by kernel_rfl) (by kernel_rfl) (by kernel_rfl) (fun W hI => ⟨_, _, _, rfl, ⟨rfl, rfl, rfl⟩, hI⟩)
            · replace hc := ne_of_beq_false hc
              rw [if_neg hc] at h
              have hc45 := hc
              clear hc
              refine WP.seqP [2, 3, 7, 40] (L' := [(2, .pointer (some ⟨b1, 0, none⟩)), (3, .pointer (some ⟨b2, 0, none⟩)), (7, .int .i64 a1.f0), (40, .bool (a1.f0 == 6))]) (by kernel_rfl) ?_
              refine WP.cond (b := (a1.f0 == 6)) (by kernel_rfl) (fun hc => ?_) (fun hc => ?_)
              · replace hc := eq_of_beq hc
                rw [if_pos hc] at h
                have hc46 := hc
                clear hc
                refine WP.seqR ?_
                refine WL.pure 0 3 [3, 44] (L' := [(3, .pointer (some ⟨b2, 0, none⟩)), (44, .pointer (some ⟨b1, 2, none⟩))]) (by kernel_rfl) (by decide) ?_
                refine WL.tell (op := .load 3 (.tmp 44)) (ty := 3) (d := some 45) (g := none) (by kernel_rfl) (by kernel_rfl) (by kernel_rfl) (Tells.load_box (i := 1) (b := b1) (o := 2) (agg := false) (by rfl) ag3 (by kernel_rfl) (fun _ => rfl) (Nat.le_of_ble_eq_true rfl) (v := .int .i64 a0.f2) (by kernel_rfl)) ?_
                refine WL.pure 4 5 [45, 46] (L' := [(45, .int .i64 a0.f2), (46, .pointer (some ⟨b2, 1, none⟩))]) (by kernel_rfl) (by decide) ?_
                refine WL.tell (op := .load 3 (.tmp 46)) (ty := 3) (d := some 47) (g := none) (by kernel_rfl) (by kernel_rfl) (by kernel_rfl) (Tells.load_box (i := 0) (b := b2) (o := 1) (agg := false) (by rfl) ag3 (by kernel_rfl) (fun _ => rfl) (Nat.le_of_ble_eq_true rfl) (v := .int .i64 a1.f1) (by kernel_rfl)) ?_
                refine WL.restQ 6 [4] (L' := [(4, .bool (decide (a0.f2 ≤ a1.f1)))]) (by kernel_rfl) ?_
                refine WP.dropAt 1 ?_
                refine WP.dropAt 0 ?_
                refine WP.ret ?_
                refine QP.blockR ?_
                refine QP.thenR ?_
                obtain rfl := Option.some.inj h
                exact QP.returned [4] [.bool (decide (a0.f2 ≤ a1.f1))] _ (by kernel_rfl) (by kernel_rfl) (by kernel_rfl) (fun W hI => ⟨_, _, _, rfl, ⟨rfl, rfl, rfl⟩, hI⟩)
              · replace hc := ne_of_beq_false hc
                rw [if_neg hc] at h
                have hc46 := hc
                clear hc
                refine WP.seqP [2, 3, 49] (L' := [(2, .pointer (some ⟨b1, 0, none⟩)), (3, .pointer (some ⟨b2, 0, none⟩)), (49, .bool (a1.f0 == 8))]) (by kernel_rfl) ?_
                refine WP.cond (b := (a1.f0 == 8)) (by kernel_rfl) (fun hc => ?_) (fun hc => ?_)
                · replace hc := eq_of_beq hc
                  rw [if_pos hc] at h
                  have hc47 := hc
                  clear hc
                  refine WP.seqR ?_
                  refine WL.pure 0 1 [2, 51] (L' := [(2, .pointer (some ⟨b1, 0, none⟩)), (51, .pointer (some ⟨b2, 3, none⟩))]) (by kernel_rfl) (by decide) ?_
                  refine WL.tell (op := .load 23 (.tmp 51)) (ty := 23) (d := some 52) (g := none) (by kernel_rfl) (by kernel_rfl) (by kernel_rfl) (Tells.load_box (i := 0) (b := b2) (o := 3) (agg := false) (by rfl) ag23 (by kernel_rfl) (fun _ => rfl) (Nat.le_of_ble_eq_true rfl) (v := .slice Aa1_f3 a1.f3.length ca1_f3) (by kernel_rfl)) ?_
                  refine WL.tell (op := .load 59 (.tmp 2)) (ty := 59) (d := some 53) (g := none) (by kernel_rfl) (by kernel_rfl) (by kernel_rfl) (Tells.load_box (i := 1) (b := b1) (o := 0) (agg := true) (by rfl) ag59 (by kernel_rfl) (fun h => by cases h) (Nat.le_of_ble_eq_true rfl) (v := .agg #[.int .i64 a0.f0, .int .i64 a0.f1, .int .i64 a0.f2, .int .i64 a0.f3, .string a0.f4, .slice Aa0_f5 a0.f5.length ca0_f5]) (by kernel_rfl)) ?_
                  refine WL.pure 3 4 [52, 54] (L' := [(52, .slice Aa1_f3 a1.f3.length ca1_f3), (54, .func (.func 27) #[.agg #[.int .i64 a0.f0, .int .i64 a0.f1, .int .i64 a0.f2, .int .i64 a0.f3, .string a0.f4, .slice Aa0_f5 a0.f5.length ca0_f5]] #[])]) (by kernel_rfl) (by decide) ?_
                  rw [Option.bind_eq_some_iff] at h
                  obtain ⟨t48, ht49, h⟩ := h
                  refine WL.op (op := .call { callee := (.value (.func 49)), args := #[(.tmp 52), (.tmp 54)], argTypes := #[23, 33] }) (ty := 4) (d := some 55) (g := none) (by kernel_rfl) (by kernel_rfl) (by kernel_rfl) (Does.call (f := 49) (args := [.slice Aa1_f3 a1.f3.length ca1_f3, .func (.func 27) #[.agg #[.int .i64 a0.f0, .int .i64 a0.f1, .int .i64 a0.f2, .int .i64 a0.f3, .string a0.f4, .slice Aa0_f5 a0.f5.length ca0_f5]] #[]]) (by kernel_rfl) (fun W hI => (slices_ContainsFunc_40_calls (deem_look_holds kf) ih kf a1.f3 a0 Aa1_f3 ca1_f3 Ha1_f3 Aa0_f5 ca0_f5 Ha0_f5 t48 ht49 hI))) ?_
                  rintro _ _ _ ⟨rfl, rfl, rfl⟩
                  refine WL.restQ 5 [4] (L' := [(4, .bool t48)]) (by kernel_rfl) ?_
                  refine WP.dropAt 1 ?_
                  refine WP.dropAt 0 ?_
                  refine WP.ret ?_
                  refine QP.blockR ?_
                  refine QP.thenR ?_
                  obtain rfl := Option.some.inj h
                  exact QP.returned [4] [.bool t48] _ (by kernel_rfl) (by kernel_rfl) (by kernel_rfl) (fun W hI => ⟨_, _, _, rfl, ⟨rfl, rfl, rfl⟩, hI⟩)
                · replace hc := ne_of_beq_false hc
                  rw [if_neg hc] at h
                  have hc47 := hc
                  clear hc
                  refine WP.skip ?_
                  refine QP.blockN ?_
                  refine QP.next ?_
                  refine WP.pick [2, 3] ?_
                  refine WP.seqP [3, 5] (L' := [(3, .pointer (some ⟨b2, 0, none⟩)), (5, .func (.func 50) #[] #[.pointer (some ⟨b1, 0, none⟩)])]) (by kernel_rfl) ?_
                  refine WP.seq ?_
                  refine WP.seqR ?_
                  refine WL.pure 0 1 [3, 5, 57] (L' := [(3, .pointer (some ⟨b2, 0, none⟩)), (5, .func (.func 50) #[] #[.pointer (some ⟨b1, 0, none⟩)]), (57, .pointer (some ⟨b2, 0, none⟩))]) (by kernel_rfl) (by decide) ?_
                  refine WL.tell (op := .load 3 (.tmp 57)) (ty := 3) (d := some 58) (g := none) (by kernel_rfl) (by kernel_rfl) (by kernel_rfl) (Tells.load_box (i := 0) (b := b2) (o := 0) (agg := false) (by rfl) ag3 (by kernel_rfl) (fun _ => rfl) (Nat.le_of_ble_eq_true rfl) (v := .int .i64 a1.f0) (by kernel_rfl)) ?_
                  refine WL.restQ 2 [3, 5, 59] (L' := [(3, .pointer (some ⟨b2, 0, none⟩)), (5, .func (.func 50) #[] #[.pointer (some ⟨b1, 0, none⟩)]), (59, .bool (a1.f0 == 9))]) (by kernel_rfl) ?_
                  refine WP.cond (b := (a1.f0 == 9)) (by kernel_rfl) (fun hc => ?_) (fun hc => ?_)
                  · replace hc := eq_of_beq hc
                    rw [if_pos hc] at h
                    have hc52 := hc
                    clear hc
                    refine WP.seqR ?_
                    refine WL.pure 0 2 [60, 61] (L' := [(60, .func (.func 50) #[] #[.pointer (some ⟨b1, 0, none⟩)]), (61, .pointer (some ⟨b2, 3, none⟩))]) (by kernel_rfl) (by decide) ?_
                    refine WL.tell (op := .load 23 (.tmp 61)) (ty := 23) (d := some 62) (g := none) (by kernel_rfl) (by kernel_rfl) (by kernel_rfl) (Tells.load_box (i := 0) (b := b2) (o := 3) (agg := false) (by rfl) ag23 (by kernel_rfl) (fun _ => rfl) (Nat.le_of_ble_eq_true rfl) (v := .slice Aa1_f3 a1.f3.length ca1_f3) (by kernel_rfl)) ?_
                    by_cases hb53 : 0 ≤ (0 : Int) ∧ (0 : Int) < (a1.f3.length : Int)
                    case neg => rw [if_neg hb53] at h; cases h
                    rw [if_pos hb53] at h
                    refine WL.tell (op := .indexAddr 23 (.tmp 62) (.const (.int .i64 0))) (ty := 0) (d := some 63) (g := none) (by kernel_rfl) (by kernel_rfl) (by kernel_rfl) (Tells.indexAddr (A := Aa1_f3) (n := a1.f3.length) (c := ca1_f3) (k := .i64) (j := 0) (by kernel_rfl) (by kernel_rfl) (Ha1_f3.isSome hb53.1 hb53.2) hb53.1 hb53.2 sl23) ?_
                    refine WL.tellE (op := .load 25 (.tmp 63)) (ty := 25) (d := some 64) (g := none) (by kernel_rfl) (by kernel_rfl) (by kernel_rfl) (Ha1_f3.load (agg := true) hb53.1 hb53.2 z25 ag25 (fun h => by cases h) (by kernel_rfl)) ?_
                    rintro _ hrel
                    obtain ⟨_, _, rfl, rfl, ⟨_, _, rfl, rfl, ⟨_, _, rfl, ⟨Ae54, ce54, rfl, He54⟩, ⟨Ae55, ce55, rfl, He55⟩⟩⟩⟩ := k25_out hrel
                    replace He54 : Rd kStr G Ae54 ce54 ((a1.f3.getD (0 : Int).toNat z25).f2) := He54
                    replace He55 : Rd k25 G Ae55 ce55 ((a1.f3.getD (0 : Int).toNat z25).f3) := He55
                    refine WL.front (i := 1) rfl ?_
                    rw [Option.bind_eq_some_iff] at h
                    obtain ⟨t56, ht57, h⟩ := h
                    refine WL.op (op := .call { callee := (.value (.tmp 60)), args := #[(.tmp 64)], argTypes := #[25] }) (ty := 4) (d := some 65) (g := none) (by kernel_rfl) (by kernel_rfl) (by kernel_rfl) (Does.call (f := 50) (args := [.agg #[.int .i64 ((a1.f3.getD (0 : Int).toNat z25).f0), .int .i64 ((a1.f3.getD (0 : Int).toNat z25).f1), .slice Ae54 ((a1.f3.getD (0 : Int).toNat z25).f2).length ce54, .slice Ae55 ((a1.f3.getD (0 : Int).toNat z25).f3).length ce55], .pointer (some ⟨b1, 0, none⟩)]) (by kernel_rfl) (fun W hI => (deem_look_holds_2_calls (deem_look_holds kf) ih (a1.f3.getD (0 : Int).toNat z25) a0 Ae54 ce54 He54 Ae55 ce55 He55 b1 Aa0_f5 ca0_f5 Ha0_f5 t56 ht57 hI))) ?_
                    rintro _ _ _ ⟨rfl, rfl, rfl⟩
                    refine WL.restQ 6 [4] (L' := [(4, .bool t56)]) (by kernel_rfl) ?_
                    refine WP.dropAt 1 ?_
                    refine WP.dropAt 0 ?_
                    refine WP.ret ?_
                    refine QP.thenR ?_
                    obtain rfl := Option.some.inj h
                    exact QP.returned [4] [.bool t56] _ (by kernel_rfl) (by kernel_rfl) (by kernel_rfl) (fun W hI => ⟨_, _, _, rfl, ⟨rfl, rfl, rfl⟩, hI⟩)
                  · replace hc := ne_of_beq_false hc
                    rw [if_neg hc] at h
                    have hc52 := hc
                    clear hc
                    refine WP.skip ?_
                    refine QP.next ?_
                    refine WP.pick [3, 5] ?_
                    refine WP.seqR ?_
                    refine WL.pure 0 1 [5, 66] (L' := [(5, .func (.func 50) #[] #[.pointer (some ⟨b1, 0, none⟩)]), (66, .pointer (some ⟨b2, 3, none⟩))]) (by kernel_rfl) (by decide) ?_
                    refine WL.tell (op := .load 23 (.tmp 66)) (ty := 23) (d := some 67) (g := none) (by kernel_rfl) (by kernel_rfl) (by kernel_rfl) (Tells.load_box (i := 0) (b := b2) (o := 3) (agg := false) (by rfl) ag23 (by kernel_rfl) (fun _ => rfl) (Nat.le_of_ble_eq_true rfl) (v := .slice Aa1_f3 a1.f3.length ca1_f3) (by kernel_rfl)) ?_
                    refine WL.pure 2 3 [67, 68] (L' := [(67, .slice Aa1_f3 a1.f3.length ca1_f3), (68, .func (.func 50) #[] #[.pointer (some ⟨b1, 0, none⟩)])]) (by kernel_rfl) (by decide) ?_
                    refine WL.front (i := 1) rfl ?_
                    rw [Option.bind_eq_some_iff] at h
                    obtain ⟨t60, ht61, h⟩ := h
                    refine WL.op (op := .call { callee := (.value (.func 49)), args := #[(.tmp 67), (.tmp 68)], argTypes := #[23, 33] }) (ty := 4) (d := some 69) (g := none) (by kernel_rfl) (by kernel_rfl) (by kernel_rfl) (Does.call (f := 49) (args := [.slice Aa1_f3 a1.f3.length ca1_f3, .func (.func 50) #[] #[.pointer (some ⟨b1, 0, none⟩)]]) (by kernel_rfl) (fun W hI => (slices_ContainsFunc_43_calls (deem_look_holds kf) ih kf a1.f3 a0 Aa1_f3 ca1_f3 Ha1_f3 b1 Aa0_f5 ca0_f5 Ha0_f5 t60 ht61 hI))) ?_
                    rintro _ _ _ ⟨rfl, rfl, rfl⟩
                    refine WL.restQ 4 [4] (L' := [(4, .bool (!t60))]) (by kernel_rfl) ?_
                    refine WP.dropAt 1 ?_
                    refine WP.dropAt 0 ?_
                    refine WP.ret ?_
                    obtain rfl := Option.some.inj h
                    exact QP.returned [4] [.bool (!t60)] _ (by kernel_rfl) (by kernel_rfl) (by kernel_rfl) (fun W hI => ⟨_, _, _, rfl, ⟨rfl, rfl, rfl⟩, hI⟩)
theorem deem_look_holds_calls {B : World} {G : GMap} {Γ : List Chunk} {W : World} (k : Nat) (a0 : T59) (a1 : T25) (Aa0_f5 : Option Addr) (ca0_f5 : Nat) (Ha0_f5 : Rd k45 G Aa0_f5 ca0_f5 a0.f5) (Aa1_f2 : Option Addr) (ca1_f2 : Nat) (Ha1_f2 : Rd kStr G Aa1_f2 ca1_f2 a1.f2) (Aa1_f3 : Option Addr) (ca1_f3 : Nat) (Ha1_f3 : Rd k25 G Aa1_f3 ca1_f3 a1.f3) (r : Bool) (h : deem_look_holds k a0 a1 = some r) (hI : Inv B G (Γ) W) :
    Calls Tryd.prog 27 [.agg #[.int .i64 a0.f0, .int .i64 a0.f1, .int .i64 a0.f2, .int .i64 a0.f3, .string a0.f4, .slice Aa0_f5 a0.f5.length ca0_f5], .agg #[.int .i64 a1.f0, .int .i64 a1.f1, .slice Aa1_f2 a1.f2.length ca1_f2, .slice Aa1_f3 a1.f3.length ca1_f3]].toArray W (Ret B (fun v G' Γ' => v = .bool r ∧ G = G' ∧ Γ = Γ')) := deem_look_holds_calls_k k a0 a1 Aa0_f5 ca0_f5 Ha0_f5 Aa1_f2 ca1_f2 Ha1_f2 Aa1_f3 ca1_f3 Ha1_f3 r h hI

/-! ### grapevine/deem.Holds: function 12 -/
def deem_Holds (k : Nat) (a0 : T25) (a1 : T31) : Option Bool := (((ask_May k a0).bind fun t5 => (if t5 = true then ((record_May a1).bind fun t10 => (if t10 = true then ((tokens_Of k a1.f4).bind fun t15 => ((deem_look_holds k (⟨a1.f0, a1.f1, a1.f2, a1.f3, a1.f4, t15⟩ : T59) a0).bind fun t19 => some t19)) else some false)) else some false)).bind fun s3 => some s3)
set_option maxHeartbeats 4000000 in
theorem deem_Holds_calls {B : World} {G : GMap} {Γ : List Chunk} {W : World} (HT : Tabs B G) (k : Nat) (a0 : T25) (a1 : T31) (Aa0_f2 : Option Addr) (ca0_f2 : Nat) (Ha0_f2 : Rd kStr G Aa0_f2 ca0_f2 a0.f2) (Aa0_f3 : Option Addr) (ca0_f3 : Nat) (Ha0_f3 : Rd k25 G Aa0_f3 ca0_f3 a0.f3) (r : Bool) (h : deem_Holds k a0 a1 = some r) (hI : Inv B G (Γ) W) :
    Calls Tryd.prog 12 [.agg #[.int .i64 a0.f0, .int .i64 a0.f1, .slice Aa0_f2 a0.f2.length ca0_f2, .slice Aa0_f3 a0.f3.length ca0_f3], .agg #[.int .i64 a1.f0, .int .i64 a1.f1, .int .i64 a1.f2, .int .i64 a1.f3, .string a1.f4]].toArray W (Ret B (fun v G' Γ' => v = .bool r ∧ G = G' ∧ Γ = Γ')) := by
  refine calls_WP (Γ := Γ) (G := G) (B := B) Tryd.func12 rfl (by kernel_rfl) ?_ hI
  clear hI
  unfold deem_Holds at h
  refine WP.seqR ?_
  refine WL.op (op := .box 25 (.tmp 0)) (ty := 0) (d := some 2) (g := none) (by kernel_rfl) (by kernel_rfl) (by kernel_rfl) (Does.new (o := .cells #[.int .i64 a0.f0, .int .i64 a0.f1, .slice Aa0_f2 a0.f2.length ca0_f2, .slice Aa0_f3 a0.f3.length ca0_f3] 25 (0, 0)) (v := fun r => .pointer (some ⟨r, 0, none⟩)) (fun r => by kernel_rfl)) ?_
  rintro _ _ _ ⟨b1, rfl, rfl, rfl⟩
  refine WL.op (op := .box 31 (.tmp 1)) (ty := 0) (d := some 3) (g := none) (by kernel_rfl) (by kernel_rfl) (by kernel_rfl) (Does.new (o := .cells #[.int .i64 a1.f0, .int .i64 a1.f1, .int .i64 a1.f2, .int .i64 a1.f3, .string a1.f4] 31 (0, 0)) (v := fun r => .pointer (some ⟨r, 0, none⟩)) (fun r => by kernel_rfl)) ?_
  rintro _ _ _ ⟨b2, rfl, rfl, rfl⟩
  refine WL.restQ 2 [2, 3] (L' := [(2, .pointer (some ⟨b1, 0, none⟩)), (3, .pointer (some ⟨b2, 0, none⟩))]) (by kernel_rfl) ?_
  rw [Option.bind_eq_some_iff] at h
  obtain ⟨os3, h, hk4⟩ := h
  refine WP.cut (fun L' G' Γ' => ∃ s3 : Bool, s3 = os3 ∧ L' = [(4, .bool s3)] ∧ G = G' ∧ Γ = Γ') ?_ ?_
  · clear hk4
    skip
    refine WP.any (N := 16) (S := [⟨some 5, [2], []⟩, ⟨some 6, [5], [0]⟩, ⟨some 7, [6], [1]⟩, ⟨some 8, [3, 7], [2]⟩, ⟨some 9, [7, 8], [2, 3]⟩, ⟨some 10, [7, 9], [2, 4]⟩, ⟨some 11, [10], [4, 5]⟩, ⟨some 12, [3, 11], [6]⟩, ⟨some 13, [3, 11], [6]⟩, ⟨some 14, [11, 13], [6, 8]⟩, ⟨some 15, [11, 14], [6, 9]⟩, ⟨some 16, [11, 12, 15], [6, 7, 10]⟩, ⟨some 17, [2, 11], [6]⟩, ⟨some 18, [11, 16, 17], [6, 10, 11, 12]⟩, ⟨some 19, [11, 18], [6, 13]⟩, ⟨some 4, [19], [0, 1, 2, 3, 4, 5, 6, 7, 8, 9, 10, 11, 12, 13, 14]⟩]) (kw := 16) (G0 := G) (Γ0 := [(b2, .cells #[.int .i64 a1.f0, .int .i64 a1.f1, .int .i64 a1.f2, .int .i64 a1.f3, .string a1.f4] 31 (0, 0))] :: [(b1, .cells #[.int .i64 a0.f0, .int .i64 a0.f1, .slice Aa0_f2 a0.f2.length ca0_f2, .slice Aa0_f3 a0.f3.length ca0_f3] 25 (0, 0))] :: Γ) mo (by kernel_rfl) (fun hS => ?_)
    refine WA.tellD [] (i := 0) (m := 15) (b' := 1) (by kernel_rfl) (NoPanic.then (NoPanic.body)) Under.refl hS (by kernel_rfl) (op := .load 25 (.tmp 2)) (ty := 25) (d := some 5) (g := none) (by kernel_rfl) (by kernel_rfl) (by kernel_rfl) (Tells.load_box (i := 1) (b := b1) (o := 0) (agg := true) (by rfl) ag25 (by kernel_rfl) (fun h => by cases h) (Nat.le_of_ble_eq_true rfl) (v := .agg #[.int .i64 a0.f0, .int .i64 a0.f1, .slice Aa0_f2 a0.f2.length ca0_f2, .slice Aa0_f3 a0.f3.length ca0_f3]) (by kernel_rfl)) ?_
    rw [Option.bind_eq_some_iff] at h
    obtain ⟨t5, ht6, h⟩ := h
    refine WA.op (i := 1) (m := 14) (b' := 3) (by kernel_rfl) hS (by kernel_rfl) (op := .call { callee := (.value (.func 16)), args := #[(.tmp 5)], argTypes := #[25] }) (ty := 4) (d := some 6) (g := none) (by kernel_rfl) (by kernel_rfl) (by kernel_rfl) (Does.call (f := 16) (args := [.agg #[.int .i64 a0.f0, .int .i64 a0.f1, .slice Aa0_f2 a0.f2.length ca0_f2, .slice Aa0_f3 a0.f3.length ca0_f3]]) (by kernel_rfl) (fun W hI => (ask_May_calls HT k a0 Aa0_f2 ca0_f2 Ha0_f2 Aa0_f3 ca0_f3 Ha0_f3 t5 ht6 hI))) ?_
    rintro _ _ _ ⟨rfl, rfl, rfl⟩
    refine ⟨_, _, Under.refl, Under.refl, ?_⟩
    refine WA.pure [2] [2, 3, 7] (m := 13) (b' := 7) (L' := [(2, .pointer (some ⟨b1, 0, none⟩)), (3, .pointer (some ⟨b2, 0, none⟩)), (7, .bool t5)]) (by kernel_rfl) (NoPanic.then (NoPanic.body)) Under.refl hS (by kernel_rfl) ?_
    refine WA.split 7 (b := t5) (by kernel_rfl) (fun hc => ?_) (fun hc => ?_)
    · replace hc := hc
      rw [if_pos hc] at h
      have hc9 := hc
      clear hc
      refine WA.tellD [] (i := 3) (m := 12) (b' := 15) (by kernel_rfl) (NoPanic.then (NoPanic.body)) Under.refl hS (by kernel_rfl) (op := .load 31 (.tmp 3)) (ty := 31) (d := some 8) (g := some (2, true)) (by kernel_rfl) (by kernel_rfl) (by kernel_rfl) (Tells.load_box (i := 0) (b := b2) (o := 0) (agg := true) (by rfl) ag31 (by kernel_rfl) (fun h => by cases h) (Nat.le_of_ble_eq_true rfl) (v := .agg #[.int .i64 a1.f0, .int .i64 a1.f1, .int .i64 a1.f2, .int .i64 a1.f3, .string a1.f4]) (by kernel_rfl)) ?_
      rw [Option.bind_eq_some_iff] at h
      obtain ⟨t10, ht11, h⟩ := h
      refine WA.op (i := 4) (m := 11) (b' := 31) (by kernel_rfl) hS (by kernel_rfl) (op := .call { callee := (.value (.func 17)), args := #[(.tmp 8)], argTypes := #[31] }) (ty := 4) (d := some 9) (g := some (2, true)) (by kernel_rfl) (by kernel_rfl) (by kernel_rfl) (Does.call (f := 17) (args := [.agg #[.int .i64 a1.f0, .int .i64 a1.f1, .int .i64 a1.f2, .int .i64 a1.f3, .string a1.f4]]) (by kernel_rfl) (fun W hI => (record_May_calls HT a1  t10 ht11 hI))) ?_
      rintro _ _ _ ⟨rfl, rfl, rfl⟩
      refine ⟨_, _, Under.refl, Under.refl, ?_⟩
      refine WA.pure [5, 6] [2, 3, 11] (m := 9) (b' := 127) (L' := [(2, .pointer (some ⟨b1, 0, none⟩)), (3, .pointer (some ⟨b2, 0, none⟩)), (11, .bool t10)]) (by kernel_rfl) (NoPanic.then (NoPanic.body)) Under.refl hS (by kernel_rfl) ?_
      refine WA.split 11 (b := t10) (by kernel_rfl) (fun hc => ?_) (fun hc => ?_)
      · replace hc := hc
        rw [if_pos hc] at h
        have hc14 := hc
        clear hc
        refine WA.pure [8] [2, 3, 11, 13] (m := 8) (b' := 383) (L' := [(2, .pointer (some ⟨b1, 0, none⟩)), (3, .pointer (some ⟨b2, 0, none⟩)), (11, .bool true), (13, .pointer (some ⟨b2, 4, none⟩))]) (by kernel_rfl) (NoPanic.then (NoPanic.body)) Under.refl hS (by kernel_rfl) ?_
        refine WA.tellD [] (i := 7) (m := 7) (b' := 511) (by kernel_rfl) (NoPanic.then (NoPanic.body)) Under.refl hS (by kernel_rfl) (op := .load 31 (.tmp 3)) (ty := 31) (d := some 12) (g := some (6, true)) (by kernel_rfl) (by kernel_rfl) (by kernel_rfl) (Tells.load_box (i := 0) (b := b2) (o := 0) (agg := true) (by rfl) ag31 (by kernel_rfl) (fun h => by cases h) (Nat.le_of_ble_eq_true rfl) (v := .agg #[.int .i64 a1.f0, .int .i64 a1.f1, .int .i64 a1.f2, .int .i64 a1.f3, .string a1.f4]) (by kernel_rfl)) ?_
        refine WA.tellD [] (i := 9) (m := 6) (b' := 1023) (by kernel_rfl) (NoPanic.then (NoPanic.body)) Under.refl hS (by kernel_rfl) (op := .load 9 (.tmp 13)) (ty := 9) (d := some 14) (g := some (6, true)) (by kernel_rfl) (by kernel_rfl) (by kernel_rfl) (Tells.load_box (i := 0) (b := b2) (o := 4) (agg := false) (by rfl) ag9 (by kernel_rfl) (fun _ => rfl) (Nat.le_of_ble_eq_true rfl) (v := .string a1.f4) (by kernel_rfl)) ?_
        refine WA.tellD [] (i := 12) (m := 5) (b' := 5119) (by kernel_rfl) (NoPanic.then (NoPanic.body)) Under.refl hS (by kernel_rfl) (op := .load 25 (.tmp 2)) (ty := 25) (d := some 17) (g := some (6, true)) (by kernel_rfl) (by kernel_rfl) (by kernel_rfl) (Tells.load_box (i := 1) (b := b1) (o := 0) (agg := true) (by rfl) ag25 (by kernel_rfl) (fun h => by cases h) (Nat.le_of_ble_eq_true rfl) (v := .agg #[.int .i64 a0.f0, .int .i64 a0.f1, .slice Aa0_f2 a0.f2.length ca0_f2, .slice Aa0_f3 a0.f3.length ca0_f3]) (by kernel_rfl)) ?_
        rw [Option.bind_eq_some_iff] at h
        obtain ⟨t15, ht16, h⟩ := h
        refine WA.op (i := 10) (m := 4) (b' := 6143) (by kernel_rfl) hS (by kernel_rfl) (op := .call { callee := (.value (.func 18)), args := #[(.tmp 14)], argTypes := #[9] }) (ty := 32) (d := some 15) (g := some (6, true)) (by kernel_rfl) (by kernel_rfl) (by kernel_rfl) (Does.call (f := 18) (args := [.string a1.f4]) (by kernel_rfl) (fun W hI => (tokens_Of_calls HT k a1.f4  t15 ht16 hI))) ?_
        rintro _ _ _ ⟨AR17, cR17, CR17, rfl, HR17, rfl, rfl⟩
        refine ⟨_, _, Under.cons (Under.refl), Under.refl, ?_⟩
        refine WA.pure [11] [11, 16, 17] (m := 3) (b' := 8191) (L' := [(11, .bool true), (16, .agg #[.int .i64 a1.f0, .int .i64 a1.f1, .int .i64 a1.f2, .int .i64 a1.f3, .string a1.f4, .slice AR17 t15.length cR17]), (17, .agg #[.int .i64 a0.f0, .int .i64 a0.f1, .slice Aa0_f2 a0.f2.length ca0_f2, .slice Aa0_f3 a0.f3.length ca0_f3])]) (by kernel_rfl) (NoPanic.then (NoPanic.body)) Under.refl hS (by kernel_rfl) ?_
        rw [Option.bind_eq_some_iff] at h
        obtain ⟨t19, ht20, h⟩ := h
        refine WA.op (i := 13) (m := 2) (b' := 16383) (by kernel_rfl) hS (by kernel_rfl) (op := .call { callee := (.value (.func 27)), args := #[(.tmp 16), (.tmp 17)], argTypes := #[59, 25] }) (ty := 4) (d := some 18) (g := some (6, true)) (by kernel_rfl) (by kernel_rfl) (by kernel_rfl) (Does.call (Φ := fun v' G' Γ' => v' = .bool t19 ∧ G = G' ∧ CR17 :: [(b2, .cells #[.int .i64 a1.f0, .int .i64 a1.f1, .int .i64 a1.f2, .int .i64 a1.f3, .string a1.f4] 31 (0, 0))] :: [(b1, .cells #[.int .i64 a0.f0, .int .i64 a0.f1, .slice Aa0_f2 a0.f2.length ca0_f2, .slice Aa0_f3 a0.f3.length ca0_f3] 25 (0, 0))] :: Γ = Γ') (f := 27) (args := [.agg #[.int .i64 a1.f0, .int .i64 a1.f1, .int .i64 a1.f2, .int .i64 a1.f3, .string a1.f4, .slice AR17 t15.length cR17], .agg #[.int .i64 a0.f0, .int .i64 a0.f1, .slice Aa0_f2 a0.f2.length ca0_f2, .slice Aa0_f3 a0.f3.length ca0_f3]]) (by kernel_rfl) (fun W hI => (Calls.lendN (Φ := fun v' N => v' = .bool t19 ∧ N = []) (H := []) (i := 0) rfl hI (fun _ e l23 nl23 hI => by subst e; exact (((deem_look_holds_calls k (⟨a1.f0, a1.f1, a1.f2, a1.f3, a1.f4, t15⟩ : T59) a0 AR17 cR17 (HR17.rdN l23 nl23) Aa0_f2 ca0_f2 (Ha0_f2.mono l23) Aa0_f3 ca0_f3 (Ha0_f3.mono l23) t19 ht20 hI)).mono fun _ _ hr => by obtain ⟨_, _, _, rfl, hd, hI⟩ := hr; obtain ⟨rfl, rfl, rfl⟩ := hd; exact ⟨_, _, _, rfl, ⟨[], ⟨rfl, rfl⟩, rfl, rfl⟩, hI⟩))).mono fun _ _ hr => by obtain ⟨_, _, _, rfl, ⟨_, hd, rfl, rfl⟩, hI⟩ := hr; obtain ⟨rfl, rfl⟩ := hd; exact ⟨_, _, _, rfl, ⟨rfl, rfl, rfl⟩, hI⟩)) ?_
        rintro _ _ _ ⟨rfl, rfl, rfl⟩
        refine ⟨_, _, Under.refl, Under.refl, ?_⟩
        refine WA.pure [14, 15] [4] (m := 0) (b' := 65535) (L' := [(4, .bool t19)]) (by kernel_rfl) (NoPanic.then (NoPanic.body)) Under.refl hS (by kernel_rfl) ?_
        refine WA.done hS (by kernel_rfl) ?_
        refine QP.pick [4] ?_
        refine QP.dropAt 2 ?_
        refine QP.dropAt 1 ?_
        refine QP.dropAt 0 ?_
        refine QP.pick [4] ?_
        exact QP.meet ⟨_, Option.some.inj h, rfl, rfl, rfl⟩
      · replace hc := (Bool.eq_false_iff.1 hc)
        rw [if_neg hc] at h
        have hc14 := hc
        clear hc
        refine WA.pure [7, 8, 9, 10, 11, 12, 13, 14, 15] [4] (m := 0) (b' := 65535) (L' := [(4, .bool false)]) (by kernel_rfl) (NoPanic.then (NoPanic.body)) Under.refl hS (by kernel_rfl) ?_
        refine WA.done hS (by kernel_rfl) ?_
        refine QP.pick [4] ?_
        refine QP.dropAt 1 ?_
        refine QP.dropAt 0 ?_
        refine QP.pick [4] ?_
        exact QP.meet ⟨_, Option.some.inj h, rfl, rfl, rfl⟩
    · replace hc := (Bool.eq_false_iff.1 hc)
      rw [if_neg hc] at h
      have hc9 := hc
      clear hc
      refine WA.pure [3, 4, 5, 6, 7, 8, 9, 10, 11, 12, 13, 14, 15] [4] (m := 0) (b' := 65535) (L' := [(4, .bool false)]) (by kernel_rfl) (NoPanic.then (NoPanic.body)) Under.refl hS (by kernel_rfl) ?_
      refine WA.done hS (by kernel_rfl) ?_
      refine QP.pick [4] ?_
      refine QP.dropAt 1 ?_
      refine QP.dropAt 0 ?_
      refine QP.pick [4] ?_
      exact QP.meet ⟨_, Option.some.inj h, rfl, rfl, rfl⟩
  · rintro _ _ _ ⟨s3, rfl, rfl, rfl, rfl⟩
    clear h
    replace h := hk4
    refine WP.ret ?_
    obtain rfl := Option.some.inj h
    exact QP.returned [4] [.bool s3] _ (by kernel_rfl) (by kernel_rfl) (by kernel_rfl) (fun W hI => ⟨_, _, _, rfl, ⟨rfl, rfl, rfl⟩, hI⟩)

/-! ### grapevine/grapevinelaw15.awake: function 11 -/
def grapevinelaw15_awake (k : Nat) : Option Bool := (((grapevinelaw15_rec (⟨#[110, 111, 116, 32, 84, 111, 32, 98, 101]⟩ : ByteArray)).bind fun t7 => ((deem_Holds k (⟨3, 0, ([(⟨#[116, 111]⟩ : ByteArray), (⟨#[98, 101]⟩ : ByteArray)] : List ByteArray), ([] : List T25)⟩ : T25) t7).bind fun t11 => (if t11 = true then ((grapevinelaw15_rec (⟨#[116, 111, 32, 110, 111, 116, 32, 98, 101]⟩ : ByteArray)).bind fun t17 => ((deem_Holds k (⟨3, 0, ([(⟨#[116, 111]⟩ : ByteArray), (⟨#[98, 101]⟩ : ByteArray)] : List ByteArray), ([] : List T25)⟩ : T25) t17).bind fun t21 => (if (!t21) = true then ((grapevinelaw15_rec (⟨#[]⟩ : ByteArray)).bind fun t27 => ((deem_Holds k (⟨4, 1, ([] : List ByteArray), ([] : List T25)⟩ : T25) t27).bind fun t31 => (if t31 = true then ((tokens_Of k (⟨#[97, 32, 98]⟩ : ByteArray)).bind fun t36 => ((deem_Phrase k t36 ([] : List ByteArray)).bind fun t40 => (if (!t40) = true then ((tokens_Of k (⟨#[97, 32, 98]⟩ : ByteArray)).bind fun t46 => ((deem_Phrase k t46 ([(⟨#[98]⟩ : ByteArray)] : List ByteArray)).bind fun t53 => some t53)) else some false))) else some false))) else some false))) else some false))).bind fun s5 => some s5)
set_option maxHeartbeats 4000000 in
theorem grapevinelaw15_awake_calls {B : World} {G : GMap} {Γ : List Chunk} {W : World} (HT : Tabs B G) (k : Nat) (r : Bool) (h : grapevinelaw15_awake k  = some r) (hI : Inv B G (Γ) W) :
    Calls Tryd.prog 11 [].toArray W (Ret B (fun v G' Γ' => v = .bool r ∧ G = G' ∧ Γ = Γ')) := by
  refine calls_WP (Γ := Γ) (G := G) (B := B) Tryd.func11 rfl (by kernel_rfl) ?_ hI
  clear hI
  unfold grapevinelaw15_awake at h
  refine WP.seqP [] (L' := []) (by kernel_rfl) ?_
  refine WP.seqR ?_
  refine WL.op (op := .buildSlice 22 2 #[(0, (.const (.string { data := #[116, 111] }))), (1, (.const (.string { data := #[98, 101] })))]) (ty := 22) (d := some 2) (g := none) (by kernel_rfl) (by kernel_rfl) (by kernel_rfl) (Does.new (o := .cells #[.string (⟨#[116, 111]⟩ : ByteArray), .string (⟨#[98, 101]⟩ : ByteArray)] 9 (0, 0)) (v := fun r => .slice (some ⟨r, 0, none⟩) 2 2) (fun r => by kernel_rfl)) ?_
  rintro _ _ _ ⟨b1, rfl, rfl, rfl⟩
  have Ho3 : Ow kStr G (some ⟨b1, 0, none⟩) 2 ([(⟨#[116, 111]⟩ : ByteArray), (⟨#[98, 101]⟩ : ByteArray)] : List ByteArray) [(b1, .cells #[.string (⟨#[116, 111]⟩ : ByteArray), .string (⟨#[98, 101]⟩ : ByteArray)] 9 (0, 0))] := Ow.lit (kd := kStr) (G := G) (b := b1) (T := 9) (xs := ([(⟨#[116, 111]⟩ : ByteArray), (⟨#[98, 101]⟩ : ByteArray)] : List ByteArray)) (cs := [.string (⟨#[116, 111]⟩ : ByteArray), .string (⟨#[98, 101]⟩ : ByteArray)]) (.cons (x := (⟨#[116, 111]⟩ : ByteArray)) (cs := [.string (⟨#[116, 111]⟩ : ByteArray)]) (by exact rfl) (.cons (x := (⟨#[98, 101]⟩ : ByteArray)) (cs := [.string (⟨#[98, 101]⟩ : ByteArray)]) (by exact rfl) .nil))
  refine WL.pure 1 2 [3] (L' := [(3, .agg #[.int .i64 3, .int .i64 0, .slice (some ⟨b1, 0, none⟩) ([(⟨#[116, 111]⟩ : ByteArray), (⟨#[98, 101]⟩ : ByteArray)] : List ByteArray).length 2, .slice none 0 0])]) (by kernel_rfl) (by decide) ?_
  refine WL.op (op := .alloc 25) (ty := 0) (d := some 1) (g := none) (by kernel_rfl) (by kernel_rfl) (by kernel_rfl) (Does.new (o := .cells #[.int .i64 0, .int .i64 0, .slice none 0 0, .slice none 0 0] 25 (0, 0)) (v := fun r => .pointer (some ⟨r, 0, none⟩)) (fun r => by kernel_rfl)) ?_
  rintro _ _ _ ⟨b4, rfl, rfl, rfl⟩
  refine WL.op (op := .store 25 (.tmp 1) (.tmp 3)) (ty := 0) (d := none) (g := none) (by kernel_rfl) (by kernel_rfl) (by kernel_rfl) (Does.store_box (i := 0) (b := b4) (o := 0) (v := .agg #[.int .i64 3, .int .i64 0, .slice (some ⟨b1, 0, none⟩) ([(⟨#[116, 111]⟩ : ByteArray), (⟨#[98, 101]⟩ : ByteArray)] : List ByteArray).length 2, .slice none 0 0]) (by rfl) sz25 (by kernel_rfl) (by kernel_rfl) (by kernel_rfl) (Free.zero _) (Nat.le_of_ble_eq_true rfl) (cells' := #[.int .i64 3, .int .i64 0, .slice (some ⟨b1, 0, none⟩) ([(⟨#[116, 111]⟩ : ByteArray), (⟨#[98, 101]⟩ : ByteArray)] : List ByteArray).length 2, .slice none 0 0]) (by kernel_rfl)) ?_
  rintro _ _ _ ⟨rfl, rfl, rfl⟩
  refine WL.restQ 4 [1] (L' := [(1, .pointer (some ⟨b4, 0, none⟩))]) (by kernel_rfl) ?_
  rw [Option.bind_eq_some_iff] at h
  obtain ⟨os5, h, hk6⟩ := h
  refine WP.cut (fun L' G' Γ' => ∃ s5 : Bool, s5 = os5 ∧ L' = [(0, .bool s5)] ∧ G = G' ∧ Γ = Γ') ?_ ?_
  · clear hk6
    skip
    refine WP.any (N := 25) (S := [⟨some 4, [1], []⟩, ⟨some 5, [], []⟩, ⟨some 6, [4, 5], [0, 1]⟩, ⟨some 7, [6], [2]⟩, ⟨some 8, [1, 7], [3]⟩, ⟨some 9, [7], [3]⟩, ⟨some 10, [7, 8, 9], [3, 4, 5]⟩, ⟨some 11, [7, 10], [3, 6]⟩, ⟨some 12, [7, 11], [3, 7]⟩, ⟨some 13, [12], [6, 8]⟩, ⟨some 14, [13], [9]⟩, ⟨some 15, [13], [9]⟩, ⟨some 16, [13, 14, 15], [9, 10, 11]⟩, ⟨some 17, [13, 16], [9, 12]⟩, ⟨some 18, [17], [12, 13]⟩, ⟨some 19, [18], [14]⟩, ⟨some 20, [18, 19], [14, 15]⟩, ⟨some 21, [18, 20], [14, 16]⟩, ⟨some 22, [18, 21], [14, 17]⟩, ⟨some 23, [22], [16, 18]⟩, ⟨some 24, [23], [19]⟩, ⟨some 25, [23], [19]⟩, ⟨some 26, [23, 24, 25], [19, 20, 21]⟩, ⟨some 27, [23, 26], [19, 22]⟩, ⟨some 0, [27], [0, 1, 2, 3, 4, 5, 6, 7, 8, 9, 10, 11, 12, 13, 14, 15, 16, 17, 18, 19, 20, 21, 22, 23]⟩]) (kw := 25) (G0 := G) (Γ0 := [(b4, .cells #[.int .i64 3, .int .i64 0, .slice (some ⟨b1, 0, none⟩) ([(⟨#[116, 111]⟩ : ByteArray), (⟨#[98, 101]⟩ : ByteArray)] : List ByteArray).length 2, .slice none 0 0] 25 (0, 0))] :: [(b1, .cells #[.string (⟨#[116, 111]⟩ : ByteArray), .string (⟨#[98, 101]⟩ : ByteArray)] 9 (0, 0))] :: Γ) mo (by kernel_rfl) (fun hS => ?_)
    refine WA.tellD [] (i := 0) (m := 24) (b' := 1) (by kernel_rfl) (NoPanic.then (NoPanic.body)) Under.refl hS (by kernel_rfl) (op := .load 25 (.tmp 1)) (ty := 25) (d := some 4) (g := none) (by kernel_rfl) (by kernel_rfl) (by kernel_rfl) (Tells.load_box (i := 0) (b := b4) (o := 0) (agg := true) (by rfl) ag25 (by kernel_rfl) (fun h => by cases h) (Nat.le_of_ble_eq_true rfl) (v := .agg #[.int .i64 3, .int .i64 0, .slice (some ⟨b1, 0, none⟩) ([(⟨#[116, 111]⟩ : ByteArray), (⟨#[98, 101]⟩ : ByteArray)] : List ByteArray).length 2, .slice none 0 0]) (by kernel_rfl)) ?_
    rw [Option.bind_eq_some_iff] at h
    obtain ⟨t7, ht8, h⟩ := h
    refine WA.op (i := 1) (m := 23) (b' := 3) (by kernel_rfl) hS (by kernel_rfl) (op := .call { callee := (.value (.func 26)), args := #[(.const (.string { data := #[110, 111, 116, 32, 84, 111, 32, 98, 101] }))], argTypes := #[9] }) (ty := 31) (d := some 5) (g := none) (by kernel_rfl) (by kernel_rfl) (by kernel_rfl) (Does.call (f := 26) (args := [.string (⟨#[110, 111, 116, 32, 84, 111, 32, 98, 101]⟩ : ByteArray)]) (by kernel_rfl) (fun W hI => (grapevinelaw15_rec_calls (⟨#[110, 111, 116, 32, 84, 111, 32, 98, 101]⟩ : ByteArray)  t7 ht8 hI))) ?_
    rintro _ _ _ ⟨rfl, rfl, rfl⟩
    refine ⟨_, _, Under.refl, Under.refl, ?_⟩
    rw [Option.bind_eq_some_iff] at h
    obtain ⟨t11, ht12, h⟩ := h
    refine WA.op (i := 2) (m := 22) (b' := 7) (by kernel_rfl) hS (by kernel_rfl) (op := .call { callee := (.value (.func 12)), args := #[(.tmp 4), (.tmp 5)], argTypes := #[25, 31] }) (ty := 4) (d := some 6) (g := none) (by kernel_rfl) (by kernel_rfl) (by kernel_rfl) (Does.call (Φ := fun v' G' Γ' => v' = .bool t11 ∧ G = G' ∧ [(b4, .cells #[.int .i64 3, .int .i64 0, .slice (some ⟨b1, 0, none⟩) ([(⟨#[116, 111]⟩ : ByteArray), (⟨#[98, 101]⟩ : ByteArray)] : List ByteArray).length 2, .slice none 0 0] 25 (0, 0))] :: [(b1, .cells #[.string (⟨#[116, 111]⟩ : ByteArray), .string (⟨#[98, 101]⟩ : ByteArray)] 9 (0, 0))] :: Γ = Γ') (f := 12) (args := [.agg #[.int .i64 3, .int .i64 0, .slice (some ⟨b1, 0, none⟩) ([(⟨#[116, 111]⟩ : ByteArray), (⟨#[98, 101]⟩ : ByteArray)] : List ByteArray).length 2, .slice none 0 0], .agg #[.int .i64 t7.f0, .int .i64 t7.f1, .int .i64 t7.f2, .int .i64 t7.f3, .string t7.f4]]) (by kernel_rfl) (fun W hI => (Calls.lendN (Φ := fun v' N => v' = .bool t11 ∧ N = []) (H := []) (i := 1) rfl hI (fun _ e l15 nl15 hI => by subst e; exact (((deem_Holds_calls (HT.mono l15) k (⟨3, 0, ([(⟨#[116, 111]⟩ : ByteArray), (⟨#[98, 101]⟩ : ByteArray)] : List ByteArray), ([] : List T25)⟩ : T25) t7 (some ⟨b1, 0, none⟩) 2 (Ho3.rdN l15 nl15) none 0 (Rd.nil _ _ _ _) t11 ht12 hI)).mono fun _ _ hr => by obtain ⟨_, _, _, rfl, hd, hI⟩ := hr; obtain ⟨rfl, rfl, rfl⟩ := hd; exact ⟨_, _, _, rfl, ⟨[], ⟨rfl, rfl⟩, rfl, rfl⟩, hI⟩))).mono fun _ _ hr => by obtain ⟨_, _, _, rfl, ⟨_, hd, rfl, rfl⟩, hI⟩ := hr; obtain ⟨rfl, rfl⟩ := hd; exact ⟨_, _, _, rfl, ⟨rfl, rfl, rfl⟩, hI⟩)) ?_
    rintro _ _ _ ⟨rfl, rfl, rfl⟩
    refine ⟨_, _, Under.refl, Under.refl, ?_⟩
    refine WA.pure [3] [1, 7] (m := 21) (b' := 15) (L' := [(1, .pointer (some ⟨b4, 0, none⟩)), (7, .bool t11)]) (by kernel_rfl) (NoPanic.then (NoPanic.body)) Under.refl hS (by kernel_rfl) ?_
    refine WA.split 7 (b := t11) (by kernel_rfl) (fun hc => ?_) (fun hc => ?_)
    · replace hc := hc
      rw [if_pos hc] at h
      have hc16 := hc
      clear hc
      refine WA.tellD [] (i := 4) (m := 20) (b' := 31) (by kernel_rfl) (NoPanic.then (NoPanic.body)) Under.refl hS (by kernel_rfl) (op := .load 25 (.tmp 1)) (ty := 25) (d := some 8) (g := some (3, true)) (by kernel_rfl) (by kernel_rfl) (by kernel_rfl) (Tells.load_box (i := 0) (b := b4) (o := 0) (agg := true) (by rfl) ag25 (by kernel_rfl) (fun h => by cases h) (Nat.le_of_ble_eq_true rfl) (v := .agg #[.int .i64 3, .int .i64 0, .slice (some ⟨b1, 0, none⟩) ([(⟨#[116, 111]⟩ : ByteArray), (⟨#[98, 101]⟩ : ByteArray)] : List ByteArray).length 2, .slice none 0 0]) (by kernel_rfl)) ?_
      rw [Option.bind_eq_some_iff] at h
      obtain ⟨t17, ht18, h⟩ := h
      refine WA.op (i := 5) (m := 19) (b' := 63) (by kernel_rfl) hS (by kernel_rfl) (op := .call { callee := (.value (.func 26)), args := #[(.const (.string { data := #[116, 111, 32, 110, 111, 116, 32, 98, 101] }))], argTypes := #[9] }) (ty := 31) (d := some 9) (g := some (3, true)) (by kernel_rfl) (by kernel_rfl) (by kernel_rfl) (Does.call (f := 26) (args := [.string (⟨#[116, 111, 32, 110, 111, 116, 32, 98, 101]⟩ : ByteArray)]) (by kernel_rfl) (fun W hI => (grapevinelaw15_rec_calls (⟨#[116, 111, 32, 110, 111, 116, 32, 98, 101]⟩ : ByteArray)  t17 ht18 hI))) ?_
      rintro _ _ _ ⟨rfl, rfl, rfl⟩
      refine ⟨_, _, Under.refl, Under.refl, ?_⟩
      rw [Option.bind_eq_some_iff] at h
      obtain ⟨t21, ht22, h⟩ := h
      refine WA.op (i := 6) (m := 18) (b' := 127) (by kernel_rfl) hS (by kernel_rfl) (op := .call { callee := (.value (.func 12)), args := #[(.tmp 8), (.tmp 9)], argTypes := #[25, 31] }) (ty := 4) (d := some 10) (g := some (3, true)) (by kernel_rfl) (by kernel_rfl) (by kernel_rfl) (Does.call (Φ := fun v' G' Γ' => v' = .bool t21 ∧ G = G' ∧ [(b4, .cells #[.int .i64 3, .int .i64 0, .slice (some ⟨b1, 0, none⟩) ([(⟨#[116, 111]⟩ : ByteArray), (⟨#[98, 101]⟩ : ByteArray)] : List ByteArray).length 2, .slice none 0 0] 25 (0, 0))] :: [(b1, .cells #[.string (⟨#[116, 111]⟩ : ByteArray), .string (⟨#[98, 101]⟩ : ByteArray)] 9 (0, 0))] :: Γ = Γ') (f := 12) (args := [.agg #[.int .i64 3, .int .i64 0, .slice (some ⟨b1, 0, none⟩) ([(⟨#[116, 111]⟩ : ByteArray), (⟨#[98, 101]⟩ : ByteArray)] : List ByteArray).length 2, .slice none 0 0], .agg #[.int .i64 t17.f0, .int .i64 t17.f1, .int .i64 t17.f2, .int .i64 t17.f3, .string t17.f4]]) (by kernel_rfl) (fun W hI => (Calls.lendN (Φ := fun v' N => v' = .bool t21 ∧ N = []) (H := []) (i := 1) rfl hI (fun _ e l25 nl25 hI => by subst e; exact (((deem_Holds_calls (HT.mono l25) k (⟨3, 0, ([(⟨#[116, 111]⟩ : ByteArray), (⟨#[98, 101]⟩ : ByteArray)] : List ByteArray), ([] : List T25)⟩ : T25) t17 (some ⟨b1, 0, none⟩) 2 (Ho3.rdN l25 nl25) none 0 (Rd.nil _ _ _ _) t21 ht22 hI)).mono fun _ _ hr => by obtain ⟨_, _, _, rfl, hd, hI⟩ := hr; obtain ⟨rfl, rfl, rfl⟩ := hd; exact ⟨_, _, _, rfl, ⟨[], ⟨rfl, rfl⟩, rfl, rfl⟩, hI⟩))).mono fun _ _ hr => by obtain ⟨_, _, _, rfl, ⟨_, hd, rfl, rfl⟩, hI⟩ := hr; obtain ⟨rfl, rfl⟩ := hd; exact ⟨_, _, _, rfl, ⟨rfl, rfl, rfl⟩, hI⟩)) ?_
      rintro _ _ _ ⟨rfl, rfl, rfl⟩
      refine ⟨_, _, Under.refl, Under.refl, ?_⟩
      refine WA.pure [7, 8, 9] [13] (m := 15) (b' := 1023) (L' := [(13, .bool (!t21))]) (by kernel_rfl) (NoPanic.then (NoPanic.body)) Under.refl hS (by kernel_rfl) ?_
      refine WA.split 13 (b := (!t21)) (by kernel_rfl) (fun hc => ?_) (fun hc => ?_)
      · replace hc := hc
        rw [if_pos hc] at h
        have hc26 := hc
        clear hc
        refine WA.pure [10] [13, 14] (m := 14) (b' := 2047) (L' := [(13, .bool true), (14, .agg #[.int .i64 4, .int .i64 1, .slice none 0 0, .slice none 0 0])]) (by kernel_rfl) (NoPanic.then (NoPanic.body)) Under.refl hS (by kernel_rfl) ?_
        rw [Option.bind_eq_some_iff] at h
        obtain ⟨t27, ht28, h⟩ := h
        refine WA.op (i := 11) (m := 13) (b' := 4095) (by kernel_rfl) hS (by kernel_rfl) (op := .call { callee := (.value (.func 26)), args := #[(.const (.string { data := #[] }))], argTypes := #[9] }) (ty := 31) (d := some 15) (g := some (9, true)) (by kernel_rfl) (by kernel_rfl) (by kernel_rfl) (Does.call (f := 26) (args := [.string (⟨#[]⟩ : ByteArray)]) (by kernel_rfl) (fun W hI => (grapevinelaw15_rec_calls (⟨#[]⟩ : ByteArray)  t27 ht28 hI))) ?_
        rintro _ _ _ ⟨rfl, rfl, rfl⟩
        refine ⟨_, _, Under.refl, Under.refl, ?_⟩
        rw [Option.bind_eq_some_iff] at h
        obtain ⟨t31, ht32, h⟩ := h
        refine WA.op (i := 12) (m := 12) (b' := 8191) (by kernel_rfl) hS (by kernel_rfl) (op := .call { callee := (.value (.func 12)), args := #[(.tmp 14), (.tmp 15)], argTypes := #[25, 31] }) (ty := 4) (d := some 16) (g := some (9, true)) (by kernel_rfl) (by kernel_rfl) (by kernel_rfl) (Does.call (f := 12) (args := [.agg #[.int .i64 4, .int .i64 1, .slice none 0 0, .slice none 0 0], .agg #[.int .i64 t27.f0, .int .i64 t27.f1, .int .i64 t27.f2, .int .i64 t27.f3, .string t27.f4]]) (by kernel_rfl) (fun W hI => (deem_Holds_calls HT k (⟨4, 1, ([] : List ByteArray), ([] : List T25)⟩ : T25) t27 none 0 (Rd.nil _ _ _ _) none 0 (Rd.nil _ _ _ _) t31 ht32 hI))) ?_
        rintro _ _ _ ⟨rfl, rfl, rfl⟩
        refine ⟨_, _, Under.refl, Under.refl, ?_⟩
        refine WA.pure [13, 14] [18] (m := 10) (b' := 32767) (L' := [(18, .bool t31)]) (by kernel_rfl) (NoPanic.then (NoPanic.body)) Under.refl hS (by kernel_rfl) ?_
        refine WA.split 18 (b := t31) (by kernel_rfl) (fun hc => ?_) (fun hc => ?_)
        · replace hc := hc
          rw [if_pos hc] at h
          have hc35 := hc
          clear hc
          rw [Option.bind_eq_some_iff] at h
          obtain ⟨t36, ht37, h⟩ := h
          refine WA.op (i := 15) (m := 9) (b' := 65535) (by kernel_rfl) hS (by kernel_rfl) (op := .call { callee := (.value (.func 18)), args := #[(.const (.string { data := #[97, 32, 98] }))], argTypes := #[9] }) (ty := 32) (d := some 19) (g := some (14, true)) (by kernel_rfl) (by kernel_rfl) (by kernel_rfl) (Does.call (f := 18) (args := [.string (⟨#[97, 32, 98]⟩ : ByteArray)]) (by kernel_rfl) (fun W hI => (tokens_Of_calls HT k (⟨#[97, 32, 98]⟩ : ByteArray)  t36 ht37 hI))) ?_
          rintro _ _ _ ⟨AR38, cR38, CR38, rfl, HR38, rfl, rfl⟩
          refine ⟨_, _, Under.cons (Under.refl), Under.refl, ?_⟩
          rw [Option.bind_eq_some_iff] at h
          obtain ⟨t40, ht41, h⟩ := h
          refine WA.op (i := 16) (m := 8) (b' := 131071) (by kernel_rfl) hS (by kernel_rfl) (op := .call { callee := (.value (.func 14)), args := #[(.tmp 19), (.const (.slice none 0 0))], argTypes := #[32, 22] }) (ty := 4) (d := some 20) (g := some (14, true)) (by kernel_rfl) (by kernel_rfl) (by kernel_rfl) (Does.call (Φ := fun v' G' Γ' => v' = .bool t40 ∧ G = G' ∧ CR38 :: [(b4, .cells #[.int .i64 3, .int .i64 0, .slice (some ⟨b1, 0, none⟩) ([(⟨#[116, 111]⟩ : ByteArray), (⟨#[98, 101]⟩ : ByteArray)] : List ByteArray).length 2, .slice none 0 0] 25 (0, 0))] :: [(b1, .cells #[.string (⟨#[116, 111]⟩ : ByteArray), .string (⟨#[98, 101]⟩ : ByteArray)] 9 (0, 0))] :: Γ = Γ') (f := 14) (args := [.slice AR38 t36.length cR38, .slice none 0 0]) (by kernel_rfl) (fun W hI => (Calls.lendN (Φ := fun v' N => v' = .bool t40 ∧ N = []) (H := []) (i := 0) rfl hI (fun _ e l44 nl44 hI => by subst e; exact (((deem_Phrase_calls k t36 ([] : List ByteArray) AR38 cR38 (HR38.rdN l44 nl44) none 0 (Rd.nil _ _ _ _) t40 ht41 hI)).mono fun _ _ hr => by obtain ⟨_, _, _, rfl, hd, hI⟩ := hr; obtain ⟨rfl, rfl, rfl⟩ := hd; exact ⟨_, _, _, rfl, ⟨[], ⟨rfl, rfl⟩, rfl, rfl⟩, hI⟩))).mono fun _ _ hr => by obtain ⟨_, _, _, rfl, ⟨_, hd, rfl, rfl⟩, hI⟩ := hr; obtain ⟨rfl, rfl⟩ := hd; exact ⟨_, _, _, rfl, ⟨rfl, rfl, rfl⟩, hI⟩)) ?_
          rintro _ _ _ ⟨rfl, rfl, rfl⟩
          refine ⟨_, _, Under.refl, Under.refl, ?_⟩
          refine WA.pure [17, 18, 19] [23] (m := 5) (b' := 1048575) (L' := [(23, .bool (!t40))]) (by kernel_rfl) (NoPanic.then (NoPanic.body)) Under.refl hS (by kernel_rfl) ?_
          refine WA.split 23 (b := (!t40)) (by kernel_rfl) (fun hc => ?_) (fun hc => ?_)
          · replace hc := hc
            rw [if_pos hc] at h
            have hc45 := hc
            clear hc
            refine WA.two (i := 20) (j := 21) (m := 4) (by kernel_rfl) hS (by kernel_rfl) ?_ ?_
            · rw [Option.bind_eq_some_iff] at h
              obtain ⟨t46, ht47, h⟩ := h
              refine WO.op (b' := 2097151) (by kernel_rfl) (op := .call { callee := (.value (.func 18)), args := #[(.const (.string { data := #[97, 32, 98] }))], argTypes := #[9] }) (ty := 32) (d := some 24) (g := some (19, true)) (by kernel_rfl) (by kernel_rfl) (by kernel_rfl) (Does.call (f := 18) (args := [.string (⟨#[97, 32, 98]⟩ : ByteArray)]) (by kernel_rfl) (fun W hI => (tokens_Of_calls HT k (⟨#[97, 32, 98]⟩ : ByteArray)  t46 ht47 hI))) ?_
              rintro _ _ _ ⟨AR48, cR48, CR48, rfl, HR48, rfl, rfl⟩
              refine ⟨_, _, Under.cons (Under.refl), Under.refl, ?_⟩
              refine WA.op (i := 21) (m := 3) (b' := 4194303) (by kernel_rfl) hS (by kernel_rfl) (op := .buildSlice 22 1 #[(0, (.const (.string { data := #[98] })))]) (ty := 22) (d := some 25) (g := some (19, true)) (by kernel_rfl) (by kernel_rfl) (by kernel_rfl) (Does.new (o := .cells #[.string (⟨#[98]⟩ : ByteArray)] 9 (0, 0)) (v := fun r => .slice (some ⟨r, 0, none⟩) 1 1) (fun r => by kernel_rfl)) ?_
              rintro _ _ _ ⟨b50, rfl, rfl, rfl⟩
              refine ⟨_, _, Under.cons Under.refl, Under.refl, ?_⟩
              have Ho52 : Ow kStr G (some ⟨b50, 0, none⟩) 1 ([(⟨#[98]⟩ : ByteArray)] : List ByteArray) [(b50, .cells #[.string (⟨#[98]⟩ : ByteArray)] 9 (0, 0))] := Ow.lit (kd := kStr) (G := G) (b := b50) (T := 9) (xs := ([(⟨#[98]⟩ : ByteArray)] : List ByteArray)) (cs := [.string (⟨#[98]⟩ : ByteArray)]) (.cons (x := (⟨#[98]⟩ : ByteArray)) (cs := [.string (⟨#[98]⟩ : ByteArray)]) (by exact rfl) .nil)
              rw [Option.bind_eq_some_iff] at h
              obtain ⟨t53, ht54, h⟩ := h
              refine WA.op (i := 22) (m := 2) (b' := 8388607) (by kernel_rfl) hS (by kernel_rfl) (op := .call { callee := (.value (.func 14)), args := #[(.tmp 24), (.tmp 25)], argTypes := #[32, 22] }) (ty := 4) (d := some 26) (g := some (19, true)) (by kernel_rfl) (by kernel_rfl) (by kernel_rfl) (Does.call (Φ := fun v' G' Γ' => v' = .bool t53 ∧ G = G' ∧ [(b50, .cells #[.string (⟨#[98]⟩ : ByteArray)] 9 (0, 0))] :: CR48 :: CR38 :: [(b4, .cells #[.int .i64 3, .int .i64 0, .slice (some ⟨b1, 0, none⟩) ([(⟨#[116, 111]⟩ : ByteArray), (⟨#[98, 101]⟩ : ByteArray)] : List ByteArray).length 2, .slice none 0 0] 25 (0, 0))] :: [(b1, .cells #[.string (⟨#[116, 111]⟩ : ByteArray), .string (⟨#[98, 101]⟩ : ByteArray)] 9 (0, 0))] :: Γ = Γ') (f := 14) (args := [.slice AR48 t46.length cR48, .slice (some ⟨b50, 0, none⟩) ([(⟨#[98]⟩ : ByteArray)] : List ByteArray).length 1]) (by kernel_rfl) (fun W hI => (Calls.lendN (Φ := fun v' N => v' = .bool t53 ∧ N = []) (H := []) (i := 1) rfl hI (fun _ e l57 nl57 hI => by subst e; exact Calls.lendN (Φ := fun v' N => v' = .bool t53 ∧ N = []) (H := []) (i := 0) rfl hI (fun _ e l58 nl58 hI => by subst e; exact (((deem_Phrase_calls k t46 ([(⟨#[98]⟩ : ByteArray)] : List ByteArray) AR48 cR48 ((HR48.rdN l57 nl57).mono l58) (some ⟨b50, 0, none⟩) 1 ((Ho52.mono l57).rdN l58 nl58) t53 ht54 hI)).mono fun _ _ hr => by obtain ⟨_, _, _, rfl, hd, hI⟩ := hr; obtain ⟨rfl, rfl, rfl⟩ := hd; exact ⟨_, _, _, rfl, ⟨[], ⟨rfl, rfl⟩, rfl, rfl⟩, hI⟩)))).mono fun _ _ hr => by obtain ⟨_, _, _, rfl, ⟨_, hd, rfl, rfl⟩, hI⟩ := hr; obtain ⟨rfl, rfl⟩ := hd; exact ⟨_, _, _, rfl, ⟨rfl, rfl, rfl⟩, hI⟩)) ?_
              rintro _ _ _ ⟨rfl, rfl, rfl⟩
              refine ⟨_, _, Under.refl, Under.refl, ?_⟩
              refine WA.pure [23, 24] [0] (m := 0) (b' := 33554431) (L' := [(0, .bool t53)]) (by kernel_rfl) (NoPanic.then (NoPanic.body)) Under.refl hS (by kernel_rfl) ?_
              refine WA.done hS (by kernel_rfl) ?_
              refine QP.pick [0] ?_
              refine QP.dropAt 4 ?_
              refine QP.dropAt 3 ?_
              refine QP.dropAt 2 ?_
              refine QP.dropAt 1 ?_
              refine QP.dropAt 0 ?_
              refine QP.pick [0] ?_
              exact QP.meet ⟨_, Option.some.inj h, rfl, rfl, rfl⟩
            · refine WO.op (b' := 3145727) (by kernel_rfl) (op := .buildSlice 22 1 #[(0, (.const (.string { data := #[98] })))]) (ty := 22) (d := some 25) (g := some (19, true)) (by kernel_rfl) (by kernel_rfl) (by kernel_rfl) (Does.new (o := .cells #[.string (⟨#[98]⟩ : ByteArray)] 9 (0, 0)) (v := fun r => .slice (some ⟨r, 0, none⟩) 1 1) (fun r => by kernel_rfl)) ?_
              rintro _ _ _ ⟨b46, rfl, rfl, rfl⟩
              refine ⟨_, _, Under.cons Under.refl, Under.refl, ?_⟩
              have Ho48 : Ow kStr G (some ⟨b46, 0, none⟩) 1 ([(⟨#[98]⟩ : ByteArray)] : List ByteArray) [(b46, .cells #[.string (⟨#[98]⟩ : ByteArray)] 9 (0, 0))] := Ow.lit (kd := kStr) (G := G) (b := b46) (T := 9) (xs := ([(⟨#[98]⟩ : ByteArray)] : List ByteArray)) (cs := [.string (⟨#[98]⟩ : ByteArray)]) (.cons (x := (⟨#[98]⟩ : ByteArray)) (cs := [.string (⟨#[98]⟩ : ByteArray)]) (by exact rfl) .nil)
              rw [Option.bind_eq_some_iff] at h
              obtain ⟨t49, ht50, h⟩ := h
              refine WA.op (i := 20) (m := 3) (b' := 4194303) (by kernel_rfl) hS (by kernel_rfl) (op := .call { callee := (.value (.func 18)), args := #[(.const (.string { data := #[97, 32, 98] }))], argTypes := #[9] }) (ty := 32) (d := some 24) (g := some (19, true)) (by kernel_rfl) (by kernel_rfl) (by kernel_rfl) (Does.call (f := 18) (args := [.string (⟨#[97, 32, 98]⟩ : ByteArray)]) (by kernel_rfl) (fun W hI => (tokens_Of_calls HT k (⟨#[97, 32, 98]⟩ : ByteArray)  t49 ht50 hI))) ?_
              rintro _ _ _ ⟨AR51, cR51, CR51, rfl, HR51, rfl, rfl⟩
              refine ⟨_, _, Under.cons (Under.refl), Under.refl, ?_⟩
              rw [Option.bind_eq_some_iff] at h
              obtain ⟨t53, ht54, h⟩ := h
              refine WA.op (i := 22) (m := 2) (b' := 8388607) (by kernel_rfl) hS (by kernel_rfl) (op := .call { callee := (.value (.func 14)), args := #[(.tmp 24), (.tmp 25)], argTypes := #[32, 22] }) (ty := 4) (d := some 26) (g := some (19, true)) (by kernel_rfl) (by kernel_rfl) (by kernel_rfl) (Does.call (Φ := fun v' G' Γ' => v' = .bool t53 ∧ G = G' ∧ CR51 :: [(b46, .cells #[.string (⟨#[98]⟩ : ByteArray)] 9 (0, 0))] :: CR38 :: [(b4, .cells #[.int .i64 3, .int .i64 0, .slice (some ⟨b1, 0, none⟩) ([(⟨#[116, 111]⟩ : ByteArray), (⟨#[98, 101]⟩ : ByteArray)] : List ByteArray).length 2, .slice none 0 0] 25 (0, 0))] :: [(b1, .cells #[.string (⟨#[116, 111]⟩ : ByteArray), .string (⟨#[98, 101]⟩ : ByteArray)] 9 (0, 0))] :: Γ = Γ') (f := 14) (args := [.slice AR51 t49.length cR51, .slice (some ⟨b46, 0, none⟩) ([(⟨#[98]⟩ : ByteArray)] : List ByteArray).length 1]) (by kernel_rfl) (fun W hI => (Calls.lendN (Φ := fun v' N => v' = .bool t53 ∧ N = []) (H := []) (i := 0) rfl hI (fun _ e l57 nl57 hI => by subst e; exact Calls.lendN (Φ := fun v' N => v' = .bool t53 ∧ N = []) (H := []) (i := 1) rfl hI (fun _ e l58 nl58 hI => by subst e; exact (((deem_Phrase_calls k t49 ([(⟨#[98]⟩ : ByteArray)] : List ByteArray) AR51 cR51 ((HR51.rdN l57 nl57).mono l58) (some ⟨b46, 0, none⟩) 1 ((Ho48.mono l57).rdN l58 nl58) t53 ht54 hI)).mono fun _ _ hr => by obtain ⟨_, _, _, rfl, hd, hI⟩ := hr; obtain ⟨rfl, rfl, rfl⟩ := hd; exact ⟨_, _, _, rfl, ⟨[], ⟨rfl, rfl⟩, rfl, rfl⟩, hI⟩)))).mono fun _ _ hr => by obtain ⟨_, _, _, rfl, ⟨_, hd, rfl, rfl⟩, hI⟩ := hr; obtain ⟨rfl, rfl⟩ := hd; exact ⟨_, _, _, rfl, ⟨rfl, rfl, rfl⟩, hI⟩)) ?_
              rintro _ _ _ ⟨rfl, rfl, rfl⟩
              refine ⟨_, _, Under.refl, Under.refl, ?_⟩
              refine WA.pure [23, 24] [0] (m := 0) (b' := 33554431) (L' := [(0, .bool t53)]) (by kernel_rfl) (NoPanic.then (NoPanic.body)) Under.refl hS (by kernel_rfl) ?_
              refine WA.done hS (by kernel_rfl) ?_
              refine QP.pick [0] ?_
              refine QP.dropAt 4 ?_
              refine QP.dropAt 3 ?_
              refine QP.dropAt 2 ?_
              refine QP.dropAt 1 ?_
              refine QP.dropAt 0 ?_
              refine QP.pick [0] ?_
              exact QP.meet ⟨_, Option.some.inj h, rfl, rfl, rfl⟩
          · replace hc := (Bool.eq_false_iff.1 hc)
            rw [if_neg hc] at h
            have hc45 := hc
            clear hc
            refine WA.pure [20, 21, 22, 23, 24] [0] (m := 0) (b' := 33554431) (L' := [(0, .bool false)]) (by kernel_rfl) (NoPanic.then (NoPanic.body)) Under.refl hS (by kernel_rfl) ?_
            refine WA.done hS (by kernel_rfl) ?_
            refine QP.pick [0] ?_
            refine QP.dropAt 2 ?_
            refine QP.dropAt 1 ?_
            refine QP.dropAt 0 ?_
            refine QP.pick [0] ?_
            exact QP.meet ⟨_, Option.some.inj h, rfl, rfl, rfl⟩
        · replace hc := (Bool.eq_false_iff.1 hc)
          rw [if_neg hc] at h
          have hc35 := hc
          clear hc
          refine WA.pure [15, 16, 17, 18, 19, 20, 21, 22, 23, 24] [0] (m := 0) (b' := 33554431) (L' := [(0, .bool false)]) (by kernel_rfl) (NoPanic.then (NoPanic.body)) Under.refl hS (by kernel_rfl) ?_
          refine WA.done hS (by kernel_rfl) ?_
          refine QP.pick [0] ?_
          refine QP.dropAt 1 ?_
          refine QP.dropAt 0 ?_
          refine QP.pick [0] ?_
          exact QP.meet ⟨_, Option.some.inj h, rfl, rfl, rfl⟩
      · replace hc := (Bool.eq_false_iff.1 hc)
        rw [if_neg hc] at h
        have hc26 := hc
        clear hc
        refine WA.pure [10, 11, 12, 13, 14, 15, 16, 17, 18, 19, 20, 21, 22, 23, 24] [0] (m := 0) (b' := 33554431) (L' := [(0, .bool false)]) (by kernel_rfl) (NoPanic.then (NoPanic.body)) Under.refl hS (by kernel_rfl) ?_
        refine WA.done hS (by kernel_rfl) ?_
        refine QP.pick [0] ?_
        refine QP.dropAt 1 ?_
        refine QP.dropAt 0 ?_
        refine QP.pick [0] ?_
        exact QP.meet ⟨_, Option.some.inj h, rfl, rfl, rfl⟩
    · replace hc := (Bool.eq_false_iff.1 hc)
      rw [if_neg hc] at h
      have hc16 := hc
      clear hc
      refine WA.pure [4, 5, 6, 7, 8, 9, 10, 11, 12, 13, 14, 15, 16, 17, 18, 19, 20, 21, 22, 23, 24] [0] (m := 0) (b' := 33554431) (L' := [(0, .bool false)]) (by kernel_rfl) (NoPanic.then (NoPanic.body)) Under.refl hS (by kernel_rfl) ?_
      refine WA.done hS (by kernel_rfl) ?_
      refine QP.pick [0] ?_
      refine QP.dropAt 1 ?_
      refine QP.dropAt 0 ?_
      refine QP.pick [0] ?_
      exact QP.meet ⟨_, Option.some.inj h, rfl, rfl, rfl⟩
  · rintro _ _ _ ⟨s5, rfl, rfl, rfl, rfl⟩
    clear h
    replace h := hk6
    refine WP.ret ?_
    obtain rfl := Option.some.inj h
    exact QP.returned [0] [.bool s5] _ (by kernel_rfl) (by kernel_rfl) (by kernel_rfl) (fun W hI => ⟨_, _, _, rfl, ⟨rfl, rfl, rfl⟩, hI⟩)
end Go.Proofs.YtbphlohiealbeaaDoor.Gf
