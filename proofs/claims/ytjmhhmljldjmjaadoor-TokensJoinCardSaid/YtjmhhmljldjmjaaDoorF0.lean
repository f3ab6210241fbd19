/- Walks of Go functions: what each tells, as a plain Lean function, and that the Go code comes to it. Written by gg.py of this repo. -/
import Derived.Test.YtjmhhmljldjmjaaDoorT
namespace Go.Proofs.YtjmhhmljldjmjaaDoor.Gf
open Go Go.Gg
set_option maxRecDepth 100000
set_option linter.unusedVariables false
set_option linter.unusedSimpArgs false

/-! ### unicode/utf8.ValidString: function 50 -/
def utf8_ValidString (a0 : ByteArray) : Option Bool := (if a0.size ≤ 9223372036854775807 then some (Lib.validD a0.data.toList) else none)
set_option maxHeartbeats 4000000 in
theorem utf8_ValidString_calls {B : World} {G : GMap} {Γ : List Chunk} {W : World} (HT : Tabs B G) (a0 : ByteArray) (r : Bool) (h : utf8_ValidString a0 = some r) (hI : Inv B G (Γ) W) :
    Calls Tryd.prog 50 [.string a0].toArray W (Ret B (fun v G' Γ' => v = .bool r ∧ G = G' ∧ Γ = Γ')) := by
  unfold utf8_ValidString at h
  by_cases hs : a0.size ≤ 9223372036854775807
  case neg => rw [if_neg hs] at h; cases h
  rw [if_pos hs] at h
  obtain rfl := Option.some.inj h
  exact Calls.kept (Any.utf8_ValidString Tryd.laysValid a0 W hs (HT.u8 hI)) hI

/-! ### grapevine/tokens.May: function 43 -/
def tokens_May (a0 : ByteArray) : Option Bool := ((if (a0.size : Int) ≤ 120 then ((utf8_ValidString a0).bind fun t4 => some t4) else some false).bind fun s1 => some s1)
set_option maxHeartbeats 4000000 in
theorem tokens_May_calls {B : World} {G : GMap} {Γ : List Chunk} {W : World} (HT : Tabs B G) (a0 : ByteArray) (r : Bool) (h : tokens_May a0 = some r) (hI : Inv B G (Γ) W) :
    Calls Tryd.prog 43 [.string a0].toArray W (Ret B (fun v G' Γ' => v = .bool r ∧ G = G' ∧ Γ = Γ')) := by
  refine calls_WP (Γ := Γ) (G := G) (B := B) Tryd.func43 rfl (by kernel_rfl) ?_ hI
  clear hI
  unfold tokens_May at h
  refine WP.seqP [0] (L' := [(0, .string a0)]) (by kernel_rfl) ?_
  rw [Option.bind_eq_some_iff] at h
  obtain ⟨os1, h, hk2⟩ := h
  refine WP.cut (fun L' G' Γ' => ∃ s1 : Bool, s1 = os1 ∧ L' = [(2, .bool s1)] ∧ G = G' ∧ Γ = Γ') ?_ ?_
  · clear hk2
    refine WP.region ?_
    refine WL.pure 0 4 [0, 6] (L' := [(0, .string a0), (6, .bool (decide ((a0.size : Int) ≤ 120)))]) (by kernel_rfl) (by decide) ?_
    refine WL.split 6 (b := decide ((a0.size : Int) ≤ 120)) (by kernel_rfl) (fun hc => ?_) (fun hc => ?_)
    · replace hc := of_decide_eq_true hc
      rw [if_pos hc] at h
      have hc3 := hc
      clear hc
      refine WL.pure 4 5 [6, 7] (L' := [(6, .bool true), (7, .string a0)]) (by kernel_rfl) (by decide) ?_
      rw [Option.bind_eq_some_iff] at h
      obtain ⟨t4, ht5, h⟩ := h
      refine WL.op (op := .call { callee := (.value (.func 50)), args := #[(.tmp 7)], argTypes := #[9] }) (ty := 4) (d := some 8) (g := some (3, true)) (by kernel_rfl) (by kernel_rfl) (by kernel_rfl) (Does.call (f := 50) (args := [.string a0]) (by kernel_rfl) (fun W hI => (utf8_ValidString_calls HT a0  t4 ht5 hI))) ?_
      rintro _ _ _ ⟨rfl, rfl, rfl⟩
      refine WL.rest 6 [2] (L' := [(2, .bool t4)]) (by kernel_rfl) ?_
      refine QP.pick [2] ?_
      exact QP.meet ⟨_, Option.some.inj h, rfl, rfl, rfl⟩
    · replace hc := of_decide_eq_false hc
      rw [if_neg hc] at h
      have hc3 := hc
      clear hc
      refine WL.rest 4 [2] (L' := [(2, .bool false)]) (by kernel_rfl) ?_
      refine QP.pick [2] ?_
      exact QP.meet ⟨_, Option.some.inj h, rfl, rfl, rfl⟩
  · rintro _ _ _ ⟨s1, rfl, rfl, rfl, rfl⟩
    clear h
    replace h := hk2
    refine WP.ret ?_
    obtain rfl := Option.some.inj h
    exact QP.returned [2] [.bool s1] _ (by kernel_rfl) (by kernel_rfl) (by kernel_rfl) (fun W hI => ⟨_, _, _, rfl, ⟨rfl, rfl, rfl⟩, hI⟩)

/-! ### unicode.IsLetter: function 77 -/
def unicode_IsLetter (a0 : Int) : Option Bool := (if -2147483648 ≤ a0 ∧ a0 ≤ 2147483647 then some (Lib.isLetterU a0) else none)
set_option maxHeartbeats 4000000 in
theorem unicode_IsLetter_calls {B : World} {G : GMap} {Γ : List Chunk} {W : World} (HT : Tabs B G) (a0 : Int) (r : Bool) (h : unicode_IsLetter a0 = some r) (hI : Inv B G (Γ) W) :
    Calls Tryd.prog 77 [.int .i32 a0].toArray W (Ret B (fun v G' Γ' => v = .bool r ∧ G = G' ∧ Γ = Γ')) := by
  unfold unicode_IsLetter at h
  by_cases hs : -2147483648 ≤ a0 ∧ a0 ≤ 2147483647
  case neg => rw [if_neg hs] at h; cases h
  rw [if_pos hs] at h
  obtain rfl := Option.some.inj h
  exact Calls.kept (Tryd.unicode_IsLetter_all a0 W hs.1 hs.2 (HT.pr hI) (HT.le hI)) hI

/-! ### unicode.IsDigit: function 78 -/
def unicode_IsDigit (a0 : Int) : Option Bool := (if -2147483648 ≤ a0 ∧ a0 ≤ 2147483647 then some (Lib.isDigitU a0) else none)
set_option maxHeartbeats 4000000 in
theorem unicode_IsDigit_calls {B : World} {G : GMap} {Γ : List Chunk} {W : World} (HT : Tabs B G) (a0 : Int) (r : Bool) (h : unicode_IsDigit a0 = some r) (hI : Inv B G (Γ) W) :
    Calls Tryd.prog 78 [.int .i32 a0].toArray W (Ret B (fun v G' Γ' => v = .bool r ∧ G = G' ∧ Γ = Γ')) := by
  unfold unicode_IsDigit at h
  by_cases hs : -2147483648 ≤ a0 ∧ a0 ≤ 2147483647
  case neg => rw [if_neg hs] at h; cases h
  rw [if_pos hs] at h
  obtain rfl := Option.some.inj h
  exact Calls.kept (Tryd.unicode_IsDigit_all a0 W hs.1 hs.2 (HT.di hI)) hI

/-! ### grapevine/tokens.letter: function 76 -/
def tokens_letter (a0 : Int) : Option Bool := (((unicode_IsLetter a0).bind fun t3 => (if t3 = true then some true else ((unicode_IsDigit a0).bind fun t8 => some t8))).bind fun s1 => some s1)
set_option maxHeartbeats 4000000 in
theorem tokens_letter_calls {B : World} {G : GMap} {Γ : List Chunk} {W : World} (HT : Tabs B G) (a0 : Int) (r : Bool) (h : tokens_letter a0 = some r) (hI : Inv B G (Γ) W) :
    Calls Tryd.prog 76 [.int .i32 a0].toArray W (Ret B (fun v G' Γ' => v = .bool r ∧ G = G' ∧ Γ = Γ')) := by
  refine calls_WP (Γ := Γ) (G := G) (B := B) Tryd.func76 rfl (by kernel_rfl) ?_ hI
  clear hI
  unfold tokens_letter at h
  refine WP.seqP [0] (L' := [(0, .int .i32 a0)]) (by kernel_rfl) ?_
  rw [Option.bind_eq_some_iff] at h
  obtain ⟨os1, h, hk2⟩ := h
  refine WP.cut (fun L' G' Γ' => ∃ s1 : Bool, s1 = os1 ∧ L' = [(2, .bool s1)] ∧ G = G' ∧ Γ = Γ') ?_ ?_
  · clear hk2
    refine WP.region ?_
    refine WL.pure 0 1 [0, 3] (L' := [(0, .int .i32 a0), (3, .int .i32 a0)]) (by kernel_rfl) (by decide) ?_
    rw [Option.bind_eq_some_iff] at h
    obtain ⟨t3, ht4, h⟩ := h
    refine WL.op (op := .call { callee := (.value (.func 77)), args := #[(.tmp 3)], argTypes := #[21] }) (ty := 4) (d := some 4) (g := none) (by kernel_rfl) (by kernel_rfl) (by kernel_rfl) (Does.call (f := 77) (args := [.int .i32 a0]) (by kernel_rfl) (fun W hI => (unicode_IsLetter_calls HT a0  t3 ht4 hI))) ?_
    rintro _ _ _ ⟨rfl, rfl, rfl⟩
    refine WL.pure 2 3 [0, 5] (L' := [(0, .int .i32 a0), (5, .bool t3)]) (by kernel_rfl) (by decide) ?_
    refine WL.split 5 (b := t3) (by kernel_rfl) (fun hc => ?_) (fun hc => ?_)
    · replace hc := hc
      rw [if_pos hc] at h
      have hc7 := hc
      clear hc
      refine WL.rest 3 [2] (L' := [(2, .bool true)]) (by kernel_rfl) ?_
      refine QP.pick [2] ?_
      exact QP.meet ⟨_, Option.some.inj h, rfl, rfl, rfl⟩
    · replace hc := (Bool.eq_false_iff.1 hc)
      rw [if_neg hc] at h
      have hc7 := hc
      clear hc
      refine WL.pure 3 4 [5, 6] (L' := [(5, .bool false), (6, .int .i32 a0)]) (by kernel_rfl) (by decide) ?_
      rw [Option.bind_eq_some_iff] at h
      obtain ⟨t8, ht9, h⟩ := h
      refine WL.op (op := .call { callee := (.value (.func 78)), args := #[(.tmp 6)], argTypes := #[21] }) (ty := 4) (d := some 7) (g := some (2, false)) (by kernel_rfl) (by kernel_rfl) (by kernel_rfl) (Does.call (f := 78) (args := [.int .i32 a0]) (by kernel_rfl) (fun W hI => (unicode_IsDigit_calls HT a0  t8 ht9 hI))) ?_
      rintro _ _ _ ⟨rfl, rfl, rfl⟩
      refine WL.rest 5 [2] (L' := [(2, .bool t8)]) (by kernel_rfl) ?_
      refine QP.pick [2] ?_
      exact QP.meet ⟨_, Option.some.inj h, rfl, rfl, rfl⟩
  · rintro _ _ _ ⟨s1, rfl, rfl, rfl, rfl⟩
    clear h
    replace h := hk2
    refine WP.ret ?_
    obtain rfl := Option.some.inj h
    exact QP.returned [2] [.bool s1] _ (by kernel_rfl) (by kernel_rfl) (by kernel_rfl) (fun W hI => ⟨_, _, _, rfl, ⟨rfl, rfl, rfl⟩, hI⟩)

/-! ### grapevine/tokens.other: function 65 -/
def tokens_other (a0 : Int) : Option Bool := ((tokens_letter a0).bind fun t1 => some (!t1))
set_option maxHeartbeats 4000000 in
theorem tokens_other_calls {B : World} {G : GMap} {Γ : List Chunk} {W : World} (HT : Tabs B G) (a0 : Int) (r : Bool) (h : tokens_other a0 = some r) (hI : Inv B G (Γ) W) :
    Calls Tryd.prog 65 [.int .i32 a0].toArray W (Ret B (fun v G' Γ' => v = .bool r ∧ G = G' ∧ Γ = Γ')) := by
  refine calls_WP (Γ := Γ) (G := G) (B := B) Tryd.func65 rfl (by kernel_rfl) ?_ hI
  clear hI
  unfold tokens_other at h
  refine WP.seqP [0] (L' := [(0, .int .i32 a0)]) (by kernel_rfl) ?_
  refine WP.seqR ?_
  refine WL.pure 0 1 [3] (L' := [(3, .int .i32 a0)]) (by kernel_rfl) (by decide) ?_
  rw [Option.bind_eq_some_iff] at h
  obtain ⟨t1, ht2, h⟩ := h
  refine WL.op (op := .call { callee := (.value (.func 76)), args := #[(.tmp 3)], argTypes := #[21] }) (ty := 4) (d := some 4) (g := none) (by kernel_rfl) (by kernel_rfl) (by kernel_rfl) (Does.call (f := 76) (args := [.int .i32 a0]) (by kernel_rfl) (fun W hI => (tokens_letter_calls HT a0  t1 ht2 hI))) ?_
  rintro _ _ _ ⟨rfl, rfl, rfl⟩
  refine WL.restQ 2 [2] (L' := [(2, .bool (!t1))]) (by kernel_rfl) ?_
  refine WP.ret ?_
  obtain rfl := Option.some.inj h
  exact QP.returned [2] [.bool (!t1)] _ (by kernel_rfl) (by kernel_rfl) (by kernel_rfl) (fun W hI => ⟨_, _, _, rfl, ⟨rfl, rfl, rfl⟩, hI⟩)

/-! ### strings.FieldsFunc: function 64 -/
def strings_FieldsFunc (a0 : ByteArray) : Option (List ByteArray) := (if a0.size ≤ 4294967296 ∧ RunesOk tokens_other then some (Lib.goFieldsP (fun x => (tokens_other (x : Int)).getD false) a0) else none)
set_option maxHeartbeats 4000000 in
theorem strings_FieldsFunc_calls {B : World} {G : GMap} {Γ : List Chunk} {W : World} (HT : Tabs B G) (a0 : ByteArray) (r : List ByteArray) (h : strings_FieldsFunc a0 = some r) (hI : Inv B G (Γ) W) :
    Calls Tryd.prog 64 [.string a0, .func (.func 65) #[] #[]].toArray W (Ret B (fun v G' Γ' => ∃ (AR : Option Addr), ∃ (cR : Nat), ∃ (CR : Chunk), v = .slice AR r.length cR ∧ Ow kStr G' AR cR r CR ∧ G = G' ∧ CR :: Γ = Γ')) := by
  unfold strings_FieldsFunc at h
  by_cases hs : a0.size ≤ 4294967296 ∧ RunesOk tokens_other
  case neg => rw [if_neg hs] at h; cases h
  rw [if_pos hs] at h
  obtain rfl := Option.some.inj h
  refine (Tryd.strings_FieldsFunc_grows 65 #[] (enters_of Tryd.func65 (by kernel_rfl) rfl) (fun x => (tokens_other (x : Int)).getD false) a0 W hs.1 (predGrows tokens_other hs.2 fun W' hb x b hx => ?_)).mono fun e w' hr => ?_
  · exact (tokens_other_calls (Tabs.start (Tab.below (HT.all hI) hb)) (x : Int) b hx (Inv.start W')).mono fun e w' hr => by obtain ⟨_, _, _, rfl, ⟨rfl, rfl, rfl⟩, hI'⟩ := hr; exact ⟨rfl, hI'.below⟩
  · obtain ⟨A, rfl, hA, hown, hb⟩ := hr
    obtain ⟨o, ho, hO⟩ := Ow.ofRow (kd := kStr) (G := G) (enc := Value.string) rfl (fun _ _ => rfl) hown
    exact ⟨_, _, _, rfl, ⟨_, _, _, rfl, hO, rfl, rfl⟩, hI.keptNew hb hA ho⟩

/-! ### grapevine/tokens.Norm: function 45 -/
def tokens_Norm (a0 : ByteArray) : Option ByteArray := (if a0.size ≤ 35184372088832 then some (normD a0) else none)
set_option maxHeartbeats 4000000 in
theorem tokens_Norm_calls {B : World} {G : GMap} {Γ : List Chunk} {W : World} (HT : Tabs B G) (a0 : ByteArray) (r : ByteArray) (h : tokens_Norm a0 = some r) (hI : Inv B G (Γ) W) :
    Calls Tryd.prog 45 [.string a0].toArray W (Ret B (fun v G' Γ' => v = .string r ∧ G = G' ∧ Γ = Γ')) := by
  unfold tokens_Norm at h
  by_cases hs : a0.size ≤ 35184372088832
  case neg => rw [if_neg hs] at h; cases h
  rw [if_pos hs] at h
  obtain rfl := Option.some.inj h
  exact Calls.kept (Tryd.norm_walk a0 W hs (HT.u8 hI) (HT.ca hI)) hI

/-! ### grapevine/tokens.Of: function 40 -/
def tokens_Of_l0 (t6 : List ByteArray) : Nat → (List T64) → Int → Option (List T64)
  | 0, _, _ => none
  | k + 1, y12, y13 => (if y13 < (t6.length : Int) then (if 0 ≤ y13 ∧ y13 < (t6.length : Int) then ((some (t6.getD y13.toNat (⟨#[]⟩ : ByteArray))).bind fun v18 => ((tokens_Norm v18).bind fun t20 => (if y12.length + ([(⟨t20, y13⟩ : T64)] : List T64).length ≤ 1073741824 then tokens_Of_l0 t6 k (y12 ++ ([(⟨t20, y13⟩ : T64)] : List T64)) (IntKind.i64.wrap (y13 + 1)) else none))) else none) else some y12)
def tokens_Of (k : Nat) (a0 : ByteArray) : Option (List T64) := ((tokens_May a0).bind fun t1 => (if (!t1) = true then some ([] : List T64) else ((strings_FieldsFunc a0).bind fun t6 => ((tokens_Of_l0 t6 k ([] : List T64) 0).bind fun s10 => some s10))))
set_option maxHeartbeats 4000000 in
theorem tokens_Of_calls {B : World} {G : GMap} {Γ : List Chunk} {W : World} (HT : Tabs B G) (k : Nat) (a0 : ByteArray) (r : List T64) (h : tokens_Of k a0 = some r) (hI : Inv B G (Γ) W) :
    Calls Tryd.prog 40 [.string a0].toArray W (Ret B (fun v G' Γ' => ∃ (AR : Option Addr), ∃ (cR : Nat), ∃ (CR : Chunk), v = .slice AR r.length cR ∧ Ow k64 G' AR cR r CR ∧ G = G' ∧ CR :: Γ = Γ')) := by
  refine calls_WP (Γ := Γ) (G := G) (B := B) Tryd.func40 rfl (by kernel_rfl) ?_ hI
  clear hI
  unfold tokens_Of at h
  refine WP.seqP [0] (L' := [(0, .string a0)]) (by kernel_rfl) ?_
  refine WP.seq ?_
  refine WP.seqR ?_
  refine WL.pure 0 1 [0, 6] (L' := [(0, .string a0), (6, .string a0)]) (by kernel_rfl) (by decide) ?_
  rw [Option.bind_eq_some_iff] at h
  obtain ⟨t1, ht2, h⟩ := h
  refine WL.op (op := .call { callee := (.value (.func 43)), args := #[(.tmp 6)], argTypes := #[9] }) (ty := 4) (d := some 7) (g := none) (by kernel_rfl) (by kernel_rfl) (by kernel_rfl) (Does.call (f := 43) (args := [.string a0]) (by kernel_rfl) (fun W hI => (tokens_May_calls HT a0  t1 ht2 hI))) ?_
  rintro _ _ _ ⟨rfl, rfl, rfl⟩
  refine WL.restQ 2 [0, 8] (L' := [(0, .string a0), (8, .bool (!t1))]) (by kernel_rfl) ?_
  refine WP.cond (b := (!t1)) (by kernel_rfl) (fun hc => ?_) (fun hc => ?_)
  · replace hc := hc
    rw [if_pos hc] at h
    have hc5 := hc
    clear hc
    refine WP.seqP [2] (L' := [(2, .slice none 0 0)]) (by kernel_rfl) ?_
    refine WP.ret ?_
    refine QP.thenR ?_
    obtain rfl := Option.some.inj h
    refine QP.addNil ?_
    exact QP.returned [2] [.slice none ([] : List T64).length 0] _ (by kernel_rfl) (by kernel_rfl) (by kernel_rfl) (fun W hI => ⟨_, _, _, rfl, ⟨none, 0, [], rfl, (Ow.nil k64 _), rfl, rfl⟩, hI⟩)
  · replace hc := (Bool.eq_false_iff.1 hc)
    rw [if_neg hc] at h
    have hc5 := hc
    clear hc
    refine WP.skip ?_
    refine QP.next ?_
    refine WP.pick [0] ?_
    refine WP.seqP [0, 3] (L' := [(0, .string a0), (3, .slice none 0 0)]) (by kernel_rfl) ?_
    refine WP.seq ?_
    refine WP.seqR ?_
    refine WL.pure 0 1 [3, 9] (L' := [(3, .slice none 0 0), (9, .string a0)]) (by kernel_rfl) (by decide) ?_
    rw [Option.bind_eq_some_iff] at h
    obtain ⟨t6, ht7, h⟩ := h
    refine WL.op (op := .call { callee := (.value (.func 64)), args := #[(.tmp 9), (.func 65)], argTypes := #[9, 78] }) (ty := 62) (d := some 10) (g := none) (by kernel_rfl) (by kernel_rfl) (by kernel_rfl) (Does.call (f := 64) (args := [.string a0, .func (.func 65) #[] #[]]) (by kernel_rfl) (fun W hI => (strings_FieldsFunc_calls HT a0  t6 ht7 hI))) ?_
    rintro _ _ _ ⟨AR8, cR8, CR8, rfl, HR8, rfl, rfl⟩
    refine WL.restQ 2 [3, 10, 11, 12] (L' := [(3, .slice none 0 0), (10, .slice AR8 t6.length cR8), (11, .int .i64 (t6.length : Int)), (12, .int .i64 0)]) (by kernel_rfl) ?_
    rw [Option.bind_eq_some_iff] at h
    obtain ⟨os10, h, hk11⟩ := h
    refine WP.cutQ (fun L' G' Γ' => ∃ s10 : (List T64), s10 = os10 ∧ ∃ (As10 : Option Addr), ∃ (cs10 : Nat), ∃ (Cs10 : Chunk), L' = [(3, .slice As10 s10.length cs10)] ∧ G = G' ∧ Cs10 :: Γ = Γ' ∧ Ow k64 G As10 cs10 s10 Cs10) ?_ ?_
    · clear hk11
      refine WP.block ?_
      refine WP.addNil ?_
      refine WP.pick [3, 10, 11, 12] ?_
      refine WP.loopF (fun kn14 L' G' Γ' => ∃ (y12 : List T64), ∃ (y13 : Int), tokens_Of_l0 t6 kn14 y12 y13 = some os10 ∧ ∃ (Ay12 : Option Addr), ∃ (cy12 : Nat), ∃ (Cy12 : Chunk), L' = [(3, .slice Ay12 y12.length cy12), (10, .slice AR8 t6.length cR8), (11, .int .i64 (t6.length : Int)), (12, .int .i64 y13)] ∧ G = G' ∧ Cy12 :: CR8 :: Γ = Γ' ∧ Ow k64 G Ay12 cy12 y12 Cy12) ?_ k ⟨([] : List T64), 0, h, none, 0, [], rfl, rfl, rfl, (Ow.nil k64 _)⟩
      clear h
      rintro kn15 _ _ _ ⟨y12, y13, h, Ay12, cy12, Cy12, rfl, rfl, rfl, Hy12⟩
      cases kn15 with
      | zero => exact absurd h (by simp [tokens_Of_l0])
      | succ kn15 =>
        simp only [tokens_Of_l0] at h
        refine WP.seqP [3, 10, 11, 12, 13] (L' := [(3, .slice Ay12 y12.length cy12), (10, .slice AR8 t6.length cR8), (11, .int .i64 (t6.length : Int)), (12, .int .i64 y13), (13, .bool (decide (y13 < (t6.length : Int))))]) (by kernel_rfl) ?_
        refine WP.seq ?_
        refine WP.cond (b := decide (y13 < (t6.length : Int))) (by kernel_rfl) (fun hc => ?_) (fun hc => ?_)
        · replace hc := of_decide_eq_true hc
          rw [if_pos hc] at h
          have hc16 := hc
          clear hc
          refine WP.skip ?_
          refine QP.next ?_
          refine WP.pick [3, 10, 11, 12] ?_
          refine WP.seq ?_
          refine WP.block ?_
          refine WP.seqR ?_
          refine WL.pure 0 1 [3, 10, 11, 12, 14] (L' := [(3, .slice Ay12 y12.length cy12), (10, .slice AR8 t6.length cR8), (11, .int .i64 (t6.length : Int)), (12, .int .i64 y13), (14, .int .i64 y13)]) (by kernel_rfl) (by decide) ?_
          by_cases hb17 : 0 ≤ y13 ∧ y13 < (t6.length : Int)
          case neg => rw [if_neg hb17] at h; cases h
          rw [if_pos hb17] at h
          refine WL.tell (op := .indexAddr 62 (.tmp 10) (.tmp 12)) (ty := 0) (d := some 15) (g := none) (by kernel_rfl) (by kernel_rfl) (by kernel_rfl) (Tells.indexAddr (A := AR8) (n := t6.length) (c := cR8) (k := .i64) (j := y13) (by kernel_rfl) (by kernel_rfl) (HR8.isSome hb17.1 hb17.2) hb17.1 hb17.2 sl62) ?_
          refine WL.tellE (op := .load 9 (.tmp 15)) (ty := 9) (d := some 16) (g := none) (by kernel_rfl) (by kernel_rfl) (by kernel_rfl) (HR8.load (i := 1) rfl (agg := false) hb17.1 hb17.2 (⟨#[]⟩ : ByteArray) ag9 (fun _ => rfl) (by kernel_rfl)) ?_
          rintro _ rfl
          refine WL.restQ 3 [3, 4, 5, 10, 11, 12] (L' := [(3, .slice Ay12 y12.length cy12), (4, .int .i64 y13), (5, .string (t6.getD y13.toNat (⟨#[]⟩ : ByteArray))), (10, .slice AR8 t6.length cR8), (11, .int .i64 (t6.length : Int)), (12, .int .i64 y13)]) (by kernel_rfl) ?_
          obtain ⟨v18, hv19, h⟩ := Option.bind_eq_some_iff.1 h
          replace hv19 := Option.some.inj hv19
          refine WP.reput 5 (v := .string (t6.getD y13.toNat (⟨#[]⟩ : ByteArray))) (v' := .string v18) (by kernel_rfl) (by subst hv19; rfl) ?_
          refine WP.pick [3, 4, 5, 10, 11, 12] ?_
          refine WP.region ?_
          refine WL.pure 0 2 [3, 4, 10, 11, 12, 17, 18] (L' := [(3, .slice Ay12 y12.length cy12), (4, .int .i64 y13), (10, .slice AR8 t6.length cR8), (11, .int .i64 (t6.length : Int)), (12, .int .i64 y13), (17, .slice Ay12 y12.length cy12), (18, .string v18)]) (by kernel_rfl) (by decide) ?_
          rw [Option.bind_eq_some_iff] at h
          obtain ⟨t20, ht21, h⟩ := h
          refine WL.op (op := .call { callee := (.value (.func 45)), args := #[(.tmp 18)], argTypes := #[9] }) (ty := 9) (d := some 19) (g := none) (by kernel_rfl) (by kernel_rfl) (by kernel_rfl) (Does.call (f := 45) (args := [.string v18]) (by kernel_rfl) (fun W hI => (tokens_Norm_calls HT v18  t20 ht21 hI))) ?_
          rintro _ _ _ ⟨rfl, rfl, rfl⟩
          refine WL.pure 3 5 [3, 10, 11, 12, 17, 21] (L' := [(3, .slice Ay12 y12.length cy12), (10, .slice AR8 t6.length cR8), (11, .int .i64 (t6.length : Int)), (12, .int .i64 y13), (17, .slice Ay12 y12.length cy12), (21, .agg #[.string t20, .int .i64 y13])]) (by kernel_rfl) (by decide) ?_
          refine WL.op (op := .buildSlice 56 1 #[(0, (.tmp 21))]) (ty := 56) (d := some 22) (g := none) (by kernel_rfl) (by kernel_rfl) (by kernel_rfl) (Does.new (o := .cells #[.string t20, .int .i64 y13] 64 (0, 0)) (v := fun r => .slice (some ⟨r, 0, none⟩) 1 1) (fun r => by kernel_rfl)) ?_
          rintro _ _ _ ⟨b24, rfl, rfl, rfl⟩
          have Ho26 : Ow k64 G (some ⟨b24, 0, none⟩) 1 ([(⟨t20, y13⟩ : T64)] : List T64) [(b24, .cells #[.string t20, .int .i64 y13] 64 (0, 0))] := Ow.lit (kd := k64) (G := G) (b := b24) (T := 64) (xs := ([(⟨t20, y13⟩ : T64)] : List T64)) (cs := [.string t20, .int .i64 y13]) (.cons (x := (⟨t20, y13⟩ : T64)) (cs := [.string t20, .int .i64 y13]) (by exact rfl) .nil)
          by_cases hb27 : y12.length + ([(⟨t20, y13⟩ : T64)] : List T64).length ≤ 1073741824
          case neg => rw [if_neg hb27] at h; cases h
          rw [if_pos hb27] at h
          refine WL.op (op := .call { callee := (.builtin .append), args := #[(.tmp 17), (.tmp 22)], argTypes := #[56, 56] }) (ty := 56) (d := some 23) (g := none) (by kernel_rfl) (by kernel_rfl) (by kernel_rfl) (Ow.append (ys := ([(⟨t20, y13⟩ : T64)] : List T64)) (v := .slice (some ⟨b24, 0, none⟩) ([(⟨t20, y13⟩ : T64)] : List T64).length 1) Hy12 (i := 1) rfl (by kernel_rfl) (by kernel_rfl) (Ho26.src (i := 0) rfl) sl56 ze64 nt56 (by decide) hb27) ?_
          rintro _ _ _ ⟨rfl, AN28, cN28, CN28, rfl, HN28, rfl⟩
          refine WL.rest 7 [3, 10, 11, 12] (L' := [(3, .slice AN28 (y12 ++ ([(⟨t20, y13⟩ : T64)] : List T64)).length cN28), (10, .slice AR8 t6.length cR8), (11, .int .i64 (t6.length : Int)), (12, .int .i64 y13)]) (by kernel_rfl) ?_
          refine QP.blockN ?_
          refine QP.next ?_
          refine WP.pick [3, 10, 11, 12] ?_
          refine WP.regionP [3, 10, 11, 12] (L' := [(3, .slice AN28 (y12 ++ ([(⟨t20, y13⟩ : T64)] : List T64)).length cN28), (10, .slice AR8 t6.length cR8), (11, .int .i64 (t6.length : Int)), (12, .int .i64 (IntKind.i64.wrap (y13 + 1)))]) (by kernel_rfl) ?_
          refine QP.dropAt 0 ?_
          refine QP.front (i := 1) rfl ?_
          refine QP.front (i := 1) rfl ?_
          refine QP.pick [3, 10, 11, 12] ?_
          exact QP.meet ⟨kn15, Nat.lt_succ_self _, (y12 ++ ([(⟨t20, y13⟩ : T64)] : List T64)), (IntKind.i64.wrap (y13 + 1)), h, AN28, cN28, CN28, rfl, rfl, rfl, HN28⟩
        · replace hc := of_decide_eq_false hc
          rw [if_neg hc] at h
          have hc16 := hc
          clear hc
          refine WP.exit ?_
          refine QP.thenE ?_
          refine QP.thenE ?_
          refine QP.blockE ?_
          refine QP.dropAt 1 ?_
          refine QP.pick [3] ?_
          exact QP.meet ⟨_, Option.some.inj h, Ay12, cy12, Cy12, rfl, rfl, rfl, Hy12⟩
    · rintro _ _ _ ⟨s10, rfl, As10, cs10, Cs10, rfl, rfl, rfl, Hs10⟩
      clear h
      replace h := hk11
      refine QP.next ?_
      refine WP.pick [3] ?_
      refine WP.seqP [2] (L' := [(2, .slice As10 s10.length cs10)]) (by kernel_rfl) ?_
      refine WP.ret ?_
      obtain rfl := Option.some.inj h
      exact QP.returned [2] [.slice As10 s10.length cs10] _ (by kernel_rfl) (by kernel_rfl) (by kernel_rfl) (fun W hI => ⟨_, _, _, rfl, ⟨As10, cs10, Cs10, rfl, Hs10, rfl, rfl⟩, hI⟩)

/-! ### grapevine/grapevinelaw0.SameWords: function 41 -/
def grapevinelaw0_SameWords_l0 (l0 : List T64) (l1 : List T64) : Nat → Int → Option (Sum Bool Unit)
  | 0, _ => none
  | k + 1, y4 => (if y4 < (l0.length : Int) then (if 0 ≤ y4 ∧ y4 < (l0.length : Int) then (if 0 ≤ y4 ∧ y4 < (l1.length : Int) then (if ¬ (l0.getD y4.toNat z64) = (l1.getD y4.toNat z64) then some (Sum.inl false) else grapevinelaw0_SameWords_l0 l0 l1 k (IntKind.i64.wrap (y4 + 1))) else none) else none) else some (Sum.inr ()))
def grapevinelaw0_SameWords (k : Nat) (l0 : List T64) (l1 : List T64) : Option Bool := (if ¬ (l0.length : Int) = (l1.length : Int) then some false else ((grapevinelaw0_SameWords_l0 l0 l1 k 0).bind fun os2 => match os2 with | Sum.inl r => some r | Sum.inr s2 => some true))
set_option maxHeartbeats 4000000 in
theorem grapevinelaw0_SameWords_calls {B : World} {G : GMap} {Γ : List Chunk} {W : World} (k : Nat) (l0 : List T64) (l1 : List T64) (Al0 : Option Addr) (cl0 : Nat) (Hl0 : Rd k64 G Al0 cl0 l0) (Al1 : Option Addr) (cl1 : Nat) (Hl1 : Rd k64 G Al1 cl1 l1) (r : Bool) (h : grapevinelaw0_SameWords k l0 l1 = some r) (hI : Inv B G (Γ) W) :
    Calls Tryd.prog 41 [.slice Al0 l0.length cl0, .slice Al1 l1.length cl1].toArray W (Ret B (fun v G' Γ' => v = .bool r ∧ G = G' ∧ Γ = Γ')) := by
  refine calls_WP (Γ := Γ) (G := G) (B := B) Tryd.func41 rfl (by kernel_rfl) ?_ hI
  clear hI
  unfold grapevinelaw0_SameWords at h
  refine WP.seqP [0, 1] (L' := [(0, .slice Al0 l0.length cl0), (1, .slice Al1 l1.length cl1)]) (by kernel_rfl) ?_
  refine WP.seq ?_
  refine WP.seqP [0, 1, 10] (L' := [(0, .slice Al0 l0.length cl0), (1, .slice Al1 l1.length cl1), (10, .bool ((l0.length : Int) != (l1.length : Int)))]) (by kernel_rfl) ?_
  refine WP.cond (b := ((l0.length : Int) != (l1.length : Int))) (by kernel_rfl) (fun hc => ?_) (fun hc => ?_)
  · replace hc := (bne_iff_ne.1 hc)
    rw [if_pos hc] at h
    have hc1 := hc
    clear hc
    refine WP.seqP [4] (L' := [(4, .bool false)]) (by kernel_rfl) ?_
    refine WP.ret ?_
    refine QP.thenR ?_
    obtain rfl := Option.some.inj h
    exact QP.returned [4] [.bool false] _ (by kernel_rfl) (by kernel_rfl) (by kernel_rfl) (fun W hI => ⟨_, _, _, rfl, ⟨rfl, rfl, rfl⟩, hI⟩)
  · replace hc := (not_not_intro (bne_eq_false_iff_eq.1 hc))
    rw [if_neg hc] at h
    have hc1 := hc
    clear hc
    refine WP.skip ?_
    refine QP.next ?_
    refine WP.pick [0, 1] ?_
    refine WP.seq ?_
    refine WP.seqP [0, 1, 5] (L' := [(0, .slice Al0 l0.length cl0), (1, .slice Al1 l1.length cl1), (5, .int .i64 0)]) (by kernel_rfl) ?_
    rw [Option.bind_eq_some_iff] at h
    obtain ⟨os2, h, hk3⟩ := h
    refine WP.cutQ (fun L' G' Γ' => ∃ s2 : Unit, Sum.inr s2 = os2 ∧ L' = [] ∧ G = G' ∧ Γ = Γ') ?_ ?_
    · skip
      refine WP.block ?_
      refine WP.pick [0, 1, 5] ?_
      refine WP.loopF (fun kn5 L' G' Γ' => ∃ (y4 : Int), grapevinelaw0_SameWords_l0 l0 l1 kn5 y4 = some os2 ∧ L' = [(0, .slice Al0 l0.length cl0), (1, .slice Al1 l1.length cl1), (5, .int .i64 y4)] ∧ G = G' ∧ Γ = Γ') ?_ k ⟨0, h, rfl, rfl, rfl⟩
      clear h
      rintro kn6 _ _ _ ⟨y4, h, rfl, rfl, rfl⟩
      cases kn6 with
      | zero => exact absurd h (by simp [grapevinelaw0_SameWords_l0])
      | succ kn6 =>
        simp only [grapevinelaw0_SameWords_l0] at h
        refine WP.seq ?_
        refine WP.seqP [0, 1, 5, 14] (L' := [(0, .slice Al0 l0.length cl0), (1, .slice Al1 l1.length cl1), (5, .int .i64 y4), (14, .bool (decide (y4 < (l0.length : Int))))]) (by kernel_rfl) ?_
        refine WP.cond (b := decide (y4 < (l0.length : Int))) (by kernel_rfl) (fun hc => ?_) (fun hc => ?_)
        · replace hc := of_decide_eq_true hc
          rw [if_pos hc] at h
          have hc7 := hc
          clear hc
          refine WP.skip ?_
          refine QP.next ?_
          refine WP.pick [0, 1, 5] ?_
          refine WP.seq ?_
          refine WP.block ?_
          refine WP.seq ?_
          refine WP.any (N := 9) (S := [⟨some 17, [0], []⟩, ⟨some 18, [5], []⟩, ⟨some 19, [17, 18], [0, 1]⟩, ⟨some 20, [19], [2]⟩, ⟨some 21, [1], []⟩, ⟨some 22, [5], []⟩, ⟨some 23, [21, 22], [4, 5]⟩, ⟨some 24, [23], [6]⟩, ⟨some 25, [20, 24], [3, 7]⟩]) (kw := 9) (G0 := G) (Γ0 := Γ) mo (by kernel_rfl) (fun hS => ?_)
          refine WA.pure [0, 1, 4, 5] [0, 1, 5, 17, 18, 21, 22] (m := 5) (b' := 51) (L' := [(0, .slice Al0 l0.length cl0), (1, .slice Al1 l1.length cl1), (5, .int .i64 y4), (17, .slice Al0 l0.length cl0), (18, .int .i64 y4), (21, .slice Al1 l1.length cl1), (22, .int .i64 y4)]) (by kernel_rfl) (NoPanic.then (NoPanic.block (NoPanic.then (NoPanic.then (NoPanic.block (NoPanic.then (NoPanic.then (NoPanic.body)))))))) Under.refl hS (by kernel_rfl) ?_
          by_cases hb8 : 0 ≤ y4 ∧ y4 < (l0.length : Int)
          case neg => rw [if_neg hb8] at h; cases h
          rw [if_pos hb8] at h
          refine WA.tellD [] (i := 2) (m := 4) (b' := 55) (by kernel_rfl) (NoPanic.then (NoPanic.block (NoPanic.then (NoPanic.then (NoPanic.block (NoPanic.then (NoPanic.then (NoPanic.body)))))))) Under.refl hS (by kernel_rfl) (op := .indexAddr 56 (.tmp 17) (.tmp 18)) (ty := 0) (d := some 19) (g := none) (by kernel_rfl) (by kernel_rfl) (by kernel_rfl) (Tells.indexAddr (A := Al0) (n := l0.length) (c := cl0) (k := .i64) (j := y4) (by kernel_rfl) (by kernel_rfl) (Hl0.isSome hb8.1 hb8.2) hb8.1 hb8.2 sl56) ?_
          refine WA.tellDE [] (i := 3) (m := 3) (b' := 63) (by kernel_rfl) (NoPanic.then (NoPanic.block (NoPanic.then (NoPanic.then (NoPanic.block (NoPanic.then (NoPanic.then (NoPanic.body)))))))) Under.refl hS (by kernel_rfl) (op := .load 64 (.tmp 19)) (ty := 64) (d := some 20) (g := none) (by kernel_rfl) (by kernel_rfl) (by kernel_rfl) (Hl0.load (agg := true) hb8.1 hb8.2 z64 ag64 (fun h => by cases h) (by kernel_rfl)) ?_
          rintro _ rfl
          by_cases hb9 : 0 ≤ y4 ∧ y4 < (l1.length : Int)
          case neg => rw [if_neg hb9] at h; cases h
          rw [if_pos hb9] at h
          refine WA.tellD [] (i := 6) (m := 2) (b' := 127) (by kernel_rfl) (NoPanic.then (NoPanic.block (NoPanic.then (NoPanic.then (NoPanic.block (NoPanic.then (NoPanic.then (NoPanic.body)))))))) Under.refl hS (by kernel_rfl) (op := .indexAddr 56 (.tmp 21) (.tmp 22)) (ty := 0) (d := some 23) (g := none) (by kernel_rfl) (by kernel_rfl) (by kernel_rfl) (Tells.indexAddr (A := Al1) (n := l1.length) (c := cl1) (k := .i64) (j := y4) (by kernel_rfl) (by kernel_rfl) (Hl1.isSome hb9.1 hb9.2) hb9.1 hb9.2 sl56) ?_
          refine WA.tellDE [] (i := 7) (m := 1) (b' := 255) (by kernel_rfl) (NoPanic.then (NoPanic.block (NoPanic.then (NoPanic.then (NoPanic.block (NoPanic.then (NoPanic.then (NoPanic.body)))))))) Under.refl hS (by kernel_rfl) (op := .load 64 (.tmp 23)) (ty := 64) (d := some 24) (g := none) (by kernel_rfl) (by kernel_rfl) (by kernel_rfl) (Hl1.load (agg := true) hb9.1 hb9.2 z64 ag64 (fun h => by cases h) (by kernel_rfl)) ?_
          rintro _ rfl
          refine WA.tellD [] (i := 8) (m := 0) (b' := 511) (by kernel_rfl) (NoPanic.then (NoPanic.block (NoPanic.then (NoPanic.then (NoPanic.block (NoPanic.then (NoPanic.then (NoPanic.body)))))))) Under.refl hS (by kernel_rfl) (op := .binOp .neq 64 (.tmp 20) (.tmp 24) 64) (ty := 4) (d := some 25) (g := none) (by kernel_rfl) (by kernel_rfl) (by kernel_rfl) (Tells.neAgg (xs := #[.string ((l0.getD y4.toNat z64).f0), .int .i64 ((l0.getD y4.toNat z64).f1)]) (ys := #[.string ((l1.getD y4.toNat z64).f0), .int .i64 ((l1.getD y4.toNat z64).f1)]) (ls := [.str ((l0.getD y4.toNat z64).f0) ((l1.getD y4.toNat z64).f0), .int ((l0.getD y4.toNat z64).f1) ((l1.getD y4.toNat z64).f1)]) (by kernel_rfl) (by kernel_rfl) (by kernel_rfl) eg64) ?_
          refine WA.reput 25 (v := .bool (!([.str ((l0.getD y4.toNat z64).f0) ((l1.getD y4.toNat z64).f0), .int ((l0.getD y4.toNat z64).f1) ((l1.getD y4.toNat z64).f1)].all Lf.ok))) (v' := .bool (!decide ((l0.getD y4.toNat z64) = (l1.getD y4.toNat z64)))) (by kernel_rfl) (by exact (congrArg (fun z => Value.bool (!z)) (eqT64 (l0.getD y4.toNat z64) (l1.getD y4.toNat z64)))) ?_
          refine WA.done hS (by kernel_rfl) ?_
          refine QP.pick [0, 1, 5, 25] ?_
          refine QP.next ?_
          refine WP.cond (b := (!decide ((l0.getD y4.toNat z64) = (l1.getD y4.toNat z64)))) (by kernel_rfl) (fun hc => ?_) (fun hc => ?_)
          · replace hc := (nd_true hc)
            rw [if_pos hc] at h
            have hc10 := hc
            clear hc
            refine WP.seqP [4] (L' := [(4, .bool false)]) (by kernel_rfl) ?_
            refine WP.ret ?_
            refine QP.blockR ?_
            refine QP.thenR ?_
            refine QP.thenR ?_
            refine QP.blockR ?_
            refine QP.thenR ?_
            refine QP.thenR ?_
            obtain rfl := Option.some.inj h
            obtain rfl := Option.some.inj (show some _ = some _ from hk3)
            exact QP.returned [4] [.bool false] _ (by kernel_rfl) (by kernel_rfl) (by kernel_rfl) (fun W hI => ⟨_, _, _, rfl, ⟨rfl, rfl, rfl⟩, hI⟩)
          · replace hc := (nd_false hc)
            rw [if_neg hc] at h
            have hc10 := hc
            clear hc
            refine WP.skip ?_
            refine QP.blockN ?_
            refine QP.next ?_
            refine WP.pick [0, 1, 5] ?_
            refine WP.regionP [0, 1, 5] (L' := [(0, .slice Al0 l0.length cl0), (1, .slice Al1 l1.length cl1), (5, .int .i64 (IntKind.i64.wrap (y4 + 1)))]) (by kernel_rfl) ?_
            refine QP.pick [0, 1, 5] ?_
            exact QP.meet ⟨kn6, Nat.lt_succ_self _, (IntKind.i64.wrap (y4 + 1)), h, rfl, rfl, rfl⟩
        · replace hc := of_decide_eq_false hc
          rw [if_neg hc] at h
          have hc7 := hc
          clear hc
          refine WP.exit ?_
          refine QP.thenE ?_
          refine QP.thenE ?_
          refine QP.blockE ?_
          refine QP.pick [] ?_
          exact QP.meet ⟨_, Option.some.inj h, rfl, rfl, rfl⟩
    · rintro _ _ _ ⟨s2, rfl, rfl, rfl, rfl⟩
      clear h
      replace h := hk3
      dsimp only at h
      refine QP.next ?_
      refine WP.pick [] ?_
      refine WP.seqP [4] (L' := [(4, .bool true)]) (by kernel_rfl) ?_
      refine WP.ret ?_
      obtain rfl := Option.some.inj h
      exact QP.returned [4] [.bool true] _ (by kernel_rfl) (by kernel_rfl) (by kernel_rfl) (fun W hI => ⟨_, _, _, rfl, ⟨rfl, rfl, rfl⟩, hI⟩)

/-! ### strings.ContainsFunc: function 71 -/
def strings_ContainsFunc (a0 : ByteArray) : Option Bool := (if RunesOk tokens_other then some (decide (0 ≤ Lib.idxFunc (fun x => (tokens_other (x : Int)).getD false) true a0)) else none)
set_option maxHeartbeats 4000000 in
theorem strings_ContainsFunc_calls {B : World} {G : GMap} {Γ : List Chunk} {W : World} (HT : Tabs B G) (a0 : ByteArray) (r : Bool) (h : strings_ContainsFunc a0 = some r) (hI : Inv B G (Γ) W) :
    Calls Tryd.prog 71 [.string a0, .func (.func 65) #[] #[]].toArray W (Ret B (fun v G' Γ' => v = .bool r ∧ G = G' ∧ Γ = Γ')) := by
  unfold strings_ContainsFunc at h
  by_cases hs : RunesOk tokens_other
  case neg => rw [if_neg hs] at h; cases h
  rw [if_pos hs] at h
  obtain rfl := Option.some.inj h
  refine Calls.kept (Tryd.strings_ContainsFunc_grows 65 #[] (enters_of Tryd.func65 (by kernel_rfl) rfl) (fun x => (tokens_other (x : Int)).getD false) a0 W (predGrows tokens_other hs fun W' hb x b hx => ?_)) hI
  exact (tokens_other_calls (Tabs.start (Tab.below (HT.all hI) hb)) (x : Int) b hx (Inv.start W')).mono fun e w' hr => by obtain ⟨_, _, _, rfl, ⟨rfl, rfl, rfl⟩, hI'⟩ := hr; exact ⟨rfl, hI'.below⟩

/-! ### grapevine/tokens.One: function 47 -/
def tokens_One (a0 : ByteArray) : Option Bool := ((if (!(a0.toList == (⟨#[]⟩ : ByteArray).toList)) = true then ((utf8_ValidString a0).bind fun t4 => (if t4 = true then ((strings_ContainsFunc a0).bind fun t9 => some (!t9)) else some false)) else some false).bind fun s1 => some s1)
set_option maxHeartbeats 4000000 in
theorem tokens_One_calls {B : World} {G : GMap} {Γ : List Chunk} {W : World} (HT : Tabs B G) (a0 : ByteArray) (r : Bool) (h : tokens_One a0 = some r) (hI : Inv B G (Γ) W) :
    Calls Tryd.prog 47 [.string a0].toArray W (Ret B (fun v G' Γ' => v = .bool r ∧ G = G' ∧ Γ = Γ')) := by
  refine calls_WP (Γ := Γ) (G := G) (B := B) Tryd.func47 rfl (by kernel_rfl) ?_ hI
  clear hI
  unfold tokens_One at h
  refine WP.seqP [0] (L' := [(0, .string a0)]) (by kernel_rfl) ?_
  rw [Option.bind_eq_some_iff] at h
  obtain ⟨os1, h, hk2⟩ := h
  refine WP.cut (fun L' G' Γ' => ∃ s1 : Bool, s1 = os1 ∧ L' = [(2, .bool s1)] ∧ G = G' ∧ Γ = Γ') ?_ ?_
  · clear hk2
    refine WP.region ?_
    refine WL.pure 0 3 [0, 5] (L' := [(0, .string a0), (5, .bool (!(a0.toList == (⟨#[]⟩ : ByteArray).toList)))]) (by kernel_rfl) (by decide) ?_
    refine WL.split 5 (b := (!(a0.toList == (⟨#[]⟩ : ByteArray).toList))) (by kernel_rfl) (fun hc => ?_) (fun hc => ?_)
    · replace hc := hc
      rw [if_pos hc] at h
      have hc3 := hc
      clear hc
      refine WL.pure 3 4 [0, 5, 6] (L' := [(0, .string a0), (5, .bool true), (6, .string a0)]) (by kernel_rfl) (by decide) ?_
      rw [Option.bind_eq_some_iff] at h
      obtain ⟨t4, ht5, h⟩ := h
      refine WL.op (op := .call { callee := (.value (.func 50)), args := #[(.tmp 6)], argTypes := #[9] }) (ty := 4) (d := some 7) (g := some (2, true)) (by kernel_rfl) (by kernel_rfl) (by kernel_rfl) (Does.call (f := 50) (args := [.string a0]) (by kernel_rfl) (fun W hI => (utf8_ValidString_calls HT a0  t4 ht5 hI))) ?_
      rintro _ _ _ ⟨rfl, rfl, rfl⟩
      refine WL.pure 5 7 [0, 9] (L' := [(0, .string a0), (9, .bool t4)]) (by kernel_rfl) (by decide) ?_
      refine WL.split 9 (b := t4) (by kernel_rfl) (fun hc => ?_) (fun hc => ?_)
      · replace hc := hc
        rw [if_pos hc] at h
        have hc8 := hc
        clear hc
        refine WL.pure 7 8 [9, 10] (L' := [(9, .bool true), (10, .string a0)]) (by kernel_rfl) (by decide) ?_
        rw [Option.bind_eq_some_iff] at h
        obtain ⟨t9, ht10, h⟩ := h
        refine WL.op (op := .call { callee := (.value (.func 71)), args := #[(.tmp 10), (.func 65)], argTypes := #[9, 78] }) (ty := 4) (d := some 11) (g := some (6, true)) (by kernel_rfl) (by kernel_rfl) (by kernel_rfl) (Does.call (f := 71) (args := [.string a0, .func (.func 65) #[] #[]]) (by kernel_rfl) (fun W hI => (strings_ContainsFunc_calls HT a0  t9 ht10 hI))) ?_
        rintro _ _ _ ⟨rfl, rfl, rfl⟩
        refine WL.rest 9 [2] (L' := [(2, .bool (!t9))]) (by kernel_rfl) ?_
        refine QP.pick [2] ?_
        exact QP.meet ⟨_, Option.some.inj h, rfl, rfl, rfl⟩
      · replace hc := (Bool.eq_false_iff.1 hc)
        rw [if_neg hc] at h
        have hc8 := hc
        clear hc
        refine WL.rest 7 [2] (L' := [(2, .bool false)]) (by kernel_rfl) ?_
        refine QP.pick [2] ?_
        exact QP.meet ⟨_, Option.some.inj h, rfl, rfl, rfl⟩
    · replace hc := (Bool.eq_false_iff.1 hc)
      rw [if_neg hc] at h
      have hc3 := hc
      clear hc
      refine WL.rest 3 [2] (L' := [(2, .bool false)]) (by kernel_rfl) ?_
      refine QP.pick [2] ?_
      exact QP.meet ⟨_, Option.some.inj h, rfl, rfl, rfl⟩
  · rintro _ _ _ ⟨s1, rfl, rfl, rfl, rfl⟩
    clear h
    replace h := hk2
    refine WP.ret ?_
    obtain rfl := Option.some.inj h
    exact QP.returned [2] [.bool s1] _ (by kernel_rfl) (by kernel_rfl) (by kernel_rfl) (fun W hI => ⟨_, _, _, rfl, ⟨rfl, rfl, rfl⟩, hI⟩)

/-! ### grapevine/grapevinelaw1.awake: function 39 -/
def grapevinelaw1_awake (k : Nat) : Option Bool := (((tokens_Of k (⟨#[84, 111, 32, 98, 101, 44, 32, 79, 82]⟩ : ByteArray)).bind fun t3 => ((grapevinelaw0_SameWords k t3 ([(⟨(⟨#[116, 111]⟩ : ByteArray), 0⟩ : T64), (⟨(⟨#[98, 101]⟩ : ByteArray), 1⟩ : T64), (⟨(⟨#[111, 114]⟩ : ByteArray), 2⟩ : T64)] : List T64)).bind fun t10 => (if t10 = true then ((tokens_May (⟨#[97]⟩ : ByteArray)).bind fun t17 => (if t17 = true then ((tokens_May (⟨#[255]⟩ : ByteArray)).bind fun t22 => (if (!t22) = true then ((tokens_Norm (⟨#[65, 49]⟩ : ByteArray)).bind fun t27 => (if (t27.toList == (⟨#[97, 49]⟩ : ByteArray).toList) = true then ((tokens_One (⟨#[97, 49]⟩ : ByteArray)).bind fun t32 => (if t32 = true then ((tokens_One (⟨#[97, 32, 98]⟩ : ByteArray)).bind fun t37 => (if (!t37) = true then ((tokens_One (⟨#[]⟩ : ByteArray)).bind fun t42 => some (!t42)) else some false)) else some false)) else some false)) else some false)) else some false)) else some false))).bind fun s1 => some s1)
set_option maxHeartbeats 4000000 in
theorem grapevinelaw1_awake_calls {B : World} {G : GMap} {Γ : List Chunk} {W : World} (HT : Tabs B G) (k : Nat) (r : Bool) (h : grapevinelaw1_awake k  = some r) (hI : Inv B G (Γ) W) :
    Calls Tryd.prog 39 [].toArray W (Ret B (fun v G' Γ' => v = .bool r ∧ G = G' ∧ Γ = Γ')) := by
  refine calls_WP (Γ := Γ) (G := G) (B := B) Tryd.func39 rfl (by kernel_rfl) ?_ hI
  clear hI
  unfold grapevinelaw1_awake at h
  refine WP.seqP [] (L' := []) (by kernel_rfl) ?_
  rw [Option.bind_eq_some_iff] at h
  obtain ⟨os1, h, hk2⟩ := h
  refine WP.cut (fun L' G' Γ' => ∃ s1 : Bool, s1 = os1 ∧ L' = [(0, .bool s1)] ∧ G = G' ∧ Γ = Γ') ?_ ?_
  · clear hk2
    refine WP.region ?_
    rw [Option.bind_eq_some_iff] at h
    obtain ⟨t3, ht4, h⟩ := h
    refine WL.op (op := .call { callee := (.value (.func 40)), args := #[(.const (.string { data := #[84, 111, 32, 98, 101, 44, 32, 79, 82] }))], argTypes := #[9] }) (ty := 56) (d := some 1) (g := none) (by kernel_rfl) (by kernel_rfl) (by kernel_rfl) (Does.call (f := 40) (args := [.string (⟨#[84, 111, 32, 98, 101, 44, 32, 79, 82]⟩ : ByteArray)]) (by kernel_rfl) (fun W hI => (tokens_Of_calls HT k (⟨#[84, 111, 32, 98, 101, 44, 32, 79, 82]⟩ : ByteArray)  t3 ht4 hI))) ?_
    rintro _ _ _ ⟨AR5, cR5, CR5, rfl, HR5, rfl, rfl⟩
    refine WL.pure 1 4 [1, 2, 3, 4] (L' := [(1, .slice AR5 t3.length cR5), (2, .agg #[.string (⟨#[116, 111]⟩ : ByteArray), .int .i64 0]), (3, .agg #[.string (⟨#[98, 101]⟩ : ByteArray), .int .i64 1]), (4, .agg #[.string (⟨#[111, 114]⟩ : ByteArray), .int .i64 2])]) (by kernel_rfl) (by decide) ?_
    refine WL.op (op := .buildSlice 56 3 #[(0, (.tmp 2)), (1, (.tmp 3)), (2, (.tmp 4))]) (ty := 56) (d := some 5) (g := none) (by kernel_rfl) (by kernel_rfl) (by kernel_rfl) (Does.new (o := .cells #[.string (⟨#[116, 111]⟩ : ByteArray), .int .i64 0, .string (⟨#[98, 101]⟩ : ByteArray), .int .i64 1, .string (⟨#[111, 114]⟩ : ByteArray), .int .i64 2] 64 (0, 0)) (v := fun r => .slice (some ⟨r, 0, none⟩) 3 3) (fun r => by kernel_rfl)) ?_
    rintro _ _ _ ⟨b7, rfl, rfl, rfl⟩
    have Ho9 : Ow k64 G (some ⟨b7, 0, none⟩) 3 ([(⟨(⟨#[116, 111]⟩ : ByteArray), 0⟩ : T64), (⟨(⟨#[98, 101]⟩ : ByteArray), 1⟩ : T64), (⟨(⟨#[111, 114]⟩ : ByteArray), 2⟩ : T64)] : List T64) [(b7, .cells #[.string (⟨#[116, 111]⟩ : ByteArray), .int .i64 0, .string (⟨#[98, 101]⟩ : ByteArray), .int .i64 1, .string (⟨#[111, 114]⟩ : ByteArray), .int .i64 2] 64 (0, 0))] := Ow.lit (kd := k64) (G := G) (b := b7) (T := 64) (xs := ([(⟨(⟨#[116, 111]⟩ : ByteArray), 0⟩ : T64), (⟨(⟨#[98, 101]⟩ : ByteArray), 1⟩ : T64), (⟨(⟨#[111, 114]⟩ : ByteArray), 2⟩ : T64)] : List T64)) (cs := [.string (⟨#[116, 111]⟩ : ByteArray), .int .i64 0, .string (⟨#[98, 101]⟩ : ByteArray), .int .i64 1, .string (⟨#[111, 114]⟩ : ByteArray), .int .i64 2]) (.cons (x := (⟨(⟨#[116, 111]⟩ : ByteArray), 0⟩ : T64)) (cs := [.string (⟨#[116, 111]⟩ : ByteArray), .int .i64 0]) (by exact rfl) (.cons (x := (⟨(⟨#[98, 101]⟩ : ByteArray), 1⟩ : T64)) (cs := [.string (⟨#[98, 101]⟩ : ByteArray), .int .i64 1]) (by exact rfl) (.cons (x := (⟨(⟨#[111, 114]⟩ : ByteArray), 2⟩ : T64)) (cs := [.string (⟨#[111, 114]⟩ : ByteArray), .int .i64 2]) (by exact rfl) .nil)))
    rw [Option.bind_eq_some_iff] at h
    obtain ⟨t10, ht11, h⟩ := h
    refine WL.op (op := .call { callee := (.value (.func 41)), args := #[(.tmp 1), (.tmp 5)], argTypes := #[56, 56] }) (ty := 4) (d := some 6) (g := none) (by kernel_rfl) (by kernel_rfl) (by kernel_rfl) (Does.call (Φ := fun v' G' Γ' => v' = .bool t10 ∧ G = G' ∧ [(b7, .cells #[.string (⟨#[116, 111]⟩ : ByteArray), .int .i64 0, .string (⟨#[98, 101]⟩ : ByteArray), .int .i64 1, .string (⟨#[111, 114]⟩ : ByteArray), .int .i64 2] 64 (0, 0))] :: CR5 :: Γ = Γ') (f := 41) (args := [.slice AR5 t3.length cR5, .slice (some ⟨b7, 0, none⟩) ([(⟨(⟨#[116, 111]⟩ : ByteArray), 0⟩ : T64), (⟨(⟨#[98, 101]⟩ : ByteArray), 1⟩ : T64), (⟨(⟨#[111, 114]⟩ : ByteArray), 2⟩ : T64)] : List T64).length 3]) (by kernel_rfl) (fun W hI => (Calls.lendN (Φ := fun v' N => v' = .bool t10 ∧ N = []) (H := []) (i := 1) rfl hI (fun _ e l14 nl14 hI => by subst e; exact Calls.lendN (Φ := fun v' N => v' = .bool t10 ∧ N = []) (H := []) (i := 0) rfl hI (fun _ e l15 nl15 hI => by subst e; exact (((grapevinelaw0_SameWords_calls k t3 ([(⟨(⟨#[116, 111]⟩ : ByteArray), 0⟩ : T64), (⟨(⟨#[98, 101]⟩ : ByteArray), 1⟩ : T64), (⟨(⟨#[111, 114]⟩ : ByteArray), 2⟩ : T64)] : List T64) AR5 cR5 ((HR5.rdN l14 nl14).mono l15) (some ⟨b7, 0, none⟩) 3 ((Ho9.mono l14).rdN l15 nl15) t10 ht11 hI)).mono fun _ _ hr => by obtain ⟨_, _, _, rfl, hd, hI⟩ := hr; obtain ⟨rfl, rfl, rfl⟩ := hd; exact ⟨_, _, _, rfl, ⟨[], ⟨rfl, rfl⟩, rfl, rfl⟩, hI⟩)))).mono fun _ _ hr => by obtain ⟨_, _, _, rfl, ⟨_, hd, rfl, rfl⟩, hI⟩ := hr; obtain ⟨rfl, rfl⟩ := hd; exact ⟨_, _, _, rfl, ⟨rfl, rfl, rfl⟩, hI⟩)) ?_
    rintro _ _ _ ⟨rfl, rfl, rfl⟩
    refine WL.pure 6 7 [7] (L' := [(7, .bool t10)]) (by kernel_rfl) (by decide) ?_
    refine WL.split 7 (b := t10) (by kernel_rfl) (fun hc => ?_) (fun hc => ?_)
    · replace hc := hc
      rw [if_pos hc] at h
      have hc16 := hc
      clear hc
      rw [Option.bind_eq_some_iff] at h
      obtain ⟨t17, ht18, h⟩ := h
      refine WL.op (op := .call { callee := (.value (.func 43)), args := #[(.const (.string { data := #[97] }))], argTypes := #[9] }) (ty := 4) (d := some 8) (g := some (6, true)) (by kernel_rfl) (by kernel_rfl) (by kernel_rfl) (Does.call (f := 43) (args := [.string (⟨#[97]⟩ : ByteArray)]) (by kernel_rfl) (fun W hI => (tokens_May_calls HT (⟨#[97]⟩ : ByteArray)  t17 ht18 hI))) ?_
      rintro _ _ _ ⟨rfl, rfl, rfl⟩
      refine WL.pure 8 10 [10] (L' := [(10, .bool t17)]) (by kernel_rfl) (by decide) ?_
      refine WL.split 10 (b := t17) (by kernel_rfl) (fun hc => ?_) (fun hc => ?_)
      · replace hc := hc
        rw [if_pos hc] at h
        have hc21 := hc
        clear hc
        rw [Option.bind_eq_some_iff] at h
        obtain ⟨t22, ht23, h⟩ := h
        refine WL.op (op := .call { callee := (.value (.func 43)), args := #[(.const (.string { data := #[255] }))], argTypes := #[9] }) (ty := 4) (d := some 11) (g := some (9, true)) (by kernel_rfl) (by kernel_rfl) (by kernel_rfl) (Does.call (f := 43) (args := [.string (⟨#[255]⟩ : ByteArray)]) (by kernel_rfl) (fun W hI => (tokens_May_calls HT (⟨#[255]⟩ : ByteArray)  t22 ht23 hI))) ?_
        rintro _ _ _ ⟨rfl, rfl, rfl⟩
        refine WL.pure 11 14 [14] (L' := [(14, .bool (!t22))]) (by kernel_rfl) (by decide) ?_
        refine WL.split 14 (b := (!t22)) (by kernel_rfl) (fun hc => ?_) (fun hc => ?_)
        · replace hc := hc
          rw [if_pos hc] at h
          have hc26 := hc
          clear hc
          rw [Option.bind_eq_some_iff] at h
          obtain ⟨t27, ht28, h⟩ := h
          refine WL.op (op := .call { callee := (.value (.func 45)), args := #[(.const (.string { data := #[65, 49] }))], argTypes := #[9] }) (ty := 9) (d := some 15) (g := some (13, true)) (by kernel_rfl) (by kernel_rfl) (by kernel_rfl) (Does.call (f := 45) (args := [.string (⟨#[65, 49]⟩ : ByteArray)]) (by kernel_rfl) (fun W hI => (tokens_Norm_calls HT (⟨#[65, 49]⟩ : ByteArray)  t27 ht28 hI))) ?_
          rintro _ _ _ ⟨rfl, rfl, rfl⟩
          refine WL.pure 15 18 [18] (L' := [(18, .bool (t27.toList == (⟨#[97, 49]⟩ : ByteArray).toList))]) (by kernel_rfl) (by decide) ?_
          refine WL.split 18 (b := (t27.toList == (⟨#[97, 49]⟩ : ByteArray).toList)) (by kernel_rfl) (fun hc => ?_) (fun hc => ?_)
          · replace hc := hc
            rw [if_pos hc] at h
            have hc31 := hc
            clear hc
            rw [Option.bind_eq_some_iff] at h
            obtain ⟨t32, ht33, h⟩ := h
            refine WL.op (op := .call { callee := (.value (.func 47)), args := #[(.const (.string { data := #[97, 49] }))], argTypes := #[9] }) (ty := 4) (d := some 19) (g := some (17, true)) (by kernel_rfl) (by kernel_rfl) (by kernel_rfl) (Does.call (f := 47) (args := [.string (⟨#[97, 49]⟩ : ByteArray)]) (by kernel_rfl) (fun W hI => (tokens_One_calls HT (⟨#[97, 49]⟩ : ByteArray)  t32 ht33 hI))) ?_
            rintro _ _ _ ⟨rfl, rfl, rfl⟩
            refine WL.pure 19 21 [21] (L' := [(21, .bool t32)]) (by kernel_rfl) (by decide) ?_
            refine WL.split 21 (b := t32) (by kernel_rfl) (fun hc => ?_) (fun hc => ?_)
            · replace hc := hc
              rw [if_pos hc] at h
              have hc36 := hc
              clear hc
              rw [Option.bind_eq_some_iff] at h
              obtain ⟨t37, ht38, h⟩ := h
              refine WL.op (op := .call { callee := (.value (.func 47)), args := #[(.const (.string { data := #[97, 32, 98] }))], argTypes := #[9] }) (ty := 4) (d := some 22) (g := some (20, true)) (by kernel_rfl) (by kernel_rfl) (by kernel_rfl) (Does.call (f := 47) (args := [.string (⟨#[97, 32, 98]⟩ : ByteArray)]) (by kernel_rfl) (fun W hI => (tokens_One_calls HT (⟨#[97, 32, 98]⟩ : ByteArray)  t37 ht38 hI))) ?_
              rintro _ _ _ ⟨rfl, rfl, rfl⟩
              refine WL.pure 22 25 [25] (L' := [(25, .bool (!t37))]) (by kernel_rfl) (by decide) ?_
              refine WL.split 25 (b := (!t37)) (by kernel_rfl) (fun hc => ?_) (fun hc => ?_)
              · replace hc := hc
                rw [if_pos hc] at h
                have hc41 := hc
                clear hc
                rw [Option.bind_eq_some_iff] at h
                obtain ⟨t42, ht43, h⟩ := h
                refine WL.op (op := .call { callee := (.value (.func 47)), args := #[(.const (.string { data := #[] }))], argTypes := #[9] }) (ty := 4) (d := some 26) (g := some (24, true)) (by kernel_rfl) (by kernel_rfl) (by kernel_rfl) (Does.call (f := 47) (args := [.string (⟨#[]⟩ : ByteArray)]) (by kernel_rfl) (fun W hI => (tokens_One_calls HT (⟨#[]⟩ : ByteArray)  t42 ht43 hI))) ?_
                rintro _ _ _ ⟨rfl, rfl, rfl⟩
                refine WL.rest 26 [0] (L' := [(0, .bool (!t42))]) (by kernel_rfl) ?_
                refine QP.dropAt 1 ?_
                refine QP.dropAt 0 ?_
                refine QP.pick [0] ?_
                exact QP.meet ⟨_, Option.some.inj h, rfl, rfl, rfl⟩
              · replace hc := (Bool.eq_false_iff.1 hc)
                rw [if_neg hc] at h
                have hc41 := hc
                clear hc
                refine WL.rest 25 [0] (L' := [(0, .bool false)]) (by kernel_rfl) ?_
                refine QP.dropAt 1 ?_
                refine QP.dropAt 0 ?_
                refine QP.pick [0] ?_
                exact QP.meet ⟨_, Option.some.inj h, rfl, rfl, rfl⟩
            · replace hc := (Bool.eq_false_iff.1 hc)
              rw [if_neg hc] at h
              have hc36 := hc
              clear hc
              refine WL.rest 21 [0] (L' := [(0, .bool false)]) (by kernel_rfl) ?_
              refine QP.dropAt 1 ?_
              refine QP.dropAt 0 ?_
              refine QP.pick [0] ?_
              exact QP.meet ⟨_, Option.some.inj h, rfl, rfl, rfl⟩
          · replace hc := (Bool.eq_false_iff.1 hc)
            rw [if_neg hc] at h
            have hc31 := hc
            clear hc
            refine WL.rest 18 [0] (L' := [(0, .bool false)]) (by kernel_rfl) ?_
            refine QP.dropAt 1 ?_
            refine QP.dropAt 0 ?_
            refine QP.pick [0] ?_
            exact QP.meet ⟨_, Option.some.inj h, rfl, rfl, rfl⟩
        · replace hc := (Bool.eq_false_iff.1 hc)
          rw [if_neg hc] at h
          have hc26 := hc
          clear hc
          refine WL.rest 14 [0] (L' := [(0, .bool false)]) (by kernel_rfl) ?_
          refine QP.dropAt 1 ?_
          refine QP.dropAt 0 ?_
          refine QP.pick [0] ?_
          exact QP.meet ⟨_, Option.some.inj h, rfl, rfl, rfl⟩
      · replace hc := (Bool.eq_false_iff.1 hc)
        rw [if_neg hc] at h
        have hc21 := hc
        clear hc
        refine WL.rest 10 [0] (L' := [(0, .bool false)]) (by kernel_rfl) ?_
        refine QP.dropAt 1 ?_
        refine QP.dropAt 0 ?_
        refine QP.pick [0] ?_
        exact QP.meet ⟨_, Option.some.inj h, rfl, rfl, rfl⟩
    · replace hc := (Bool.eq_false_iff.1 hc)
      rw [if_neg hc] at h
      have hc16 := hc
      clear hc
      refine WL.rest 7 [0] (L' := [(0, .bool false)]) (by kernel_rfl) ?_
      refine QP.dropAt 1 ?_
      refine QP.dropAt 0 ?_
      refine QP.pick [0] ?_
      exact QP.meet ⟨_, Option.some.inj h, rfl, rfl, rfl⟩
  · rintro _ _ _ ⟨s1, rfl, rfl, rfl, rfl⟩
    clear h
    replace h := hk2
    refine WP.ret ?_
    obtain rfl := Option.some.inj h
    exact QP.returned [0] [.bool s1] _ (by kernel_rfl) (by kernel_rfl) (by kernel_rfl) (fun W hI => ⟨_, _, _, rfl, ⟨rfl, rfl, rfl⟩, hI⟩)

/-! ### grapevine/grapevinelaw0.Low: function 24 -/
def grapevinelaw0_Low (a0 : Int) (a1 : Int) : Option Int := (if ¬ (IntKind.u64.wrap a1) = 0 then some (IntKind.i64.wrap (Int.tmod (IntKind.u64.wrap a0) (IntKind.u64.wrap a1))) else none)
set_option maxHeartbeats 4000000 in
theorem grapevinelaw0_Low_calls {B : World} {G : GMap} {Γ : List Chunk} {W : World} (a0 : Int) (a1 : Int) (r : Int) (h : grapevinelaw0_Low a0 a1 = some r) (hI : Inv B G (Γ) W) :
    Calls Tryd.prog 24 [.int .i64 a0, .int .i64 a1].toArray W (Ret B (fun v G' Γ' => v = .int .i64 r ∧ G = G' ∧ Γ = Γ')) := by
  refine calls_WP (Γ := Γ) (G := G) (B := B) Tryd.func24 rfl (by kernel_rfl) ?_ hI
  clear hI
  unfold grapevinelaw0_Low at h
  refine WP.seqP [0, 1] (L' := [(0, .int .i64 a0), (1, .int .i64 a1)]) (by kernel_rfl) ?_
  refine WP.seqR ?_
  refine WL.pure 0 4 [6, 8] (L' := [(6, .int .u64 (IntKind.u64.wrap a0)), (8, .int .u64 (IntKind.u64.wrap a1))]) (by kernel_rfl) (by decide) ?_
  by_cases hb1 : ¬ (IntKind.u64.wrap a1) = 0
  case neg => rw [if_neg hb1] at h; cases h
  rw [if_pos hb1] at h
  refine WL.tell (op := .binOp .rem 72 (.tmp 6) (.tmp 8) 72) (ty := 72) (d := some 9) (g := none) (by kernel_rfl) (by kernel_rfl) (by kernel_rfl) (Tells.rem (k := .u64) (a := (IntKind.u64.wrap a0)) (b := (IntKind.u64.wrap a1)) (by kernel_rfl) (by kernel_rfl) hb1) ?_
  refine WL.restQ 5 [4] (L' := [(4, .int .i64 (IntKind.i64.wrap (Int.tmod (IntKind.u64.wrap a0) (IntKind.u64.wrap a1))))]) (by kernel_rfl) ?_
  refine WP.ret ?_
  obtain rfl := Option.some.inj h
  exact QP.returned [4] [.int .i64 (IntKind.i64.wrap (Int.tmod (IntKind.u64.wrap a0) (IntKind.u64.wrap a1)))] _ (by kernel_rfl) (by kernel_rfl) (by kernel_rfl) (fun W hI => ⟨_, _, _, rfl, ⟨rfl, rfl, rfl⟩, hI⟩)
end Go.Proofs.YtjmhhmljldjmjaaDoor.Gf
