/- Values of which something is told, made slices, lending, and what an append may take from. Nothing of any one program is said here. -/
import Derived.Test.YtbphlohiealbeaaGreatDoorGgH
namespace Go.Gg

variable {P : Program} {B : World} {G G' G0 : GMap} {Γ Γ' Γ0 : List Chunk} {L L' : Env} {ty : TypeId} {n : Nat} {Q : Exit → Act → World → Prop} {ops : Array Oper}
variable {α : Type} {kd : Kd α}

section
variable {i : Nat} {op : Op} {d : Option Nat} {g : Option (Nat × Bool)}
theorem WL.tellE {R : List Value → Prop} {V : List Value → Value} (ho : opAt ops i = some (op, ty, d, g)) (hg : wantedE ops L g = some true) (hk : (known L op && notSelect op && fits n d) = true)
    (hs : ∃ cs, R cs ∧ Tells P B G Γ (exec1 (rho L) op ty) (V cs)) (next : ∀ cs, R cs → WL P ops Q (i + 1) n (putE L d (V cs)) B G Γ) : WL P ops Q i n L B G Γ :=
  let ⟨cs, h1, h2⟩ := hs; WL.tell ho hg hk h2 (next cs h1)
theorem WL.tellS {R : Option Addr → Nat → Prop} {V : Option Addr → Nat → Value} (ho : opAt ops i = some (op, ty, d, g)) (hg : wantedE ops L g = some true) (hk : (known L op && notSelect op && fits n d) = true)
    (hs : ∃ A c, R A c ∧ Tells P B G Γ (exec1 (rho L) op ty) (V A c)) (next : ∀ A c, R A c → WL P ops Q (i + 1) n (putE L d (V A c)) B G Γ) : WL P ops Q i n L B G Γ :=
  let ⟨A, c, h1, h2⟩ := hs; WL.tell ho hg hk h2 (next A c h1)
variable {kw M m b b' N : Nat}
theorem WA.tellE {R : List Value → Prop} {V : List Value → Value} (hm : M = m + 1) (hnp : NoPanic Q) (hu : Under B G0 Γ0 G Γ) {S : List Sm} (hS : okSum ops N S = true) (ht : (takesS S N b i && aheadS S N kw b i && (b ||| 1 <<< i) == b') = true) (ho : opAt ops i = some (op, ty, d, g)) (hg : wantedE ops L g = some true) (hk : (known L op && notSelect op && fits n d) = true)
    (hs : ∃ cs, R cs ∧ Tells P B G0 Γ0 (exec1 (rho L) op ty) (V cs)) (next : ∀ cs, R cs → WA P ops Q kw m (arr ops.size b') n (putE L d (V cs)) B G0 Γ0 G Γ) : WA P ops Q kw M (arr ops.size b) n L B G0 Γ0 G Γ :=
  let ⟨cs, h1, h2⟩ := hs; WA.tell hm hnp hu hS ht ho hg hk h2 (next cs h1)
theorem WA.tellS {R : Option Addr → Nat → Prop} {V : Option Addr → Nat → Value} (hm : M = m + 1) (hnp : NoPanic Q) (hu : Under B G0 Γ0 G Γ) {S : List Sm} (hS : okSum ops N S = true) (ht : (takesS S N b i && aheadS S N kw b i && (b ||| 1 <<< i) == b') = true) (ho : opAt ops i = some (op, ty, d, g)) (hg : wantedE ops L g = some true) (hk : (known L op && notSelect op && fits n d) = true)
    (hs : ∃ A c, R A c ∧ Tells P B G0 Γ0 (exec1 (rho L) op ty) (V A c)) (next : ∀ A c, R A c → WA P ops Q kw m (arr ops.size b') n (putE L d (V A c)) B G0 Γ0 G Γ) : WA P ops Q kw M (arr ops.size b) n L B G0 Γ0 G Γ :=
  let ⟨A, c, h1, h2⟩ := hs; WA.tell hm hnp hu hS ht ho hg hk h2 (next A c h1)
end

/-- A place's value, spelled otherwise. -/
theorem Fr.reput {a : Act} {t : Nat} {v v' : Value} (h : Fr n L a) (ht : L.lookup t = some v) (e : v = v') : Fr n ((t, v') :: L) a :=
  ⟨h.defers, h.size, fun s u hs => by
    simp only [List.lookup_cons] at hs
    split at hs
    · rename_i e'; have e' : s = t := by simpa using e'
      subst e'; cases hs; rw [← e]; exact h.holds _ _ ht
    · exact h.holds s u hs⟩
theorem WL.reput {i : Nat} (t : Nat) {v v' : Value} (ht : L.lookup t = some v) (e : v = v') (h : WL P ops Q i n ((t, v') :: L) B G Γ) : WL P ops Q i n L B G Γ := fun a W hF hI => h a W (hF.reput ht e) hI
theorem WA.reput {kw m : Nat} {done : Array Bool} (t : Nat) {v v' : Value} (ht : L.lookup t = some v) (e : v = v') (h : WA P ops Q kw m done n ((t, v') :: L) B G0 Γ0 G Γ) : WA P ops Q kw m done n L B G0 Γ0 G Γ := fun a W hF hI => h a W (hF.reput ht e) hI

/-! ### Slices that are written out -/
inductive LiesL (kd : Kd α) (G : GMap) : List α → List Value → Prop where
  | nil : LiesL kd G [] []
  | cons {x : α} {xs : List α} {cs ds : List Value} : kd.rel G x cs → LiesL kd G xs ds → LiesL kd G (x :: xs) (cs ++ ds)

theorem LiesL.length {xs : List α} {cs : List Value} (h : LiesL kd G xs cs) : cs.length = xs.length * kd.sz := by
  induction h with
  | nil => simp
  | cons h _ ih => rw [List.length_append, kd.len h, ih, List.length_cons, Nat.add_mul]; omega

theorem LiesL.lies {xs : List α} {cs : List Value} (h : LiesL kd G xs cs) : Lies kd G cs.toArray 0 xs := by
  induction h with
  | nil => exact Lies.nil kd G _ _
  | @cons x xs cs ds h hr ih =>
    intro i hi
    cases i with
    | zero =>
      refine ⟨cs, by simpa using h, fun j hj => ?_⟩
      simp [List.getElem?_append_left hj]
    | succ i =>
      obtain ⟨es, he, hc⟩ := ih i (by simpa using hi)
      refine ⟨es, by simpa using he, fun j hj => ?_⟩
      have := hc j hj
      simp only [List.getElem?_toArray] at this ⊢
      have hl := kd.len h
      have e : (i + 1) * kd.sz = i * kd.sz + kd.sz := by rw [Nat.add_mul, Nat.one_mul]
      rw [List.getElem?_append_right (by omega)]
      rw [show 0 + (i + 1) * kd.sz + j - cs.length = 0 + i * kd.sz + j by omega]
      exact this

theorem Ow.lit {b T : Nat} {xs : List α} {cs : List Value} (h : LiesL kd G xs cs) : Ow kd G (some ⟨b, 0, none⟩) xs.length xs [(b, .cells cs.toArray T (0, 0))] :=
  ⟨Nat.le_refl _, .inr ⟨b, cs.toArray, T, (0, 0), rfl, rfl, by simpa using h.length, Free.zero _, h.lies⟩⟩

theorem Src.str (s : ByteArray) : Src P B G Γ (kInt .u8) (.string s) (bytesOf s) := by
  have hl : (bytesOf s).length = s.size := by unfold bytesOf; rw [List.length_map]; rfl
  refine ⟨fun W _ => by rw [hl]; simp [Builtin.lenOf, go_sem], fun m hm => ?_⟩
  refine ⟨((bytesOf s).take m).map (Value.int .u8), by simp [kInt]; omega, fun i hi => ⟨_, rfl, fun j hj => ?_⟩, fun W _ => ?_⟩
  · have hj0 : j = 0 := by simp at hj; omega
    subst hj0
    have hi2 : i < m ∧ i < (bytesOf s).length := by simp only [List.length_take] at hi; omega
    simp [kInt, List.getElem?_take_of_lt hi2.1, hi2.2]
  · have e : (s.extract 0 m).data.map (fun b => Value.int .u8 b.toNat) = (((bytesOf s).take m).map (Value.int .u8)).toArray := by
      apply Array.ext'
      simp [bytesOf, ByteArray.data_extract, List.map_take]
      rfl
    simp only [Builtin.firstCells]
    rw [e]; rfl

/-! ### '[]byte("..")' of a constant: the slice is marked -/
theorem Ow.mark {A : Option Addr} {c : Nat} {xs : List α} {C : Chunk} (h : Ow kd G A c xs C) (hA : A.isSome = true) {i : Nat} (hi : Γ[i]? = some C) {t : TypeId} {x : Operand} (hx : evalE L x = some (.slice A xs.length c)) (ht : bytesTy P t = true) :
    Does P B G Γ (exec1 (rho L) (.convert t t x) ty) fun v G' Γ' => G = G' ∧ ∃ C', v = .slice A xs.length c ∧ Ow kd G A c xs C' ∧ Γ' = Γ.set i C' := by
  obtain ⟨e, h1, h2⟩ := bytesTy_some ht
  rcases h.2 with ⟨rfl, _⟩ | ⟨b, cells, T, fr, rfl, rfl, hsz, hf, hl⟩
  · cases hA
  refine Does.of_val (s := convert t t (rho L x)) fun W hI => ?_
  rw [rho_of hx]
  have hb := hI.chunk hi
  have hsh : W.shape? b = some (T, cells.size) := by simp [World.shape?, hb]
  have hrun : (convert t t (.slice (some ⟨b, 0, none⟩) xs.length c)).run P W = .ok (.slice (some ⟨b, 0, none⟩) xs.length c) (W.freeze ⟨b, cells.size, none⟩ 1) := by
    simp [convert, run_underlying h1, run_underlying h2, markStringish, hsh]
  have hfr : (W.freeze ⟨b, cells.size, none⟩ 1).heap[b]? = some (.cells cells T (if fr.1 == fr.2 then (cells.size, cells.size + 1) else (min fr.1 cells.size, max fr.2 (cells.size + 1)))) := by
    obtain ⟨lo, hi⟩ := fr
    simp [World.freeze, Array.getElem?_modify, hb]
  refine ⟨_, _, G, _, hrun, ⟨rfl, _, rfl, ⟨h.1, .inr ⟨b, cells, T, _, rfl, rfl, hsz, ?_, hl⟩⟩, rfl⟩, hI.writeAt hi ?_ ?_ ?_ hfr fun k hk => ?_⟩
  · rcases hf with rfl | hf
    · right; simp
    · right
      split
      · exact Nat.le_refl _
      · simp; omega
  · unfold World.freeze; split <;> rfl
  · unfold World.freeze; split <;> rfl
  · unfold World.freeze; split <;> rfl
  · unfold World.freeze
    split
    · rfl
    · simp only [Array.getElem?_modify]
      rw [if_neg (fun e => hk e.symm)]

/-! ### A slice of one's own is lent to a call that only reads it -/
theorem Calls.lend {W : World} {f : FuncId} {args : Array Value} {i : Nat} {C : Chunk} {v : Value} (hi : Γ[i]? = some C) (hnd : (C.map (·.1)).Nodup) (hI : Inv B G Γ W)
    (hc : ∀ G1, G1 = G.add C → G.le G1 → Inv B G1 (Γ.set i []) W → Calls P f args W (Ret B fun v' G' Γ' => v' = v ∧ G1 = G' ∧ Γ.set i [] = Γ')) :
    Calls P f args W (Ret B fun v' G' Γ' => v' = v ∧ G = G' ∧ Γ = Γ') := by
  obtain ⟨h1, h2⟩ := (hI.take hi).freeze
  have hap : ∀ p ∈ C, G p.1 = none := fun p hp => (hI.take hi).ap p (by simp [hp])
  refine (hc _ rfl h2 (Inv.putAt hi (C' := []) (h1.perm (by simp)))).mono ?_
  rintro e W' ⟨_, _, _, rfl, ⟨rfl, rfl, rfl⟩, hI'⟩
  have h3 : Inv B (G.add C) (Γ.eraseIdx i) W' := hI'.perm (by simpa using flatten_set_perm (C' := []) hi)
  obtain ⟨h4, h5⟩ := Inv.thaw hnd hap (GMap.le_refl _) h3
  have h6 := Inv.putAt hi (h4.lower h5)
  have e : Γ.set i C = Γ := by
    apply List.ext_getElem?
    intro j
    rw [List.getElem?_set]
    split
    · rename_i e; subst e
      obtain ⟨hl, e⟩ := List.getElem?_eq_some_iff.1 hi
      simp [hl, e]
    · rfl
  rw [e] at h6
  exact ⟨_, _, _, rfl, ⟨rfl, rfl, rfl⟩, h6⟩

theorem QP.permG {e : Exit} (hp : Γ.flatten.Perm Γ'.flatten) (h : QP Q e n L B G Γ') : QP Q e n L B G Γ := fun a W hF hI => h a W hF (hI.perm hp)

end Go.Gg
