/- Structs compared. -/
import Derived.Test.YtmgkpphbehamcaaGreatDoorGgK
import Derived.Laws.StructEq
namespace Go.Gg
open Go
variable {P : Program} {B : World} {G : GMap} {Γ : List Chunk} {L : Env} {ty : TypeId}
inductive Lf where
 | int (x y : Int)
 | bool (x y : Bool)
 | str (x y : ByteArray)
def Lf.ok : Lf → Bool
 | .int x y => x == y
 | .bool x y => x == y
 | .str x y => x.toList == y.toList
def eqFs (P : Program) (rec : TypeId → Value → Value → Option (List Lf)) (xs ys : Array Value) : List Field → Option (List Lf)
 | [] => some []
 | f :: fs => if f.name == "_" then eqFs P rec xs ys fs else
  match evq P (part f.type xs f.offset), evq P (part f.type ys f.offset) with
  | some u, some v => match rec f.type u v, eqFs P rec xs ys fs with
   | some a, some b => some (a ++ b)
   | _, _ => none
  | _, _ => none
def eqLv (P : Program) : Nat → TypeId → Value → Value → Option (List Lf)
 | 0, _, _, _ => none
 | d + 1, t, x, y => match P.underlying t, x, y with
  | some .bool, .bool a, .bool b => some [.bool a b]
  | some (.int _), .int k a, .int k' b => if k = k' then some [.int a b] else none
  | some .string, .string a, .string b => some [.str a b]
  | some (.struct fs), .agg xs, .agg ys => if P.stoodInHeld t then none else eqFs P (eqLv P d) xs ys fs.toList
  | _, _, _ => none
theorem eqFs_run {d : Nat} {W : World} {rec : TypeId → Value → Value → Option (List Lf)} (h : ∀ t x y ls, rec t x y = some ls → (Op.equalIn d t x y).run P W = .ok (ls.all Lf.ok) W) (xs ys : Array Value) :
  ∀ (fs : List Field) (ls : List Lf), eqFs P rec xs ys fs = some ls → (Op.eqFields d xs ys fs).run P W = .ok (ls.all Lf.ok) W := by
 intro fs
 induction fs with
 | nil => intro ls e; cases e; simp [Op.eqFields]
 | cons f fs ih =>
  intro ls e; unfold eqFs at e
  split at e
  ·rename_i hn
   have hn' : ¬ (f.name ≠ "_") := by simpa using hn
   rw [Op.eqFields, if_neg hn']; exact ih ls e
  ·rename_i hn
   have hn' : f.name ≠ "_" := by simpa using hn
   split at e
   ·rename_i u v hu hv
    split at e
    ·rename_i a b ha hb
     cases e
     rw [Op.eqFields]; simp only [if_pos hn', Sem.run_bind, evq_run hu W, evq_run hv W, h _ _ _ _ ha, Result.andThen_ok, List.all_append]
     cases a.all Lf.ok
     ·simp
     ·simpa using ih b hb
    ·cases e
   ·cases e
theorem eqLv_run {W : World} (m : Nat) : ∀ (d : Nat) (t : TypeId) (x y : Value) (ls : List Lf), eqLv P d t x y = some ls → (Op.equalIn (d + m) t x y).run P W = .ok (ls.all Lf.ok) W := by
 intro d
 induction d with
 | zero => intro t x y ls e; cases e
 | succ d ih =>
  intro t x y ls e; rw [show d + 1 + m = (d + m) + 1 by omega]; unfold eqLv at e
  split at e
  ·rename_i hu; cases e; rw [run_equalIn_bool' W _ t _ _ hu]; simp [Lf.ok]
  ·rename_i k k' _ b hu
   split at e
   ·rename_i hk; subst hk; cases e; rw [run_equalIn_int W _ t _ _ _ _ hu]; simp [Lf.ok]
   ·cases e
  ·rename_i hu; cases e; rw [run_equalIn_string W _ t _ _ hu]; simp [Lf.ok]
  ·rename_i fs xs ys hu
   split at e
   ·cases e
   ·rename_i hp
    have hf : P.fieldsOf t = fs := by simp [Program.fieldsOf, hu]
    rw [run_equalIn_struct W (d + m) t xs ys (by rw [hf]; exact hu) (by simpa using hp), hf]; exact eqFs_run (fun t x y ls e => ih t x y ls e) xs ys _ _ e
  ·cases e
theorem Tells.eqAgg {t u : TypeId} {x y : Operand} {xs ys : Array Value} {ls : List Lf} (hx : evalE L x = some (.agg xs)) (hy : evalE L y = some (.agg ys)) (h : eqLv P 16 t (.agg xs) (.agg ys) = some ls) (hm : P.eqGuardType P.depth t = false) :
  Tells P B G Γ (exec1 (rho L) (.binOp .eql t x y u) ty) (.bool (ls.all Lf.ok)) := by
 refine Tells.of_run (s := do eqGuard .eql t x y (rho L x) (rho L y); binOp .eql t (rho L x) (rho L y)) fun W _ => ?_
 rw [rho_of hx, rho_of hy, Sem.run_bind, run_eqGuard_agg W .eql t x y xs ys hm]; simp only [Result.andThen_ok]; rw [run_eql_struct, show (10000 : Nat) = 16 + 9984 from rfl, eqLv_run 9984 16 t _ _ ls h]; rfl
theorem toList_inj (a b : ByteArray) : a.toList = b.toList ↔ a = b := by
 constructor
 ·intro h; rw [ByteArray.toList_eq, ByteArray.toList_eq] at h
  cases a; cases b
  simp only [ByteArray.mk.injEq]; exact Array.ext' h
 ·intro h; subst h; rfl
end Go.Gg
namespace Go.Gg
open Go
set_option linter.unusedVariables false
set_option linter.unusedSimpArgs false
variable {P : Program} {B : World} {G G' : GMap} {Γ Γ' : List Chunk} {W W' : World} {L : Env} {n : Nat} {ty : TypeId} {ops : Array Oper} {Q : Exit → Act → World → Prop}
variable {α β : Type}
def Raw (n : Nat) : Type := { cs : List Value // cs.length = n ∧ ∀ u ∈ cs, one1 u = true }
def kRaw (n : Nat) : Kd (Raw n) := ⟨n, fun _ x cs => cs = x.1, fun {_ x _} h => by rw [h]; exact x.2.1, fun {_ x _} h => by rw [h]; exact x.2.2, fun _ h => h⟩
abbrev G0 : GMap := fun _ => none
theorem G0.le (G : GMap) : G0.le G := fun _ _ h => by cases h
structure Dk (α : Type) where
 k : Kd α
 rel : α → List Value → Chunk → Prop
 len : ∀ {x cs C}, rel x cs C → cs.length = k.sz
 one : ∀ {x cs C}, rel x cs C → ∀ u ∈ cs, one1 u = true
 fr : ∀ {G x cs C}, rel x cs C → (∀ p ∈ C, G p.1 = some p.2) → k.rel G x cs
def dFlat (k : Kd α) : Dk α := ⟨k, fun x cs C => k.rel G0 x cs ∧ C = [], fun h => k.len h.1, fun h => k.one h.1, fun h _ => k.mono (G0.le _) h.1⟩
def dSlice (kd : Kd α) : Dk (List α) where
 k := kSlice kd
 rel xs cs C := ∃ A c, cs = [.slice A xs.length c] ∧ Ow kd G0 A c xs C
 len := fun ⟨_, _, h, _⟩ => by rw [h]; rfl
 one := fun ⟨_, _, h, _⟩ => by rw [h]; simp [one1]
 fr := fun {G x _ C} ⟨A, c, h, ho⟩ hC => ⟨A, c, h, ho.1, fun hx => by
  rcases ho.2 with ⟨_, e, _⟩ | ⟨b, cells, T, fr, e, rfl, hsz, _, hl⟩
  ·exact absurd e hx
  ·exact ⟨⟨b, 0, none⟩, e, rfl, cells, T, fr, hC (b, .cells cells T fr) (by simp), hl.mono (G0.le _)⟩⟩
def dPair (a : Dk α) (b : Dk β) : Dk (α × β) where
 k := kPair a.k b.k
 rel x cs C := ∃ c1 c2 C1 C2, cs = c1 ++ c2 ∧ C = C1 ++ C2 ∧ a.rel x.1 c1 C1 ∧ b.rel x.2 c2 C2
 len := fun ⟨_, _, _, _, h, _, h1, h2⟩ => by rw [h, List.length_append, a.len h1, b.len h2]; rfl
 one := fun ⟨_, _, _, _, h, _, h1, h2⟩ u hu => by rw [h] at hu; exact (List.mem_append.1 hu).elim (a.one h1 u) (b.one h2 u)
 fr := fun ⟨c1, c2, C1, C2, h, e, h1, h2⟩ hC => ⟨c1, c2, h, a.fr h1 fun p hp => hC p (by rw [e]; exact List.mem_append.2 (.inl hp)), b.fr h2 fun p hp => hC p (by rw [e]; exact List.mem_append.2 (.inr hp))⟩
def dIso (f : β → α) (a : Dk α) : Dk β := ⟨kIso f a.k, fun x cs C => a.rel (f x) cs C, fun h => a.len h, fun h => a.one h, fun h hC => a.fr h hC⟩
variable {dk : Dk α}
def Dp (dk : Dk α) (G : GMap) (A : Option Addr) (c : Nat) (xs : List α) (C : Chunk) : Prop :=
 ∃ (rs : List (Raw dk.k.sz)) (C0 : Chunk) (Cs : List Chunk), Ow (kRaw dk.k.sz) G0 A c rs C0 ∧ C = C0 ++ Cs.flatten ∧ rs.length = xs.length ∧ Cs.length = xs.length ∧
  ∀ i (h : i < xs.length) (h1 : i < rs.length) (h2 : i < Cs.length), dk.rel xs[i] rs[i].1 Cs[i]
theorem Dp.mono {A : Option Addr} {c : Nat} {xs : List α} {C : Chunk} (h : Dp dk G A c xs C) (_ : G.le G') : Dp dk G' A c xs C := h
theorem Dp.flat {γ : Type} {kd : Kd γ} (hk : kd.Flat) {A : Option Addr} {c : Nat} {xs : List α} {C : Chunk} (h : Dp dk G A c xs C) : Dp dk G' A c xs C := h
theorem Dp.nil (dk : Dk α) (G : GMap) : Dp dk G none 0 [] [] := ⟨[], [], [], Ow.nil _ _, rfl, rfl, rfl, fun i h => absurd h (by simp)⟩
theorem Dp.isSome {A : Option Addr} {c : Nat} {xs : List α} {C : Chunk} (h : Dp dk G A c xs C) {j : Int} (h0 : 0 ≤ j) (h1 : j < xs.length) : A.isSome = true := by
 obtain ⟨rs, C0, Cs, ho, _, hl, _⟩ := h; exact ho.isSome h0 (by omega)
theorem Ow.rdN {kd : Kd α} {A : Option Addr} {c : Nat} {xs : List α} {C : Chunk} (h : Ow kd G A c xs C) (hle : G.le (G.add C)) (hn : (C.map (·.1)).Nodup) : Rd kd (G.add C) A c xs := h.rd hle
theorem Dp.rdN {A : Option Addr} {c : Nat} {xs : List α} {C : Chunk} (h : Dp dk G A c xs C) (hle : G.le (G.add C)) (hn : (C.map (·.1)).Nodup) : Rd dk.k (G.add C) A c xs := by
 obtain ⟨rs, C0, Cs, ho, rfl, hl, hl2, hr⟩ := h; have hall : ∀ p ∈ C0 ++ Cs.flatten, (G.add (C0 ++ Cs.flatten)) p.1 = some p.2 := fun p hp => by simp [GMap.add, nodup_lookup hn hp]
 refine ⟨by rw [← hl]; exact ho.1, fun hx => ?_⟩; rcases ho.2 with ⟨_, e, _⟩ | ⟨b, cells, T, fr, e, rfl, hsz, _, hlies⟩
 ·rw [e] at hl; exact absurd (List.length_eq_zero_iff.1 hl.symm) hx
 ·refine ⟨⟨b, 0, none⟩, e, rfl, cells, T, fr, hall (b, .cells cells T fr) (by simp), fun i hi => ?_⟩; obtain ⟨cs, hcs, hc⟩ := hlies i (by omega); have hcs : cs = (rs[i]'(by omega)).1 := hcs; refine ⟨cs, ?_, hc⟩; rw [hcs]; refine dk.fr (hr i hi (by omega) (by omega)) fun p hp => hall p ?_
  rw [List.mem_append]; exact .inr (List.mem_flatten.2 ⟨_, List.getElem_mem _, hp⟩)
theorem Inv.nodupAt {i : Nat} {C : Chunk} (hI : Inv B G Γ W) (hi : Γ[i]? = some C) : (C.map (·.1)).Nodup := by
 have := (hI.take hi).nd; simp only [List.flatten_cons, List.map_append] at this; exact (List.nodup_append.1 this).1
theorem WL.freezeN {j i : Nat} {C : Chunk} (hi : Γ[i]? = some C) (h : ∀ G', G' = G.add C → G.le G' → (C.map (·.1)).Nodup → WL P ops Q j n L B G' (Γ.set i [])) : WL P ops Q j n L B G Γ := fun a W hF hI =>
 WL.freeze hi (fun G' e le => h G' e le (hI.nodupAt hi)) a W hF hI
theorem WP.freezeN {x : Code} {i : Nat} {C : Chunk} (hi : Γ[i]? = some C) (h : ∀ G', G' = G.add C → G.le G' → (C.map (·.1)).Nodup → WP P x Q n L B G' (Γ.set i [])) : WP P x Q n L B G Γ := fun a W hF hI => by
 obtain ⟨h1, h2⟩ := (hI.take hi).freeze; exact h _ rfl h2 (hI.nodupAt hi) a W hF (Inv.putAt hi (C' := []) (h1.perm (by simp)))
theorem QP.freezeN {e : Exit} {i : Nat} {C : Chunk} (hi : Γ[i]? = some C) (h : ∀ G', G' = G.add C → G.le G' → (C.map (·.1)).Nodup → QP Q e n L B G' (Γ.set i [])) : QP Q e n L B G Γ := fun a W hF hI => by
 obtain ⟨h1, h2⟩ := (hI.take hi).freeze; exact h _ rfl h2 (hI.nodupAt hi) a W hF (Inv.putAt hi (C' := []) (h1.perm (by simp)))
theorem Calls.lendN {W : World} {f : FuncId} {args : Array Value} {H Γr : List Chunk} {i : Nat} {C : Chunk} {Φ : Value → List Chunk → Prop} (hi : Γr[i]? = some C) (hI : Inv B G (H ++ Γr) W)
  (hc : ∀ G1, G1 = G.add C → G.le G1 → (C.map (·.1)).Nodup → Inv B G1 (H ++ Γr.set i []) W → Calls P f args W (Ret B fun v' G' Γ' => ∃ N, Φ v' N ∧ G1 = G' ∧ N ++ Γr.set i [] = Γ')) :
  Calls P f args W (Ret B fun v' G' Γ' => ∃ N, Φ v' N ∧ G = G' ∧ N ++ Γr = Γ') := by
 have hn : (C.map (·.1)).Nodup := by
  have hj : (H ++ Γr)[H.length + i]? = some C := by rw [List.getElem?_append_right (by omega), Nat.add_sub_cancel_left]; exact hi
  exact hI.nodupAt hj
 exact Calls.lendH hi hn hI fun G1 e l hI' => hc G1 e l hn hI'
theorem Does.perm {s : Sem Next} {Φ Φ2 : Value → GMap → List Chunk → Prop} (hp : Γ.flatten.Perm Γ'.flatten) (h : Does P B G Γ' s Φ2) (hΦ : ∀ v G' Γ1, Φ2 v G' Γ1 → ∃ Γ2, Φ v G' Γ2 ∧ Γ1.flatten.Perm Γ2.flatten) : Does P B G Γ s Φ := fun W hI => by
 rcases h W (hI.perm hp) with ⟨r, v, W', G', Γ1, h1, h2, h3, h4⟩ | ⟨f, args, W1, h1, h2⟩
 ·obtain ⟨Γ2, h5, h6⟩ := hΦ v G' Γ1 h3; exact .inl ⟨r, v, W', G', Γ2, h1, h2, h5, h4.perm h6⟩
 ·refine .inr ⟨f, args, W1, h1, h2.mono ?_⟩; rintro e W' ⟨v, G', Γ1, he, h3, h4⟩; obtain ⟨Γ2, h5, h6⟩ := hΦ v G' Γ1 h3; exact ⟨v, G', Γ2, he, h5, h4.perm h6⟩
theorem Src.perm {kd : Kd α} {x : Value} {ys : List α} (hp : Γ'.flatten.Perm Γ.flatten) (h : Src P B G Γ kd x ys) : Src P B G Γ' kd x ys :=
 ⟨fun W hI => h.1 W (hI.perm hp), fun m hm => let ⟨cs, h1, h2, h3⟩ := h.2 m hm; ⟨cs, h1, h2, fun W hI => h3 W (hI.perm hp)⟩⟩
theorem Dp.append1 {A : Option Addr} {c : Nat} {xs : List α} {C : Chunk} (h : Dp dk G A c xs C) (Cls : List Chunk) {Γr : List Chunk} {x y : Operand} {v : Value} {e : α} {cs : List Value} (he : dk.rel e cs Cls.flatten)
  (hx : evalE L x = some (.slice A xs.length c)) (hy : evalE L y = some v) (hs : Src P B G (C :: (Cls ++ Γr)) (kRaw dk.k.sz) v [⟨cs, dk.len he, dk.one he⟩])
  {t t2 : TypeId} {e' by_ : Nat} (ht : sliceTy P t = some (e', dk.k.sz, by_)) (hz : zeroTy P e' dk.k.sz = true) (h2 : intTy P t2 = true) (hby : by_ ≤ 4096) (hlen : xs.length + [e].length ≤ 1073741824) :
  Does P B G (C :: (Cls ++ Γr)) (exec1 (rho L) (.call { callee := .builtin .append, args := #[x, y], argTypes := #[t, t2] }) ty) fun v' G' Γ' =>
   G = G' ∧ ∃ A' c' C', v' = .slice A' (xs ++ [e]).length c' ∧ Dp dk G A' c' (xs ++ [e]) C' ∧ Γ' = C' :: Γr := by
 obtain ⟨rs, C0, Cs, ho, rfl, hl, hl2, hr⟩ := h; have hp : ((C0 ++ Cs.flatten) :: (Cls ++ Γr)).flatten.Perm (C0 :: (Cs.flatten :: (Cls ++ Γr))).flatten := by simp
 have hoG : Ow (kRaw dk.k.sz) G A c rs C0 := ho.mono (G0.le _); have ha := Ow.append (ty := ty) hoG (i := 0) (Γ := C0 :: (Cs.flatten :: (Cls ++ Γr))) rfl (L := L) (x := x) (y := y) (by rw [hl]; exact hx) hy (hs.perm hp.symm) ht hz h2 hby (by rw [hl]; exact hlen); refine ha.perm hp ?_; rintro v' G' Γ1 ⟨rfl, A', c', C', rfl, hA, rfl⟩; refine ⟨(C' ++ (Cs ++ [Cls.flatten]).flatten) :: Γr, ⟨rfl, A', c', _, by rw [List.length_append, List.length_append, hl]; rfl, ⟨rs ++ [⟨cs, dk.len he, dk.one he⟩], C', Cs ++ [Cls.flatten], hA.flat (fun _ _ _ _ h => h), rfl, by rw [List.length_append, List.length_append, hl]; rfl, by simp [hl2], fun i hi h1 h2 => ?_⟩, rfl⟩, by simp⟩; by_cases hlt : i < xs.length
 ·have := hr i hlt (by omega) (by omega); rw [List.getElem_append_left hlt, List.getElem_append_left (by omega), List.getElem_append_left (by omega)]; exact this
 ·have hi' : i = xs.length := by simp at hi; omega
  subst hi'; have e1 : (xs ++ [e])[xs.length]'hi = e := by simp
  have key : ∀ (r : Raw dk.k.sz) (h1 : xs.length < (rs ++ [r]).length), (rs ++ [r])[xs.length]'h1 = r := fun r h1 => by
   rw [List.getElem_append_right (by omega)]; simp only [hl, Nat.sub_self, List.getElem_cons_zero]
  have e2 : ((rs ++ [⟨cs, dk.len he, dk.one he⟩])[xs.length]'h1).1 = cs := by
   exact congrArg Subtype.val (key ⟨cs, dk.len he, dk.one he⟩ h1)
  have e3 : (Cs ++ [Cls.flatten])[xs.length]'h2 = Cls.flatten := by simp [← hl2]
  rw [e1, e2, e3]; exact he
theorem Src.raw {m : Nat} {b T : Nat} {cs : List Value} (h1 : cs.length = m) (h2 : ∀ u ∈ cs, one1 u = true) {i : Nat} (hi : Γ[i]? = some [(b, .cells cs.toArray T (0, 0))]) :
  Src P B G Γ (kRaw m) (.slice (some ⟨b, 0, none⟩) 1 1) [⟨cs, h1, h2⟩] := by
 have hL : LiesL (kRaw m) G [(⟨cs, h1, h2⟩ : Raw m)] cs := by
  have := LiesL.cons (kd := kRaw m) (G := G) (x := ⟨cs, h1, h2⟩) (xs := []) (cs := cs) (ds := []) rfl .nil; simpa using this
 exact (Ow.lit (b := b) (T := T) hL).src hi
theorem Dp.append1L {A : Option Addr} {c : Nat} {xs : List α} {C : Chunk} (h : Dp dk G A c xs C) (Cls : List Chunk) {Γr : List Chunk} {x y : Operand} {e : α} {cs : List Value} (he : dk.rel e cs Cls.flatten) {b T li : Nat}
  (hx : evalE L x = some (.slice A xs.length c)) (hy : evalE L y = some (.slice (some ⟨b, 0, none⟩) 1 1)) (hli : (C :: (Cls ++ Γr))[li]? = some [(b, .cells cs.toArray T (0, 0))])
  {t t2 : TypeId} {e' by_ : Nat} (ht : sliceTy P t = some (e', dk.k.sz, by_)) (hz : zeroTy P e' dk.k.sz = true) (h2 : intTy P t2 = true) (hby : by_ ≤ 4096) (hlen : xs.length + [e].length ≤ 1073741824) :
  Does P B G (C :: (Cls ++ Γr)) (exec1 (rho L) (.call { callee := .builtin .append, args := #[x, y], argTypes := #[t, t2] }) ty) fun v' G' Γ' =>
   G = G' ∧ ∃ A' c' C', v' = .slice A' (xs ++ [e]).length c' ∧ Dp dk G A' c' (xs ++ [e]) C' ∧ Γ' = C' :: Γr :=
 h.append1 Cls he hx hy (Src.raw (dk.len he) (dk.one he) hli) ht hz h2 hby hlen
theorem flatten_set {β : Type} (Cs : List (List β)) (j : Nat) (h : j < Cs.length) (X : List β) : (Cs.set j X).flatten.Perm ((Cs.set j []).flatten ++ X) := by
 induction Cs generalizing j with
 | nil => simp at h
 | cons C Cs ih => cases j with
  | zero => simpa using List.perm_append_comm
  | succ j => simpa using List.Perm.append_left C (ih j (by simpa using h))
def Raw.of {n : Nat} (cs : List Value) (h1 : cs.length = n) (h2 : ∀ u ∈ cs, one1 u = true) : Raw n := ⟨cs, h1, h2⟩
def Dp.Closes (dk : Dk α) (G : GMap) (A : Option Addr) (c : Nat) (xs : List α) (rs : List (Raw dk.k.sz)) (D : Chunk) (j : Nat) : Prop :=
 ∀ e cs' Cj' (hr : dk.rel e cs' Cj') C0', Ow (kRaw dk.k.sz) G A c (rs.set j (Raw.of cs' (dk.len hr) (dk.one hr))) C0' → ∃ C', Dp dk G A c (xs.set j e) C' ∧ (C0' ++ (D ++ Cj')).Perm C'
theorem WL.reperm {i : Nat} (hp : Γ.flatten.Perm Γ'.flatten) (h : WL P ops Q i n L B G Γ') : WL P ops Q i n L B G Γ := fun a W hF hI => h a W hF (hI.perm hp)
theorem Ow.loadRaw {m : Nat} {A : Option Addr} {c : Nat} {rs : List (Raw m)} {C : Chunk} (h : Ow (kRaw m) G A c rs C) {i : Nat} (hi : Γ[i]? = some C) {t : TypeId} {x : Operand} {agg : Bool} {j : Int} {off sz : Nat} (h0 : 0 ≤ j) {cs : List Value}
  (hcs : (rs[j.toNat]?).map (·.1) = some cs) (ht : aggTy P t = some (agg, sz)) (ha : agg = false → sz = 1) (hle : off + sz ≤ m) (hx : evalE L x = some (.pointer (A.map (·.add (j.toNat * m + off))))) {v : Value} (hv : cellVal agg ((cs.drop off).take sz) = v) :
  Tells P B G Γ (exec1 (rho L) (.load t x) ty) v := by
 obtain ⟨r, hr, rfl⟩ := Option.map_eq_some_iff.1 hcs; have hj : j.toNat < rs.length := (List.getElem?_eq_some_iff.1 hr).1; obtain ⟨cs', h1, h2⟩ := h.loadF (P := P) (B := B) (ty := ty) (L := L) hi h0 (by omega) r ht ha hle hx; have e : cs' = (rs.getD j.toNat r).1 := h1; rw [List.getD_eq_getElem?_getD, hr] at e; rw [e] at h2; rw [← hv]; exact h2
theorem Dp.put {A : Option Addr} {c : Nat} {xs : List α} {rs : List (Raw dk.k.sz)} {C0 D : Chunk} {j : Int} (ho : Ow (kRaw dk.k.sz) G A c rs C0) (hl : rs.length = xs.length) (hc : Dp.Closes dk G A c xs rs D j.toNat) (h0 : 0 ≤ j) (h1 : j < xs.length)
  (Cls : List Chunk) {Γr : List Chunk} {x y : Operand} {v : Value} {e : α} {cs : List Value} (he : dk.rel e cs Cls.flatten) (hv : v.cells.toList = cs) {t : TypeId}
  (hx : evalE L x = some (.pointer (A.map (·.add (j.toNat * dk.k.sz))))) (hy : evalE L y = some v) (hsz : (P.info? t).map (·.size) = some dk.k.sz) :
  Does P B G (C0 :: D :: (Cls ++ Γr)) (exec1 (rho L) (.store t x y) ty) fun v' G' Γ' => v' = undef ∧ G = G' ∧ ∃ C', Dp dk G A c (xs.set j.toNat e) C' ∧ Γ' = C' :: Γr := by
 have hs := Ow.store (P := P) (B := B) (ty := ty) (L := L) ho (i := 0) (Γ := C0 :: D :: (Cls ++ Γr)) rfl h0 (by omega) hx hy hsz (z := Raw.of cs (dk.len he) (dk.one he)) hv; refine hs.perm (.refl _) ?_; rintro v' G' Γ1 ⟨rfl, rfl, C0', ho', rfl⟩; obtain ⟨C', h2, h3⟩ := hc e cs _ he C0' ho'; refine ⟨C' :: Γr, ⟨rfl, rfl, C', h2, rfl⟩, ?_⟩; have := List.Perm.append_right Γr.flatten h3; simpa [List.append_assoc] using this
end Go.Gg
