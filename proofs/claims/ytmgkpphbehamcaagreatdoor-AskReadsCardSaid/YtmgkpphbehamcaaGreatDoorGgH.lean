/- Splits, calls, fields of elements, divisions, shifts, comparisons of slices with nil. Nothing of any one program is said here. -/
import Derived.Test.YtmgkpphbehamcaaGreatDoorGgG
import Derived.Laws.BitsLemmas
import Derived.WalkKit
import Derived.ProofKit
import Derived.OpenShut
import Derived.ShutString
import Derived.ChangeOld
import Derived.SizedLaws
import Derived.Deep.Slices
namespace Go.Gg
variable {P : Program} {B : World} {G G' G0 : GMap} {Γ Γ' Γ0 : List Chunk} {L L' : Env} {ty : TypeId} {n : Nat} {Q : Exit → Act → World → Prop} {ops : Array Oper}
variable {α : Type} {kd : Kd α}
theorem Fr.put_same {a : Act} {t : Nat} {b b' : Bool} (h : Fr n L a) (ht : L.lookup t = some (.bool b)) (e : b = b') : Fr n ((t, .bool b') :: L) a :=
 ⟨h.defers, h.size, fun s u hs => by
  simp only [List.lookup_cons] at hs
  split at hs
  ·rename_i e'; have e' : s = t := by simpa using e'
   subst e'; cases hs; rw [← e]; exact h.holds _ _ ht
  ·exact h.holds s u hs⟩
theorem WL.split {i : Nat} (t : Nat) {b : Bool} (ht : L.lookup t = some (.bool b)) (h1 : b = true → WL P ops Q i n ((t, .bool true) :: L) B G Γ) (h0 : b = false → WL P ops Q i n ((t, .bool false) :: L) B G Γ) : WL P ops Q i n L B G Γ :=
 fun a W hF hI => by
  cases hb : b with
  | true => exact h1 hb a W (hF.put_same ht hb) hI
  | false => exact h0 hb a W (hF.put_same ht hb) hI
theorem WA.split {kw m : Nat} {done : Array Bool} (t : Nat) {b : Bool} (ht : L.lookup t = some (.bool b)) (h1 : b = true → WA P ops Q kw m done n ((t, .bool true) :: L) B G0 Γ0 G Γ) (h0 : b = false → WA P ops Q kw m done n ((t, .bool false) :: L) B G0 Γ0 G Γ) :
  WA P ops Q kw m done n L B G0 Γ0 G Γ :=
 fun a W hF hI => by
  cases hb : b with
  | true => exact h1 hb a W (hF.put_same ht hb) hI
  | false => exact h0 hb a W (hF.put_same ht hb) hI
theorem WP.cutQ {x : Code} (M : Env → GMap → List Chunk → Prop) (hx : WP P x (Exit.then (Meet n B M) Q) n L B G Γ) (hy : ∀ L' G' Γ', M L' G' Γ' → QP Q .normal n L' B G' Γ') : WP P x Q n L B G Γ :=
 fun a W hF hI => wp_mono (hx a W hF hI) fun e a w h => by
  cases e <;> first | exact h | (obtain ⟨L', G', Γ', hM, hF', hI'⟩ := h; exact hy L' G' Γ' hM a w hF' hI')
theorem erase_sub (Γ : List Chunk) : ∀ i, List.Sublist (Γ.eraseIdx i).flatten Γ.flatten := by
 induction Γ with
 | nil => intro i; simp
 | cons C Γ ih =>
  intro i
  cases i with
  | zero => simp
  | succ i => simp only [List.eraseIdx_cons_succ, List.flatten_cons]; exact List.Sublist.append_left (ih i) C
theorem WP.dropAt {c : Code} (i : Nat) (h : WP P c Q n L B G (Γ.eraseIdx i)) : WP P c Q n L B G Γ := fun a W hF hI => h a W hF (hI.sub (erase_sub _ _))
theorem QP.dropAt {e : Exit} (i : Nat) (h : QP Q e n L B G (Γ.eraseIdx i)) : QP Q e n L B G Γ := fun a W hF hI => h a W hF (hI.sub (erase_sub _ _))
theorem WP.addNil {c : Code} (h : WP P c Q n L B G ([] :: Γ)) : WP P c Q n L B G Γ := fun a W hF hI => h a W hF (hI.perm (by simp))
theorem WL.addNil {i : Nat} (h : WL P ops Q i n L B G ([] :: Γ)) : WL P ops Q i n L B G Γ := fun a W hF hI => h a W hF (hI.perm (by simp))
theorem QP.addNil {e : Exit} (h : QP Q e n L B G ([] :: Γ)) : QP Q e n L B G Γ := fun a W hF hI => h a W hF (hI.perm (by simp))
theorem WA.addNil {kw m : Nat} {done : Array Bool} (h : WA P ops Q kw m done n L B G0 Γ0 G ([] :: Γ)) : WA P ops Q kw m done n L B G0 Γ0 G Γ := fun a W hF hI => h a W hF (hI.perm (by simp))
theorem QP.lower {e : Exit} (hG : G'.le G) (h : QP Q e n L B G' Γ) : QP Q e n L B G Γ := fun a W hF hI => h a W hF (hI.lower hG)
def Ret (B : World) (Φ : Value → GMap → List Chunk → Prop) (e : Ending) (w : World) : Prop := ∃ v G Γ, e = .returned v ∧ Φ v G Γ ∧ Inv B G Γ w
theorem Does.call {s : Sem Next} {f : FuncId} {args : List Value} {Φ : Value → GMap → List Chunk → Prop} (h : evq P s = some (.enter f args.toArray))
  (hc : ∀ W, Inv B G Γ W → Calls P f args.toArray W (Ret B Φ)) : Does P B G Γ s Φ := Does.enter h hc
theorem add_add (a : Addr) (m k : Nat) : (a.add m).add k = a.add (m + k) := by
 unfold Addr.add; by_cases hm : m = 0
 ·subst hm; simp
 ·by_cases hk : k = 0
  ·subst hk; simp
  ·have : ¬ m + k = 0 := by omega
   simp [hm, hk, Nat.add_assoc]
theorem Rd.loadF {A : Option Addr} {c : Nat} {xs : List α} (h : Rd kd G A c xs) {t : TypeId} {x : Operand} {agg : Bool} {j : Int} {off sz : Nat} (h0 : 0 ≤ j) (h1 : j < xs.length) (d : α)
  (ht : aggTy P t = some (agg, sz)) (ha : agg = false → sz = 1) (hle : off + sz ≤ kd.sz) (hx : evalE L x = some (.pointer (A.map (·.add (j.toNat * kd.sz + off))))) :
  ∃ cs, kd.rel G (xs.getD j.toNat d) cs ∧ Tells P B G Γ (exec1 (rho L) (.load t x) ty) (cellVal agg ((cs.drop off).take sz)) := by
 have hj : j.toNat < xs.length := by omega
 obtain ⟨ad, rfl, hs, cells, T, fr, hG, hl⟩ := h.2 (fun e => by subst e; simp at hj); obtain ⟨cs, hr, hc⟩ := hl j.toNat hj; have hcl := kd.len hr; refine ⟨cs, by simpa [List.getD_eq_getElem?_getD, List.getElem?_eq_getElem hj] using hr, ?_⟩; replace hx : evalE L x = some (.pointer (some (ad.add (j.toNat * kd.sz + off)))) := hx; refine Tells.load_at ht hx (by rw [add_off hs]) (by simp; omega) ha fun W hI i hi => ?_
 rw [add_off hs, cell_of_block (hI.fro _ _ hG)]; simp only [List.length_take, List.length_drop] at hi; have := hc (off + i) (by omega); simp only [List.getElem_take, List.getElem_drop]; rw [← this]
 congr 1
 omega
theorem Ow.loadF {A : Option Addr} {c : Nat} {xs : List α} {C : Chunk} (h : Ow kd G A c xs C) {i : Nat} (hi : Γ[i]? = some C) {t : TypeId} {x : Operand} {agg : Bool} {j : Int} {off sz : Nat} (h0 : 0 ≤ j) (h1 : j < xs.length) (d : α)
  (ht : aggTy P t = some (agg, sz)) (ha : agg = false → sz = 1) (hle : off + sz ≤ kd.sz) (hx : evalE L x = some (.pointer (A.map (·.add (j.toNat * kd.sz + off))))) :
  ∃ cs, kd.rel G (xs.getD j.toNat d) cs ∧ Tells P B G Γ (exec1 (rho L) (.load t x) ty) (cellVal agg ((cs.drop off).take sz)) := by
 have hj : j.toNat < xs.length := by omega
 rcases h.2 with ⟨_, e, _⟩ | ⟨b, cells, T, fr, rfl, rfl, hsz, _, hl⟩
 ·subst e; simp at hj
 obtain ⟨cs, hr, hc⟩ := hl j.toNat hj; have hcl := kd.len hr; refine ⟨cs, by simpa [List.getD_eq_getElem?_getD, List.getElem?_eq_getElem hj] using hr, ?_⟩; replace hx : evalE L x = some (.pointer (some ((⟨b, 0, none⟩ : Addr).add (j.toNat * kd.sz + off)))) := hx; refine Tells.load_at ht hx (by rw [add_off rfl]) (by simp; omega) ha fun W hI i' hi' => ?_
 rw [add_off rfl, cell_of_block (hI.chunk hi)]; simp only [List.length_take, List.length_drop] at hi'; have := hc (off + i') (by omega); simp only [List.getElem_take, List.getElem_drop]; rw [← this]
 congr 1
 omega
theorem Tells.cat {t u : TypeId} {x y : Operand} {a b : ByteArray} (hx : evalE L x = some (.string a)) (hy : evalE L y = some (.string b)) (hb : a.size + b.size ≤ 9223372036854775807) :
  Tells P B G Γ (exec1 (rho L) (.binOp .add t x y u) ty) (.string (a ++ b)) := by
 refine Tells.of_run (s := do eqGuard .add t x y (rho L x) (rho L y); binOp .add t (rho L x) (rho L y)) fun W _ => ?_
 rw [rho_of hx, rho_of hy]; have h : ¬ (((a.size + b.size : Nat) : Int) > IntKind.i64.max) := by simp [IntKind.max, IntKind.signed, IntKind.bits]; omega
 simp only [eqGuard, binOp, Op.stringOp]; rw [if_neg h]; simp [go_sem]
end Go.Gg
namespace Go.Gg
variable {P : Program} {B : World} {G G' G0 : GMap} {Γ Γ' Γ0 : List Chunk} {L L' : Env} {ty : TypeId} {n : Nat} {Q : Exit → Act → World → Prop} {ops : Array Oper}
variable {α : Type} {kd : Kd α}
section
variable {i : Nat} {op : Op} {d : Option Nat} {g : Option (Nat × Bool)}
theorem WL.tellE {R : List Value → Prop} {V : List Value → Value} (ho : opAt ops i = some (op, ty, d, g)) (hg : wantedE ops L g = some true) (hk : (known L op && notSelect op && fits n d) = true)
  (hs : ∃ cs, R cs ∧ Tells P B G Γ (exec1 (rho L) op ty) (V cs)) (next : ∀ cs, R cs → WL P ops Q (i + 1) n (putE L d (V cs)) B G Γ) : WL P ops Q i n L B G Γ :=
 let ⟨cs, h1, h2⟩ := hs; WL.tell ho hg hk h2 (next cs h1)
variable {kw M m b b' N : Nat}
theorem WA.tellE {R : List Value → Prop} {V : List Value → Value} (hm : M = m + 1) (hnp : NoPanic Q) (hu : Under B G0 Γ0 G Γ) {S : List Sm} (hS : okSum ops N S = true) (ht : (takesS S N b i && aheadS S N kw b i && (b ||| 1 <<< i) == b') = true) (ho : opAt ops i = some (op, ty, d, g)) (hg : wantedE ops L g = some true) (hk : (known L op && notSelect op && fits n d) = true)
  (hs : ∃ cs, R cs ∧ Tells P B G0 Γ0 (exec1 (rho L) op ty) (V cs)) (next : ∀ cs, R cs → WA P ops Q kw m (arr ops.size b') n (putE L d (V cs)) B G0 Γ0 G Γ) : WA P ops Q kw M (arr ops.size b) n L B G0 Γ0 G Γ :=
 let ⟨cs, h1, h2⟩ := hs; WA.tell hm hnp hu hS ht ho hg hk h2 (next cs h1)
end
theorem Fr.reput {a : Act} {t : Nat} {v v' : Value} (h : Fr n L a) (ht : L.lookup t = some v) (e : v = v') : Fr n ((t, v') :: L) a :=
 ⟨h.defers, h.size, fun s u hs => by
  simp only [List.lookup_cons] at hs
  split at hs
  ·rename_i e'; have e' : s = t := by simpa using e'
   subst e'; cases hs; rw [← e]; exact h.holds _ _ ht
  ·exact h.holds s u hs⟩
theorem WL.reput {i : Nat} (t : Nat) {v v' : Value} (ht : L.lookup t = some v) (e : v = v') (h : WL P ops Q i n ((t, v') :: L) B G Γ) : WL P ops Q i n L B G Γ := fun a W hF hI => h a W (hF.reput ht e) hI
theorem WA.reput {kw m : Nat} {done : Array Bool} (t : Nat) {v v' : Value} (ht : L.lookup t = some v) (e : v = v') (h : WA P ops Q kw m done n ((t, v') :: L) B G0 Γ0 G Γ) : WA P ops Q kw m done n L B G0 Γ0 G Γ := fun a W hF hI => h a W (hF.reput ht e) hI
inductive LiesL (kd : Kd α) (G : GMap) : List α → List Value → Prop where
 | nil : LiesL kd G [] []
 | cons {x : α} {xs : List α} {cs ds : List Value} : kd.rel G x cs → LiesL kd G xs ds → LiesL kd G (x :: xs) (cs ++ ds)
theorem LiesL.length {xs : List α} {cs : List Value} (h : LiesL kd G xs cs) : cs.length = xs.length * kd.sz := by
 induction h with
 | nil => simp
 | cons h _ ih => rw [List.length_append, kd.len h, ih, List.length_cons, Nat.add_mul]; omega
theorem LiesL.lies {xs : List α} {cs : List Value} (h : LiesL kd G xs cs) : Lies kd G cs.toArray 0 xs := by
 induction h with
 | nil => exact Lies.nil kd G _ _
 | @cons x xs cs ds h hr ih =>
  intro i hi
  cases i with
  | zero =>
   refine ⟨cs, by simpa using h, fun j hj => ?_⟩; simp [List.getElem?_append_left hj]
  | succ i =>
   obtain ⟨es, he, hc⟩ := ih i (by simpa using hi); refine ⟨es, by simpa using he, fun j hj => ?_⟩; have := hc j hj; simp only [List.getElem?_toArray] at this ⊢; have hl := kd.len h; have e : (i + 1) * kd.sz = i * kd.sz + kd.sz := by rw [Nat.add_mul, Nat.one_mul]
   rw [List.getElem?_append_right (by omega)]; rw [show 0 + (i + 1) * kd.sz + j - cs.length = 0 + i * kd.sz + j by omega]; exact this
theorem Ow.lit {b T : Nat} {xs : List α} {cs : List Value} (h : LiesL kd G xs cs) : Ow kd G (some ⟨b, 0, none⟩) xs.length xs [(b, .cells cs.toArray T (0, 0))] :=
 ⟨Nat.le_refl _, .inr ⟨b, cs.toArray, T, (0, 0), rfl, rfl, by simpa using h.length, Free.zero _, h.lies⟩⟩
theorem Src.str (s : ByteArray) : Src P B G Γ (kInt .u8) (.string s) (bytesOf s) := by
 have hl : (bytesOf s).length = s.size := by unfold bytesOf; rw [List.length_map]; rfl
 refine ⟨fun W _ => by rw [hl]; simp [Builtin.lenOf, go_sem], fun m hm => ?_⟩; refine ⟨((bytesOf s).take m).map (Value.int .u8), by simp [kInt]; omega, fun i hi => ⟨_, rfl, fun j hj => ?_⟩, fun W _ => ?_⟩
 ·have hj0 : j = 0 := by simp at hj; omega
  subst hj0; have hi2 : i < m ∧ i < (bytesOf s).length := by simp only [List.length_take] at hi; omega
  simp [kInt, List.getElem?_take_of_lt hi2.1, hi2.2]
 ·have e : (s.extract 0 m).data.map (fun b => Value.int .u8 b.toNat) = (((bytesOf s).take m).map (Value.int .u8)).toArray := by
   apply Array.ext'; simp [bytesOf, ByteArray.data_extract, List.map_take]; rfl
  simp only [Builtin.firstCells]; rw [e]; rfl
end Go.Gg
namespace Go.Gg
variable {P : Program} {α β : Type}
def heapG (W : World) : GMap := fun b => W.heap[b]?
theorem Inv.start (W : World) : Inv W (heapG W) [] W := ⟨rfl, rfl, rfl, fun _ _ h => h, by simp, by simp, by simp⟩
theorem Inv.below {W W' : World} {Γ : List Chunk} (h : Inv W (heapG W) Γ W') : RowKit.Below W.heap.size W W' := by
 refine ⟨h.os, h.tape, h.out, ?_, fun k hk => ?_⟩
 ·rcases Nat.eq_zero_or_pos W.heap.size with e | e
  ·omega
  ·have := h.fro (W.heap.size - 1) (W.heap[W.heap.size - 1]'(by omega)) (by simp [heapG]); have := (Array.getElem?_eq_some_iff.1 this).1; omega
 ·have := h.fro k (W.heap[k]'hk) (by simp [heapG, hk]); rw [this]; simp [hk]
def Opens (P : Program) (t : TypeId) (kd : Kd α) (ok : α → Prop) : Prop :=
 ∀ {H : Type} (enc : TypeId × Value → H) (W : World) (spare : Nat → Bool) (held : Bool) (fuel : Nat) (cs : List Value) (d : DataW H) (ps : List MemPlace),
  DataW.trod enc P W 0 spare held fuel t cs = some (d, ps) → ∃ x, kd.rel (heapG W) x cs ∧ ok x
theorem Opens.int {t : TypeId} {k : IntKind} (ht : P.underlying t = some (.int k)) : Opens P t (kInt k) (fun n => (Lit.int k n).wf = true) := by
 intro H enc W spare held fuel cs d ps h; obtain ⟨n, rfl, _, hw⟩ := DataW.trod_int ht h; exact ⟨n, rfl, hw⟩
theorem Opens.bool {t : TypeId} (ht : P.underlying t = some .bool) : Opens P t kBool (fun _ => True) := by
 intro H enc W spare held fuel cs d ps h; obtain ⟨n, rfl, _⟩ := DataW.trod_bool ht h; exact ⟨n, rfl, trivial⟩
theorem Opens.str {t : TypeId} (ht : P.underlying t = some .string) : Opens P t kStr (fun s => s.size ≤ maxLen) := by
 intro H enc W spare held fuel cs d ps h; obtain ⟨n, rfl, _, hw⟩ := DataW.trod_string ht h; exact ⟨n, rfl, hw⟩
theorem listOf {Q : Nat → α → Prop} (n : Nat) (h : ∀ i, i < n → ∃ x, Q i x) : ∃ xs : List α, xs.length = n ∧ ∀ i (hi : i < xs.length), Q i xs[i] := by
 induction n with
 | zero => exact ⟨[], rfl, fun i hi => by simp at hi⟩
 | succ n ih =>
  obtain ⟨xs, hl, hx⟩ := ih (fun i hi => h i (by omega)); obtain ⟨x, hq⟩ := h n (by omega); refine ⟨xs ++ [x], by simp [hl], fun i hi => ?_⟩; by_cases e : i < xs.length
  ·rw [List.getElem_append_left e]; exact hx i e
  ·have : i = xs.length := by simp at hi; omega
   subst this; simp; rw [hl]; exact hq
theorem mapM_range {f : Nat → Option β} : ∀ (l : List Nat) (ys : List β), l.mapM f = some ys → ys.length = l.length ∧ ∀ j (h : j < ys.length) (h' : j < l.length), f l[j] = some ys[j] := by
 intro l
 induction l with
 | nil => intro ys h; simp at h; subst h; exact ⟨rfl, fun j h => by simp at h⟩
 | cons a l ih =>
  intro ys h; simp only [List.mapM_cons, Option.bind_eq_bind, Option.bind_eq_some_iff, Option.pure_def, Option.some.injEq] at h; obtain ⟨y, hy, zs, hz, rfl⟩ := h; obtain ⟨h1, h2⟩ := ih zs hz; refine ⟨by simp [h1], fun j hj hj' => ?_⟩
  cases j with
  | zero => simpa using hy
  | succ j => simpa using h2 j (by simpa using hj) (by simpa using hj')
theorem cells_some {W : World} {a : Addr} {n : Nat} {cs : List Value} (h : W.cells? 0 a n = some cs) : cs.length = n ∧ ∀ j (hj : j < cs.length), W.cell? (a.add j) = some cs[j] := by
 unfold World.cells? at h; rw [if_pos (Nat.zero_le _)] at h; obtain ⟨h1, h2⟩ := mapM_range _ _ h; rw [List.length_range] at h1; exact ⟨h1, fun j hj => by have := h2 j hj (by simpa using (h1 ▸ hj)); simpa using this⟩
theorem Opens.slice {t e : TypeId} {kd : Kd α} {ok : α → Prop} (ht : P.underlying t = some (.slice e)) (he : Opens P e kd ok) (hc : P.cellsOf e = kd.sz) (h0 : 0 < kd.sz) :
  Opens P t (kSlice kd) (fun xs => xs.length ≤ maxLen ∧ ∀ x ∈ xs, ok x) := by
 intro H enc W spare held fuel cs d ps h; rcases Deep.open_slice ht h with ⟨rfl, _⟩ | ⟨a, len, cap, m, n, D, Pl, rfl, _, hl, hm, hmm, _, hx⟩
 ·exact ⟨[], ⟨none, 0, rfl, Rd.nil _ _ _ _⟩, by simp, by simp⟩
 ·have hlm : len ≤ m := by rw [hmm]; split <;> omega
  obtain ⟨xs, hxl, hxs⟩ := listOf (Q := fun i x => ok x ∧ ∃ cs', kd.rel (heapG W) x cs' ∧ ∀ j (hj : j < cs'.length), W.cell? (a.add (i * kd.sz + j)) = some cs'[j]) len (fun i hi => by
   obtain ⟨cs', h1, h2⟩ := hx i (by omega); obtain ⟨x, hr, hk⟩ := he enc W spare held n cs' _ _ h2; obtain ⟨h3, h4⟩ := cells_some h1; exact ⟨x, hk, cs', hr, fun j hj => by have := h4 j hj; rwa [add_add, hc] at this⟩)
  subst hxl; refine ⟨xs, ⟨some a, cap, rfl, hl, fun hne => ?_⟩, Nat.le_trans hl hm, fun x hx' => ?_⟩
  ·have hpos : 0 < xs.length := List.length_pos_iff.2 hne; obtain ⟨_, cs0, hr0, hc0⟩ := hxs 0 hpos; have hl0 := kd.len hr0; have h00 := hc0 0 (by omega); have hsp : a.spot = none := by
    simp only [Nat.zero_mul, Nat.zero_add, Addr.add, if_true, World.cell?] at h00
    split at h00
    ·split at h00
     ·cases h00
     ·rename_i hs; simpa using hs
    ·cases h00
   have hb : ∃ cells T fr, W.heap[a.block]? = some (.cells cells T fr) := by
    simp only [Nat.zero_mul, Nat.zero_add, Addr.add, if_true, World.cell?] at h00
    split at h00
    ·rename_i c T fr hh; exact ⟨c, T, fr, hh⟩
    ·cases h00
   obtain ⟨cells, T, fr, hb⟩ := hb; refine ⟨a, rfl, hsp, cells, T, fr, hb, fun i hi => ?_⟩; obtain ⟨_, cs', hr, hcc⟩ := hxs i hi; refine ⟨cs', hr, fun j hj => ?_⟩; have := hcc j hj; rw [add_off hsp, cell_of_block hb] at this; rw [Nat.add_assoc]; exact this
  ·obtain ⟨i, hi, rfl⟩ := List.mem_iff_getElem.1 hx'; exact (hxs i hi).1
end Go.Gg
