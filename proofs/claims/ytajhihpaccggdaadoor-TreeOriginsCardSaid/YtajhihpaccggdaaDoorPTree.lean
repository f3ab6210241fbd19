/- Trees in plain words: records by their keys, how many each range has, and what a range's digest is. -/
import Derived.Test.YtajhihpaccggdaaDoorF0
import Derived.Test.YtajhihpaccggdaaDoorPTree0
namespace Go.Proofs.YtajhihpaccggdaaDoor.Pure
open Go Go.Gg Go.Gp Gf
set_option linter.unusedVariables false
set_option linter.unusedSimpArgs false

def key (r : T36) : T32 := ⟨r.f0, r.f1⟩
def dg (r : T36) : Int := fnv fnv0 (lay r)
def leafOf (r : T36) : T103 := ⟨r.f0, r.f1, r.f2, r.f3, r.f4, dg r⟩
def allD (ds : List Int) : Int := if someB ds = true then fnv fnv0 (be8s ds) else 0
/-- a record stands in a range -/
def inr (o l i : Int) (r : T36) : Bool := decide (r.f0 = o ∧ 0 ≤ l ∧ l ≤ 5 ∧ r.f1 / 4 ^ (5 - l).toNat = i)
def cnt (L : List T36) (o l i : Int) : Nat := L.countP (inr o l i)
def cv (m : List (T130 × Int)) (p : T130) : Int := (mget m p).getD 0

/-! ## Counts -/
/-- what counting a key does, from a level on downwards -/
def cup (key : T32) (by_ : Int) : Nat → List (T130 × Int) → List (T130 × Int)
  | 0, m => m
  | n + 1, m => cup key by_ n (mput m ⟨key.f0, (n : Int), key.f1 / 4 ^ (5 - n)⟩ (cv m ⟨key.f0, (n : Int), key.f1 / 4 ^ (5 - n)⟩ + by_))
theorem cv_mput (m : List (T130 × Int)) (a p : T130) (v : Int) : cv (mput m a v) p = if p = a then v else cv m p := by
  unfold cv
  by_cases e : p = a
  · subst e; rw [if_pos rfl, mget_mput]; rfl
  · rw [if_neg e, mget_mput_ne _ _ e]
theorem cv_cup (k : T32) (by_ : Int) (p : T130) : ∀ (n : Nat) (m : List (T130 × Int)), cv (cup k by_ n m) p = cv m p + if p.f0 = k.f0 ∧ 0 ≤ p.f1 ∧ p.f1 < n ∧ p.f2 = k.f1 / 4 ^ (5 - p.f1.toNat) then by_ else 0 := by
  intro n
  induction n with
  | zero => intro m; rw [cup, if_neg (by omega)]; omega
  | succ n ih =>
    intro m
    rw [cup, ih, cv_mput]
    obtain ⟨p0, p1, p2⟩ := p
    simp only [T130.mk.injEq]
    by_cases e : p1 = n
    · subst e
      simp only [Int.toNat_natCast]
      by_cases e2 : p0 = k.f0 ∧ p2 = k.f1 / 4 ^ (5 - n)
      · obtain ⟨rfl, rfl⟩ := e2
        rw [if_pos (by simp), if_neg (by omega), if_pos (by simp; omega)]; omega
      · rw [if_neg (fun h => e2 ⟨h.1, h.2.2⟩), if_neg (by omega), if_neg (fun h => e2 ⟨h.1, h.2.2.2⟩)]
    · rw [if_neg (fun h => e h.2.1)]
      by_cases e2 : p0 = k.f0 ∧ 0 ≤ p1 ∧ p1 < n ∧ p2 = k.f1 / 4 ^ (5 - p1.toNat)
      · rw [if_pos e2, if_pos ⟨e2.1, e2.2.1, by omega, e2.2.2.2⟩]
      · rw [if_neg e2, if_neg (fun h => e2 ⟨h.1, h.2.1, by omega, h.2.2.2⟩)]
theorem quarter (s : Int) (hs : 0 ≤ s ∧ s < 4294967296) (n : Nat) (hn : n ≤ 5) : IntKind.i64.wrap (Int.tdiv (s / 4 ^ (5 - n)) 4) = s / 4 ^ (6 - n) := by
  have h0 : 0 ≤ s / 4 ^ (5 - n) := Int.ediv_nonneg hs.1 (by have : (0 : Int) < 4 ^ (5 - n) := Int.pow_pos (by omega); omega)
  have hle : s / 4 ^ (5 - n) ≤ s := Int.ediv_le_self _ hs.1
  rw [Int.tdiv_eq_ediv_of_nonneg h0]
  have e : s / 4 ^ (5 - n) / 4 = s / 4 ^ (6 - n) := by
    rw [Int.ediv_ediv_of_nonneg (by have : (0 : Int) < 4 ^ (5 - n) := Int.pow_pos (by omega); omega), show (6 - n) = (5 - n) + 1 by omega, Int.pow_succ]
  rw [← e, i64w (by omega)]
theorem count_l_ev (lv : List (T32 × T103)) (k : T32) (by_ : Int) (hk : 0 ≤ k.f1 ∧ k.f1 < 4294967296) (hb : -1 ≤ by_ ∧ by_ ≤ 1) : ∀ (n : Nat) (m : List (T130 × Int)), n ≤ 6 → (∀ p : T130, p.f1 < n → -1000000 ≤ cv m p ∧ cv m p ≤ 1000000) →
    Ev (fun f => tree_Tree_count_l0 k by_ f (k.f1 / 4 ^ (6 - n)) ((n : Int) - 1) ⟨lv, m⟩) ⟨lv, cup k by_ n m⟩ := by
  intro n
  induction n with
  | zero =>
    intro m _ _
    refine Ev.step (g := fun _ => some ⟨lv, m⟩) (fun f => ?_) (Ev.now _)
    rw [tree_Tree_count_l0, if_neg (by omega)]
  | succ n ih =>
    intro m hn hm
    have hp := hm ⟨k.f0, (n : Int), k.f1 / 4 ^ (5 - n)⟩ (by simp; omega)
    have := ih (mput m ⟨k.f0, (n : Int), k.f1 / 4 ^ (5 - n)⟩ (cv m ⟨k.f0, (n : Int), k.f1 / 4 ^ (5 - n)⟩ + by_)) (by omega) (fun p h => by
      rw [cv_mput, if_neg (fun e => by rw [e] at h; simp at h)]
      exact hm p (by omega))
    refine Ev.step (fun f => ?_) this
    rw [tree_Tree_count_l0, if_pos (by omega), show ((n + 1 : Nat) : Int) - 1 = (n : Int) by omega, show 6 - (n + 1) = 5 - n by omega, quarter k.f1 hk n (by omega), i64w (x := (n : Int) - 1) (by omega)]
    simp only [Option.bind_some]
    rw [show ((mget m (⟨k.f0, (n : Int), k.f1 / 4 ^ (5 - n)⟩ : T130)).getD 0) = cv m ⟨k.f0, (n : Int), k.f1 / 4 ^ (5 - n)⟩ from rfl, i64w (by omega)]
theorem count_ev (t : T97) (k : T32) (by_ : Int) (hk : 0 ≤ k.f1 ∧ k.f1 < 4294967296) (hb : -1 ≤ by_ ∧ by_ ≤ 1) (hm : ∀ p : T130, -1000000 ≤ cv t.f1 p ∧ cv t.f1 p ≤ 1000000) :
    Ev (fun f => tree_Tree_count f t k by_) ⟨t.f0, cup k by_ 6 t.f1⟩ := by
  have := count_l_ev t.f0 k by_ hk hb 6 t.f1 (by omega) (fun p _ => hm p)
  simp only [Nat.sub_self, Int.pow_zero, Int.ediv_one] at this
  exact Ev.bind this (Ev.now _)

/-! ## What a tree stands for -/
def tput (t : T97) (r : T36) : T97 := if Mayr r ∧ mget t.f0 (key r) = none then ⟨mput t.f0 (key r) (leafOf r), cup (key r) 1 6 t.f1⟩ else t
def tdrop (t : T97) (k : T32) : T97 := if (mget t.f0 k).isSome = true then ⟨mdel t.f0 k, cup k (-1) 6 t.f1⟩ else t
def rput (L : List T36) (r : T36) : List T36 := if Mayr r ∧ key r ∉ L.map key then L ++ [r] else L
def rdrop (L : List T36) (k : T32) : List T36 := L.filter fun r => decide (key r ≠ k)
structure TI (t : T97) (L : List T36) : Prop where
  lv : t.f0 = L.map fun r => (key r, leafOf r)
  ct : ∀ o l i, cv t.f1 ⟨o, l, i⟩ = cnt L o l i
  nd : (L.map key).Nodup
  may : ∀ r ∈ L, Mayr r
theorem TI.empty : TI ⟨[], []⟩ [] := ⟨rfl, fun o l i => rfl, by simp, by simp⟩
theorem mget_leaves (L : List T36) (k : T32) : mget (L.map fun r => (key r, leafOf r)) k = (L.find? fun r => decide (key r = k)).map leafOf := by
  induction L with
  | nil => rfl
  | cons r L ih =>
    simp only [List.map_cons, mget, List.find?_cons]
    by_cases e : key r = k
    · rw [if_pos e.symm, decide_eq_true e]; rfl
    · rw [if_neg (fun h => e h.symm), decide_eq_false e]; exact ih
theorem find_none {L : List T36} {k : T32} : (L.find? fun r => decide (key r = k)) = none ↔ k ∉ L.map key := by
  rw [List.find?_eq_none]
  constructor
  · intro h hm
    obtain ⟨r, hr, e⟩ := List.mem_map.1 hm
    exact h r hr (decide_eq_true e)
  · intro h r hr e
    exact h (List.mem_map.2 ⟨r, hr, of_decide_eq_true e⟩)
theorem TI.get {t : T97} {L : List T36} (h : TI t L) (k : T32) : mget t.f0 k = (L.find? fun r => decide (key r = k)).map leafOf := by rw [h.lv]; exact mget_leaves L k
theorem TI.get_none {t : T97} {L : List T36} (h : TI t L) (k : T32) : mget t.f0 k = none ↔ k ∉ L.map key := by rw [h.get, Option.map_eq_none_iff]; exact find_none
theorem TI.cv {t : T97} {L : List T36} (h : TI t L) (p : T130) : cv t.f1 p = cnt L p.f0 p.f1 p.f2 := h.ct p.f0 p.f1 p.f2
theorem TI.bound {t : T97} {L : List T36} (h : TI t L) (hl : L.length ≤ 1000000) (p : T130) : -1000000 ≤ Pure.cv t.f1 p ∧ Pure.cv t.f1 p ≤ 1000000 := by
  rw [h.cv]
  have : cnt L p.f0 p.f1 p.f2 ≤ L.length := List.countP_le_length
  omega
theorem lvl (l : Int) (h : 0 ≤ l) : (5 - l).toNat = 5 - l.toNat := by omega
theorem mput_new {κ ν : Type} [DecidableEq κ] {xs : List (κ × ν)} {a : κ} (v : ν) (h : mget xs a = none) : mput xs a v = xs ++ [(a, v)] := by
  induction xs with
  | nil => rfl
  | cons p xs ih =>
    simp only [mget] at h
    by_cases e : a = p.1
    · rw [if_pos e] at h; cases h
    · rw [if_neg e] at h; simp only [mput, if_neg e, ih h, List.cons_append]
theorem TI.put {t : T97} {L : List T36} (h : TI t L) (r : T36) : TI (tput t r) (rput L r) := by
  unfold tput rput
  by_cases e : Mayr r ∧ mget t.f0 (key r) = none
  · have e2 : key r ∉ L.map key := (h.get_none _).1 e.2
    rw [if_pos e, if_pos ⟨e.1, e2⟩]
    refine ⟨?_, fun o l i => ?_, ?_, ?_⟩
    · simp only; rw [mput_new _ e.2, h.lv]; simp
    · simp only; rw [cv_cup, h.ct]
      unfold cnt
      rw [List.countP_append]
      simp only [List.countP_cons, List.countP_nil, key, inr, decide_eq_true_eq]
      by_cases e3 : r.f0 = o ∧ 0 ≤ l ∧ l ≤ 5 ∧ r.f1 / 4 ^ (5 - l).toNat = i
      · have e4 : o = r.f0 ∧ 0 ≤ l ∧ l < ((6 : Nat) : Int) ∧ i = r.f1 / 4 ^ (5 - l.toNat) := ⟨e3.1.symm, e3.2.1, by omega, by rw [← lvl l e3.2.1]; exact e3.2.2.2.symm⟩
        simp only [if_pos e3, if_pos e4]; omega
      · have e4 : ¬ (o = r.f0 ∧ 0 ≤ l ∧ l < ((6 : Nat) : Int) ∧ i = r.f1 / 4 ^ (5 - l.toNat)) := fun e4 => e3 ⟨e4.1.symm, e4.2.1, by omega, by rw [lvl l e4.2.1]; exact e4.2.2.2.symm⟩
        simp only [if_neg e3, if_neg e4]; omega
    · rw [List.map_append]
      refine List.nodup_append.2 ⟨h.nd, by simp, fun x hx y hy e => ?_⟩
      simp at hy; subst hy; subst e; exact e2 hx
    · intro x hx
      rcases List.mem_append.1 hx with hx | hx
      · exact h.may x hx
      · simp at hx; subst hx; exact e.1
  · rw [if_neg e, if_neg (fun e3 => e ⟨e3.1, (h.get_none _).2 e3.2⟩)]; exact h
theorem filter_key {L : List T36} (hn : (L.map key).Nodup) (k : T32) : mdel (L.map fun r => (key r, leafOf r)) k = (rdrop L k).map fun r => (key r, leafOf r) := by
  induction L with
  | nil => rfl
  | cons r L ih =>
    simp only [List.map_cons, List.nodup_cons] at hn
    simp only [List.map_cons, mdel, rdrop, List.filter_cons]
    by_cases e : k = key r
    · rw [if_pos e, if_neg (by simp [e])]
      have : L.filter (fun r => decide (key r ≠ k)) = L := List.filter_eq_self.2 fun x hx => decide_eq_true fun e2 => hn.1 (by rw [← e, ← e2]; exact List.mem_map.2 ⟨x, hx, rfl⟩)
      rw [this]
    · have e2 : decide (key r ≠ k) = true := by simpa using fun e2 => e e2.symm
      rw [if_neg e, if_pos e2]
      simp only [List.map_cons]
      rw [ih hn.2]; rfl
theorem count_drop {L : List T36} (hn : (L.map key).Nodup) {r : T36} (hr : r ∈ L) (p : T36 → Bool) : L.countP p = (rdrop L (key r)).countP p + if p r = true then 1 else 0 := by
  induction L with
  | nil => cases hr
  | cons x L ih =>
    simp only [List.map_cons, List.nodup_cons] at hn
    simp only [rdrop, List.filter_cons, List.countP_cons]
    by_cases e : key x = key r
    · have hx : x = r := by
        rcases List.mem_cons.1 hr with rfl | hr
        · rfl
        · exact absurd (e ▸ List.mem_map.2 ⟨r, hr, rfl⟩) hn.1
      subst hx
      have : L.filter (fun y => decide (key y ≠ key x)) = L := List.filter_eq_self.2 fun y hy => decide_eq_true fun e2 => hn.1 (e2 ▸ List.mem_map.2 ⟨y, hy, rfl⟩)
      have e3 : decide (key x ≠ key x) = false := by simp
      simp only [e3, Bool.false_eq_true, if_false, this]
    · have hr' : r ∈ L := by
        rcases List.mem_cons.1 hr with rfl | hr
        · exact absurd rfl e
        · exact hr
      have e3 : decide (key x ≠ key r) = true := by simpa using e
      rw [if_pos e3, List.countP_cons]
      have := ih hn.2 hr'
      unfold rdrop at this
      rw [this]; omega
theorem rdrop_none {L : List T36} {k : T32} (h : k ∉ L.map key) : rdrop L k = L := List.filter_eq_self.2 fun x hx => decide_eq_true fun e => h (e ▸ List.mem_map.2 ⟨x, hx, rfl⟩)
theorem rdrop_sub (L : List T36) (k : T32) : (rdrop L k).Sublist L := List.filter_sublist
theorem TI.drop {t : T97} {L : List T36} (h : TI t L) (k : T32) : TI (tdrop t k) (rdrop L k) := by
  unfold tdrop
  by_cases e : (mget t.f0 k).isSome = true
  · rw [if_pos e]
    have hk : k ∈ L.map key := Classical.byContradiction fun hn => by rw [(h.get_none k).2 hn] at e; cases e
    obtain ⟨r, hr, rfl⟩ := List.mem_map.1 hk
    refine ⟨?_, fun o l i => ?_, h.nd.sublist ((rdrop_sub L _).map _), fun x hx => h.may x ((rdrop_sub L _).subset hx)⟩
    · simp only; rw [h.lv]; exact filter_key h.nd _
    · simp only; rw [cv_cup, h.ct]
      unfold cnt
      rw [count_drop h.nd hr]
      simp only [key, inr, decide_eq_true_eq]
      by_cases e3 : r.f0 = o ∧ 0 ≤ l ∧ l ≤ 5 ∧ r.f1 / 4 ^ (5 - l).toNat = i
      · have e4 : o = r.f0 ∧ 0 ≤ l ∧ l < ((6 : Nat) : Int) ∧ i = r.f1 / 4 ^ (5 - l.toNat) := ⟨e3.1.symm, e3.2.1, by omega, by rw [← lvl l e3.2.1]; exact e3.2.2.2.symm⟩
        simp only [if_pos e3, if_pos e4]; omega
      · have e4 : ¬ (o = r.f0 ∧ 0 ≤ l ∧ l < ((6 : Nat) : Int) ∧ i = r.f1 / 4 ^ (5 - l.toNat)) := fun e4 => e3 ⟨e4.1.symm, e4.2.1, by omega, by rw [lvl l e4.2.1]; exact e4.2.2.2.symm⟩
        simp only [if_neg e3, if_neg e4]; omega
  · rw [if_neg e]
    have hk : k ∉ L.map key := (h.get_none k).1 (by cases hm : mget t.f0 k with
      | none => rfl
      | some => rw [hm] at e; exact absurd rfl e)
    rw [rdrop_none hk]; exact h
theorem rput_len (L : List T36) (r : T36) : L.length ≤ (rput L r).length ∧ (rput L r).length ≤ L.length + 1 := by unfold rput; split <;> simp
theorem rdrop_len (L : List T36) (k : T32) : (rdrop L k).length ≤ L.length := (rdrop_sub L k).length_le

/-! ## Puts and drops -/
theorem put_many : ∀ (l : List T36) (L : List T36), (l.foldl rput L).length ≤ L.length + l.length ∧ L.length ≤ (l.foldl rput L).length
  | [], L => by simp
  | r :: l, L => by
    have h1 := put_many l (rput L r)
    have h2 := rput_len L r
    simp only [List.foldl_cons, List.length_cons]; omega
theorem TI.puts {t : T97} {L : List T36} (h : TI t L) : ∀ l : List T36, TI (l.foldl tput t) (l.foldl rput L) := by
  intro l
  induction l generalizing t L with
  | nil => exact h
  | cons r l ih => exact ih (h.put r)
theorem TI.drops {t : T97} {L : List T36} (h : TI t L) : ∀ l : List T32, TI (l.foldl tdrop t) (l.foldl rdrop L) := by
  intro l
  induction l generalizing t L with
  | nil => exact h
  | cons r l ih => exact ih (h.drop r)
theorem foldl_take {α β : Type} (f : β → α → β) (b : β) (l : List α) (d : α) {i : Nat} (h : i < l.length) : (l.take (i + 1)).foldl f b = f ((l.take i).foldl f b) (l.getD i d) := by
  rw [take_getD l d h, List.foldl_append]; rfl
theorem lay_range {r : T36} (h : Mayr r) : 0 ≤ (key r).f1 ∧ (key r).f1 < 4294967296 := by have := h.1; simp only [key]; omega
theorem len_lay_short {r : T36} (h : Mayr r) : (lay r).length ≤ 1000 := by rw [len_lay]; have := h.2.2.1; omega
theorem Put_t_ev {t : T97} {L : List T36} (h : TI t L) (l : List T36) (hl : L.length + l.length ≤ 1000000) :
    Ev (fun k => tree_Tree_Put k t l) ((((l.foldl rput L).length : Int) - (L.length : Int)), l.foldl tput t) := by
  have := Ev.count (F := fun k (s : Int × T97) i => tree_Tree_Put_l0 l k s.1 i s.2) (r := ((((l.foldl rput L).length : Int) - (L.length : Int)), l.foldl tput t)) (fun i => (((((l.take i).foldl rput L).length : Int) - (L.length : Int)), (l.take i).foldl tput t)) l.length (fun i hi r H => by
    obtain ⟨x, hx⟩ : ∃ x, x = l.getD i z36 := ⟨_, rfl⟩
    have hpl := put_many (l.take i) L
    rw [List.length_take] at hpl
    simp only [foldl_take rput L l z36 hi, foldl_take tput t l z36 hi, ← hx] at H
    obtain ⟨t', ht'⟩ : ∃ t', t' = (l.take i).foldl tput t := ⟨_, rfl⟩
    obtain ⟨L', hL'⟩ : ∃ L', L' = (l.take i).foldl rput L := ⟨_, rfl⟩
    have hT : TI t' L' := by rw [ht', hL']; exact h.puts (l.take i)
    simp only [← hL', ← ht'] at hpl H ⊢
    have hstep : ∀ k, tree_Tree_Put_l0 l (k + 1) (((L'.length : Int) - (L.length : Int))) (i : Int) t' = (record_Lay k x).bind fun t11 => ((if ¬ t11.2 = 0 then some true else some ((mget t'.f0 (key x)).isSome)).bind fun s16 => (if s16 = true then tree_Tree_Put_l0 l k (((L'.length : Int) - (L.length : Int))) (((i + 1 : Nat) : Int)) t' else ((digest_Of k ([t11.1] : List (List Int))).bind fun t23 => ((tree_Tree_count k (⟨(mput t'.f0 (key x) (⟨x.f0, x.f1, x.f2, x.f3, x.f4, t23⟩ : T103)), t'.f1⟩ : T97) (key x) 1).bind fun t30 => tree_Tree_Put_l0 l k ((((L'.length : Int) - (L.length : Int)) + 1)) (((i + 1 : Nat) : Int)) t30)))) := fun k => by
      rw [tree_Tree_Put_l0, if_pos (by omega), if_pos (by omega), Int.toNat_natCast, ← hx, i64w (x := (i : Int) + 1) (by omega), i64w (x := (L'.length : Int) - (L.length : Int) + 1) (by omega)]
      rfl
    refine Ev.step hstep (Ev.bind (Lay_ev x) ?_)
    unfold laid
    by_cases hm : Mayr x
    · rw [if_pos hm]
      simp only [not_true_eq_false, if_false, Option.bind_some]
      by_cases hg : mget t'.f0 (key x) = none
      · have e1 : tput t' x = ⟨mput t'.f0 (key x) (leafOf x), cup (key x) 1 6 t'.f1⟩ := if_pos ⟨hm, hg⟩
        have e2 : rput L' x = L' ++ [x] := if_pos ⟨hm, (hT.get_none _).1 hg⟩
        rw [e1, e2] at H
        refine Ev.neg (by rw [hg]; simp) (Ev.bind ((digest_Of_ev [lay x] (by unfold Short maxLen; simp) (fun y hy => by simp at hy; subst hy; have := len_lay_short hm; unfold Short maxLen; omega))) ?_)
        refine Ev.bind ((count_ev ⟨mput t'.f0 (key x) (leafOf x), t'.f1⟩ (key x) 1 (lay_range hm) (by omega) (hT.bound (by omega))).congr fun k => by simp [leafOf, dg]) ?_
        rw [List.length_append, List.length_singleton] at H
        rw [show ((L'.length : Int) - (L.length : Int)) + 1 = ((L'.length + 1 : Nat) : Int) - (L.length : Int) by omega]
        exact H
      · have e1 : tput t' x = t' := if_neg (fun h => hg h.2)
        have e2 : rput L' x = L' := if_neg (fun h => hg ((hT.get_none _).2 h.2))
        rw [e1, e2] at H
        refine Ev.pos (by cases hm2 : mget t'.f0 (key x) with
          | none => exact absurd hm2 hg
          | some => rfl) H
    · rw [if_neg hm]
      have e1 : tput t' x = t' := if_neg (fun h => hm h.1)
      have e2 : rput L' x = L' := if_neg (fun h => hm h.1)
      rw [e1, e2] at H
      simp only [show ¬ (2 : Int) = 0 by omega, not_false_eq_true, if_true, Option.bind_some]
      exact H) (by
    refine Ev.step (g := fun _ => some _) (fun k => ?_) (Ev.now _)
    rw [tree_Tree_Put_l0, if_neg (by omega), List.take_of_length_le (Nat.le_refl _)])
  simp only [List.take_zero, List.foldl_nil, Int.sub_self] at this
  exact Ev.bind this (Ev.now _)
theorem Get_some (t : T97) {L : List T36} (h : TI t L) (k : T32) : ∃ x, tree_Tree_Get t k = some (x, (mget t.f0 k).isSome) ∧ ∀ r, (L.find? fun r => decide (key r = k)) = some r → x = r := by
  refine ⟨_, rfl, fun r hr => ?_⟩
  rw [h.get, hr]
  rfl
theorem Drop_t_ev {t : T97} {L : List T36} (h : TI t L) (l : List T32) (hl : L.length ≤ 1000000) (hll : l.length ≤ 1000000) :
    Ev (fun k => tree_Tree_Drop k t l) (((L.length : Int) - ((l.foldl rdrop L).length : Int)), l.foldl tdrop t) := by
  have hdl : ∀ l : List T32, (l.foldl rdrop L).length ≤ L.length := by
    intro l
    have : ∀ (l : List T32) (M : List T36), (l.foldl rdrop M).length ≤ M.length := by
      intro l
      induction l with
      | nil => intro M; exact Nat.le_refl _
      | cons x l ih => intro M; exact Nat.le_trans (ih _) (rdrop_len M x)
    exact this l L
  have := Ev.count (F := fun k (s : Int × T97) i => tree_Tree_Drop_l0 l k s.1 i s.2) (r := (((L.length : Int) - ((l.foldl rdrop L).length : Int)), l.foldl tdrop t)) (fun i => (((L.length : Int) - (((l.take i).foldl rdrop L).length : Int)), (l.take i).foldl tdrop t)) l.length (fun i hi r H => by
    obtain ⟨x, hx⟩ : ∃ x, x = l.getD i z32 := ⟨_, rfl⟩
    have hpl := hdl (l.take i)
    simp only [foldl_take rdrop L l z32 hi, foldl_take tdrop t l z32 hi, ← hx] at H
    obtain ⟨t', ht'⟩ : ∃ t', t' = (l.take i).foldl tdrop t := ⟨_, rfl⟩
    obtain ⟨L', hL'⟩ : ∃ L', L' = (l.take i).foldl rdrop L := ⟨_, rfl⟩
    have hT : TI t' L' := by rw [ht', hL']; exact h.drops (l.take i)
    simp only [← hL', ← ht'] at hpl H ⊢
    obtain ⟨y, hy, _⟩ := Get_some t' hT x
    have hstep : ∀ k, tree_Tree_Drop_l0 l (k + 1) ((L.length : Int) - (L'.length : Int)) (i : Int) t' = (if (mget t'.f0 x).isSome = true then (tree_Tree_count k (⟨mdel t'.f0 x, t'.f1⟩ : T97) x (-1)).bind fun t18 => tree_Tree_Drop_l0 l k (((L.length : Int) - (L'.length : Int)) + 1) (((i + 1 : Nat) : Int)) t18 else tree_Tree_Drop_l0 l k ((L.length : Int) - (L'.length : Int)) (((i + 1 : Nat) : Int)) t') := fun k => by
      rw [tree_Tree_Drop_l0, if_pos (by omega), if_pos (by omega), Int.toNat_natCast, ← hx, i64w (x := (i : Int) + 1) (by omega), i64w (x := (L.length : Int) - (L'.length : Int) + 1) (by omega)]
      rw [show (⟨x.f0, x.f1⟩ : T32) = x from rfl, hy]
      rfl
    refine Ev.step hstep (Ev.ite (fun hs => ?_) (fun hs => ?_))
    · have hk : x ∈ L'.map key := Classical.byContradiction fun hn => by rw [(hT.get_none x).2 hn] at hs; cases hs
      obtain ⟨r0, hr0, rfl⟩ := List.mem_map.1 hk
      have hm := hT.may r0 hr0
      have e1 : tdrop t' (key r0) = ⟨mdel t'.f0 (key r0), cup (key r0) (-1) 6 t'.f1⟩ := if_pos hs
      have hc := count_drop hT.nd hr0 (fun _ => true)
      simp only [List.countP_true, if_true] at hc
      rw [e1] at H
      refine Ev.bind (count_ev ⟨mdel t'.f0 (key r0), t'.f1⟩ (key r0) (-1) (lay_range hm) (by omega) (hT.bound (by omega))) ?_
      rw [show ((L.length : Int) - (L'.length : Int)) + 1 = (L.length : Int) - ((rdrop L' (key r0)).length : Int) by omega]
      exact H
    · have e1 : tdrop t' x = t' := if_neg hs
      have e2 : rdrop L' x = L' := rdrop_none ((hT.get_none x).1 (by cases hm : mget t'.f0 x with
        | none => rfl
        | some => rw [hm] at hs; exact absurd rfl hs))
      rw [e1, e2] at H
      exact H) (by
    refine Ev.step (g := fun _ => some _) (fun k => ?_) (Ev.now _)
    rw [tree_Tree_Drop_l0, if_neg (by omega), List.take_of_length_le (Nat.le_refl _)])
  simp only [List.take_zero, List.foldl_nil, Int.sub_self] at this
  exact Ev.bind this (Ev.now _)
end Go.Proofs.YtajhihpaccggdaaDoor.Pure
