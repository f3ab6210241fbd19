
import Derived.Test.YtbifgnloeopdaaaDoorF0
import Derived.Test.YtbifgnloeopdaaaDoorF1
import Derived.Test.YtbifgnloeopdaaaDoorF2
import Derived.Test.YtbifgnloeopdaaaDoorGgP
namespace Go.Proofs.YtbifgnloeopdaaaDoor.Pure
open Go Go.Gg Go.Gp Gf
set_option linter.unusedVariables false

def Vec (n : Nat) (v : List Int) : Prop := v.length = n ∧ ∀ i, 0 ≤ v.getD i 0 ∧ v.getD i 0 ≤ 1023
def mx (a b : Int) : Int := if b > a then b else a
def mn (a b : Int) : Int := if b < a then b else a
def zip (f : Int → Int → Int) (a b : List Int) : List Int := List.zipWith f a b

theorem vec_ext {n : Nat} {a b : List Int} (ha : a.length = n) (hb : b.length = n) (h : ∀ i, i < n → a.getD i 0 = b.getD i 0) : a = b := by
  apply List.ext_getElem (by omega)
  intro i h1 h2
  have := h i (by omega)
  rwa [getD_eq a 0 h1, getD_eq b 0 h2] at this
theorem len_zip {n : Nat} {f : Int → Int → Int} {a b : List Int} (ha : a.length = n) (hb : b.length = n) : (zip f a b).length = n := by
  unfold zip; rw [List.length_zipWith]; omega
theorem getD_zip {n : Nat} {f : Int → Int → Int} {a b : List Int} (ha : a.length = n) (hb : b.length = n) {i : Nat} (h : i < n) : (zip f a b).getD i 0 = f (a.getD i 0) (b.getD i 0) := by
  rw [getD_eq _ 0 (by rw [len_zip ha hb]; exact h), getD_eq a 0 (by omega), getD_eq b 0 (by omega)]
  simp [zip]
theorem getD_over {α : Type} (v : List α) (d : α) {i : Nat} (h : v.length ≤ i) : v.getD i d = d := by
  simp [List.getD_eq_getElem?_getD, List.getElem?_eq_none h]
theorem Vec.of {n : Nat} {v : List Int} (h : v.length = n) (H : ∀ i, i < n → 0 ≤ v.getD i 0 ∧ v.getD i 0 ≤ 1023) : Vec n v :=
  ⟨h, fun i => if e : i < n then H i e else by rw [getD_over v 0 (by omega)]; omega⟩
theorem Vec.join {n : Nat} {a b : List Int} (ha : Vec n a) (hb : Vec n b) : Vec n (zip mx a b) :=
  Vec.of (len_zip ha.1 hb.1) fun i h => by rw [getD_zip ha.1 hb.1 h]; have := ha.2 i; have := hb.2 i; unfold mx; split <;> omega
theorem Vec.meet {n : Nat} {a b : List Int} (ha : Vec n a) (hb : Vec n b) : Vec n (zip mn a b) :=
  Vec.of (len_zip ha.1 hb.1) fun i h => by rw [getD_zip ha.1 hb.1 h]; have := ha.2 i; have := hb.2 i; unfold mn; split <;> omega
theorem getD_zero (n i : Nat) : (List.replicate n (0 : Int)).getD i 0 = 0 := by
  by_cases h : i < n
  · rw [getD_eq _ 0 (by simpa using h)]; simp
  · exact getD_over _ 0 (by simp; omega)
theorem Vec.zero (n : Nat) : Vec n (List.replicate n (0 : Int)) := Vec.of (by simp) fun i h => by rw [getD_zero]; omega

theorem least {P : Nat → Prop} (h : ∃ n, P n) : ∃ n, P n ∧ ∀ j, j < n → ¬ P j := by
  obtain ⟨n, hn⟩ := h
  induction n using Nat.strongRecOn with
  | ind n ih =>
    by_cases e : ∃ j, j < n ∧ P j
    · obtain ⟨j, hj, hp⟩ := e; exact ih j hj hp
    · exact ⟨n, hn, fun j hj hp => e ⟨j, hj, hp⟩⟩

theorem step64 (i : Nat) (h : i < 4294967296) : IntKind.i64.wrap ((i : Int) + 1) = ((i + 1 : Nat) : Int) := by rw [i64w (by omega)]; omega

def cross (f : Int → Int → Int) (a b : List Int) (i : Nat) : List Int := (zip f a b).take i ++ a.drop i
theorem cross_len {f : Int → Int → Int} {n : Nat} {a b : List Int} (ha : a.length = n) (hb : b.length = n) {i : Nat} (h : i ≤ n) : (cross f a b i).length = n := by
  unfold cross; rw [List.length_append, List.length_take, List.length_drop, len_zip ha hb]; omega
theorem cross_get {f : Int → Int → Int} {n : Nat} {a b : List Int} (ha : a.length = n) (hb : b.length = n) {i : Nat} (h : i < n) : (cross f a b i).getD i 0 = a.getD i 0 := by
  have hl : ((zip f a b).take i).length = i := by rw [List.length_take, len_zip ha hb]; omega
  unfold cross; rw [List.getD_eq_getElem?_getD, List.getElem?_append_right (by omega), hl]; simp
theorem cross_set {f : Int → Int → Int} {n : Nat} {a b : List Int} (ha : a.length = n) (hb : b.length = n) {i : Nat} (h : i < n) : (cross f a b i).set i (f (a.getD i 0) (b.getD i 0)) = cross f a b (i + 1) := by
  have hl : ((zip f a b).take i).length = i := by rw [List.length_take, len_zip ha hb]; omega
  unfold cross
  rw [List.set_append_right _ _ (by omega), hl, Nat.sub_self, take_getD _ 0 (by rw [len_zip ha hb]; exact h), getD_zip ha hb h, List.append_assoc, drop_getD a 0 (by omega)]
  rfl
theorem cross_zero (f : Int → Int → Int) (a b : List Int) : cross f a b 0 = a := by simp [cross]
theorem cross_all {f : Int → Int → Int} {n : Nat} {a b : List Int} (ha : a.length = n) (hb : b.length = n) : cross f a b n = zip f a b := by
  unfold cross; rw [List.take_of_length_le (by rw [len_zip ha hb]; omega), List.drop_eq_nil_of_le (by omega), List.append_nil]

theorem join1 (L : List (List Int)) (m n : Nat) (a b : List Int) (hn : n ≤ 8) (ha : a.length = n) (hb : b.length = n) (hL : L.getD m [] = b) :
    Ev (fun k => vector_fold_l1 L a (m : Int) k 0 a) (zip mx a b) := by
  have := Ev.count (F := fun k s i => vector_fold_l1 L a (m : Int) k i s) (r := zip mx a b) (fun i => cross mx a b i) n (fun i hi r H => by
    refine Ev.step (fun k => ?_) H
    rw [vector_fold_l1, Int.toNat_natCast, Int.toNat_natCast, hL, if_pos (by omega), if_pos (by rw [cross_len ha hb (by omega)]; omega), if_pos (by omega)]
    simp only [vector_Join_1, Option.bind_some]
    rw [if_pos (by rw [cross_len ha hb (by omega)]; omega), cross_get ha hb hi, step64 i (by omega)]
    exact congrArg _ (cross_set (f := mx) ha hb hi)) (by
    refine Ev.step (g := fun _ => some (zip mx a b)) (fun k => ?_) (Ev.now _)
    rw [vector_fold_l1, if_neg (by omega), cross_all ha hb])
  rwa [cross_zero] at this
def many (f : Int → Int → Int) : List (List Int) → List Int
  | [] => []
  | v :: vs => vs.foldl (zip f) v
theorem many_len {f : Int → Int → Int} {n : Nat} : ∀ (vs : List (List Int)) (a : List Int), a.length = n → (∀ v ∈ vs, v.length = n) → (vs.foldl (zip f) a).length = n
  | [], a, ha, _ => ha
  | v :: vs, a, ha, h => many_len vs (zip f a v) (len_zip ha (h v (by simp))) fun w hw => h w (by simp [hw])
theorem take_many {f : Int → Int → Int} (L : List (List Int)) {m : Nat} (h : m < L.length) (h0 : 0 < m) : many f (L.take (m + 1)) = zip f (many f (L.take m)) (L.getD m []) := by
  rw [take_getD L [] h]
  cases L with
  | nil => simp at h
  | cons a tl =>
    obtain ⟨m, rfl⟩ : ∃ j, m = j + 1 := ⟨m - 1, by omega⟩
    simp [many, List.foldl_append]
theorem join_ev (L : List (List Int)) (n : Nat) (hn : n ≤ 8) (h0 : L ≠ []) (hL : ∀ v ∈ L, v.length = n) (hl : L.length < 1000) : Ev (fun k => vector_Join k L) (many mx L) := by
  have hp : 0 < L.length := List.length_pos_iff.2 h0
  have key : ∀ d m, m + d = L.length → 0 < m → Ev (fun k => vector_fold_l0 L k (many mx (L.take m)) (m : Int)) (Sum.inr (many mx L)) := by
    intro d
    induction d with
    | zero =>
      intro m hm _
      refine Ev.step (g := fun _ => some (Sum.inr (many mx L))) (fun k => ?_) (Ev.now _)
      rw [vector_fold_l0, if_neg (by omega), List.take_of_length_le (by omega)]
    | succ d ih =>
      intro m hm hm0
      have hv : (L.getD m []).length = n := hL _ (getD_mem L [] (by omega))
      have ha : (many mx (L.take m)).length = n := by
        obtain ⟨a, tl, e⟩ : ∃ a tl, L.take m = a :: tl := by
          cases e : L.take m with
          | nil => have e' : (L.take m).length = 0 := by rw [e]; rfl
                   rw [List.length_take] at e'; omega
          | cons a tl => exact ⟨a, tl, rfl⟩
        rw [e]
        have hm' : ∀ v ∈ a :: tl, v.length = n := fun v hv => hL v (List.mem_of_mem_take (by rw [e]; exact hv))
        exact many_len tl a (hm' a (by simp)) fun v hv => hm' v (by simp [hv])
      have H := ih (m + 1) (by omega) (by omega)
      rw [take_many L (by omega) hm0] at H
      refine Ev.step (fun k => ?_) (Ev.bind (g := fun k s => vector_fold_l0 L k s ((m + 1 : Nat) : Int)) (join1 L m n _ _ hn ha hv rfl) H)
      rw [vector_fold_l0, Int.toNat_natCast, if_pos (by omega), if_pos (by omega), if_neg (by omega), if_neg (by rw [hv, ha]; exact fun h => h rfl), step64 m (by omega)]
  unfold vector_Join vector_fold
  refine Ev.bind (b := many mx L) (Ev.bind (b := Sum.inr (many mx L)) ?_ (Ev.now _)) (Ev.now _)
  refine Ev.step (fun k => ?_) (key (L.length - 1) 1 (by omega) (by omega))
  have hv : (L.getD 0 []).length = n := hL _ (getD_mem L [] (by omega))
  have e1 : many mx (L.take 1) = L.getD 0 [] := by
    cases L with
    | nil => exact absurd rfl h0
    | cons a tl => simp [many]
  rw [vector_fold_l0, if_pos (by omega), if_pos (by omega), if_pos rfl, if_pos (by show 0 + (L.getD 0 []).length ≤ _; omega), e1]
  exact congrArg _ (i64w (by omega))
theorem SameInts_ev (a b : List Int) (hl : a.length < 1000) : Ev (fun k => grapevinelaw0_SameInts k a b) (decide (a = b)) := by
  unfold grapevinelaw0_SameInts
  refine Ev.ite (fun h => (Ev.now _).is ?_) (fun h => ?_)
  · have : a ≠ b := fun e => h (by rw [e])
    simp [this]
  have h : a.length = b.length := by omega
  by_cases e : a = b
  · subst e
    refine (Ev.bind (b := Sum.inr ()) ?_ (Ev.now true)).is (by simp)
    exact Ev.count (F := fun k (_ : Unit) i => grapevinelaw0_SameInts_l0 a a k i) (fun _ => ()) a.length (fun i hi r H => by
      refine Ev.step (fun k => ?_) H
      rw [grapevinelaw0_SameInts_l0, if_pos (by omega), if_pos (by omega), if_pos (by omega), if_neg (by simp), step64 i (by omega)]) (by
      refine Ev.step (g := fun _ => some (Sum.inr ())) (fun k => ?_) (Ev.now _)
      rw [grapevinelaw0_SameInts_l0, if_neg (by omega)])
  · obtain ⟨m, hm, hne, hpre⟩ : ∃ m, m < a.length ∧ a.getD m 0 ≠ b.getD m 0 ∧ ∀ j, j < m → a.getD j 0 = b.getD j 0 := by
      by_cases H : ∃ m, m < a.length ∧ a.getD m 0 ≠ b.getD m 0
      · have hP : ∃ m, m < a.length ∧ a.getD m 0 ≠ b.getD m 0 := H
        obtain ⟨m, ⟨h1, h2⟩, hmin⟩ := least hP
        exact ⟨m, h1, h2, fun j hj => by
          have := hmin j hj
          by_cases e' : a.getD j 0 = b.getD j 0
          · exact e'
          · exact absurd ⟨by omega, e'⟩ this⟩
      · exact absurd (vec_ext rfl h.symm fun i hi => by
          by_cases e' : a.getD i 0 = b.getD i 0
          · exact e'
          · exact absurd ⟨i, hi, e'⟩ H) e
    refine (Ev.bind (b := Sum.inl false) ?_ (Ev.now false)).is (by simp [e])
    exact Ev.count (F := fun k (_ : Unit) i => grapevinelaw0_SameInts_l0 a b k i) (fun _ => ()) m (fun i hi r H => by
      refine Ev.step (fun k => ?_) H
      rw [grapevinelaw0_SameInts_l0, if_pos (by omega), if_pos (by omega), if_pos (by omega), Int.toNat_natCast, if_neg (by rw [hpre i hi]; simp), step64 i (by omega)]) (by
      refine Ev.step (g := fun _ => some (Sum.inl false)) (fun k => ?_) (Ev.now _)
      rw [grapevinelaw0_SameInts_l0, if_pos (by omega), if_pos (by omega), if_pos (by omega), Int.toNat_natCast, if_pos hne])

def Le (n : Nat) (a b : List Int) : Prop := ∀ i, i < n → a.getD i 0 ≤ b.getD i 0
instance (n : Nat) (a b : List Int) : Decidable (Le n a b) := Nat.decidableBallLT n fun i _ => a.getD i 0 ≤ b.getD i 0
theorem Below_ev {n : Nat} {a b : List Int} (ha : a.length = n) (hb : b.length = n) (hn : n ≤ 8) : Ev (fun k => grapevineref3_Below k a b) (decide (Le n a b)) := by
  unfold grapevineref3_Below
  refine Ev.neg (by omega) ?_
  by_cases e : Le n a b
  · refine (Ev.bind (b := Sum.inr ()) ?_ (Ev.now true)).is (by simp [e])
    exact Ev.count (F := fun k (_ : Unit) i => grapevineref3_Below_l0 a b k i) (fun _ => ()) n (fun i hi r H => by
      refine Ev.step (fun k => ?_) H
      have := e i hi
      rw [grapevineref3_Below_l0, if_pos (by omega), if_pos (by omega), if_pos (by omega), Int.toNat_natCast, if_neg (by omega), step64 i (by omega)]) (by
      refine Ev.step (g := fun _ => some (Sum.inr ())) (fun k => ?_) (Ev.now _)
      rw [grapevineref3_Below_l0, if_neg (by omega)])
  · obtain ⟨m, hm, hne, hpre⟩ : ∃ m, m < n ∧ a.getD m 0 > b.getD m 0 ∧ ∀ j, j < m → a.getD j 0 ≤ b.getD j 0 := by
      have hP : ∃ m, m < n ∧ a.getD m 0 > b.getD m 0 := by
        by_cases H : ∃ m, m < n ∧ a.getD m 0 > b.getD m 0
        · exact H
        · exact absurd (fun i hi => by
            by_cases e' : a.getD i 0 ≤ b.getD i 0
            · exact e'
            · exact absurd ⟨i, hi, by omega⟩ H) e
      obtain ⟨m, ⟨h1, h2⟩, hmin⟩ := least hP
      exact ⟨m, h1, h2, fun j hj => by
        have := hmin j hj
        by_cases e' : a.getD j 0 ≤ b.getD j 0
        · exact e'
        · exact absurd ⟨by omega, by omega⟩ this⟩
    refine (Ev.bind (b := Sum.inl false) ?_ (Ev.now false)).is (by simp [e])
    exact Ev.count (F := fun k (_ : Unit) i => grapevineref3_Below_l0 a b k i) (fun _ => ()) m (fun i hi r H => by
      refine Ev.step (fun k => ?_) H
      have := hpre i hi
      rw [grapevineref3_Below_l0, if_pos (by omega), if_pos (by omega), if_pos (by omega), Int.toNat_natCast, if_neg (by omega), step64 i (by omega)]) (by
      refine Ev.step (g := fun _ => some (Sum.inl false)) (fun k => ?_) (Ev.now _)
      rw [grapevineref3_Below_l0, if_pos (by omega), if_pos (by omega), if_pos (by omega), Int.toNat_natCast, if_pos hne])
theorem May_ev {n : Nat} {v : List Int} (hv : Vec n v) (h1 : 1 ≤ n) (hn : n ≤ 8) : Ev (fun k => vector_May k v (n : Int)) true := by
  have hl := hv.1
  unfold vector_May
  refine Ev.bind (b := false) ((Ev.now _).congr fun k => ?_) ?_
  · rw [if_neg (by omega), if_neg (by omega), hl]; simp
  refine Ev.neg (by simp) ?_
  refine Ev.bind (b := Sum.inr ()) ?_ (Ev.now true)
  exact Ev.count (F := fun k (_ : Unit) i => vector_May_l0 v k i) (fun _ => ()) n (fun i hi r H => by
    refine Ev.step (fun k => ?_) H
    have := hv.2 i
    rw [vector_May_l0, if_pos (by omega), if_pos (by omega), Int.toNat_natCast, if_neg (by omega), decide_eq_false (by omega)]
    simp only [Option.bind_some]
    rw [if_neg (by simp), step64 i (by omega)]) (by
    refine Ev.step (g := fun _ => some (Sum.inr ())) (fun k => ?_) (Ev.now _)
    rw [vector_May_l0, if_neg (by omega)])

theorem Zero_some {n : Nat} (h1 : 1 ≤ n) (hn : n ≤ 8) : vector_Zero (n : Int) = some (List.replicate n 0) := by
  unfold vector_Zero
  rw [if_neg (by omega), decide_eq_false (by omega)]
  simp only [Option.bind_some]
  rw [if_neg (by simp), if_pos (by omega), Int.toNat_natCast]

def top (y f : List Int) (o : Nat) : Int := if f.getD o 0 > y.getD o 0 then f.getD o 0 else y.getD o 0
def lk (m y f : List Int) : Nat → List T73
  | 0 => []
  | o + 1 => if top y f o < m.getD o 0 then lk m y f o ++ [⟨o, top y f o + 1, m.getD o 0 - top y f o⟩] else lk m y f o
theorem lk_len (m y f : List Int) : ∀ n, (lk m y f n).length ≤ n
  | 0 => by simp [lk]
  | n + 1 => by have := lk_len m y f n; unfold lk; split <;> simp <;> omega
theorem lk_mem {m y f : List Int} : ∀ (n : Nat) {t : T73}, t ∈ lk m y f n → ∃ o, o < n ∧ top y f o < m.getD o 0 ∧ t = ⟨o, top y f o + 1, m.getD o 0 - top y f o⟩
  | 0, t, h => by simp [lk] at h
  | n + 1, t, h => by
    unfold lk at h
    split at h
    · rename_i hlt
      rcases List.mem_append.1 h with h | h
      · obtain ⟨o, h1, h2⟩ := lk_mem n h; exact ⟨o, by omega, h2⟩
      · simp at h; exact ⟨n, by omega, hlt, h⟩
    · obtain ⟨o, h1, h2⟩ := lk_mem n h; exact ⟨o, by omega, h2⟩
theorem top_range {n : Nat} {y f : List Int} (hy : Vec n y) (hf : Vec n f) (o : Nat) : 0 ≤ top y f o ∧ top y f o ≤ 1023 := by
  have := hy.2 o; have := hf.2 o; unfold top; split <;> omega
theorem Lack_ev {n : Nat} {m y f : List Int} (hm : Vec n m) (hy : Vec n y) (hf : Vec n f) (hn : n ≤ 8) : Ev (fun k => vector_Lack k m y f) (lk m y f n) := by
  have h1 := hm.1; have h2 := hy.1; have h3 := hf.1
  unfold vector_Lack
  refine Ev.bind (b := false) ((Ev.now _).congr fun k => ?_) ?_
  · rw [if_neg (by omega), h1, h3]; simp
  refine Ev.neg (by simp) ?_
  refine Ev.bind (b := lk m y f n) ?_ (Ev.now _)
  exact Ev.count (F := fun k s i => vector_Lack_l0 m y f k s i) (fun i => lk m y f i) n (fun i hi r H => by
    refine Ev.step (fun k => ?_) H
    have := hm.2 i
    have ht := top_range hy hf i
    rw [vector_Lack_l0, if_pos (by omega), if_pos (by omega), if_pos (by omega)]
    simp only [Int.toNat_natCast]
    show (some (top y f i)).bind _ = _
    simp only [Option.bind_some]
    have hl := lk_len m y f i
    rw [if_pos (by omega), step64 i (by omega)]
    by_cases e : top y f i < m.getD i 0
    · rw [if_pos e, if_pos (by omega), i64w (by omega), i64w (by omega), if_pos (by simp; omega)]
      simp only [lk, if_pos e]
    · rw [if_neg e]
      simp only [lk, if_neg e]) (by
    refine Ev.step (g := fun _ => some (lk m y f n)) (fun k => ?_) (Ev.now _)
    rw [vector_Lack_l0, if_neg (by omega)])
theorem join2 {n : Nat} {a b : List Int} (ha : Vec n a) (hb : Vec n b) (hn : n ≤ 8) : Ev (fun k => vector_Join k [a, b]) (zip mx a b) :=
  join_ev [a, b] n hn (by simp) (by intro v hv; simp at hv; rcases hv with rfl | rfl <;> simp [ha.1, hb.1]) (by simp)
theorem same {n : Nat} {a b : List Int} (hn : n ≤ 8) (ha : Vec n a) (hb : Vec n b) (h : ∀ i, i < n → a.getD i 0 = b.getD i 0) : Ev (fun k => grapevinelaw0_SameInts k a b) true :=
  (SameInts_ev a b (by have := ha.1; omega)).is (decide_eq_true (vec_ext ha.1 hb.1 h))
end Go.Proofs.YtbifgnloeopdaaaDoor.Pure
