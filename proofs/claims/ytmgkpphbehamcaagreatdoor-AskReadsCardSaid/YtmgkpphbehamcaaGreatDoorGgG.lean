/- Regions whose operations go in whatever order: an operation that only tells a value may be taken first, as long as what it reads is told of every world that the others come to. -/
import Derived.Test.YtmgkpphbehamcaaGreatDoorGgF
namespace Go.Gg

variable {P : Program} {B : World} {G G' G0 : GMap} {Γ Γ' Γ0 : List Chunk} {L L' : Env} {ty : TypeId} {n : Nat} {Q : Exit → Act → World → Prop} {ops : Array Oper}

def wpAnyR (P : Program) (R : Array Bool → World → Prop) (ops : Array Oper) (Q : Exit → Act → World → Prop) : Nat → Array Bool → Act → World → Prop
  | 0, done, a, w => Region.ready .any ops done = [] ∧ Q .normal a w
  | m + 1, done, a, w => (Region.ready .any ops done = [] → Q .normal a w) ∧
    ∀ i ∈ Region.ready .any ops done, wpOp P ops Q i (fun a' w' => R (done.setIfInBounds i true) w' ∧ wpAnyR P R ops Q m (done.setIfInBounds i true) a' w') a w

theorem wpAnyR_any {R : Array Bool → World → Prop} : ∀ (m : Nat) (done : Array Bool) (a : Act) (w : World), wpAnyR P R ops Q m done a w → wpAny P .any ops Q m done a w
  | 0, _, _, _, h => h
  | m + 1, _, _, _, h => ⟨h.1, fun i hi => wpOp_mono (fun a' w' h' => wpAnyR_any m _ a' w' h'.2) (h.2 i hi)⟩

def Until (kw : Nat) (S : World → Prop) (d : Array Bool) (w : World) : Prop := (kw < d.size → d.getD kw true = false) → S w

theorem wpAnyR_weaken {R R' : Array Bool → World → Prop} : ∀ (m : Nat) (done : Array Bool) (a : Act) (w : World), (∀ d w, (∀ i : Nat, done.getD i true = true → d.getD i true = true) → d.size = done.size → R' d w → R d w) → wpAnyR P R' ops Q m done a w → wpAnyR P R ops Q m done a w
  | 0, _, _, _, _, h => h
  | m + 1, done, _, _, hR, h => ⟨h.1, fun i hi => wpOp_mono (fun a' w' h' => ⟨hR _ _ (fun j hj => by
      by_cases e : i = j
      · subst e
        by_cases hl : i < done.size
        · simp [hl]
        · simp [Array.getD, hl]
      · rw [getD_set_ne true e]; exact hj) (by simp) h'.1, wpAnyR_weaken m _ a' w' (fun d w hd hs hr => hR d w (fun j hj => hd j (by
      by_cases e : i = j
      · subst e
        by_cases hl : i < done.size
        · simp [hl]
        · simp [Array.getD, hl]
      · rw [getD_set_ne true e]; exact hj)) (by simpa using hs) hr) h'.2⟩) (h.2 i hi)⟩

def YR (P : Program) (R : World → Prop) (ops : Array Oper) (o : Oper) (v : Value) (a : Act) : Prop :=
  (Region.wanted o (yielded ops a.tmps) = true ∧ ∀ w, R w → (execOp a.eval o).run P w = .ok (.value v) w) ∨ (Region.wanted o (yielded ops a.tmps) = false ∧ v = undef)

theorem YR.same {R : World → Prop} {o : Oper} {v : Value} {a a' : Act} (h : YR P R ops o v a) (he : execOp a'.eval o = execOp a.eval o) (hw : Region.wanted o (yielded ops a'.tmps) = Region.wanted o (yielded ops a.tmps)) : YR P R ops o v a' := by
  unfold YR; rw [he, hw]; exact h

theorem YR.run {R : World → Prop} {i : Nat} {o : Oper} {v : Value} {a : Act} {w : World} (hi : ops[i]? = some o) (hR : R w) (h : YR P R ops o v a) {K : Act → World → Prop} (hK : K (a.put o.dst v) w) : wpOp P ops Q i K a w := by
  unfold Go.wpOp
  simp only [hi]
  rcases h with ⟨h1, h2⟩ | ⟨h1, rfl⟩
  · rw [if_pos h1]; refine .inl ?_; unfold Oper.wp; rw [h2 w hR]; exact hK
  · rw [if_neg (by simp [h1])]; exact hK

theorem YR.ahead {R : World → Prop} {j : Nat} {oi oj : Oper} {v : Value} (hj : ops[j]? = some oj) (hap : oi.apart ops oj = true) (hsi : ∀ cs b, oi.op ≠ .select cs b) (hsj : ∀ cs b, oj.op ≠ .select cs b)
    (hQ : ∀ c a w, Q (.panic c) (a.put oi.dst v) w → Q (.panic c) a w) {K : Act → World → Prop} {a : Act} {w : World} (h : YR P R ops oi v a) (hK : wpOp P ops Q j K (a.put oi.dst v) w) :
    wpOp P ops Q j (fun a' w' => YR P R ops oi v a' ∧ K (a'.put oi.dst v) w') a w := by
  obtain ⟨h1, h2, h3⟩ := Oper.apart_spec hap
  have stay : ∀ (b : Act) (u : Value), YR P R ops oi v b → YR P R ops oi v (b.put oj.dst u) := fun b u hb => hb.same (execOp_put oi hsi b oj.dst u h3) (wanted_put oi b oj.dst u h3)
  unfold Go.wpOp at hK ⊢
  simp only [hj] at hK ⊢
  rw [wanted_put oj a oi.dst v h1] at hK
  by_cases hw : Region.wanted oj (yielded ops a.tmps) = true
  · rw [if_pos hw] at hK ⊢
    rcases hK with hK | ⟨ha, hl⟩
    · refine .inl ?_
      unfold Oper.wp at hK ⊢
      rw [execOp_put oj hsj a oi.dst v h1] at hK
      generalize (execOp a.eval oj).run P w = r at hK ⊢
      have swap : ∀ (b : Act) (u : Value), (b.put oi.dst v).put oj.dst u = (b.put oj.dst u).put oi.dst v := fun b u => Act.put_comm b v u h2
      cases r with
      | halt x w' => cases x <;> first | exact hK | exact hQ _ _ _ hK
      | ok nx w' =>
        cases nx <;> simp only [Oper.upon] at hK ⊢ <;> first
          | exact hK
          | (rw [swap] at hK; exact ⟨stay _ _ h, hK⟩)
          | (rw [Act.put_defers, swap] at hK; exact ⟨stay _ _ (h.same rfl rfl), hK⟩)
          | (refine Calls.mono hK fun e w'' he => ?_
             cases e <;> first | exact he | exact hQ _ _ _ he | (simp only at he ⊢; rw [swap] at he; exact ⟨stay _ _ h, he⟩))
          | exact Rows.mono hK fun u w'' he => ⟨stay _ _ h, by rw [← swap]; exact he⟩
    · exact .inr ⟨by unfold Oper.asks at ha ⊢; rwa [execOp_put oj hsj a oi.dst v h1] at ha, hl⟩
  · rw [if_neg hw] at hK ⊢
    exact ⟨stay _ _ h, by rw [← Act.put_comm a v undef h2]; exact hK⟩

theorem wpAnyR_first {S : World → Prop} {kw i : Nat} {oi : Oper} {v : Value} (hi : ops[i]? = some oi) (hsel : Region.noSelect ops = true) (hQ : ∀ c a w, Q (.panic c) (a.put oi.dst v) w → Q (.panic c) a w)
    (hik : i ≠ kw) (hdep : ∀ ok, ops[kw]? = some ok → ∃ e ∈ ok.after, Region.binds .any e = true ∧ e.on = i) :
    ∀ (m : Nat) (done : Array Bool) (a : Act) (w : World), done.size = ops.size → (kw < done.size → done.getD kw true = false) → S w →
      (∀ j oj, ops[j]? = some oj → j ≠ i → done.getD j true = false → (∀ e ∈ oj.after, Region.binds .any e = true → e.on ≠ i) → oi.apart ops oj = true) →
      i ∈ Region.ready .any ops done → YR P S ops oi v a → wpAnyR P (Until kw S) ops Q m (done.setIfInBounds i true) (a.put oi.dst v) w → wpAnyR P (Until kw S) ops Q (m + 1) done a w := by
  have hs := Region.noSelect_spec hsel
  intro m
  induction m with
  | zero =>
    intro done a w hsz hk hR _ hr hy H
    refine ⟨fun h => (by rw [h] at hr; cases hr), fun j hj => ?_⟩
    by_cases e : j = i
    · subst e; exact hy.run hi hR ⟨fun _ => hR, H⟩
    · have := ready_mono hj e; rw [H.1] at this; cases this
  | succ m ih =>
    intro done a w hsz hk hR hap hr hy H
    refine ⟨fun h => (by rw [h] at hr; cases hr), fun j hj => ?_⟩
    by_cases e : j = i
    · subst e; exact hy.run hi hR ⟨fun _ => hR, H⟩
    · obtain ⟨hun, oj, hoj, hall⟩ := mem_ready.1 hj
      have hun_i := (mem_ready.1 hr).1
      have hjk : j ≠ kw := fun ejk => by
        subst ejk
        obtain ⟨x, hx, hb, hxi⟩ := hdep oj hoj
        have h1 := hall x hx hb
        rw [hxi] at h1
        rcases Nat.lt_or_ge i done.size with hl | hl
        · simp [hl] at hun_i h1; rw [hun_i] at h1; cases h1
        · simp [Array.getElem?_eq_none hl] at h1
      have hno : ∀ x ∈ oj.after, Region.binds .any x = true → x.on ≠ i := fun x hx hb hxi => by
        have h1 := hall x hx hb
        rw [hxi] at h1
        rcases Nat.lt_or_ge i done.size with hl | hl
        · simp [hl] at hun_i h1; rw [hun_i] at h1; cases h1
        · simp [Array.getElem?_eq_none hl] at h1
      have h1 := YR.ahead hoj (hap j oj hoj e hun hno) (fun cs b => hs i oi cs b hi) (fun cs b => hs j oj cs b hoj) hQ hy (H.2 j (ready_mono hj e))
      refine wpOp_mono (fun a' w' ⟨hy', hR', h'⟩ => ?_) h1
      have hk' : kw < (done.setIfInBounds j true).size → (done.setIfInBounds j true).getD kw true = false := fun hl => by
        rw [getD_set_ne true hjk]; exact hk (by simpa using hl)
      have hS' : S w' := hR' (fun hl => by
        rw [getD_set_ne true hjk, getD_set_ne true hik]; exact hk (by simpa using hl))
      exact ⟨fun _ => hS', ih (done.setIfInBounds j true) a' w' (by simpa using hsz) hk' hS' (fun k ok hk hki hun' hno' => by
        refine hap k ok hk hki ?_ hno'
        by_cases ejk : j = k
        · subst ejk; exact hun
        · rwa [getD_set_ne true ejk] at hun') (ready_mono hr (Ne.symm e)) hy' (by rw [Array.setIfInBounds_comm _ _ e]; exact h')⟩

theorem wpAnyR_firstP {S : World → Prop} {kw i : Nat} {oi : Oper} {v : Value} (hi : ops[i]? = some oi) (hsel : Region.noSelect ops = true) (hQ : ∀ c a w, Q (.panic c) (a.put oi.dst v) w → Q (.panic c) a w) (hik : i ≠ kw) :
    ∀ (m : Nat) (done : Array Bool) (a : Act) (w : World), Until kw S done w →
      (∀ j oj, ops[j]? = some oj → j ≠ i → done.getD j true = false → (∀ e ∈ oj.after, Region.binds .any e = true → e.on ≠ i) → oi.apart ops oj = true) →
      i ∈ Region.ready .any ops done → YR P (fun _ => True) ops oi v a → wpAnyR P (Until kw S) ops Q m (done.setIfInBounds i true) (a.put oi.dst v) w → wpAnyR P (Until kw S) ops Q (m + 1) done a w := by
  have hs := Region.noSelect_spec hsel
  intro m
  induction m with
  | zero =>
    intro done a w hR _ hr hy H
    refine ⟨fun h => (by rw [h] at hr; cases hr), fun j hj => ?_⟩
    by_cases e : j = i
    · subst e; exact hy.run hi trivial ⟨fun h => hR (fun hl => by have := h (by simpa using hl); rwa [getD_set_ne true hik] at this), H⟩
    · have := ready_mono hj e; rw [H.1] at this; cases this
  | succ m ih =>
    intro done a w hR hap hr hy H
    refine ⟨fun h => (by rw [h] at hr; cases hr), fun j hj => ?_⟩
    by_cases e : j = i
    · subst e; exact hy.run hi trivial ⟨fun h => hR (fun hl => by have := h (by simpa using hl); rwa [getD_set_ne true hik] at this), H⟩
    · obtain ⟨hun, oj, hoj, hall⟩ := mem_ready.1 hj
      have hun_i := (mem_ready.1 hr).1
      have hno : ∀ x ∈ oj.after, Region.binds .any x = true → x.on ≠ i := fun x hx hb hxi => by
        have h1 := hall x hx hb
        rw [hxi] at h1
        rcases Nat.lt_or_ge i done.size with hl | hl
        · simp [hl] at hun_i h1; rw [hun_i] at h1; cases h1
        · simp [Array.getElem?_eq_none hl] at h1
      have h1 := YR.ahead hoj (hap j oj hoj e hun hno) (fun cs b => hs i oi cs b hi) (fun cs b => hs j oj cs b hoj) hQ hy (H.2 j (ready_mono hj e))
      refine wpOp_mono (fun a' w' ⟨hy', hR', h'⟩ => ?_) h1
      have hU : Until kw S (done.setIfInBounds j true) w' := fun h => hR' (fun hl => by
        have := h (by simpa using hl)
        rw [Array.setIfInBounds_comm _ _ (Ne.symm e), getD_set_ne true hik]; exact this)
      exact ⟨hU, ih (done.setIfInBounds j true) a' w' hU (fun k ok hk hki hun' hno' => by
        refine hap k ok hk hki ?_ hno'
        by_cases ejk : j = k
        · subst ejk; exact hun
        · rwa [getD_set_ne true ejk] at hun') (ready_mono hr (Ne.symm e)) hy' (by rw [Array.setIfInBounds_comm _ _ e]; exact h')⟩

def WA (P : Program) (ops : Array Oper) (Q : Exit → Act → World → Prop) (kw : Nat) (m : Nat) (done : Array Bool) (n : Nat) (L : Env) (B : World) (G0 : GMap) (Γ0 : List Chunk) (G : GMap) (Γ : List Chunk) : Prop :=
  ∀ a W, Fr n L a → Inv B G Γ W → wpAnyR P (Until kw fun w => Inv B G0 Γ0 w) ops Q m done a W

def NoPanic (Q : Exit → Act → World → Prop) : Prop := ∀ c a d v w, Q (.panic c) (a.put d v) w → Q (.panic c) a w
theorem NoPanic.then {K : Act → World → Prop} (h : NoPanic Q) : NoPanic (Exit.then K Q) := fun c a d v w hq => h c a d v w hq
theorem NoPanic.block {id : Nat} (h : NoPanic Q) : NoPanic (Exit.inBlock id Q) := fun c a d v w hq => h c a d v w hq
theorem NoPanic.body {fn : Func} {R : Ending → World → Prop} : NoPanic (bodyPost P fn R) := fun c a d v w hq => ⟨by have := hq.1; cases d <;> exact this, hq.2⟩

theorem WP.any0 {id kw : Nat} (hm : P.follows .mixedOrders = true) (h : WA P ops Q kw ops.size (Array.replicate ops.size false) n L B G0 Γ0 G Γ) : WP P (.region id ops true) Q n L B G Γ :=
  fun a _ hF hI => wp_region_any hm (wpAnyR_any _ _ _ _ (h a _ hF hI.drew))

def Under (B : World) (G0 : GMap) (Γ0 : List Chunk) (G : GMap) (Γ : List Chunk) : Prop := ∀ w, Inv B G Γ w → Inv B G0 Γ0 w
theorem Under.refl : Under B G Γ G Γ := fun _ h => h
theorem Under.cons {C : Chunk} (h : Under B G0 Γ0 G Γ) : Under B G0 Γ0 G (C :: Γ) := fun w hw => h w (hw.sub (by simp))
theorem Under.empty : Under B G [] G Γ := fun _ h => h.sub (by simp)

def takes (ops : Array Oper) (done : Array Bool) (i : Nat) : Bool := Region.noSelect ops && Region.free .any ops done i && (Region.ready .any ops done).contains i
def ahead (ops : Array Oper) (kw : Nat) (done : Array Bool) (i : Nat) : Bool := done.size == ops.size && (if kw < ops.size then !(done.getD kw true) else true) && i != kw &&
  match ops[kw]? with
  | some o => o.after.any fun e => Region.binds .any e && e.on == i
  | none => true
theorem ahead_spec {kw i : Nat} {done : Array Bool} (h : ahead ops kw done i = true) :
    done.size = ops.size ∧ (kw < done.size → done.getD kw true = false) ∧ i ≠ kw ∧ ∀ ok, ops[kw]? = some ok → ∃ e ∈ ok.after, Region.binds .any e = true ∧ e.on = i := by
  simp only [ahead, Bool.and_eq_true] at h
  obtain ⟨⟨⟨h1, h2⟩, h3⟩, h4⟩ := h
  have h1 : done.size = ops.size := by simpa using h1
  refine ⟨h1, fun hl => ?_, by simpa using h3, fun ok hok => ?_⟩
  · rw [if_pos (by omega)] at h2; simpa using h2
  · rw [hok] at h4
    simp only [Array.any_eq_true', Bool.and_eq_true] at h4
    obtain ⟨e, he, hb, hi⟩ := h4
    exact ⟨e, he, hb, by simpa using hi⟩

structure Sm where
  dst : Option Nat
  looks : List Nat
  after : List Nat
def okSm (ops : Array Oper) (o : Oper) (x : Sm) : Bool := o.dst == x.dst && (o.looksAt ops).all (fun d => x.looks.contains d) &&
  o.after.toList.all (fun e => !Region.binds .any e || x.after.contains e.on) && x.after.all fun k => o.after.toList.any fun e => Region.binds .any e && e.on == k
def okAll (ops : Array Oper) : List Oper → List Sm → Bool
  | [], [] => true
  | o :: os, x :: xs => okSm ops o x && okAll ops os xs
  | _, _ => false
def okSum (ops : Array Oper) (N : Nat) (S : List Sm) : Bool := Region.noSelect ops && okAll ops ops.toList S && ops.size == N
def apartS (x y : Sm) : Bool :=
  (match x.dst with | some d => !(y.looks.contains d) && y.dst != some d | none => true) && (match y.dst with | some d => !(x.looks.contains d) | none => true)
def freeFrom (x : Sm) (i : Nat) (m : Nat) : List Sm → Nat → Bool
  | [], _ => true
  | y :: ys, j => (m.testBit j || y.after.contains i || apartS x y || j == i) && freeFrom x i m ys (j + 1)
def readyS (x : Sm) (N m i : Nat) : Bool := !(m.testBit i) && x.after.all fun k => decide (k < N) && m.testBit k
def takesS (S : List Sm) (N m : Nat) (i : Nat) : Bool := match S[i]? with
  | some x => freeFrom x i m S 0 && readyS x N m i
  | none => false
def aheadS (S : List Sm) (N kw m i : Nat) : Bool := (if kw < N then !(m.testBit kw) else true) && i != kw &&
  match S[kw]? with
  | some y => y.after.contains i
  | none => true
def readyL (N m : Nat) : List Sm → Nat → List Nat
  | [], _ => []
  | x :: xs, j => if readyS x N m j then j :: readyL N m xs (j + 1) else readyL N m xs (j + 1)

def arr (n m : Nat) : Array Bool := (Array.range n).map fun i => m.testBit i
theorem arr_size (n m : Nat) : (arr n m).size = n := by simp [arr]
theorem arr_getD (n m j : Nat) (d : Bool) : (arr n m).getD j d = if j < n then m.testBit j else d := by
  unfold arr
  by_cases h : j < n
  · simp [h]
  · simp [h]
theorem arr_set (n m i : Nat) : (arr n m).setIfInBounds i true = arr n (m ||| 1 <<< i) := by
  apply Array.ext_getElem?
  intro j
  rw [Array.getElem?_setIfInBounds]
  by_cases hj : j < n
  · have e1 : (arr n m)[j]? = some (m.testBit j) := by simp [arr, hj]
    have e2 : (arr n (m ||| 1 <<< i))[j]? = some ((m ||| 1 <<< i).testBit j) := by simp [arr, hj]
    rw [e2, Nat.testBit_or, Nat.one_shiftLeft, Nat.testBit_two_pow]
    by_cases e : i = j
    · subst e; simp [arr_size, hj]
    · simp [e, e1]
  · have e2 : (arr n (m ||| 1 <<< i))[j]? = none := by simp [arr]; omega
    have e1 : (arr n m)[j]? = none := by simp [arr]; omega
    rw [e2]
    by_cases e : i = j
    · subst e; simp [arr_size, hj]
    · simp [e, e1]
theorem arr_zero (n : Nat) : Array.replicate n false = arr n 0 := by
  apply Array.ext
  · simp [arr]
  · intro j h1 h2
    simp [arr]

theorem freeFrom_spec {x : Sm} {i m : Nat} : ∀ (S : List Sm) (j0 : Nat), freeFrom x i m S j0 = true → ∀ j y, S[j]? = some y → j0 + j = i ∨ m.testBit (j0 + j) = true ∨ i ∈ y.after ∨ apartS x y = true := by
  intro S
  induction S with
  | nil => intro j0 _ j y h; simp at h
  | cons z S ih =>
    intro j0 h j y hj
    simp only [freeFrom, Bool.and_eq_true] at h
    cases j with
    | zero =>
      simp at hj; subst hj
      have := h.1
      simp only [Bool.or_eq_true] at this
      rcases this with ((h1 | h1) | h1) | h1
      · exact .inr (.inl (by simpa using h1))
      · exact .inr (.inr (.inl (by simpa using h1)))
      · exact .inr (.inr (.inr h1))
      · exact .inl (by simpa using h1)
    | succ j =>
      have := ih (j0 + 1) h.2 j y (by simpa using hj)
      rwa [show j0 + 1 + j = j0 + (j + 1) by omega] at this
theorem okAll_spec : ∀ (os : List Oper) (S : List Sm), okAll ops os S = true → os.length = S.length ∧ ∀ (j : Nat) (o : Oper), os[j]? = some o → ∃ x, S[j]? = some x ∧ okSm ops o x = true := by
  intro os
  induction os with
  | nil => intro S h; cases S with
    | nil => exact ⟨rfl, fun j o h => by simp at h⟩
    | cons x S => cases h
  | cons o os ih => intro S h; cases S with
    | nil => cases h
    | cons x S =>
      simp only [okAll, Bool.and_eq_true] at h
      obtain ⟨h1, h2⟩ := ih S h.2
      refine ⟨by simp [h1], fun j o' hj => ?_⟩
      cases j with
      | zero => simp at hj; subst hj; exact ⟨x, by simp, h.1⟩
      | succ j => obtain ⟨y, hy, hk⟩ := h2 j o' (by simpa using hj); exact ⟨y, by simpa using hy, hk⟩
theorem okSm_spec {o : Oper} {x : Sm} (h : okSm ops o x = true) : o.dst = x.dst ∧ (∀ d ∈ o.looksAt ops, d ∈ x.looks) ∧ (∀ e ∈ o.after, Region.binds .any e = true → e.on ∈ x.after) ∧ ∀ k ∈ x.after, ∃ e ∈ o.after, Region.binds .any e = true ∧ e.on = k := by
  simp only [okSm, Bool.and_eq_true] at h
  obtain ⟨⟨⟨h1, h2⟩, h3⟩, h4⟩ := h
  refine ⟨by simpa using h1, fun d hd => ?_, fun e he hb => ?_, fun k hk => ?_⟩
  · have := List.all_eq_true.1 h2 d hd; simpa using this
  · have := List.all_eq_true.1 h3 e (by simpa using he)
    rw [hb] at this; simpa using this
  · have := List.all_eq_true.1 h4 k hk
    obtain ⟨e, he, h⟩ := List.any_eq_true.1 this
    simp only [Bool.and_eq_true] at h
    exact ⟨e, by simpa using he, h.1, by simpa using h.2⟩
theorem apartS_apart {o o' : Oper} {x y : Sm} (hx : okSm ops o x = true) (hy : okSm ops o' y = true) (h : apartS x y = true) : o.apart ops o' = true := by
  obtain ⟨a1, a2, _⟩ := okSm_spec hx
  obtain ⟨b1, b2, _⟩ := okSm_spec hy
  simp only [apartS, Bool.and_eq_true] at h
  unfold Oper.apart
  rw [a1, b1, Bool.and_eq_true]
  refine ⟨?_, ?_⟩
  · have h1 := h.1
    cases hd : x.dst with
    | none => rfl
    | some d =>
      rw [hd] at h1
      simp only [Bool.and_eq_true] at h1 ⊢
      refine ⟨?_, h1.2⟩
      have h3 : ¬ d ∈ y.looks := by simpa using h1.1
      simpa using fun h4 => h3 (b2 d h4)
  · have h2 := h.2
    cases hd : y.dst with
    | none => rfl
    | some d =>
      rw [hd] at h2
      have h3 : ¬ d ∈ x.looks := by simpa using h2
      simpa using fun h4 => h3 (a2 d h4)
theorem okSum_spec {N : Nat} {S : List Sm} (hS : okSum ops N S = true) : Region.noSelect ops = true ∧ ops.size = N ∧ S.length = N ∧ ∀ (j : Nat) (o : Oper), ops[j]? = some o → ∃ x, S[j]? = some x ∧ okSm ops o x = true := by
  simp only [okSum, Bool.and_eq_true] at hS
  obtain ⟨⟨hn, hA⟩, hN⟩ := hS
  have hN : ops.size = N := by simpa using hN
  obtain ⟨hl, hsp⟩ := okAll_spec _ _ hA
  exact ⟨hn, hN, by rw [← hl]; simpa using hN, fun j o hj => hsp j o (by simpa using hj)⟩
theorem readyS_iff {o : Oper} {x : Sm} {N m i : Nat} (hN : ops.size = N) (hi : i < N) (hok : okSm ops o x = true) (ho : ops[i]? = some o) : readyS x N m i = true ↔ i ∈ Region.ready .any ops (arr ops.size m) := by
  rw [mem_ready]
  obtain ⟨_, _, h3, h4⟩ := okSm_spec hok
  simp only [readyS, Bool.and_eq_true, List.all_eq_true, arr_getD, hN, if_pos hi]
  constructor
  · rintro ⟨h1, h2⟩
    refine ⟨by simpa using h1, o, ho, fun e he hb => ?_⟩
    have := h2 e.on (h3 e he hb)
    have h5 : e.on < N := by simpa using this.1
    rw [if_pos h5]; exact this.2
  · rintro ⟨h1, o', ho', h2⟩
    rw [ho] at ho'; cases ho'
    refine ⟨by simpa using h1, fun k hk => ?_⟩
    obtain ⟨e, he, hb, rfl⟩ := h4 k hk
    have := h2 e he hb
    split at this
    · rename_i h5; exact ⟨by simpa using h5, this⟩
    · cases this
theorem takesS_takes {S : List Sm} {N m i : Nat} (hS : okSum ops N S = true) (h : takesS S N m i = true) : takes ops (arr ops.size m) i = true := by
  obtain ⟨hn, hN, hl, get⟩ := okSum_spec hS
  unfold takesS at h
  split at h
  · rename_i x hx
    simp only [Bool.and_eq_true] at h
    obtain ⟨h1, h2⟩ := h
    have hi : i < N := by
      have := (List.getElem?_eq_some_iff.1 hx).1
      omega
    have ho : ops[i]? = some ops[i] := Array.getElem?_eq_getElem (by omega)
    obtain ⟨x', hx', hok⟩ := get i _ ho
    rw [hx] at hx'; cases hx'
    have hs := freeFrom_spec _ _ h1
    simp only [takes, Bool.and_eq_true]
    refine ⟨⟨hn, ?_⟩, ?_⟩
    · unfold Region.free
      rw [ho]
      simp only [List.all_eq_true, List.mem_range]
      intro j hj
      have hoj : ops[j]? = some ops[j] := Array.getElem?_eq_getElem hj
      obtain ⟨y, hy, hyk⟩ := get j _ hoj
      have := hs j y hy
      rw [Nat.zero_add] at this
      rw [hoj]
      simp only [Bool.or_eq_true]
      rcases this with h | h | h | h
      · exact .inl (.inl (by simpa using h))
      · exact .inl (.inr (by rw [arr_getD, if_pos hj]; exact h))
      · refine .inr (.inl ?_)
        obtain ⟨e, he, hb, hi⟩ := (okSm_spec hyk).2.2.2 i h
        simp only [Array.any_eq_true', Bool.and_eq_true]
        exact ⟨e, he, hb, by simpa using hi⟩
      · exact .inr (.inr (apartS_apart hok hyk h))
    · have := (readyS_iff hN hi hok ho).1 h2
      simpa using this
  · cases h
theorem aheadS_ahead {S : List Sm} {N kw m i : Nat} (hS : okSum ops N S = true) (h : aheadS S N kw m i = true) : ahead ops kw (arr ops.size m) i = true := by
  obtain ⟨hn, hN, hl, get⟩ := okSum_spec hS
  unfold aheadS at h
  unfold ahead
  simp only [Bool.and_eq_true] at h ⊢
  refine ⟨⟨⟨by simp [arr_size], ?_⟩, h.1.2⟩, ?_⟩
  · have h1 := h.1.1
    rw [hN]
    split
    · rename_i hk
      rw [if_pos hk] at h1
      rw [arr_getD, if_pos hk]; exact h1
    · rfl
  · have h4 := h.2
    cases ho : ops[kw]? with
    | none => rfl
    | some o =>
      obtain ⟨x, hx, hok⟩ := get kw o ho
      rw [hx] at h4
      simp only [List.contains_iff_mem] at h4
      obtain ⟨e, he, hb, hi⟩ := (okSm_spec hok).2.2.2 i h4
      simp only [Array.any_eq_true', Bool.and_eq_true]
      exact ⟨e, he, hb, by simpa using hi⟩
theorem readyL_spec {N m : Nat} : ∀ (S : List Sm) (j0 : Nat) (i : Nat), i ∈ readyL N m S j0 ↔ ∃ j x, S[j]? = some x ∧ i = j0 + j ∧ readyS x N m i = true := by
  intro S
  induction S with
  | nil => intro j0 i; simp [readyL]
  | cons x S ih =>
    intro j0 i
    have hrest : (∃ j y, (x :: S)[j]? = some y ∧ i = j0 + j ∧ readyS y N m i = true) ↔ (i = j0 ∧ readyS x N m j0 = true) ∨ ∃ j y, S[j]? = some y ∧ i = j0 + 1 + j ∧ readyS y N m i = true := by
      constructor
      · rintro ⟨j, y, hy, hi, hr⟩
        cases j with
        | zero => simp at hy; subst hy; simp at hi; subst hi; exact .inl ⟨rfl, hr⟩
        | succ j => exact .inr ⟨j, y, by simpa using hy, by omega, hr⟩
      · rintro (⟨rfl, hr⟩ | ⟨j, y, hy, hi, hr⟩)
        · exact ⟨0, x, by simp, by simp, hr⟩
        · exact ⟨j + 1, y, by simpa using hy, by omega, hr⟩
    rw [hrest, ← ih (j0 + 1) i]
    rw [show readyL N m (x :: S) j0 = if readyS x N m j0 then j0 :: readyL N m S (j0 + 1) else readyL N m S (j0 + 1) from rfl]
    by_cases hr : readyS x N m j0 = true
    · rw [if_pos hr, List.mem_cons]; simp [hr]
    · rw [if_neg hr]; simp [hr]
theorem readyL_ready {S : List Sm} {N m i : Nat} (hS : okSum ops N S = true) : i ∈ Region.ready .any ops (arr ops.size m) ↔ i ∈ readyL N m S 0 := by
  obtain ⟨hn, hN, hl, get⟩ := okSum_spec hS
  rw [readyL_spec]
  constructor
  · intro h
    obtain ⟨_, o, ho, _⟩ := mem_ready.1 h
    obtain ⟨x, hx, hok⟩ := get i o ho
    have hi : i < N := by rw [← hN]; exact (Array.getElem?_eq_some_iff.1 ho).1
    exact ⟨i, x, hx, by omega, (readyS_iff hN hi hok ho).2 h⟩
  · rintro ⟨j, x, hx, hi, hr⟩
    rw [Nat.zero_add] at hi; subst hi
    have hi : i < N := by rw [← hl]; exact (List.getElem?_eq_some_iff.1 hx).1
    have ho : ops[i]? = some ops[i] := Array.getElem?_eq_getElem (by omega)
    obtain ⟨x', hx', hok⟩ := get i _ ho
    rw [hx] at hx'; cases hx'
    exact (readyS_iff hN hi hok ho).1 hr
theorem WP.any {id kw N : Nat} {S : List Sm} (hm : P.follows .mixedOrders = true) (hS : okSum ops N S = true) (h : okSum ops N S = true → WA P ops Q kw N (arr ops.size 0) n L B G0 Γ0 G Γ) : WP P (.region id ops true) Q n L B G Γ :=
  WP.any0 (kw := kw) (G0 := G0) (Γ0 := Γ0) hm (by have := h hS; rw [arr_zero]; rwa [← (okSum_spec hS).2.1] at this)

theorem WA.tell {kw M m i b b' N : Nat} {op : Op} {ty : TypeId} {d : Option Nat} {g : Option (Nat × Bool)} {v : Value} (hm : M = m + 1) (hnp : NoPanic Q) (hu : Under B G0 Γ0 G Γ)
    {S : List Sm} (hS : okSum ops N S = true) (ht : (takesS S N b i && aheadS S N kw b i && (b ||| 1 <<< i) == b') = true) (ho : opAt ops i = some (op, ty, d, g)) (hg : wantedE ops L g = some true) (hk : (known L op && notSelect op && fits n d) = true)
    (hs : Tells P B G0 Γ0 (exec1 (rho L) op ty) v) (next : WA P ops Q kw m (arr ops.size b') n (putE L d v) B G0 Γ0 G Γ) : WA P ops Q kw M (arr ops.size b) n L B G0 Γ0 G Γ := by
  subst hm
  intro a W hF hI
  obtain ⟨o, hoi, rfl, rfl, rfl, rfl⟩ := opAt_some ho
  simp only [Bool.and_eq_true] at hk ht
  obtain ⟨⟨ht, hah⟩, hb⟩ := ht
  obtain rfl : b ||| 1 <<< i = b' := by simpa using hb
  replace ht := takesS_takes hS ht
  obtain ⟨hsz, hkw, hik, hdep⟩ := ahead_spec (aheadS_ahead hS hah)
  simp only [takes, Bool.and_eq_true] at ht
  refine wpAnyR_first hoi ht.1.1 (fun c a w h => hnp c _ _ _ w h) hik hdep m _ a W hsz hkw (hu W hI) (Region.free_spec hoi ht.1.2) (by simpa using ht.2) (.inl ⟨hF.wanted hg, fun w hw => ?_⟩) (by rw [arr_set]; exact next _ W (hF.put hk.2 v) hI)
  rw [hF.exec hk.1.1 hk.1.2, execOp_exec1]
  exact hs w hw

def runA (P : Program) (ops : Array Oper) (S : List Sm) (N kw n : Nat) : List Nat → Nat → Env → Option (Nat × Env)
  | [], b, L => some (b, L)
  | i :: is, b, L => if takesS S N b i && i != kw then
      match ops[i]? with
      | some o => match stepP P ops n L o with
        | some L' => runA P ops S N kw n is (b ||| 1 <<< i) L'
        | none => none
      | none => none
    else none

theorem WA.pure (is ks : List Nat) {kw M m b b' N : Nat} {L' : Env} (hm : M = m + is.length) (hnp : NoPanic Q) (hu : Under B G0 Γ0 G Γ) {S : List Sm} (hS : okSum ops N S = true) (h : (runA P ops S N kw n is b L).map (fun p => (p.1, pickE ks p.2)) = some (b', L'))
    (next : WA P ops Q kw m (arr ops.size b') n L' B G0 Γ0 G Γ) : WA P ops Q kw M (arr ops.size b) n L B G0 Γ0 G Γ := by
  subst hm
  obtain ⟨⟨b1, L1⟩, h1, e⟩ := Option.map_eq_some_iff.1 h
  simp only [Prod.mk.injEq] at e
  obtain ⟨rfl, rfl⟩ := e
  have next : WA P ops Q kw m (arr ops.size b1) n L1 B G0 Γ0 G Γ := fun a W hF hI => next a W (hF.pick ks) hI
  clear h
  induction is generalizing b L with
  | nil => simp only [runA, Option.some.injEq, Prod.mk.injEq] at h1; obtain ⟨rfl, rfl⟩ := h1; exact next
  | cons i is ih =>
    simp only [runA] at h1
    split at h1
    · rename_i ht
      split at h1
      · rename_i o hoi
        split at h1
        · rename_i L2 hs
          have := ih h1
          intro a W hF hI
          rw [Bool.and_eq_true] at ht
          obtain ⟨ht, hik⟩ := ht
          have hik : i ≠ kw := by simpa using hik
          replace ht := takesS_takes hS ht
          simp only [takes, Bool.and_eq_true] at ht
          unfold stepP at hs
          split at hs
          · rename_i hw
            split at hs
            · rename_i hk
              simp only [Bool.and_eq_true] at hk
              split at hs
              · rename_i v hv
                cases hs
                refine wpAnyR_firstP hoi ht.1.1 (fun c a w h => hnp c _ _ _ w h) hik _ _ a W (fun _ => hu W hI) (Region.free_spec hoi ht.1.2) (by simpa using ht.2) (.inl ⟨hF.wanted hw, fun w hw' => ?_⟩) (by rw [arr_set]; exact this _ W (hF.put hk.2 v) hI)
                rw [hF.exec hk.1.1 hk.1.2]
                exact evq_run hv w
              · cases hs
            · cases hs
          · rename_i hw
            split at hs
            · rename_i hk
              cases hs
              exact wpAnyR_firstP hoi ht.1.1 (fun c a w h => hnp c _ _ _ w h) hik _ _ a W (fun _ => hu W hI) (Region.free_spec hoi ht.1.2) (by simpa using ht.2) (.inr ⟨hF.wanted hw, rfl⟩) (by rw [arr_set]; exact this _ W (hF.put hk undef) hI)
            · cases hs
          · cases hs
        · cases h1
      · cases h1
    · cases h1

theorem WA.op {kw M m i b b' N : Nat} {op : Op} {ty : TypeId} {d : Option Nat} {g : Option (Nat × Bool)} {Φ : Value → GMap → List Chunk → Prop}
    (hm : M = m + 1) {S : List Sm} (hS : okSum ops N S = true) (hr : (readyL N b S 0 == [i] && (b ||| 1 <<< i) == b') = true) (ho : opAt ops i = some (op, ty, d, g)) (hg : wantedE ops L g = some true) (hk : (known L op && notSelect op && fits n d) = true)
    (hs : Does P B G Γ (exec1 (rho L) op ty) Φ)
    (next : ∀ v G' Γ', Φ v G' Γ' → ∃ G1 Γ1, Under B G0 Γ0 G1 Γ1 ∧ Under B G1 Γ1 G' Γ' ∧ WA P ops Q kw m (arr ops.size b') n (putE L d v) B G1 Γ1 G' Γ') : WA P ops Q kw M (arr ops.size b) n L B G0 Γ0 G Γ := by
  subst hm
  intro a W hF hI
  obtain ⟨o, hoi, rfl, rfl, rfl, rfl⟩ := opAt_some ho
  simp only [Bool.and_eq_true] at hk hr
  obtain ⟨hr, hb⟩ := hr
  obtain rfl : b ||| 1 <<< i = b' := by simpa using hb
  have hr : readyL N b S 0 = [i] := by simpa using hr
  have hi : i ∈ Region.ready .any ops (arr ops.size b) := (readyL_ready hS).2 (by rw [hr]; simp)
  refine ⟨fun h => (by rw [h] at hi; cases hi), fun j hj => ?_⟩
  have hj := (readyL_ready hS).1 hj
  rw [hr] at hj
  obtain rfl : j = i := by simpa using hj
  unfold Go.wpOp
  simp only [hoi]
  rw [if_pos (hF.wanted hg)]
  refine .inl ?_
  unfold Oper.wp
  rw [hF.exec hk.1.1 hk.1.2, execOp_exec1, arr_set]
  have go : ∀ v G' Γ' W', Φ v G' Γ' → Inv B G' Γ' W' → Until kw (fun w => Inv B G0 Γ0 w) (arr ops.size (b ||| 1 <<< j)) W' ∧ wpAnyR P (Until kw fun w => Inv B G0 Γ0 w) ops Q m (arr ops.size (b ||| 1 <<< j)) (a.put o.dst v) W' := fun v G' Γ' W' hφ hI' => by
    obtain ⟨G1, Γ1, h1, h2, h3⟩ := next v G' Γ' hφ
    exact ⟨fun _ => h1 _ (h2 _ hI'), wpAnyR_weaken _ _ _ _ (fun d w _ _ hr hd => h1 _ (hr hd)) (h3 _ W' (hF.put hk.2 v) hI')⟩
  rcases hs W hI with ⟨r, v, W', G', Γ', hrun, hv, hφ, hI'⟩ | ⟨f, args, W1, hrun, hc⟩
  · rw [hrun]
    cases r <;> simp [nextVal] at hv
    · subst hv; exact go _ G' Γ' W' hφ hI'
    · subst hv; exact go _ G' Γ' W' hφ hI'
  · rw [hrun]
    simp only [Oper.upon]
    refine hc.mono ?_
    rintro e W' ⟨v, G', Γ', rfl, hφ, hI'⟩
    exact go v G' Γ' W' hφ hI'

theorem WA.opK {kw kw' M m i b b' N : Nat} {op : Op} {ty : TypeId} {d : Option Nat} {g : Option (Nat × Bool)} {Φ : Value → GMap → List Chunk → Prop}
    (hm : M = m + 1) (hik : i = kw) {S : List Sm} (hS : okSum ops N S = true) (hr : (readyL N b S 0 == [i] && (b ||| 1 <<< i) == b') = true) (ho : opAt ops i = some (op, ty, d, g)) (hg : wantedE ops L g = some true) (hk : (known L op && notSelect op && fits n d) = true)
    (hs : Does P B G Γ (exec1 (rho L) op ty) Φ)
    (next : ∀ v G' Γ', Φ v G' Γ' → ∃ G1 Γ1, Under B G1 Γ1 G' Γ' ∧ WA P ops Q kw' m (arr ops.size b') n (putE L d v) B G1 Γ1 G' Γ') : WA P ops Q kw M (arr ops.size b) n L B G0 Γ0 G Γ := by
  subst hm hik
  intro a W hF hI
  obtain ⟨o, hoi, rfl, rfl, rfl, rfl⟩ := opAt_some ho
  simp only [Bool.and_eq_true] at hk hr
  obtain ⟨hr, hb⟩ := hr
  obtain rfl : b ||| 1 <<< i = b' := by simpa using hb
  have hr : readyL N b S 0 = [i] := by simpa using hr
  have hi : i ∈ Region.ready .any ops (arr ops.size b) := (readyL_ready hS).2 (by rw [hr]; simp)
  have hlt : i < ops.size := (Array.getElem?_eq_some_iff.1 hoi).1
  refine ⟨fun h => (by rw [h] at hi; cases hi), fun j hj => ?_⟩
  have hj := (readyL_ready hS).1 hj
  rw [hr] at hj
  obtain rfl : j = i := by simpa using hj
  unfold Go.wpOp
  simp only [hoi]
  rw [if_pos (hF.wanted hg)]
  refine .inl ?_
  unfold Oper.wp
  rw [hF.exec hk.1.1 hk.1.2, execOp_exec1, arr_set]
  have hset : (arr ops.size (b ||| 1 <<< j)).getD j true = true := by
    rw [arr_getD, if_pos hlt, Nat.testBit_or, Nat.one_shiftLeft, Nat.testBit_two_pow]; simp
  have go : ∀ v G' Γ' W', Φ v G' Γ' → Inv B G' Γ' W' → Until j (fun w => Inv B G0 Γ0 w) (arr ops.size (b ||| 1 <<< j)) W' ∧ wpAnyR P (Until j fun w => Inv B G0 Γ0 w) ops Q m (arr ops.size (b ||| 1 <<< j)) (a.put o.dst v) W' := fun v G' Γ' W' hφ hI' => by
    obtain ⟨G1, Γ1, h2, h3⟩ := next v G' Γ' hφ
    refine ⟨fun h => ?_, wpAnyR_weaken _ _ _ _ (fun d w hd hsz _ h => ?_) (h3 _ W' (hF.put hk.2 v) hI')⟩
    · have := h (by simpa [arr_size] using hlt)
      rw [hset] at this; cases this
    · have := h (by rw [hsz]; simpa [arr_size] using hlt)
      rw [hd j hset] at this; cases this
  rcases hs W hI with ⟨r, v, W', G', Γ', hrun, hv, hφ, hI'⟩ | ⟨f, args, W1, hrun, hc⟩
  · rw [hrun]
    cases r <;> simp [nextVal] at hv
    · subst hv; exact go _ G' Γ' W' hφ hI'
    · subst hv; exact go _ G' Γ' W' hφ hI'
  · rw [hrun]
    simp only [Oper.upon]
    refine hc.mono ?_
    rintro e W' ⟨v, G', Γ', rfl, hφ, hI'⟩
    exact go v G' Γ' W' hφ hI'

theorem WA.done {kw m b N : Nat} {S : List Sm} (hS : okSum ops N S = true) (hr : readyL N b S 0 = []) (h : QP Q .normal n L B G Γ) : WA P ops Q kw m (arr ops.size b) n L B G0 Γ0 G Γ := fun a W hF hI => by
  have hr : Region.ready .any ops (arr ops.size b) = [] := by
    apply List.eq_nil_iff_forall_not_mem.2
    intro i hi
    have := (readyL_ready hS).1 hi
    rw [hr] at this; cases this
  cases m with
  | zero => exact ⟨hr, h a W hF hI⟩
  | succ m => exact ⟨fun _ => h a W hF hI, by rw [hr]; simp⟩

end Go.Gg
