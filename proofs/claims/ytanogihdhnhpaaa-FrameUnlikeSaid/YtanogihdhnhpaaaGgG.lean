/- Regions whose operations go in whatever order: an operation that only tells a value may be taken first, as long as what it reads is told of every world that the others come to. -/
import Derived.Test.YtanogihdhnhpaaaGgF
namespace Go.Gg

variable {P : Program} {B : World} {G G' G0 : GMap} {Γ Γ' Γ0 : List Chunk} {L L' : Env} {ty : TypeId} {n : Nat} {Q : Exit → Act → World → Prop} {ops : Array Oper}

/-- In every order; each operation leaves a world of which R tells. -/
def wpAnyR (P : Program) (R : World → Prop) (ops : Array Oper) (Q : Exit → Act → World → Prop) : Nat → Array Bool → Act → World → Prop
  | 0, done, a, w => Region.ready .any ops done = [] ∧ Q .normal a w
  | m + 1, done, a, w => (Region.ready .any ops done = [] → Q .normal a w) ∧
    ∀ i ∈ Region.ready .any ops done, wpOp P ops Q i (fun a' w' => R w' ∧ wpAnyR P R ops Q m (done.setIfInBounds i true) a' w') a w

theorem wpAnyR_any {R : World → Prop} : ∀ (m : Nat) (done : Array Bool) (a : Act) (w : World), wpAnyR P R ops Q m done a w → wpAny P .any ops Q m done a w
  | 0, _, _, _, h => h
  | m + 1, _, _, _, h => ⟨h.1, fun i hi => wpOp_mono (fun a' w' h' => wpAnyR_any m _ a' w' h'.2) (h.2 i hi)⟩

theorem wpAnyR_weaken {R R' : World → Prop} (hR : ∀ w, R' w → R w) : ∀ (m : Nat) (done : Array Bool) (a : Act) (w : World), wpAnyR P R' ops Q m done a w → wpAnyR P R ops Q m done a w
  | 0, _, _, _, h => h
  | m + 1, _, _, _, h => ⟨h.1, fun i hi => wpOp_mono (fun a' w' h' => ⟨hR _ h'.1, wpAnyR_weaken hR m _ a' w' h'.2⟩) (h.2 i hi)⟩

/-- The operation yields the value in every world of which R tells. -/
def YR (P : Program) (R : World → Prop) (ops : Array Oper) (o : Oper) (v : Value) (a : Act) : Prop :=
  (Region.wanted o (yielded ops a.tmps) = true ∧ ∀ w, R w → (execOp a.eval o).run P w = .ok (.value v) w) ∨ (Region.wanted o (yielded ops a.tmps) = false ∧ v = undef)

theorem YR.same {R : World → Prop} {o : Oper} {v : Value} {a a' : Act} (h : YR P R ops o v a) (he : execOp a'.eval o = execOp a.eval o) (hw : Region.wanted o (yielded ops a'.tmps) = Region.wanted o (yielded ops a.tmps)) : YR P R ops o v a' := by
  unfold YR; rw [he, hw]; exact h

theorem YR.run {R : World → Prop} {i : Nat} {o : Oper} {v : Value} {a : Act} {w : World} (hi : ops[i]? = some o) (hR : R w) (h : YR P R ops o v a) {K : Act → World → Prop} (hK : K (a.put o.dst v) w) : wpOp P ops Q i K a w := by
  unfold Go.wpOp
  simp only [hi]
  rcases h with ⟨h1, h2⟩ | ⟨h1, rfl⟩
  · rw [if_pos h1]; refine .inl ?_; unfold Oper.wp; rw [h2 w hR]; exact hK
  · rw [if_neg (by simp [h1])]; exact hK

/-- Of two operations that lie apart, the first one's value may be put ahead of the second one. -/
theorem YR.ahead {R : World → Prop} {j : Nat} {oi oj : Oper} {v : Value} (hj : ops[j]? = some oj) (hap : oi.apart ops oj = true) (hsi : ∀ cs b, oi.op ≠ .select cs b) (hsj : ∀ cs b, oj.op ≠ .select cs b)
    (hQ : ∀ c a w, Q (.panic c) (a.put oi.dst v) w → Q (.panic c) a w) {K : Act → World → Prop} {a : Act} {w : World} (h : YR P R ops oi v a) (hK : wpOp P ops Q j K (a.put oi.dst v) w) :
    wpOp P ops Q j (fun a' w' => YR P R ops oi v a' ∧ K (a'.put oi.dst v) w') a w := by
  obtain ⟨h1, h2, h3⟩ := Oper.apart_spec hap
  have stay : ∀ (b : Act) (u : Value), YR P R ops oi v b → YR P R ops oi v (b.put oj.dst u) := fun b u hb => hb.same (execOp_put oi hsi b oj.dst u h3) (wanted_put oi b oj.dst u h3)
  unfold Go.wpOp at hK ⊢
  simp only [hj] at hK ⊢
  rw [wanted_put oj a oi.dst v h1] at hK
  by_cases hw : Region.wanted oj (yielded ops a.tmps) = true
  · rw [if_pos hw] at hK ⊢
    rcases hK with hK | ⟨ha, hl⟩
    · refine .inl ?_
      unfold Oper.wp at hK ⊢
      rw [execOp_put oj hsj a oi.dst v h1] at hK
      generalize (execOp a.eval oj).run P w = r at hK ⊢
      have swap : ∀ (b : Act) (u : Value), (b.put oi.dst v).put oj.dst u = (b.put oj.dst u).put oi.dst v := fun b u => Act.put_comm b v u h2
      cases r with
      | halt x w' => cases x <;> first | exact hK | exact hQ _ _ _ hK
      | ok nx w' =>
        cases nx <;> simp only [Oper.upon] at hK ⊢ <;> first
          | exact hK
          | (rw [swap] at hK; exact ⟨stay _ _ h, hK⟩)
          | (rw [Act.put_defers, swap] at hK; exact ⟨stay _ _ (h.same rfl rfl), hK⟩)
          | (refine Calls.mono hK fun e w'' he => ?_
             cases e <;> first | exact he | exact hQ _ _ _ he | (simp only at he ⊢; rw [swap] at he; exact ⟨stay _ _ h, he⟩))
          | exact Rows.mono hK fun u w'' he => ⟨stay _ _ h, by rw [← swap]; exact he⟩
    · exact .inr ⟨by unfold Oper.asks at ha ⊢; rwa [execOp_put oj hsj a oi.dst v h1] at ha, hl⟩
  · rw [if_neg hw] at hK ⊢
    exact ⟨stay _ _ h, by rw [← Act.put_comm a v undef h2]; exact hK⟩

theorem wpAnyR_first {R : World → Prop} {i : Nat} {oi : Oper} {v : Value} (hi : ops[i]? = some oi) (hsel : Region.noSelect ops = true) (hQ : ∀ c a w, Q (.panic c) (a.put oi.dst v) w → Q (.panic c) a w) :
    ∀ (m : Nat) (done : Array Bool) (a : Act) (w : World), R w →
      (∀ j oj, ops[j]? = some oj → j ≠ i → done.getD j true = false → (∀ e ∈ oj.after, Region.binds .any e = true → e.on ≠ i) → oi.apart ops oj = true) →
      i ∈ Region.ready .any ops done → YR P R ops oi v a → wpAnyR P R ops Q m (done.setIfInBounds i true) (a.put oi.dst v) w → wpAnyR P R ops Q (m + 1) done a w := by
  have hs := Region.noSelect_spec hsel
  intro m
  induction m with
  | zero =>
    intro done a w hR _ hr hy H
    refine ⟨fun h => (by rw [h] at hr; cases hr), fun j hj => ?_⟩
    by_cases e : j = i
    · subst e; exact hy.run hi hR ⟨hR, H⟩
    · have := ready_mono hj e; rw [H.1] at this; cases this
  | succ m ih =>
    intro done a w hR hap hr hy H
    refine ⟨fun h => (by rw [h] at hr; cases hr), fun j hj => ?_⟩
    by_cases e : j = i
    · subst e; exact hy.run hi hR ⟨hR, H⟩
    · obtain ⟨hun, oj, hoj, hall⟩ := mem_ready.1 hj
      have hun_i := (mem_ready.1 hr).1
      have hno : ∀ x ∈ oj.after, Region.binds .any x = true → x.on ≠ i := fun x hx hb hxi => by
        have h1 := hall x hx hb
        rw [hxi] at h1
        rcases Nat.lt_or_ge i done.size with hl | hl
        · simp [hl] at hun_i h1; rw [hun_i] at h1; cases h1
        · simp [Array.getElem?_eq_none hl] at h1
      have h1 := YR.ahead hoj (hap j oj hoj e hun hno) (fun cs b => hs i oi cs b hi) (fun cs b => hs j oj cs b hoj) hQ hy (H.2 j (ready_mono hj e))
      refine wpOp_mono (fun a' w' ⟨hy', hR', h'⟩ => ⟨hR', ih (done.setIfInBounds j true) a' w' hR' (fun k ok hk hki hun' hno' => ?_) (ready_mono hr (Ne.symm e)) hy' (by rw [Array.setIfInBounds_comm _ _ e]; exact h')⟩) h1
      refine hap k ok hk hki ?_ hno'
      by_cases ejk : j = k
      · subst ejk; exact hun
      · rwa [getD_set_ne true ejk] at hun'

/-- The region in whatever order, 'done' done already. What R tells is 'Inv B G0 Γ0'. -/
def WA (P : Program) (ops : Array Oper) (Q : Exit → Act → World → Prop) (m : Nat) (done : Array Bool) (n : Nat) (L : Env) (B : World) (G0 : GMap) (Γ0 : List Chunk) (G : GMap) (Γ : List Chunk) : Prop :=
  ∀ a W, Fr n L a → Inv B G Γ W → wpAnyR P (fun w => Inv B G0 Γ0 w) ops Q m done a W

/-- Panics are not told of. -/
def NoPanic (Q : Exit → Act → World → Prop) : Prop := ∀ c a d v w, Q (.panic c) (a.put d v) w → Q (.panic c) a w
theorem NoPanic.then {K : Act → World → Prop} (h : NoPanic Q) : NoPanic (Exit.then K Q) := fun c a d v w hq => h c a d v w hq
theorem NoPanic.block {id : Nat} (h : NoPanic Q) : NoPanic (Exit.inBlock id Q) := fun c a d v w hq => h c a d v w hq
theorem NoPanic.body {fn : Func} {R : Ending → World → Prop} : NoPanic (bodyPost P fn R) := fun c a d v w hq => ⟨by have := hq.1; cases d <;> exact this, hq.2⟩

theorem WP.any {id : Nat} (hm : P.follows .mixedOrders = true) (h : WA P ops Q ops.size (Array.replicate ops.size false) n L B G0 Γ0 G Γ) : WP P (.region id ops true) Q n L B G Γ :=
  fun a _ hF hI => wp_region_any hm (wpAnyR_any _ _ _ _ (h a _ hF hI.drew))

/-- What is told of every world on the way. -/
def Under (B : World) (G0 : GMap) (Γ0 : List Chunk) (G : GMap) (Γ : List Chunk) : Prop := ∀ w, Inv B G Γ w → Inv B G0 Γ0 w
theorem Under.refl : Under B G Γ G Γ := fun _ h => h
theorem Under.cons {C : Chunk} (h : Under B G0 Γ0 G Γ) : Under B G0 Γ0 G (C :: Γ) := fun w hw => h w (hw.sub (by simp))
theorem Under.empty : Under B G [] G Γ := fun _ h => h.sub (by simp)

def takes (ops : Array Oper) (done : Array Bool) (i : Nat) : Bool := Region.noSelect ops && Region.free .any ops done i && (Region.ready .any ops done).contains i

theorem WA.tell {M m i : Nat} {done : Array Bool} {op : Op} {ty : TypeId} {d : Option Nat} {g : Option (Nat × Bool)} {v : Value} (hm : M = m + 1) (hnp : NoPanic Q) (hu : Under B G0 Γ0 G Γ)
    (ht : takes ops done i = true) (ho : opAt ops i = some (op, ty, d, g)) (hg : wantedE ops L g = some true) (hk : (known L op && notSelect op && fits n d) = true)
    (hs : Tells P B G0 Γ0 (exec1 (rho L) op ty) v) (next : WA P ops Q m (done.setIfInBounds i true) n (putE L d v) B G0 Γ0 G Γ) : WA P ops Q M done n L B G0 Γ0 G Γ := by
  subst hm
  intro a W hF hI
  obtain ⟨o, hoi, rfl, rfl, rfl, rfl⟩ := opAt_some ho
  simp only [Bool.and_eq_true] at hk
  simp only [takes, Bool.and_eq_true] at ht
  refine wpAnyR_first hoi ht.1.1 (fun c a w h => hnp c _ _ _ w h) m done a W (hu W hI) (Region.free_spec hoi ht.1.2) (by simpa using ht.2) (.inl ⟨hF.wanted hg, fun w hw => ?_⟩) (next _ W (hF.put hk.2 v) hI)
  rw [hF.exec hk.1.1 hk.1.2, execOp_exec1]
  exact hs w hw

theorem WA.pass {M m i : Nat} {done : Array Bool} {op : Op} {ty : TypeId} {d : Option Nat} {g : Option (Nat × Bool)} (hm : M = m + 1) (hnp : NoPanic Q) (hu : Under B G0 Γ0 G Γ)
    (ht : takes ops done i = true) (ho : opAt ops i = some (op, ty, d, g)) (hg : wantedE ops L g = some false) (hk : fits n d = true)
    (next : WA P ops Q m (done.setIfInBounds i true) n (putE L d undef) B G0 Γ0 G Γ) : WA P ops Q M done n L B G0 Γ0 G Γ := by
  subst hm
  intro a W hF hI
  obtain ⟨o, hoi, rfl, rfl, rfl, rfl⟩ := opAt_some ho
  simp only [takes, Bool.and_eq_true] at ht
  exact wpAnyR_first hoi ht.1.1 (fun c a w h => hnp c _ _ _ w h) m done a W (hu W hI) (Region.free_spec hoi ht.1.2) (by simpa using ht.2) (.inr ⟨hF.wanted hg, rfl⟩) (next _ W (hF.put hk undef) hI)

/-- Operations that touch no memory, one behind the other. -/
def runA (P : Program) (ops : Array Oper) (n : Nat) : List Nat → Array Bool → Env → Option (Array Bool × Env)
  | [], done, L => some (done, L)
  | i :: is, done, L => if takes ops done i then
      match ops[i]? with
      | some o => match stepP P ops n L o with
        | some L' => runA P ops n is (done.setIfInBounds i true) L'
        | none => none
      | none => none
    else none

theorem WA.pure (is ks : List Nat) {M m : Nat} {done done' : Array Bool} {L' : Env} (hm : M = m + is.length) (hnp : NoPanic Q) (hu : Under B G0 Γ0 G Γ) (h : (runA P ops n is done L).map (fun p => (p.1, pickE ks p.2)) = some (done', L'))
    (next : WA P ops Q m done' n L' B G0 Γ0 G Γ) : WA P ops Q M done n L B G0 Γ0 G Γ := by
  subst hm
  obtain ⟨⟨done1, L1⟩, h1, e⟩ := Option.map_eq_some_iff.1 h
  simp only [Prod.mk.injEq] at e
  obtain ⟨rfl, rfl⟩ := e
  have next : WA P ops Q m done1 n L1 B G0 Γ0 G Γ := fun a W hF hI => next a W (hF.pick ks) hI
  clear h
  induction is generalizing done L with
  | nil => simp only [runA, Option.some.injEq, Prod.mk.injEq] at h1; obtain ⟨rfl, rfl⟩ := h1; exact next
  | cons i is ih =>
    simp only [runA] at h1
    split at h1
    · rename_i ht
      split at h1
      · rename_i o hoi
        split at h1
        · rename_i L2 hs
          have := ih h1
          intro a W hF hI
          simp only [takes, Bool.and_eq_true] at ht
          unfold stepP at hs
          split at hs
          · rename_i hw
            split at hs
            · rename_i hk
              simp only [Bool.and_eq_true] at hk
              split at hs
              · rename_i v hv
                cases hs
                refine wpAnyR_first hoi ht.1.1 (fun c a w h => hnp c _ _ _ w h) _ done a W (hu W hI) (Region.free_spec hoi ht.1.2) (by simpa using ht.2) (.inl ⟨hF.wanted hw, fun w hw' => ?_⟩) (this _ W (hF.put hk.2 v) hI)
                rw [hF.exec hk.1.1 hk.1.2]
                exact evq_run hv w
              · cases hs
            · cases hs
          · rename_i hw
            split at hs
            · rename_i hk
              cases hs
              exact wpAnyR_first hoi ht.1.1 (fun c a w h => hnp c _ _ _ w h) _ done a W (hu W hI) (Region.free_spec hoi ht.1.2) (by simpa using ht.2) (.inr ⟨hF.wanted hw, rfl⟩) (this _ W (hF.put hk undef) hI)
            · cases hs
          · cases hs
        · cases h1
      · cases h1
    · cases h1

/-- The one operation that may go now. What is told on the way is chosen anew behind it. -/
theorem WA.op {M m i : Nat} {done : Array Bool} {op : Op} {ty : TypeId} {d : Option Nat} {g : Option (Nat × Bool)} {Φ : Value → GMap → List Chunk → Prop}
    (hm : M = m + 1) (hr : Region.ready .any ops done = [i]) (ho : opAt ops i = some (op, ty, d, g)) (hg : wantedE ops L g = some true) (hk : (known L op && notSelect op && fits n d) = true)
    (hs : Does P B G Γ (exec1 (rho L) op ty) Φ)
    (next : ∀ v G' Γ', Φ v G' Γ' → ∃ G1 Γ1, Under B G0 Γ0 G1 Γ1 ∧ Under B G1 Γ1 G' Γ' ∧ WA P ops Q m (done.setIfInBounds i true) n (putE L d v) B G1 Γ1 G' Γ') : WA P ops Q M done n L B G0 Γ0 G Γ := by
  subst hm
  intro a W hF hI
  obtain ⟨o, hoi, rfl, rfl, rfl, rfl⟩ := opAt_some ho
  simp only [Bool.and_eq_true] at hk
  refine ⟨fun h => (by rw [hr] at h; cases h), fun j hj => ?_⟩
  rw [hr] at hj
  obtain rfl : j = i := by simpa using hj
  unfold Go.wpOp
  simp only [hoi]
  rw [if_pos (hF.wanted hg)]
  refine .inl ?_
  unfold Oper.wp
  rw [hF.exec hk.1.1 hk.1.2, execOp_exec1]
  have go : ∀ v G' Γ' W', Φ v G' Γ' → Inv B G' Γ' W' → Inv B G0 Γ0 W' ∧ wpAnyR P (fun w => Inv B G0 Γ0 w) ops Q m (done.setIfInBounds j true) (a.put o.dst v) W' := fun v G' Γ' W' hφ hI' => by
    obtain ⟨G1, Γ1, h1, h2, h3⟩ := next v G' Γ' hφ
    exact ⟨h1 _ (h2 _ hI'), wpAnyR_weaken h1 _ _ _ _ (h3 _ W' (hF.put hk.2 v) hI')⟩
  rcases hs W hI with ⟨r, v, W', G', Γ', hrun, hv, hφ, hI'⟩ | ⟨f, args, W1, hrun, hc⟩
  · rw [hrun]
    cases r <;> simp [nextVal] at hv
    · subst hv; exact go _ G' Γ' W' hφ hI'
    · subst hv; exact go _ G' Γ' W' hφ hI'
  · rw [hrun]
    simp only [Oper.upon]
    refine hc.mono ?_
    rintro e W' ⟨v, G', Γ', rfl, hφ, hI'⟩
    exact go v G' Γ' W' hφ hI'

theorem WA.done {m : Nat} {done : Array Bool} (hr : Region.ready .any ops done = []) (h : QP Q .normal n L B G Γ) : WA P ops Q m done n L B G0 Γ0 G Γ := fun a W hF hI => by
  cases m with
  | zero => exact ⟨hr, h a W hF hI⟩
  | succ m => exact ⟨fun _ => h a W hF hI, by rw [hr]; simp⟩

end Go.Gg
