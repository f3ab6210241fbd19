/- Room behind a slice, results of calls that are lent something, structs compared. -/
import Derived.Test.YtmgkpphbehamcaaGreatDoorGgH
namespace Go.Gg
open Go
variable {P : Program} {B : World} {G G' : GMap} {Γ Γ' : List Chunk} {W W' : World} {L : Env} {n : Nat} {ty : TypeId} {ops : Array Oper} {Q : Exit → Act → World → Prop}
variable {α : Type} {kd : Kd α}
theorem Rd.head {A : Option Addr} {c : Nat} {xs ys : List α} (hr : Rd kd G A c (xs ++ ys)) : Rd kd G A c xs := by
 refine ⟨by have := hr.1; simp at this; omega, fun hx => ?_⟩; obtain ⟨ad, e, s, cells, T, fr, hG, hl⟩ := hr.2 (by simp [hx]); refine ⟨ad, e, s, cells, T, fr, hG, ?_⟩; have := hl.cut (lo := 0) (hi := xs.length); simpa using this
def Kd.Flat (kd : Kd α) : Prop := ∀ G G' x cs, kd.rel G x cs → kd.rel G' x cs
theorem Ow.flat (hk : kd.Flat) {A : Option Addr} {c : Nat} {xs : List α} {C : Chunk} (h : Ow kd G A c xs C) : Ow kd G' A c xs C := by
 refine ⟨h.1, ?_⟩; rcases h.2 with h | ⟨b, cells, T, fr, h1, h2, h3, h4, h5⟩
 ·exact .inl h
 ·exact .inr ⟨b, cells, T, fr, h1, h2, h3, h4, fun i hi => let ⟨cs, hr, hc⟩ := h5 i hi; ⟨cs, hk _ _ _ _ hr, hc⟩⟩
theorem Calls.lendH {W : World} {f : FuncId} {args : Array Value} {H Γr : List Chunk} {i : Nat} {C : Chunk} {Φ : Value → List Chunk → Prop} (hi : Γr[i]? = some C) (hnd : (C.map (·.1)).Nodup) (hI : Inv B G (H ++ Γr) W)
  (hc : ∀ G1, G1 = G.add C → G.le G1 → Inv B G1 (H ++ Γr.set i []) W → Calls P f args W (Ret B fun v' G' Γ' => ∃ N, Φ v' N ∧ G1 = G' ∧ N ++ Γr.set i [] = Γ')) :
  Calls P f args W (Ret B fun v' G' Γ' => ∃ N, Φ v' N ∧ G = G' ∧ N ++ Γr = Γ') := by
 have hp0 : (H ++ Γr).flatten.Perm (C :: (H ++ Γr.eraseIdx i)).flatten := by
  have hp2 := flatten_at_perm hi; rw [List.flatten_append, List.flatten_cons, List.flatten_append]; refine List.Perm.trans (List.Perm.append_left _ hp2) ?_; rw [← List.append_assoc, ← List.append_assoc]; exact List.Perm.append_right _ List.perm_append_comm
 have hI0 : Inv B G (C :: (H ++ Γr.eraseIdx i)) W := hI.perm hp0; obtain ⟨h1, h2⟩ := hI0.freeze; have hap : ∀ p ∈ C, G p.1 = none := fun p hp => hI0.ap p (by simp [hp])
 have hpe : (H ++ Γr.eraseIdx i).flatten.Perm (H ++ Γr.set i []).flatten := by
  rw [List.flatten_append, List.flatten_append]; exact List.Perm.append_left _ (by simpa using (flatten_set_perm (C' := []) hi).symm)
 refine (hc _ rfl h2 (h1.perm hpe)).mono ?_; rintro e W' ⟨v, _, _, rfl, ⟨N, hΦ, rfl, rfl⟩, hI'⟩; have hp1 : (N ++ Γr.set i []).flatten.Perm (N ++ Γr.eraseIdx i).flatten := by
  rw [List.flatten_append, List.flatten_append]; exact List.Perm.append_left _ (by simpa using flatten_set_perm (C' := []) hi)
 obtain ⟨h4, h5⟩ := Inv.thaw hnd hap (GMap.le_refl _) (hI'.perm hp1); refine ⟨v, _, _, rfl, ⟨N, hΦ, rfl, rfl⟩, (h4.lower h5).perm ?_⟩; have hp2 := flatten_at_perm hi; rw [List.flatten_cons, List.flatten_append, List.flatten_append]; refine List.Perm.trans ?_ (List.Perm.append_left _ hp2.symm); rw [← List.append_assoc, ← List.append_assoc]; exact List.Perm.append_right _ List.perm_append_comm
theorem Under.trans {G0 G1 : GMap} {Γ0 Γ1 : List Chunk} (h : Under B G0 Γ0 G1 Γ1) (h' : Under B G1 Γ1 G Γ) : Under B G0 Γ0 G Γ := fun w hw => h w (h' w hw)
theorem Under.front {G0 : GMap} {Γ0 : List Chunk} {i : Nat} {C : Chunk} (hi : Γ[i]? = some C) (h : Under B G0 Γ0 G Γ) : Under B G0 Γ0 G (C :: Γ.eraseIdx i) := fun w hw => h w (hw.perm (by simpa using (flatten_at_perm hi).symm))
theorem Under.mem {C : Chunk} (h : C ∈ Γ) : Under B G [C] G Γ := fun w hw => by
 obtain ⟨i, hi⟩ := List.getElem?_of_mem h; exact (hw.take hi).sub (by simp)
theorem flatten_subl {Γ0 Γ : List Chunk} (h : List.Sublist Γ0 Γ) : List.Sublist Γ0.flatten Γ.flatten := by
 induction h with
 | slnil => exact List.Sublist.refl _
 | cons a _ ih => rw [List.flatten_cons]; exact ih.trans (List.sublist_append_right _ _)
 | cons_cons a _ ih => rw [List.flatten_cons, List.flatten_cons]; exact List.Sublist.append (List.Sublist.refl _) ih
theorem Under.subl {Γ0 : List Chunk} (h : List.Sublist Γ0 Γ) : Under B G Γ0 G Γ := fun _ hw => hw.sub (flatten_subl h)
theorem Under.perm {Γ0 : List Chunk} (h : Γ.flatten.Perm Γ0.flatten) : Under B G Γ0 G Γ := fun _ hw => hw.perm h
theorem WA.reperm {G0 : GMap} {Γ0 : List Chunk} {kw m : Nat} {done : Array Bool} {Γ' : List Chunk} (hp : Γ.flatten.Perm Γ'.flatten) (h : WA P ops Q kw m done n L B G0 Γ0 G Γ') : WA P ops Q kw m done n L B G0 Γ0 G Γ := fun a W hF hI => h a W hF (hI.perm hp)
theorem WA.front {G0 : GMap} {Γ0 : List Chunk} {kw m : Nat} {done : Array Bool} {i : Nat} {C : Chunk} (hi : Γ[i]? = some C) (h : WA P ops Q kw m done n L B G0 Γ0 G (C :: Γ.eraseIdx i)) : WA P ops Q kw m done n L B G0 Γ0 G Γ := fun a W hF hI => h a W hF (hI.take hi)
theorem WP.reput {c : Code} (t : Nat) {v v' : Value} (ht : L.lookup t = some v) (e : v = v') (h : WP P c Q n ((t, v') :: L) B G Γ) : WP P c Q n L B G Γ := fun a W hF hI => h a W (hF.reput ht e) hI
theorem QP.front {e : Exit} {i : Nat} {C : Chunk} (hi : Γ[i]? = some C) (h : QP Q e n L B G (C :: Γ.eraseIdx i)) : QP Q e n L B G Γ := fun a W hF hI => h a W hF (hI.take hi)
theorem WP.front {c : Code} {i : Nat} {C : Chunk} (hi : Γ[i]? = some C) (h : WP P c Q n L B G (C :: Γ.eraseIdx i)) : WP P c Q n L B G Γ := fun a W hF hI => h a W hF (hI.take hi)
theorem WL.front {j : Nat} {i : Nat} {C : Chunk} (hi : Γ[i]? = some C) (h : WL P ops Q j n L B G (C :: Γ.eraseIdx i)) : WL P ops Q j n L B G Γ := fun a W hF hI => h a W hF (hI.take hi)
def TellsW (P : Program) (s : Sem Next) (v : Value) : Prop := ∀ W, s.run P W = .ok (.value v) W
theorem TellsW.of {s : Sem Next} {v : Value} (h : ∀ (B : World) (G : GMap) (Γ : List Chunk), Tells P B G Γ s v) : TellsW P s v := fun W =>
 h W (fun _ => none) [] W ⟨rfl, rfl, rfl, fun _ _ h => (by cases h), by simp, by simp, by simp⟩
theorem TellsW.of_run {s : Sem Value} {v : Value} (h : ∀ W, s.run P W = .ok v W) : TellsW P (do pure (.value (← s))) v := by
 intro W; rw [Sem.run_bind, h W]; rfl
theorem WA.free {G0 : GMap} {Γ0 : List Chunk} {kw kw' m b : Nat} (hk : (arr ops.size b).size ≤ kw') (h : WA P ops Q kw' m (arr ops.size b) n L B G0 Γ0 G Γ) : WA P ops Q kw m (arr ops.size b) n L B G0 Γ0 G Γ :=
 fun a W hF hI => wpAnyR_weaken _ _ _ _ (fun d w _ hs hr hd => hr (fun hl => by omega)) (h a W hF hI)
theorem wpAnyR_firstD {S : World → Prop} {kw i : Nat} {oi : Oper} {v : Value} {D : List Nat} (hi : ops[i]? = some oi) (hsel : Region.noSelect ops = true) (hQ : ∀ c a w, Q (.panic c) (a.put oi.dst v) w → Q (.panic c) a w)
  (hiD : i ∉ D) (hD : ∀ k ∈ D, ∀ ok, ops[k]? = some ok → ∃ e ∈ ok.after, Region.binds .any e = true ∧ (e.on = i ∨ e.on ∈ D)) (hkw : kw < ops.size → kw ∈ D) :
  ∀ (m : Nat) (done : Array Bool) (a : Act) (w : World), done.size = ops.size → (∀ k ∈ D, done.getD k true = false) → S w →
   (∀ j oj, ops[j]? = some oj → j ≠ i → done.getD j true = false → (∀ e ∈ oj.after, Region.binds .any e = true → e.on ≠ i) → oi.apart ops oj = true) →
   i ∈ Region.ready .any ops done → YR P S ops oi v a → wpAnyR P (Until kw S) ops Q m (done.setIfInBounds i true) (a.put oi.dst v) w → wpAnyR P (Until kw S) ops Q (m + 1) done a w := by
 have hs := Region.noSelect_spec hsel; intro m
 induction m with
 | zero =>
  intro done a w hsz hk hR _ hr hy H; refine ⟨fun h => (by rw [h] at hr; cases hr), fun j hj => ?_⟩; by_cases e : j = i
  ·subst e; exact hy.run hi hR ⟨fun _ => hR, H⟩
  ·have := ready_mono hj e; rw [H.1] at this; cases this
 | succ m ih =>
  intro done a w hsz hk hR hap hr hy H; refine ⟨fun h => (by rw [h] at hr; cases hr), fun j hj => ?_⟩; by_cases e : j = i
  ·subst e; exact hy.run hi hR ⟨fun _ => hR, H⟩
  ·obtain ⟨hun, oj, hoj, hall⟩ := mem_ready.1 hj; have hun_i := (mem_ready.1 hr).1; have hjD : j ∉ D := fun hjD => by
    obtain ⟨x, hx, hb, hxi⟩ := hD j hjD oj hoj; have h1 := hall x hx hb; have hoff : done.getD x.on true = false := by
     rcases hxi with hxi | hxi
     ·rw [hxi]; exact hun_i
     ·exact hk _ hxi
    rcases Nat.lt_or_ge x.on done.size with hl | hl
    ·simp [hl] at hoff h1; rw [hoff] at h1; cases h1
    ·simp [Array.getElem?_eq_none hl] at h1
   have hno : ∀ x ∈ oj.after, Region.binds .any x = true → x.on ≠ i := fun x hx hb hxi => by
    have h1 := hall x hx hb; rw [hxi] at h1; rcases Nat.lt_or_ge i done.size with hl | hl
    ·simp [hl] at hun_i h1; rw [hun_i] at h1; cases h1
    ·simp [Array.getElem?_eq_none hl] at h1
   have h1 := YR.ahead hoj (hap j oj hoj e hun hno) (fun cs b => hs i oi cs b hi) (fun cs b => hs j oj cs b hoj) hQ hy (H.2 j (ready_mono hj e)); refine wpOp_mono (fun a' w' ⟨hy', hR', h'⟩ => ?_) h1; have hk' : ∀ k ∈ D, (done.setIfInBounds j true).getD k true = false := fun k hkD => by
    have h1 : j ≠ k := fun ejk => hjD (by rw [ejk]; exact hkD)
    rw [getD_set_ne true h1]; exact hk k hkD
   have hS' : S w' := hR' (fun hl => by
    have hkD := hkw (by simpa [hsz] using hl); have h1 : j ≠ kw := fun ejk => hjD (by rw [ejk]; exact hkD)
    have h2 : i ≠ kw := fun ejk => hiD (by rw [ejk]; exact hkD)
    rw [getD_set_ne true h1, getD_set_ne true h2]; exact hk _ hkD)
   exact ⟨fun _ => hS', ih (done.setIfInBounds j true) a' w' (by simpa using hsz) hk' hS' (fun k ok hk hki hun' hno' => by
    refine hap k ok hk hki ?_ hno'; by_cases ejk : j = k
    ·subst ejk; exact hun
    ·rwa [getD_set_ne true ejk] at hun') (ready_mono hr (Ne.symm e)) hy' (by rw [Array.setIfInBounds_comm _ _ e]; exact h')⟩
def aheadD (S : List Sm) (N kw m i : Nat) (D : List Nat) : Bool := !(D.contains i) && (decide (N ≤ kw) || D.contains kw) &&
 D.all fun k => decide (k < N) && !(m.testBit k) && match S[k]? with
  | some y => y.after.any fun j => j == i || D.contains j
  | none => false
theorem WA.tellD {G0 : GMap} {Γ0 : List Chunk} (D : List Nat) {kw M m i b b' N : Nat} {op : Op} {ty : TypeId} {d : Option Nat} {g : Option (Nat × Bool)} {v : Value} (hm : M = m + 1) (hnp : NoPanic Q) (hu : Under B G0 Γ0 G Γ)
  {S : List Sm} (hS : okSum ops N S = true) (ht : (takesS S N b i && aheadD S N kw b i D && (b ||| 1 <<< i) == b') = true) (ho : opAt ops i = some (op, ty, d, g)) (hg : wantedE ops L g = some true) (hk : (known L op && notSelect op && fits n d) = true)
  (hs : Tells P B G0 Γ0 (exec1 (rho L) op ty) v) (next : WA P ops Q kw m (arr ops.size b') n (putE L d v) B G0 Γ0 G Γ) : WA P ops Q kw M (arr ops.size b) n L B G0 Γ0 G Γ := by
 subst hm; intro a W hF hI; obtain ⟨o, hoi, rfl, rfl, rfl, rfl⟩ := opAt_some ho; simp only [Bool.and_eq_true] at hk ht; obtain ⟨⟨ht, hah⟩, hb⟩ := ht; obtain rfl : b ||| 1 <<< i = b' := by simpa using hb
 obtain ⟨hn, hN, hl, get⟩ := okSum_spec hS; replace ht := takesS_takes hS ht; simp only [aheadD, Bool.and_eq_true, Bool.or_eq_true, List.all_eq_true] at hah; obtain ⟨⟨h1, h2⟩, h3⟩ := hah; simp only [takes, Bool.and_eq_true] at ht; refine wpAnyR_firstD (D := D) hoi ht.1.1 (fun c a w h => hnp c _ _ _ w h) (by simpa using h1) (fun k hkD ok hok => ?_) (fun hkl => ?_) m _ a W (arr_size _ _) (fun k hkD => ?_) (hu W hI) (Region.free_spec hoi ht.1.2) (by simpa using ht.2) (.inl ⟨hF.wanted hg, fun w hw => ?_⟩) (by rw [arr_set]; exact next _ W (hF.put hk.2 v) hI)
 ·have h4 := (h3 k hkD).2; obtain ⟨x, hx, hokx⟩ := get k ok hok; rw [hx] at h4; simp only [List.any_eq_true, Bool.or_eq_true] at h4; obtain ⟨j, hj, hji⟩ := h4; obtain ⟨e, he, hb, hei⟩ := (okSm_spec hokx).2.2.2 j hj; exact ⟨e, he, hb, by rw [hei]; rcases hji with h | h; exact .inl (by simpa using h); exact .inr (by simpa using h)⟩
 ·rcases h2 with h2 | h2
  ·have : N ≤ kw := by simpa using h2
   omega
  ·simpa using h2
 ·have h4 := (h3 k hkD).1; have h5 : k < N := by simpa using h4.1
  rw [arr_getD, if_pos (by omega)]; simpa using h4.2
 ·rw [hF.exec hk.1.1 hk.1.2, execOp_exec1]; exact hs w hw
theorem WA.tellDE {G0 : GMap} {Γ0 : List Chunk} (D : List Nat) {kw M m i b b' N : Nat} {op : Op} {ty : TypeId} {d : Option Nat} {g : Option (Nat × Bool)} {R : List Value → Prop} {V : List Value → Value} (hm : M = m + 1) (hnp : NoPanic Q) (hu : Under B G0 Γ0 G Γ) {S : List Sm} (hS : okSum ops N S = true) (ht : (takesS S N b i && aheadD S N kw b i D && (b ||| 1 <<< i) == b') = true) (ho : opAt ops i = some (op, ty, d, g)) (hg : wantedE ops L g = some true) (hk : (known L op && notSelect op && fits n d) = true)
  (hs : ∃ cs, R cs ∧ Tells P B G0 Γ0 (exec1 (rho L) op ty) (V cs)) (next : ∀ cs, R cs → WA P ops Q kw m (arr ops.size b') n (putE L d (V cs)) B G0 Γ0 G Γ) : WA P ops Q kw M (arr ops.size b) n L B G0 Γ0 G Γ :=
 let ⟨cs, h1, h2⟩ := hs; WA.tellD D hm hnp hu hS ht ho hg hk h2 (next cs h1)
def WO (P : Program) (ops : Array Oper) (Q : Exit → Act → World → Prop) (kw : Nat) (m : Nat) (done : Array Bool) (i : Nat) (n : Nat) (L : Env) (B : World) (G0 : GMap) (Γ0 : List Chunk) (G : GMap) (Γ : List Chunk) : Prop :=
 ∀ a W, Fr n L a → Inv B G Γ W → wpOp P ops Q i (fun a' w' => Until kw (fun w => Inv B G0 Γ0 w) (done.setIfInBounds i true) w' ∧ wpAnyR P (Until kw fun w => Inv B G0 Γ0 w) ops Q m (done.setIfInBounds i true) a' w') a W
theorem WO.addNil {G0 : GMap} {Γ0 : List Chunk} {kw m i : Nat} {done : Array Bool} (h : WO P ops Q kw m done i n L B G0 Γ0 G ([] :: Γ)) : WO P ops Q kw m done i n L B G0 Γ0 G Γ := fun a W hF hI => h a W hF (hI.perm (by simp))
theorem WO.front {G0 : GMap} {Γ0 : List Chunk} {kw m j : Nat} {done : Array Bool} {i : Nat} {C : Chunk} (hi : Γ[i]? = some C) (h : WO P ops Q kw m done j n L B G0 Γ0 G (C :: Γ.eraseIdx i)) : WO P ops Q kw m done j n L B G0 Γ0 G Γ := fun a W hF hI => h a W hF (hI.take hi)
inductive AllL (p : Nat → Prop) : List Nat → Prop where
 | nil : AllL p []
 | cons {x : Nat} {xs : List Nat} (h : p x) (h' : AllL p xs) : AllL p (x :: xs)
theorem AllL.mem {p : Nat → Prop} {xs : List Nat} (h : AllL p xs) : ∀ x ∈ xs, p x := by
 induction h with
 | nil => intro x hx; cases hx
 | cons h _ ih => intro x hx; rcases List.mem_cons.1 hx with rfl | hx; exact h; exact ih x hx
theorem WA.many {G0 : GMap} {Γ0 : List Chunk} (i0 : Nat) (is : List Nat) {kw M m b N : Nat} (hm : M = m + 1) {S : List Sm} (hS : okSum ops N S = true) (hr : (readyL N b S 0 == i0 :: is) = true)
  (h : AllL (fun i => WO P ops Q kw m (arr ops.size b) i n L B G0 Γ0 G Γ) (i0 :: is)) : WA P ops Q kw M (arr ops.size b) n L B G0 Γ0 G Γ := by
 subst hm; intro a W hF hI; have hr : readyL N b S 0 = i0 :: is := by simpa using hr
 have hi' : i0 ∈ Region.ready .any ops (arr ops.size b) := (readyL_ready hS).2 (by rw [hr]; simp); refine ⟨fun h => (by rw [h] at hi'; cases hi'), fun q hq => ?_⟩; have hq := (readyL_ready hS).1 hq; rw [hr] at hq; exact h.mem q hq a W hF hI
theorem WA.pickJ {G0 : GMap} {Γ0 : List Chunk} {kw m : Nat} {done : Array Bool} {L' : Env} (ks : List Nat) (hJ : WA P ops Q kw m done n L' B G0 Γ0 G Γ) (h : pickE ks L = L') : WA P ops Q kw m done n L B G0 Γ0 G Γ := by
 subst h; exact fun a W hF hI => hJ a W (hF.pick ks) hI
theorem WA.withK {G0 : GMap} {Γ0 : List Chunk} {kw M b : Nat} (k : ∀ (T : Nat → Nat → Env → List Chunk → Prop), (∀ m' b' L' Γ', T m' b' L' Γ' = WA P ops Q kw m' (arr ops.size b') n L' B G0 Γ0 G Γ') → T M b L Γ) :
  WA P ops Q kw M (arr ops.size b) n L B G0 Γ0 G Γ := k _ fun _ _ _ _ => rfl
theorem WO.op {G0 : GMap} {Γ0 : List Chunk} {kw m i b b' : Nat} {op : Op} {ty : TypeId} {d : Option Nat} {g : Option (Nat × Bool)} {Φ : Value → GMap → List Chunk → Prop}
  (hb : (b ||| 1 <<< i == b') = true) (ho : opAt ops i = some (op, ty, d, g)) (hg : wantedE ops L g = some true) (hk : (known L op && notSelect op && fits n d) = true)
  (hs : Does P B G Γ (exec1 (rho L) op ty) Φ)
  (next : ∀ v G' Γ', Φ v G' Γ' → ∃ G1 Γ1, Under B G0 Γ0 G1 Γ1 ∧ Under B G1 Γ1 G' Γ' ∧ WA P ops Q kw m (arr ops.size b') n (putE L d v) B G1 Γ1 G' Γ') : WO P ops Q kw m (arr ops.size b) i n L B G0 Γ0 G Γ := by
 intro a W hF hI; obtain ⟨o, hoi, rfl, rfl, rfl, rfl⟩ := opAt_some ho; simp only [Bool.and_eq_true] at hk; obtain rfl : b ||| 1 <<< i = b' := by simpa using hb
 unfold Go.wpOp; simp only [hoi]; rw [if_pos (hF.wanted hg)]; refine .inl ?_; unfold Oper.wp; rw [hF.exec hk.1.1 hk.1.2, execOp_exec1, arr_set]; have go : ∀ v G' Γ' W', Φ v G' Γ' → Inv B G' Γ' W' → Until kw (fun w => Inv B G0 Γ0 w) (arr ops.size (b ||| 1 <<< i)) W' ∧ wpAnyR P (Until kw fun w => Inv B G0 Γ0 w) ops Q m (arr ops.size (b ||| 1 <<< i)) (a.put o.dst v) W' := fun v G' Γ' W' hφ hI' => by
  obtain ⟨G1, Γ1, h1, h2, h3⟩ := next v G' Γ' hφ; exact ⟨fun _ => h1 _ (h2 _ hI'), wpAnyR_weaken _ _ _ _ (fun d w _ _ hr hd => h1 _ (hr hd)) (h3 _ W' (hF.put hk.2 v) hI')⟩
 rcases hs W hI with ⟨r, v, W', G', Γ', hrun, hv, hφ, hI'⟩ | ⟨f, args, W1, hrun, hc⟩
 ·rw [hrun]
  cases r <;> simp [nextVal] at hv
  ·subst hv; exact go _ G' Γ' W' hφ hI'
  ·subst hv; exact go _ G' Γ' W' hφ hI'
 ·rw [hrun]; simp only [Oper.upon]; refine hc.mono ?_; rintro e W' ⟨v, G', Γ', rfl, hφ, hI'⟩; exact go v G' Γ' W' hφ hI'
theorem Inv.less (h : Inv B G Γ W) (i : Nat) (e : Γ.eraseIdx i = Γ') : Inv B G Γ' W := e ▸ h.sub (erase_sub _ i)
def Res1 (P : Program) (B : World) (G : GMap) (Γ : List Chunk) (L : Env) : ResultVar → Value → Prop
 | .tmp t, v => L.lookup t = some v
 | .cell p t, v => ∀ W, Inv B G Γ W → ∃ ad, L.lookup p = some (.pointer (some ad)) ∧ (loadVar t ad).run P W = .ok v W
inductive ResAll (P : Program) (B : World) (G : GMap) (Γ : List Chunk) (L : Env) : List ResultVar → List Value → Prop where
 | nil : ResAll P B G Γ L [] []
 | cons {r : ResultVar} {v : Value} {rs : List ResultVar} {vs : List Value} (h : Res1 P B G Γ L r v) (h' : ResAll P B G Γ L rs vs) : ResAll P B G Γ L (r :: rs) (v :: vs)
theorem Res1.tmp {t : Nat} {v : Value} (h : L.lookup t = some v) : Res1 P B G Γ L (.tmp t) v := h
theorem Res1.box {i b o p : Nat} {cells : Array Value} {T : TypeId} {fr : Nat × Nat} (hi : Γ[i]? = some [(b, .cells cells T fr)]) {t : TypeId} {agg : Bool} {sz : Nat}
  (ht : aggTy P t = some (agg, sz)) (hx : L.lookup p = some (.pointer (some ⟨b, o, none⟩))) (h1 : agg = false → sz = 1) (hle : o + sz ≤ cells.size) {v : Value}
  (hv : cellVal agg ((cells.toList.drop o).take sz) = v) : Res1 P B G Γ L (.cell p t) v := by
 subst hv; refine fun W hI => ⟨_, hx, run_loadVar ht W _ rfl _ (by simp; omega) h1 fun j hj => ?_⟩
 rw [cell_of_block (hI.chunk hi)]; have hj' : o + j < cells.size := by simp at hj; omega
 simp only [List.getElem_take, List.getElem_drop]; simp [hj']
theorem run_resultsM {fn : Func} {a : Act} {rs : List ResultVar} {vs : List Value} (hF : Fr n L a) (hI : Inv B G Γ W) (hr : fn.results = rs.toArray) (hv : ResAll P B G Γ L rs vs) :
  (results fn a.tmps).run P W = .ok (if h : vs.length = 1 then vs[0] else .tuple vs.toArray) W := by
 have key : ∀ (g : ResultVar → Sem Value) (_ : ∀ t, g (.tmp t) = pure (a.tmps.getD t undef)) (_ : ∀ p t ad, a.tmps.getD p undef = .pointer (some ad) → g (.cell p t) = loadVar t ad) (rs : List ResultVar) (vs : List Value), ResAll P B G Γ L rs vs →
   (rs.mapM g).run P W = .ok vs W := by
  intro g hg hg' rs vs h
  induction h with
  | nil => rfl
  | @cons r v rs vs h _ ih =>
   rw [List.mapM_cons, Sem.run_bind]; have h1 : (g r).run P W = .ok v W := by
    cases r with
    | tmp t =>
     have h : L.lookup t = some v := h; rw [hg]; have : a.tmps.getD t undef = v := by simp [hF.holds t v h]
     rw [this]; rfl
    | cell p t =>
     obtain ⟨ad, h1, h2⟩ := h W hI; rw [hg' p t ad (by simp [hF.holds p _ h1]), h2]
   rw [h1]; show ((rs.mapM g >>= fun xs => pure (v :: xs)) : Sem (List Value)).run P W = _; rw [Sem.run_bind, ih]; rfl
 unfold results; rw [hr]; simp only [List.mapM_toArray]; rw [Sem.run_bind]; rw [show ∀ (m : Sem (List Value)), (List.toArray <$> m).run P W = (m.run P W).andThen fun x w => .ok x.toArray w from fun m => by rw [← bind_pure_comp, Sem.run_bind]; rfl]; rw [key _ ?h1 ?h2 rs vs hv]
 case h1 => exact fun t => rfl
 case h2 => exact fun p t ad e => by simp only [e]; rfl
 show Result.ok _ W = _; by_cases h : vs.length = 1
 ·simp [h]
 ·simp [h]
theorem QP.returnedM {fn : Func} {R : Ending → World → Prop} {rs : List ResultVar} {vs : List Value} {v : Value} (hr : fn.results = rs.toArray)
  (hv : ResAll P B G Γ L rs vs) (hv1 : (if h : vs.length = 1 then vs[0] else .tuple vs.toArray) = v)
  (h : ∀ W, Inv B G Γ W → R (.returned v) W) : QP (bodyPost P fn R) .ret n L B G Γ :=
 fun a W hF hI => ⟨hF.defers, v, by rw [run_resultsM hF hI hr hv, hv1], h W hI⟩
theorem kInt_flat (k : IntKind) : (kInt k).Flat := fun _ _ _ _ h => h
theorem kStr_flat : kStr.Flat := fun _ _ _ _ h => h
end Go.Gg
