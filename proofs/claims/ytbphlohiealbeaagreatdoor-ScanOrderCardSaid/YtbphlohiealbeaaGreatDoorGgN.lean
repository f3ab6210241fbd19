/- Slices that own, once more: fields of an element that is taken out, an element put back, elements moved down, a tail cleared. -/
import Derived.Test.YtbphlohiealbeaaGreatDoorGgM
namespace Go.Gg
open Go
set_option linter.unusedVariables false
set_option linter.unusedSimpArgs false
variable {P : Program} {B : World} {G G' : GMap} {Γ Γ' : List Chunk} {W W' : World} {L : Env} {n : Nat} {ty : TypeId} {ops : Array Oper} {Q : Exit → Act → World → Prop}
variable {α β : Type}

/-! ### An element that is taken out -/
theorem Dp.Closes.set {dk : Dk α} {A : Option Addr} {c : Nat} {xs : List α} {rs : List (Raw dk.k.sz)} {D : Chunk} {j : Nat} (h : Dp.Closes dk G A c xs rs D j) (X : Raw dk.k.sz) : Dp.Closes dk G A c xs (rs.set j X) D j :=
  fun e cs' Cj' hr C0' ho => h e cs' Cj' hr C0' (by rw [List.set_set] at ho; exact ho)
theorem raw_back {m j : Nat} {rs : List (Raw m)} {cs : List Value} (hcs : (rs[j]?).map (·.1) = some cs) (h1 : cs.length = m) (h2 : ∀ u ∈ cs, one1 u = true) : rs.set j (Raw.of cs h1 h2) = rs := by
  obtain ⟨r, hr, rfl⟩ := Option.map_eq_some_iff.1 hcs
  obtain ⟨hj, e⟩ := List.getElem?_eq_some_iff.1 hr
  have : Raw.of r.1 h1 h2 = rs[j] := by rw [e]; rfl
  rw [this, List.set_getElem_self]
theorem Dp.back {dk : Dk α} {A : Option Addr} {c : Nat} {xs : List α} {rs : List (Raw dk.k.sz)} {C0 D : Chunk} {j : Nat} (ho : Ow (kRaw dk.k.sz) G A c rs C0) (hc : Dp.Closes dk G A c xs rs D j) {cs : List Value} (hcs : (rs[j]?).map (·.1) = some cs)
    {e : α} {Cj : Chunk} (he : dk.rel e cs Cj) : ∃ C', Dp dk G A c (xs.set j e) C' ∧ (C0 ++ (D ++ Cj)).Perm C' :=
  hc e cs Cj he C0 (by rw [raw_back hcs]; exact ho)
theorem WL.putD {i : Nat} {dk : Dk α} {A : Option Addr} {c : Nat} {xs : List α} {rs : List (Raw dk.k.sz)} {C0 D : Chunk} {j : Nat} {Γr : List Chunk} (ho : Ow (kRaw dk.k.sz) G A c rs C0) (hc : Dp.Closes dk G A c xs rs D j) {cs : List Value} (hcs : (rs[j]?).map (·.1) = some cs)
    {e : α} (Cls : List Chunk) (he : dk.rel e cs Cls.flatten) (k : ∀ C', Dp dk G A c (xs.set j e) C' → WL P ops Q i n L B G (C' :: Γr)) : WL P ops Q i n L B G (C0 :: D :: (Cls ++ Γr)) := by
  obtain ⟨C', h1, h2⟩ := Dp.back ho hc hcs he
  refine WL.reperm ?_ (k C' h1)
  have := List.Perm.append_right Γr.flatten h2
  simpa [List.append_assoc] using this
theorem WP.putD {x : Code} {dk : Dk α} {A : Option Addr} {c : Nat} {xs : List α} {rs : List (Raw dk.k.sz)} {C0 D : Chunk} {j : Nat} {Γr : List Chunk} (ho : Ow (kRaw dk.k.sz) G A c rs C0) (hc : Dp.Closes dk G A c xs rs D j) {cs : List Value} (hcs : (rs[j]?).map (·.1) = some cs)
    {e : α} (Cls : List Chunk) (he : dk.rel e cs Cls.flatten) (k : ∀ C', Dp dk G A c (xs.set j e) C' → WP P x Q n L B G (C' :: Γr)) : WP P x Q n L B G (C0 :: D :: (Cls ++ Γr)) := fun a W hF hI => by
  obtain ⟨C', h1, h2⟩ := Dp.back ho hc hcs he
  refine k C' h1 a W hF (hI.perm ?_)
  have := List.Perm.append_right Γr.flatten h2
  simpa [List.append_assoc] using this
theorem QP.putD {x : Exit} {dk : Dk α} {A : Option Addr} {c : Nat} {xs : List α} {rs : List (Raw dk.k.sz)} {C0 D : Chunk} {j : Nat} {Γr : List Chunk} (ho : Ow (kRaw dk.k.sz) G A c rs C0) (hc : Dp.Closes dk G A c xs rs D j) {cs : List Value} (hcs : (rs[j]?).map (·.1) = some cs)
    {e : α} (Cls : List Chunk) (he : dk.rel e cs Cls.flatten) (k : ∀ C', Dp dk G A c (xs.set j e) C' → QP Q x n L B G (C' :: Γr)) : QP Q x n L B G (C0 :: D :: (Cls ++ Γr)) := fun a W hF hI => by
  obtain ⟨C', h1, h2⟩ := Dp.back ho hc hcs he
  refine k C' h1 a W hF (hI.perm ?_)
  have := List.Perm.append_right Γr.flatten h2
  simpa [List.append_assoc] using this
theorem WP.reperm {x : Code} (hp : Γ.flatten.Perm Γ'.flatten) (h : WP P x Q n L B G Γ') : WP P x Q n L B G Γ := fun a W hF hI => h a W hF (hI.perm hp)
theorem QP.reperm {x : Exit} (hp : Γ.flatten.Perm Γ'.flatten) (h : QP Q x n L B G Γ') : QP Q x n L B G Γ := fun a W hF hI => h a W hF (hI.perm hp)
theorem WP.takeD {x : Code} {dk : Dk α} {A : Option Addr} {c : Nat} {xs : List α} {C : Chunk} (h : Dp dk G A c xs C) {j : Int} (h1 : j < xs.length) (h0 : 0 ≤ j) (d : α)
    (k : ∀ rs C0 D cs Cj, Ow (kRaw dk.k.sz) G A c rs C0 → rs.length = xs.length → (rs[j.toNat]?).map (·.1) = some cs → dk.rel (xs.getD j.toNat d) cs Cj → Dp.Closes dk G A c xs rs D j.toNat → WP P x Q n L B G (C0 :: D :: Cj :: Γ)) :
    WP P x Q n L B G (C :: Γ) := by
  obtain ⟨rs, C0, D, cs, Cj, h2, h3, h4, h5, h6, h7⟩ := h.takeAt (j := j.toNat) (by omega) d
  refine WP.reperm ?_ (k rs C0 D cs Cj h2 h3 h4 h5 h7)
  simp only [List.flatten_cons]
  have := List.Perm.append_right Γ.flatten h6
  simpa [List.append_assoc] using this
theorem getD_set_self {xs : List α} {j : Nat} {d : α} : xs.set j (xs.getD j d) = xs := by
  by_cases h : j < xs.length
  · rw [show xs.getD j d = xs[j] by simp [h], List.set_getElem_self]
  · rw [List.set_eq_of_length_le (by omega)]

/-- A field of it is written. -/
theorem Ow.storeRaw {m : Nat} {A : Option Addr} {c : Nat} {rs : List (Raw m)} {C : Chunk} (h : Ow (kRaw m) G A c rs C) {i : Nat} (hi : Γ[i]? = some C) {t : TypeId} {x y : Operand} {v : Value} {j : Int} {off : Nat} {cs : List Value}
    (hcs : (rs[j.toNat]?).map (·.1) = some cs) (hx : evalE L x = some (.pointer (A.map (·.add (j.toNat * m + off))))) (hy : evalE L y = some v) (hv : v.cells = #[v]) (h1 : one1 v = true) (hsz : (P.info? t).map (·.size) = some 1) (hoff : off < m)
    {cs' : List Value} (hcs' : cs.set off v = cs') (hl : cs'.length = m) (ho : ∀ u ∈ cs', one1 u = true) :
    Does P B G Γ (exec1 (rho L) (.store t x y) ty) fun v' G' Γ' => v' = undef ∧ G = G' ∧ ∃ C', Ow (kRaw m) G A c (rs.set j.toNat (Raw.of cs' hl ho)) C' ∧ Γ' = Γ.set i C' := by
  subst hcs'
  obtain ⟨r, hr, rfl⟩ := Option.map_eq_some_iff.1 hcs
  obtain ⟨hj, er⟩ := List.getElem?_eq_some_iff.1 hr
  rcases h.2 with ⟨_, e, _⟩ | ⟨b, cells, T, fr, rfl, rfl, hcz, hf, hlies⟩
  · subst e; simp at hj
  replace hx : evalE L x = some (.pointer (some ⟨b, j.toNat * m + off, none⟩)) := by rw [hx]; simp [add_mul, Addr.add]; intros; omega
  have hjc : j.toNat < c := by have := h.1; omega
  have hcz : cells.size = c * m := hcz
  have hmul : j.toNat * m + m ≤ cells.size := by
    rw [hcz]
    calc j.toNat * m + m = (j.toNat + 1) * m := by rw [Nat.add_mul, Nat.one_mul]
      _ ≤ c * m := Nat.mul_le_mul_right _ (by omega)
  refine Does.of_run (s := Instr.storeAt t (rho L x) (rho L y)) fun W hI => ?_
  have hvs : v.cells.size = 1 := by rw [hv]; rfl
  obtain ⟨W', hrun, hI'⟩ := run_store_box (P := P) hi (by rw [hvs]; exact hsz) hx hy (by rw [hv]; simp [h1]) hf (by rw [hvs]; omega) hI
  have hvl : v.cells.toList = [v] := by rw [hv]
  refine ⟨W', G, _, hrun, ⟨rfl, rfl, _, ⟨by simpa using h.1, .inr ⟨b, _, T, fr, rfl, rfl, by rw [over_size]; exact hcz, by rw [over_size]; exact hf, ?_⟩⟩, rfl⟩, hI'⟩
  intro i' hi'
  rw [hvl]
  simp only [List.length_set] at hi'
  have hle : j.toNat * m + off + [v].length ≤ cells.size := by simp; omega
  obtain ⟨cs2, hr2, hc2⟩ := hlies i' hi'
  have hr2 : cs2 = rs[i'].1 := hr2
  have hc2 : ∀ q (hq : q < cs2.length), cells[0 + i' * m + q]? = some cs2[q] := hc2
  by_cases e : i' = j.toNat
  · subst e
    refine ⟨r.1.set off v, by rw [List.getElem_set_self]; rfl, fun q hq => ?_⟩
    have hq' : q < r.1.length := by simpa using hq
    have hrr : cs2 = r.1 := by rw [hr2, er]
    subst hrr
    show (over cells (j.toNat * m + off) [v])[0 + j.toNat * m + q]? = _
    rw [over_get _ _ _ _ hle]
    by_cases eq : q = off
    · subst eq
      have hif : j.toNat * m + q ≤ 0 + j.toNat * m + q ∧ 0 + j.toNat * m + q < j.toNat * m + q + [v].length := by simp
      rw [if_pos hif]
      simp
    · rw [if_neg (by simp; omega), hc2 q hq', List.getElem_set_ne (fun h => eq h.symm)]
  · refine ⟨cs2, by rw [List.getElem_set_ne (fun h => e h.symm)]; exact hr2, fun q hq => ?_⟩
    show (over cells (j.toNat * m + off) [v])[0 + i' * m + q]? = _
    have hcl : cs2.length = m := by rw [hr2]; exact rs[i'].2.1
    rw [over_get _ _ _ _ hle, if_neg, hc2 q hq]
    simp only [List.length_cons, List.length_nil]
    rintro ⟨ha, hb⟩
    rcases Nat.lt_or_gt_of_ne e with hlt | hgt
    · have : (i' + 1) * m ≤ j.toNat * m := Nat.mul_le_mul_right _ hlt
      rw [Nat.add_mul, Nat.one_mul] at this
      omega
    · have : (j.toNat + 1) * m ≤ i' * m := Nat.mul_le_mul_right _ hgt
      rw [Nat.add_mul, Nat.one_mul] at this
      omega

def Dp.Erases (dk : Dk α) (G : GMap) (xs : List α) (rs : List (Raw dk.k.sz)) (D : Chunk) (j : Nat) : Prop :=
  ∀ A' c' C0', Ow (kRaw dk.k.sz) G A' c' (rs.eraseIdx j) C0' → ∃ C', Dp dk G A' c' (xs.eraseIdx j) C' ∧ (C0' ++ D).Perm C'
theorem flatten_erase {β : Type} (Cs : List (List β)) (j : Nat) : (Cs.set j []).flatten = (Cs.eraseIdx j).flatten := by
  induction Cs generalizing j with
  | nil => rfl
  | cons C Cs ih => cases j with
    | zero => simp
    | succ j => simp [ih j]
theorem Dp.takeAt2 {dk : Dk α} {A : Option Addr} {c : Nat} {xs : List α} {C : Chunk} (h : Dp dk G A c xs C) {j : Nat} (hj : j < xs.length) (d : α) :
    ∃ (rs : List (Raw dk.k.sz)) (C0 D : Chunk) (cs : List Value) (Cj : Chunk), Ow (kRaw dk.k.sz) G A c rs C0 ∧ rs.length = xs.length ∧ (rs[j]?).map (·.1) = some cs ∧ dk.rel (xs.getD j d) cs Cj ∧ C.Perm (C0 ++ (D ++ Cj)) ∧
      Dp.Closes dk G A c xs rs D j ∧ Dp.Erases dk G xs rs D j := by
  obtain ⟨rs, C0, Cs, ho, rfl, hl, hl2, hr⟩ := h
  refine ⟨rs, C0, (Cs.set j []).flatten, (rs[j]'(by omega)).1, Cs[j]'(by omega), ho.flat (fun _ _ _ _ h => h), hl, by simp [List.getElem?_eq_getElem (show j < rs.length by omega)], ?_, ?_, ?_, ?_⟩
  · have := hr j hj (by omega) (by omega)
    simpa [List.getD_eq_getElem?_getD, List.getElem?_eq_getElem hj] using this
  · refine List.Perm.append_left _ ?_
    have := flatten_set Cs j (by omega) (Cs[j]'(by omega))
    rwa [List.set_getElem_self] at this
  · intro e cs' Cj' he C0' ho'
    refine ⟨C0' ++ (Cs.set j Cj').flatten, ⟨_, C0', Cs.set j Cj', ho'.flat (fun _ _ _ _ h => h), rfl, by rw [List.length_set, List.length_set]; exact hl, by simp [hl2], fun i hi h1 h2 => ?_⟩, List.Perm.append_left _ (flatten_set Cs j (by omega) Cj').symm⟩
    have e1 : (Raw.of cs' (dk.len he) (dk.one he)).1 = cs' := rfl
    by_cases hij : j = i
    · subst hij
      rw [List.getElem_set_self, List.getElem_set_self, List.getElem_set_self, e1]; exact he
    · have := hr i (by simpa using hi) (by rw [List.length_set] at h1; exact h1) (by simpa using h2)
      rw [List.getElem_set_ne hij, List.getElem_set_ne hij, List.getElem_set_ne hij]
      exact this
  · intro A' c' C0' ho'
    refine ⟨C0' ++ (Cs.eraseIdx j).flatten, ⟨_, C0', Cs.eraseIdx j, ho'.flat (fun _ _ _ _ h => h), rfl, by rw [List.length_eraseIdx, List.length_eraseIdx, hl], by rw [List.length_eraseIdx, List.length_eraseIdx, hl2], fun i hi h1 h2 => ?_⟩, by rw [flatten_erase]⟩
    rw [List.length_eraseIdx] at hi
    by_cases hij : i < j
    · have := hr i (by omega) (by omega) (by omega)
      rw [List.getElem_eraseIdx_of_lt _ hij, List.getElem_eraseIdx_of_lt _ hij, List.getElem_eraseIdx_of_lt _ hij]
      exact this
    · have hi' : i + 1 < xs.length := by rw [if_pos hj] at hi; omega
      have := hr (i + 1) hi' (by omega) (by omega)
      have hge : j ≤ i := by omega
      rw [List.getElem_eraseIdx_of_ge _ hge, List.getElem_eraseIdx_of_ge _ hge, List.getElem_eraseIdx_of_ge _ hge]
      exact this
theorem WL.takeE {i : Nat} {dk : Dk α} {A : Option Addr} {c : Nat} {xs : List α} {C : Chunk} (h : Dp dk G A c xs C) {j : Int} (h1 : j < xs.length) (h0 : 0 ≤ j) (d : α)
    (k : ∀ rs C0 D cs Cj, Ow (kRaw dk.k.sz) G A c rs C0 → rs.length = xs.length → (rs[j.toNat]?).map (·.1) = some cs → dk.rel (xs.getD j.toNat d) cs Cj → Dp.Closes dk G A c xs rs D j.toNat → Dp.Erases dk G xs rs D j.toNat → WL P ops Q i n L B G (C0 :: D :: Cj :: Γ)) :
    WL P ops Q i n L B G (C :: Γ) := by
  obtain ⟨rs, C0, D, cs, Cj, h2, h3, h4, h5, h6, h7, h8⟩ := h.takeAt2 (j := j.toNat) (by omega) d
  refine WL.reperm ?_ (k rs C0 D cs Cj h2 h3 h4 h5 h7 h8)
  simp only [List.flatten_cons]
  have := List.Perm.append_right Γ.flatten h6
  simpa [List.append_assoc] using this
theorem WP.takeE {x : Code} {dk : Dk α} {A : Option Addr} {c : Nat} {xs : List α} {C : Chunk} (h : Dp dk G A c xs C) {j : Int} (h1 : j < xs.length) (h0 : 0 ≤ j) (d : α)
    (k : ∀ rs C0 D cs Cj, Ow (kRaw dk.k.sz) G A c rs C0 → rs.length = xs.length → (rs[j.toNat]?).map (·.1) = some cs → dk.rel (xs.getD j.toNat d) cs Cj → Dp.Closes dk G A c xs rs D j.toNat → Dp.Erases dk G xs rs D j.toNat → WP P x Q n L B G (C0 :: D :: Cj :: Γ)) :
    WP P x Q n L B G (C :: Γ) := by
  obtain ⟨rs, C0, D, cs, Cj, h2, h3, h4, h5, h6, h7, h8⟩ := h.takeAt2 (j := j.toNat) (by omega) d
  refine WP.reperm ?_ (k rs C0 D cs Cj h2 h3 h4 h5 h7 h8)
  simp only [List.flatten_cons]
  have := List.Perm.append_right Γ.flatten h6
  simpa [List.append_assoc] using this
theorem Dp.storeF {dk : Dk α} {A : Option Addr} {c : Nat} {xs : List α} {rs : List (Raw dk.k.sz)} {C D : Chunk} (h : Ow (kRaw dk.k.sz) G A c rs C) {i : Nat} (hi : Γ[i]? = some C) {t : TypeId} {x y : Operand} {v : Value} {j : Int} {off : Nat} {cs : List Value}
    (hl : rs.length = xs.length) (hcl : Dp.Closes dk G A c xs rs D j.toNat) (her : Dp.Erases dk G xs rs D j.toNat)
    (hcs : (rs[j.toNat]?).map (·.1) = some cs) (hx : evalE L x = some (.pointer (A.map (·.add (j.toNat * dk.k.sz + off))))) (hy : evalE L y = some v) (hv : v.cells = #[v]) (h1 : one1 v = true) (hsz : (P.info? t).map (·.size) = some 1) (hoff : off < dk.k.sz)
    {cs' : List Value} (hcs' : cs.set off v = cs') (hl' : cs'.length = dk.k.sz) (ho : cs'.all one1 = true) :
    Does P B G Γ (exec1 (rho L) (.store t x y) ty) fun v' G' Γ' => v' = undef ∧ G = G' ∧ ∃ rs' C', Ow (kRaw dk.k.sz) G A c rs' C' ∧ rs'.length = xs.length ∧ (rs'[j.toNat]?).map (·.1) = some cs' ∧ Dp.Closes dk G A c xs rs' D j.toNat ∧ Dp.Erases dk G xs rs' D j.toNat ∧ Γ' = Γ.set i C' := by
  have hs := Ow.storeRaw (P := P) (B := B) (ty := ty) (L := L) h hi hcs hx hy hv h1 hsz hoff hcs' hl' (List.all_eq_true.1 ho)
  refine hs.perm (.refl _) ?_
  rintro v' G' Γ1 ⟨rfl, rfl, C', hO, rfl⟩
  refine ⟨_, ⟨rfl, rfl, _, C', hO, by rw [List.length_set]; exact hl, ?_, hcl.set _, ?_, rfl⟩, .refl _⟩
  · obtain ⟨r, hr, _⟩ := Option.map_eq_some_iff.1 hcs
    have hj := (List.getElem?_eq_some_iff.1 hr).1
    rw [List.getElem?_set_self hj]; rfl
  · intro A' c' C0' ho'
    rw [List.eraseIdx_set_eq] at ho'
    exact her A' c' C0' ho'
theorem Tells.nilE {A : Option Addr} {x : Operand} {f : Addr → Addr} (hx : evalE L x = some (.pointer (A.map f))) (hA : A.isSome = true) : Tells P B G Γ (exec1 (rho L) (.nilCheck x) ty) (.pointer (A.map f)) := by
  obtain ⟨a, rfl⟩ := Option.isSome_iff_exists.1 hA
  intro W _
  show (execOp _ _).run P W = _
  simp only [execOp]
  rw [rho_of hx]
  rfl

/-! ### Elements moved down, a tail cleared -/
theorem slice3 {t : TypeId} {A : Option Addr} {n c : Nat} {x lo hi mx : Operand} {l h m : Int} {e sz by_ : Nat} {k1 k2 k3 : IntKind} (hx : evalE L x = some (.slice A n c)) (hlo : evalE L lo = some (.int k1 l)) (hhi : evalE L hi = some (.int k2 h)) (hmx : evalE L mx = some (.int k3 m))
    (h0 : 0 ≤ l) (h1 : l ≤ h) (h2 : h ≤ m) (h3 : m ≤ c) (ht : sliceTy P t = some (e, sz, by_)) :
    TellsW P (exec1 (rho L) (.slice t x (some lo) (some hi) (some mx)) ty) (.slice (if m.toNat = l.toNat then A else A.map (·.add (l.toNat * sz))) (h.toNat - l.toNat) (m.toNat - l.toNat)) :=
  TellsW.of_run (s := Instr.sliceAt t (rho L x) (some (rho L lo)) (some (rho L hi)) (some (rho L mx))) fun W => by
    obtain ⟨hu, info, hinfo, hsz, hb⟩ := sliceTy_some ht
    rw [rho_of hx, rho_of hlo, rho_of hhi, rho_of hmx]
    have e1 : h ≤ (m.toNat : Int) := by omega
    have e2 : l ≤ (h.toNat : Int) := by omega
    simp [Instr.sliceAt, Instr.slice, run_underlying hu, Instr.sliceBounds, sizeOf, typeInfo, hinfo, hsz, run_sliceBound (P := P) (k := k3) (j := m) (y := c) (by omega) h3, run_sliceBound (P := P) (k := k2) (j := h) (y := m.toNat) (by omega) e1, run_sliceBound (P := P) (k := k1) (j := l) (y := h.toNat) h0 e2]
theorem Ow.move {kd : Kd α} {A : Option Addr} {c : Nat} {xs : List α} {C : Chunk} (h : Ow kd G A c xs C) {i : Nat} (hi : Γ[i]? = some C) {x y : Operand} {p q : Nat} (hpq : p ≤ q) (hq : q ≤ xs.length) (hx : evalE L x = some (.slice A p c)) (hy : evalE L y = some (.slice (if c = q then A else A.map (·.add (q * kd.sz))) (xs.length - q) (c - q)))
    {t : TypeId} {e by_ : Nat} (ht : sliceTy P t = some (e, kd.sz, by_)) (h2 : intTy P t = true) :
    Does P B G Γ (exec1 (rho L) (.call { callee := .builtin .append, args := #[x, y], argTypes := #[t, t] }) ty) fun v' G' Γ' =>
      G = G' ∧ ∃ C', v' = .slice A (xs.take p ++ xs.drop q).length c ∧ Ow kd G A c (xs.take p ++ xs.drop q) C' ∧ Γ' = Γ.set i C' := by
  obtain ⟨hu, info, hinfo, hsz, hb⟩ := sliceTy_some ht
  have hlen : (xs.take p ++ xs.drop q).length = p + (xs.length - q) := by simp; omega
  have hc := h.1
  refine Does.of_val (s := Builtin.append_ #[t, t] ty (#[x, y].map (rho L))) fun W hI => ?_
  have e1 : (#[x, y].map (rho L)) = #[.slice A p c, .slice (if c = q then A else A.map (·.add (q * kd.sz))) (xs.length - q) (c - q)] := by simp [rho_of hx, rho_of hy]
  rw [e1]
  have hL : (Builtin.lenOf (.slice (if c = q then A else A.map (·.add (q * kd.sz))) (xs.length - q) (c - q))).run P W = .ok (xs.length - q) W := by simp [Builtin.lenOf, go_sem]
  rcases h.2 with ⟨rfl, rfl, rfl, rfl⟩ | ⟨b, cells, T, fr, rfl, rfl, hcz, hf, hl⟩
  · have hq0 : q = 0 := by simpa using hq
    subst hq0
    obtain rfl : p = 0 := by omega
    refine ⟨_, W, G, Γ, run_append_room (cs := #[]) hu hinfo h2 hL (by simp [Builtin.firstCells, go_sem]) (by simp) (by simp) (fun _ => rfl), ⟨rfl, [], by simp, by simpa using Ow.nil kd G, ?_⟩, hI⟩
    apply List.ext_getElem?
    intro j
    rw [List.getElem?_set]
    split
    · rename_i e'; subst e'
      obtain ⟨hl, e⟩ := List.getElem?_eq_some_iff.1 hi
      simp [hl, e]
    · rfl
  · have hlq : Lies kd G cells (0 + q * kd.sz) ((xs.take xs.length).drop q) := hl.cut
    rw [List.take_length] at hlq
    have hld : (xs.drop q).length = xs.length - q := List.length_drop
    have hR : ∃ cs : List Value, cs.length = (xs.length - q) * kd.sz ∧ Lies kd G cs.toArray 0 (xs.drop q) ∧ (Builtin.firstCells kd.sz (xs.length - q) (.slice (if c = q then some ⟨b, 0, none⟩ else (some (⟨b, 0, none⟩ : Addr)).map (·.add (q * kd.sz))) (xs.length - q) (c - q))).run P W = .ok cs.toArray W := by
      by_cases hcq : c = q
      · have hz : xs.length - q = 0 := by omega
        have hd : xs.drop q = [] := List.drop_eq_nil_of_le (by omega)
        rw [if_pos hcq, hz, hd]
        have := run_firstCells (P := P) (kd := kd) (G := G) (A := ⟨b, 0, none⟩) rfl (hI.chunk hi) (Lies.nil kd G cells 0) (m := 0) (by simp) 0 (c - q)
        exact ⟨[], by simp, Lies.nil kd G _ _, by simpa using this⟩
      · rw [if_neg hcq]
        obtain ⟨h3, h4⟩ := hlq.part (m := xs.length - q) (by rw [hld]; omega)
        rw [show (xs.drop q).take (xs.length - q) = xs.drop q from List.take_of_length_le (by rw [hld]; omega)] at h4
        have ea : (⟨b, 0, none⟩ : Addr).add (q * kd.sz) = ⟨b, 0 + q * kd.sz, none⟩ := by rw [add_off rfl]
        have := run_firstCells (P := P) (A := ⟨b, 0 + q * kd.sz, none⟩) rfl (hI.chunk hi) hlq (m := xs.length - q) (by rw [hld]; omega) (xs.length - q) (c - q)
        refine ⟨_, h3, h4, ?_⟩
        simp only [Option.map_some, ea]
        exact this
    obtain ⟨cs, hcl, hcs, hrun⟩ := hR
    have hone : ∀ u ∈ cs, one1 u = true := fun u hu' => by
      obtain ⟨k, hk, rfl⟩ := List.mem_iff_getElem.1 hu'
      obtain ⟨w, hw, hw1⟩ := hcs.one (k := k) (by rw [hld]; omega)
      simp [hk] at hw
      rw [hw]; exact hw1
    have hfit : (p + (xs.length - q)) * kd.sz ≤ cells.size := by rw [hcz]; exact Nat.mul_le_mul_right _ (by omega)
    obtain ⟨W', hr, h3, h4, h5, h6, h7⟩ := run_storeCells (P := P) cs hone W cells ((⟨b, 0, none⟩ : Addr).add (p * kd.sz)) 0 (p * kd.sz) (by rw [add_mul, add_mul]; simp) (fun m => by rw [add_mul, add_mul]; simp) (hI.chunk hi) hf (by rw [hcl, ← Nat.add_mul]; exact hfit)
    have hpl : (xs.take p).length = p := by simp; omega
    have hlp : Lies kd G cells 0 (xs.take p) := by have := hl.cut (lo := 0) (hi := p); simpa using this
    refine ⟨_, W', G, _, run_append_room hu hinfo h2 hL (by rw [hsz]; exact hrun) (by omega) (fun a ha => ?_) (fun ha => by cases ha), ⟨rfl, _, by rw [hlen], ⟨by rw [hlen]; omega, .inr ⟨b, _, T, fr, rfl, rfl, by rw [over_size]; exact hcz, by rw [over_size]; exact hf, ?_⟩⟩, rfl⟩, hI.writeAt hi h3 h4 h5 h6 h7⟩
    · cases ha
      rw [hsz]
      simpa using hr
    · have := Lies.over (kd := kd) (G := G) (cells := cells) (xs := xs.take p) (ys := xs.drop q) (more := cs) (by rw [hpl, hld]; exact hfit) hlp (by rw [hld]; exact hcl) hcs
      rw [hpl] at this
      exact this
theorem Ow.moveT {kd : Kd α} {A : Option Addr} {c : Nat} {xs : List α} {C : Chunk} (h : Ow kd G A c xs C) {i : Nat} (hi : Γ[i]? = some C) {x y : Operand} {p q : Nat} (hpq : p ≤ q) (hq : q ≤ xs.length) (hx : evalE L x = some (.slice A (xs.take p).length c)) (hy : evalE L y = some (.slice (if c = q then A else A.map (·.add (q * kd.sz))) (xs.length - q) (c - q)))
    {t : TypeId} {e by_ : Nat} (ht : sliceTy P t = some (e, kd.sz, by_)) (h2 : intTy P t = true) :
    Does P B G Γ (exec1 (rho L) (.call { callee := .builtin .append, args := #[x, y], argTypes := #[t, t] }) ty) fun v' G' Γ' =>
      G = G' ∧ ∃ C', v' = .slice A (xs.take p ++ xs.drop q).length c ∧ Ow kd G A c (xs.take p ++ xs.drop q) C' ∧ Γ' = Γ.set i C' :=
  h.move hi hpq hq (by rw [hx, List.length_take, Nat.min_eq_left (by omega)]) hy ht h2
theorem Ow.clearTail {kd : Kd α} {A : Option Addr} {c : Nat} {xs : List α} {C : Chunk} (h : Ow kd G A c xs C) {i : Nat} (hi : Γ[i]? = some C) {x : Operand} {m : Nat} (hm : xs.length + m ≤ c) (hx : evalE L x = some (.slice (if c = xs.length then A else A.map (·.add (xs.length * kd.sz))) m (c - xs.length)))
    {t : TypeId} {e by_ : Nat} (ht : sliceTy P t = some (e, kd.sz, by_)) {zv : Value} (hz : (P.info? e).bind (·.zero) = some zv) (hzs : zv.cells.size = kd.sz) (hz1 : zv.cells.toList.all one1 = true) :
    Does P B G Γ (exec1 (rho L) (.call { callee := .builtin .clear, args := #[x], argTypes := #[t] }) ty) fun v' G' Γ' => v' = .tuple #[] ∧ G = G' ∧ ∃ C', Ow kd G A c xs C' ∧ Γ' = Γ.set i C' := by
  obtain ⟨hu, info, hinfo, hsz, hb⟩ := sliceTy_some ht
  have hzv : info.zero = some zv := by simpa [hinfo] using hz
  have same : Γ.set i C = Γ := by
    apply List.ext_getElem?
    intro j
    rw [List.getElem?_set]
    split
    · rename_i e'; subst e'
      obtain ⟨hl, e⟩ := List.getElem?_eq_some_iff.1 hi
      simp [hl, e]
    · rfl
  refine Does.of_val (s := Builtin.clear_ #[t] ty (#[x].map (rho L))) fun W hI => ?_
  have e1 : (#[x].map (rho L)) = #[.slice (if c = xs.length then A else A.map (·.add (xs.length * kd.sz))) m (c - xs.length)] := by simp [rho_of hx]
  rw [e1]
  cases m with
  | zero =>
    refine ⟨.tuple #[], W, G, Γ, ?_, ⟨rfl, rfl, C, h, same.symm⟩, hI⟩
    cases (if c = xs.length then A else A.map (·.add (xs.length * kd.sz))) <;> simp [Builtin.clear_, run_underlying hu]
  | succ m =>
    rcases h.2 with ⟨rfl, rfl, rfl, rfl⟩ | ⟨b, cells, T, fr, rfl, rfl, hcz, hf, hl⟩
    · simp at hm
    rw [if_neg (by omega)]
    have hzc : (Builtin.zeroCells zv.cells (m + 1)).size = (m + 1) * kd.sz := by rw [size_zeroCells, hzs]
    have hfit : xs.length * kd.sz + (m + 1) * kd.sz ≤ cells.size := by rw [hcz, ← Nat.add_mul]; exact Nat.mul_le_mul_right _ hm
    have hzl : (Builtin.zeroCells zv.cells (m + 1)).toList.length = (m + 1) * kd.sz := by rw [Array.length_toList]; exact hzc
    have hone : ∀ u ∈ (Builtin.zeroCells zv.cells (m + 1)).toList, one1 u = true := fun u hu' => by
      simp only [Builtin.zeroCells] at hu'
      rw [Array.toList_map] at hu'
      obtain ⟨k, hk, rfl⟩ := List.mem_map.1 hu'
      have hk' : k < (m + 1) * zv.cells.size := by simpa using hk
      have hpos : 0 < zv.cells.size := by
        rcases Nat.eq_zero_or_pos zv.cells.size with e | e
        · rw [e] at hk'; simp at hk'
        · exact e
      have hlt : k % zv.cells.size < zv.cells.size := Nat.mod_lt _ hpos
      rw [getElem!_pos zv.cells (k % zv.cells.size) hlt]
      exact List.all_eq_true.1 hz1 _ (by simp)
    obtain ⟨W', hr, h3, h4, h5, h6, h7⟩ := run_storeCells (P := P) (Builtin.zeroCells zv.cells (m + 1)).toList hone W cells ((⟨b, 0, none⟩ : Addr).add (xs.length * kd.sz)) 0 (xs.length * kd.sz) (by rw [add_mul, add_mul]; simp) (fun m => by rw [add_mul, add_mul]; simp) (hI.chunk hi) hf (by rw [hzl]; exact hfit)
    refine ⟨.tuple #[], W', G, _, ?_, ⟨rfl, rfl, _, ⟨h.1, .inr ⟨b, _, T, fr, rfl, rfl, by rw [over_size]; exact hcz, by rw [over_size]; exact hf, ?_⟩⟩, rfl⟩, hI.writeAt hi h3 h4 h5 h6 h7⟩
    · have hr' : (storeCells ((⟨b, 0, none⟩ : Addr).add (xs.length * kd.sz)) (Builtin.zeroCells zv.cells (m + 1)).toList).run P W = .ok () W' := by simpa using hr
      simp [Builtin.clear_, run_underlying hu, zeroValue, typeInfo, hinfo, hzv, hr']
    · intro i' hi'
      obtain ⟨cs2, hr2, hc2⟩ := hl i' hi'
      refine ⟨cs2, hr2, fun q hq => ?_⟩
      have hcl := kd.len hr2
      rw [over_get _ _ _ _ (by rw [hzl]; exact hfit), if_neg, hc2 q hq]
      rintro ⟨ha, hb⟩
      have : (i' + 1) * kd.sz ≤ xs.length * kd.sz := Nat.mul_le_mul_right _ hi'
      rw [Nat.add_mul, Nat.one_mul] at this
      omega
theorem Ow.suffixT {kd : Kd α} {A : Option Addr} {c : Nat} {xs : List α} {C : Chunk} (hr : Ow kd G A c xs C) {t : TypeId} {x lo : Operand} {l : Int} {k : IntKind} {e by_ : Nat} (hx : evalE L x = some (.slice A xs.length c))
    (hlo : evalE L lo = some (.int k l)) (h0 : 0 ≤ l) (h1 : l ≤ xs.length) (ht : sliceTy P t = some (e, kd.sz, by_)) :
    TellsW P (exec1 (rho L) (.slice t x (some lo) none none) ty) (.slice (if c = l.toNat then A else A.map (·.add (l.toNat * kd.sz))) (xs.length - l.toNat) (c - l.toNat)) :=
  TellsW.of_run (s := Instr.sliceAt t (rho L x) (some (rho L lo)) none none) fun W => by
    have := run_slice (P := P) (W := W) (L := L) (t := t) (A := A) (n := xs.length) (c := c) (lo := some lo) (hi := none) (l := l) (h := xs.length) ⟨k, hlo⟩ rfl h0 h1 (by have := hr.1; omega) ht
    rw [rho_of hx]
    simpa using this
theorem Ow.tailT {kd : Kd α} {A : Option Addr} {c : Nat} {xs : List α} {C : Chunk} (hr : Ow kd G A c xs C) {t : TypeId} {x lo hi : Operand} {h : Int} {k k' : IntKind} {e by_ : Nat} (hx : evalE L x = some (.slice A xs.length c))
    (hlo : evalE L lo = some (.int k xs.length)) (hhi : evalE L hi = some (.int k' h)) (h1 : (xs.length : Int) ≤ h) (h2 : h ≤ c) (ht : sliceTy P t = some (e, kd.sz, by_)) :
    TellsW P (exec1 (rho L) (.slice t x (some lo) (some hi) none) ty) (.slice (if c = xs.length then A else A.map (·.add (xs.length * kd.sz))) (h.toNat - xs.length) (c - xs.length)) :=
  TellsW.of_run (s := Instr.sliceAt t (rho L x) (some (rho L lo)) (some (rho L hi)) none) fun W => by
    have := run_slice (P := P) (W := W) (L := L) (t := t) (A := A) (n := xs.length) (c := c) (lo := some lo) (hi := some hi) (l := (xs.length : Int)) (h := h) ⟨k, hlo⟩ ⟨k', hhi⟩ (by omega) h1 h2 ht
    rw [rho_of hx]
    simpa using this
theorem WA.freezeN {G0 : GMap} {Γ0 : List Chunk} {kw m : Nat} {done : Array Bool} {i : Nat} {C : Chunk} (hi : Γ[i]? = some C) (h : ∀ G', G' = G.add C → G.le G' → (C.map (·.1)).Nodup → WA P ops Q kw m done n L B G0 Γ0 G' (Γ.set i [])) : WA P ops Q kw m done n L B G0 Γ0 G Γ := fun a W hF hI => by
  obtain ⟨h1, h2⟩ := (hI.take hi).freeze
  exact h _ rfl h2 (hI.nodupAt hi) a W hF (Inv.putAt hi (C' := []) (h1.perm (by simp)))
theorem WO.freezeN {G0 : GMap} {Γ0 : List Chunk} {kw m j : Nat} {done : Array Bool} {i : Nat} {C : Chunk} (hi : Γ[i]? = some C) (h : ∀ G', G' = G.add C → G.le G' → (C.map (·.1)).Nodup → WO P ops Q kw m done j n L B G0 Γ0 G' (Γ.set i [])) : WO P ops Q kw m done j n L B G0 Γ0 G Γ := fun a W hF hI => by
  obtain ⟨h1, h2⟩ := (hI.take hi).freeze
  exact h _ rfl h2 (hI.nodupAt hi) a W hF (Inv.putAt hi (C' := []) (h1.perm (by simp)))
theorem Under.sublLe {G0 : GMap} {Γ0 : List Chunk} (hle : G0.le G) (h : List.Sublist Γ0 Γ) : Under B G0 Γ0 G Γ := fun _ hw => (hw.lower hle).sub (flatten_subl h)
/-! ### Places that several ways come to, where nothing is written -/
theorem Inv.perm_eq {G : GMap} {Γ Γ1 : List Chunk} (hp : Γ.flatten.Perm Γ1.flatten) : (fun w => Inv B G Γ w) = fun w => Inv B G Γ1 w := funext fun w => propext ⟨fun h => h.perm hp, fun h => h.perm hp.symm⟩
theorem WA.pickJ2 {kw m : Nat} {done : Array Bool} {L L' : Env} {Γ1 : List Chunk} (ks : List Nat) (hJ : WA P ops Q kw m done n L' B G Γ1 G Γ1) (hp : Γ.flatten.Perm Γ1.flatten) (h : pickE ks L = L') : WA P ops Q kw m done n L B G Γ G Γ := by
  subst h
  intro a W hF hI
  rw [Inv.perm_eq hp]
  exact hJ a W (hF.pick ks) (hI.perm hp)
theorem WA.withK2 {L : Env} {kw M b : Nat} (k : ∀ (T : Nat → Nat → Env → List Chunk → Prop), (∀ m' b' L' Γ', T m' b' L' Γ' = WA P ops Q kw m' (arr ops.size b') n L' B G Γ' G Γ') → T M b L Γ) :
    WA P ops Q kw M (arr ops.size b) n L B G Γ G Γ := k _ fun _ _ _ _ => rfl
end Go.Gg
