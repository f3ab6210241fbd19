/- Room behind a slice, results of calls that are lent something, structs compared. -/
import Derived.Test.YtmphcmgbognmnaaGgI
namespace Go.Gg
open Go
variable {P : Program} {B : World} {G G' : GMap} {Γ Γ' : List Chunk} {W W' : World} {L : Env} {n : Nat} {ty : TypeId} {ops : Array Oper} {Q : Exit → Act → World → Prop}
variable {α : Type} {kd : Kd α}

/-- A slice is made empty, with room. -/
theorem Does.makeRoom {t : TypeId} {x y : Operand} {k k' : IntKind} {c : Int} {e by_ : Nat} (hx : evalE L x = some (.int k 0)) (hy : evalE L y = some (.int k' c)) (h0 : 0 ≤ c)
    (ht : sliceTy P t = some (e, kd.sz, by_)) (hby : by_ ≤ 4096) (hc : c ≤ 1073741824) {z : α} {zv : Value} (hz : (P.info? e).bind (·.zero) = some zv) (hzr : ∀ G, kd.rel G z zv.cells.toList) :
    Does P B G Γ (exec1 (rho L) (.makeSlice t x y) ty) fun v G' Γ' => G = G' ∧ ∃ b C, v = .slice (some ⟨b, 0, none⟩) 0 c.toNat ∧ Ow kd G (some ⟨b, 0, none⟩) c.toNat (List.replicate c.toNat z) C ∧ C :: Γ = Γ' := by
  obtain ⟨hu, info, hinfo, hsz, hb⟩ := sliceTy_some ht
  have hzv : info.zero = some zv := by simpa [hinfo] using hz
  refine Does.of_val (s := Instr.makeSlice t (rho L x) (rho L y)) fun W hI => ?_
  rw [rho_of hx, rho_of hy]
  have hbb : (info.bytes : Int) * c ≤ 281474976710656 := by
    have : (info.bytes : Int) * c ≤ 4096 * 1073741824 := Int.mul_le_mul (by omega) hc (by omega) (by omega)
    omega
  have hzs : zv.cells.size = kd.sz := by have := kd.len (hzr G); simpa using this
  refine ⟨_, _, G, _, run_make W t e info zv hu hinfo hzv k k' 0 c (by omega) h0 hbb (by omega), ⟨rfl, W.heap.size, _, by simp, ⟨by simp, .inr ⟨W.heap.size, _, e, (0, 0), rfl, rfl, by rw [size_madeCells, hsz], Free.zero _, ?_⟩⟩, rfl⟩, hI.alloc _⟩
  intro i hi
  have hil : i < c.toNat := by simpa using hi
  refine ⟨zv.cells.toList, by simpa using hzr G, fun j hj => ?_⟩
  have hj' : j < zv.cells.size := by simpa using hj
  have hlt : 0 + i * kd.sz + j < c.toNat * info.size := by
    rw [hsz, Nat.zero_add]
    have : (i + 1) * kd.sz ≤ c.toNat * kd.sz := Nat.mul_le_mul_right _ (by omega)
    rw [Nat.add_mul, Nat.one_mul] at this
    omega
  have hm : (0 + i * kd.sz + j) % zv.cells.size = j := by
    rw [hzs, Nat.zero_add, Nat.add_comm, Nat.add_mul_mod_self_right]
    exact Nat.mod_eq_of_lt (by omega)
  simp only [madeCells]
  rw [Array.getElem?_map, Array.getElem?_range, if_pos hlt]
  simp only [Option.map_some, hm]
  simp [hj']

theorem Lies.overHead {cells : Array Value} {mid ys post : List α} {more : List Value} (hlen : ys.length = mid.length) (hl : ys.length * kd.sz ≤ cells.size) (hx : Lies kd G cells 0 (mid ++ post)) (hm : more.length = ys.length * kd.sz) (hy : Lies kd G more.toArray 0 ys) :
    Lies kd G (Go.Gg.over cells 0 more) 0 (ys ++ post) := by
  intro i hi
  by_cases h : i < ys.length
  · obtain ⟨cs, hr, hcs⟩ := hy i h
    refine ⟨cs, by simpa [List.getElem_append_left h] using hr, fun j hj => ?_⟩
    have h1 := kd.len hr
    have : (i + 1) * kd.sz ≤ ys.length * kd.sz := Nat.mul_le_mul_right _ h
    rw [Nat.add_mul, Nat.one_mul] at this
    rw [Go.Gg.over_get _ _ _ _ (by omega), if_pos (by omega)]
    have h2 := hcs j hj
    simp only [List.getElem?_toArray] at h2
    rw [show 0 + i * kd.sz + j - 0 = 0 + i * kd.sz + j by omega]
    exact h2
  · have hi' : i < (mid ++ post).length := by simp at hi ⊢; omega
    obtain ⟨cs, hr, hcs⟩ := hx i hi'
    have e : (mid ++ post)[i] = (ys ++ post)[i] := by
      rw [List.getElem_append_right (by omega : mid.length ≤ i), List.getElem_append_right (by omega : ys.length ≤ i)]
      simp only [hlen]
    refine ⟨cs, by rw [← e]; exact hr, fun j hj => ?_⟩
    have h1 := kd.len hr
    have : ys.length * kd.sz ≤ i * kd.sz := Nat.mul_le_mul_right _ (by omega)
    rw [Go.Gg.over_get _ _ _ _ (by omega), if_neg (by omega)]
    exact hcs j hj

/-- An append to an empty slice that has the room. -/
theorem Ow.appendIn {b c : Nat} {mid post : List α} {C : Chunk} (h : Ow kd G (some ⟨b, 0, none⟩) c (mid ++ post) C) {i : Nat} (hi : Γ[i]? = some C) {x y : Operand} {v : Value} {ys : List α} (hx : evalE L x = some (.slice (some ⟨b, 0, none⟩) 0 c)) (hy : evalE L y = some v)
    (hs : Src P B G Γ kd v ys) {t t2 : TypeId} {e by_ : Nat} (ht : sliceTy P t = some (e, kd.sz, by_)) (h2 : intTy P t2 = true) (hlen : ys.length = mid.length) :
    Does P B G Γ (exec1 (rho L) (.call { callee := .builtin .append, args := #[x, y], argTypes := #[t, t2] }) ty) fun v' G' Γ' =>
      v' = .slice (some ⟨b, 0, none⟩) ys.length c ∧ G = G' ∧ ∃ C', Ow kd G (some ⟨b, 0, none⟩) c (ys ++ post) C' ∧ Γ.set i C' = Γ' := by
  obtain ⟨hu, info, hinfo, hsz, hb⟩ := sliceTy_some ht
  obtain ⟨hlenOf, hsrc⟩ := hs
  obtain ⟨cs, hcl, hcs, hrun⟩ := hsrc ys.length (Nat.le_refl _)
  rw [List.take_length] at hcs
  refine Does.of_val (s := Builtin.append_ #[t, t2] ty (#[x, y].map (rho L))) fun W hI => ?_
  have hL := hlenOf W hI
  have e1 : (#[x, y].map (rho L)) = #[.slice (some ⟨b, 0, none⟩) 0 c, v] := by simp [rho_of hx, rho_of hy]
  rw [e1]
  have h1 : ∀ u ∈ cs, one1 u = true := fun u hu' => by
    obtain ⟨k, hk, rfl⟩ := List.mem_iff_getElem.1 hu'
    obtain ⟨w, hw, hw1⟩ := hcs.one (k := k) (by omega)
    simp [hk] at hw
    rw [hw]; exact hw1
  have hc : (mid ++ post).length ≤ c := h.1
  have hroom : 0 + ys.length ≤ c := by simp at hc; omega
  rcases h.2 with ⟨h', _⟩ | ⟨b', cells, T, fr, hb', rfl, hcz, hf, hl⟩
  · cases h'
  · cases hb'
    have hfit : ys.length * kd.sz ≤ cells.size := by rw [hcz]; exact Nat.mul_le_mul_right _ (by omega)
    obtain ⟨W', hr, h3, h4, h5, h6, h7⟩ := run_storeCells (P := P) cs h1 W cells ((⟨b, 0, none⟩ : Addr).add (0 * kd.sz)) 0 0 (by rw [add_mul, add_mul]; simp) (fun m => by rw [add_mul, add_mul]; simp) (hI.chunk hi) hf (by rw [hcl]; simpa using hfit)
    refine ⟨_, W', G, _, run_append_room hu hinfo h2 hL (by rw [hsz]; exact hrun W hI) hroom (fun a ha => ?_) (fun ha => by cases ha), ⟨by simp, rfl, _, ⟨by simp at hc ⊢; omega, .inr ⟨b, _, T, fr, rfl, rfl, by rw [over_size]; exact hcz, by rw [over_size]; exact hf, Lies.overHead hlen hfit hl hcl hcs⟩⟩, rfl⟩, hI.writeAt hi h3 h4 h5 h6 h7⟩
    cases ha
    rw [hsz]
    simpa using hr

/-- The room behind a slice, as a slice. -/
theorem Tells.room {b m c : Nat} {t : TypeId} {x : Operand} {lo hi : Option Operand} {l h : Int} {e sz by_ : Nat} (hx : evalE L x = some (.slice (some ⟨b, 0, none⟩) m c))
    (hlo : boundE L 0 lo l) (hhi : boundE L m hi h) (h0 : 0 ≤ l) (h1 : l < h) (h2 : h ≤ c) (ht : sliceTy P t = some (e, sz, by_)) :
    Tells P B G Γ (exec1 (rho L) (.slice t x lo hi none) ty) (.slice (some ⟨b, l.toNat * sz, none⟩) (h.toNat - l.toNat) (c - l.toNat)) := by
  refine Tells.of_run (s := Instr.sliceAt t (rho L x) (lo.map (rho L)) (hi.map (rho L)) none) fun W _ => ?_
  rw [rho_of hx, run_slice hlo hhi h0 (by omega) h2 ht, if_neg (by omega)]
  simp [add_mul]

/-- A part of a frozen slice, its room included. -/
theorem Rd.sliceR {A : Option Addr} {c m : Nat} {xs : List α} (hr : Rd kd G A c xs) {t : TypeId} {x : Operand} {lo hi : Option Operand} {l h : Int} {e by_ : Nat} (hx : evalE L x = some (.slice A m c))
    (hlo : boundE L 0 lo l) (hhi : boundE L m hi h) (h0 : 0 ≤ l) (h1 : l ≤ h) (h2 : h ≤ xs.length) (ht : sliceTy P t = some (e, kd.sz, by_)) :
    ∃ A' c', Rd kd G A' c' ((xs.take h.toNat).drop l.toNat) ∧ Tells P B G Γ (exec1 (rho L) (.slice t x lo hi none) ty) (.slice A' ((xs.take h.toNat).drop l.toNat).length c') := by
  refine ⟨_, _, hr.cut (lo := l.toNat) (hi := h.toNat) (by omega) (by omega), Tells.of_run (s := Instr.sliceAt t (rho L x) (lo.map (rho L)) (hi.map (rho L)) none) fun W _ => ?_⟩
  rw [rho_of hx, run_slice hlo hhi h0 h1 (by have := hr.1; omega) ht]
  congr 2
  simp; omega

/-- The beginning of a frozen slice. -/
theorem Rd.head {A : Option Addr} {c : Nat} {xs ys : List α} (hr : Rd kd G A c (xs ++ ys)) : Rd kd G A c xs := by
  refine ⟨by have := hr.1; simp at this; omega, fun hx => ?_⟩
  obtain ⟨ad, e, s, cells, T, fr, hG, hl⟩ := hr.2 (by simp [hx])
  refine ⟨ad, e, s, cells, T, fr, hG, ?_⟩
  have := hl.cut (lo := 0) (hi := xs.length)
  simpa using this

/-! ### A call that is lent something, and makes something -/
/-- What is told of elements speaks of no memory. -/
def Kd.Flat (kd : Kd α) : Prop := ∀ G G' x cs, kd.rel G x cs → kd.rel G' x cs
theorem Ow.flat (hk : kd.Flat) {A : Option Addr} {c : Nat} {xs : List α} {C : Chunk} (h : Ow kd G A c xs C) : Ow kd G' A c xs C := by
  refine ⟨h.1, ?_⟩
  rcases h.2 with h | ⟨b, cells, T, fr, h1, h2, h3, h4, h5⟩
  · exact .inl h
  · exact .inr ⟨b, cells, T, fr, h1, h2, h3, h4, fun i hi => let ⟨cs, hr, hc⟩ := h5 i hi; ⟨cs, hk _ _ _ _ hr, hc⟩⟩

theorem Calls.lendR {W : World} {f : FuncId} {args : Array Value} {i : Nat} {C : Chunk} {Φ : Value → List Chunk → Prop} (hi : Γ[i]? = some C) (hnd : (C.map (·.1)).Nodup) (hI : Inv B G Γ W)
    (hc : ∀ G1, G1 = G.add C → G.le G1 → Inv B G1 (Γ.set i []) W → Calls P f args W (Ret B fun v' G' Γ' => ∃ N, Φ v' N ∧ G1 = G' ∧ N ++ Γ.set i [] = Γ')) :
    Calls P f args W (Ret B fun v' G' Γ' => ∃ N, Φ v' N ∧ G = G' ∧ N ++ Γ = Γ') := by
  obtain ⟨h1, h2⟩ := (hI.take hi).freeze
  have hap : ∀ p ∈ C, G p.1 = none := fun p hp => (hI.take hi).ap p (by simp [hp])
  refine (hc _ rfl h2 (Inv.putAt hi (C' := []) (h1.perm (by simp)))).mono ?_
  rintro e W' ⟨v, _, _, rfl, ⟨N, hΦ, rfl, rfl⟩, hI'⟩
  have hp1 : (N ++ Γ.set i []).flatten.Perm (N ++ Γ.eraseIdx i).flatten := by
    rw [List.flatten_append, List.flatten_append]
    exact List.Perm.append_left _ (by simpa using flatten_set_perm (C' := []) hi)
  obtain ⟨h4, h5⟩ := Inv.thaw hnd hap (GMap.le_refl _) (hI'.perm hp1)
  refine ⟨v, _, _, rfl, ⟨N, hΦ, rfl, rfl⟩, (h4.lower h5).perm ?_⟩
  have hp2 := flatten_at_perm hi
  rw [List.flatten_cons, List.flatten_append, List.flatten_append]
  refine List.Perm.trans ?_ (List.Perm.append_left _ hp2.symm)
  rw [← List.append_assoc, ← List.append_assoc]
  exact List.Perm.append_right _ List.perm_append_comm

/-- A call that is handed the chunk at a place, and makes whatever it makes. -/
theorem Does.callN {s : Sem Next} {f : FuncId} {args : List Value} {Φ : Value → GMap → List Chunk → Prop} {i : Nat} {C : Chunk} (hi : Γ[i]? = some C) (h : evq P s = some (.enter f args.toArray))
    (hc : ∀ W, Inv B G (C :: Γ.eraseIdx i) W → Calls P f args.toArray W (Ret B Φ)) (hΦ : ∀ v G' Γ', Φ v G' Γ' → ∃ N, N ++ Γ.eraseIdx i = Γ') :
    Does P B G Γ s fun v G' Γ' => ∃ N, Φ v G' (N ++ Γ.eraseIdx i) ∧ N ++ Γ.eraseIdx i = Γ' :=
  fun W hI => .inr ⟨f, _, W, evq_run h W, (hc W (hI.take hi)).mono fun e W' ⟨v, G', Γ', he, hφ, hI'⟩ => by
    obtain ⟨N, rfl⟩ := hΦ v G' Γ' hφ
    exact ⟨v, G', _, he, ⟨N, hφ, rfl⟩, hI'⟩⟩

/-! ### A value by another name -/
theorem WP.reput {c : Code} (t : Nat) {v v' : Value} (ht : L.lookup t = some v) (e : v = v') (h : WP P c Q n ((t, v') :: L) B G Γ) : WP P c Q n L B G Γ := fun a W hF hI => h a W (hF.reput ht e) hI

/-! ### The order of chunks -/
theorem QP.front {e : Exit} {i : Nat} {C : Chunk} (hi : Γ[i]? = some C) (h : QP Q e n L B G (C :: Γ.eraseIdx i)) : QP Q e n L B G Γ := fun a W hF hI => h a W hF (hI.take hi)
theorem WP.front {c : Code} {i : Nat} {C : Chunk} (hi : Γ[i]? = some C) (h : WP P c Q n L B G (C :: Γ.eraseIdx i)) : WP P c Q n L B G Γ := fun a W hF hI => h a W hF (hI.take hi)
theorem WL.front {j : Nat} {i : Nat} {C : Chunk} (hi : Γ[i]? = some C) (h : WL P ops Q j n L B G (C :: Γ.eraseIdx i)) : WL P ops Q j n L B G Γ := fun a W hF hI => h a W hF (hI.take hi)

theorem app_inj {a b c : List Chunk} (h : a ++ c = b ++ c) : a = b := List.append_cancel_right h

theorem kInt_flat (k : IntKind) : (kInt k).Flat := fun _ _ _ _ h => h
theorem kBool_flat : kBool.Flat := fun _ _ _ _ h => h
theorem kStr_flat : kStr.Flat := fun _ _ _ _ h => h
theorem kFlat_flat (n : Nat) (enc : α → List Value) (h1 : ∀ x, (enc x).length = n) (h2 : ∀ x, (enc x).all one1 = true) : (kFlat n enc h1 h2).Flat := fun _ _ _ _ h => h
end Go.Gg
