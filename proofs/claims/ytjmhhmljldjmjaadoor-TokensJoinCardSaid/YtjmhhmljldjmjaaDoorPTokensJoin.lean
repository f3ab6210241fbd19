/- The plain law of TokensJoin. -/
import Derived.Test.YtjmhhmljldjmjaaDoorLTokensJoin
import Derived.Test.YtjmhhmljldjmjaaDoorPTok2
namespace Go.Proofs.YtjmhhmljldjmjaaDoor.Pure
open Go Go.Gg Go.Gp Gf
set_option linter.unusedSimpArgs false
theorem Low_eq {a b : Int} (ha : -9223372036854775808 ≤ a ∧ a < 9223372036854775808) (hb : 0 < b ∧ b < 1000) : ∃ v, grapevinelaw0_Low a b = some v ∧ 0 ≤ v ∧ v < b := by
  unfold grapevinelaw0_Low
  rw [u64w (by omega : 0 ≤ b ∧ b < 18446744073709551616), if_pos (by omega)]
  have h0 : 0 ≤ IntKind.u64.wrap a := by rw [IntKind.wrap_u64]; omega
  generalize IntKind.u64.wrap a = u at h0
  have h1 := Int.tmod_nonneg b h0
  have h2 := Int.tmod_lt_of_pos u hb.1
  exact ⟨_, rfl, by rw [i64w (by omega)]; omega, by rw [i64w (by omega)]; omega⟩
def signs : List ByteArray := [(⟨#[32]⟩ : ByteArray), (⟨#[45]⟩ : ByteArray), (⟨#[46]⟩ : ByteArray), (⟨#[10]⟩ : ByteArray), (⟨#[226, 130, 172]⟩ : ByteArray), (⟨#[95]⟩ : ByteArray)]
theorem sign_of {v : Int} (h : 0 ≤ v ∧ v < 6) : ∃ z, Sc z ∧ oth z = true ∧ signs.getD v.toNat ⟨#[]⟩ = bs [z] := by
  have hv : v = 0 ∨ v = 1 ∨ v = 2 ∨ v = 3 ∨ v = 4 ∨ v = 5 := by omega
  rcases hv with rfl | rfl | rfl | rfl | rfl | rfl
  · exact ⟨32, Or.inl (by omega), by decide +kernel, by decide +kernel⟩
  · exact ⟨45, Or.inl (by omega), by decide +kernel, by decide +kernel⟩
  · exact ⟨46, Or.inl (by omega), by decide +kernel, by decide +kernel⟩
  · exact ⟨10, Or.inl (by omega), by decide +kernel, by decide +kernel⟩
  · exact ⟨8364, Or.inl (by omega), by decide +kernel, by decide +kernel⟩
  · exact ⟨95, Or.inl (by omega), by decide +kernel, by decide +kernel⟩
theorem Join_loop (x y : List T64) (hx : x.length ≤ 120) (hy : y.length ≤ 120) (hX : ∀ i, i < x.length → (x.getD i z64).f1 = i) : ∀ (n i : Nat), i + n = x.length + y.length →
    Ev (fun k => grapevinelaw1_TokensJoin_l0 x y (x ++ y.zipIdx.map fun w => ⟨w.1.f0, ((x.length + w.2 : Nat) : Int)⟩) k (i : Int)) (Sum.inr ())
  | 0, i, hn => by
    refine Ev.step (fun k => by rw [grapevinelaw1_TokensJoin_l0]) ?_
    exact Ev.neg (by simp; omega) (Ev.now _)
  | n + 1, i, hn => by
    have hlen : (x ++ y.zipIdx.map fun w => (⟨w.1.f0, ((x.length + w.2 : Nat) : Int)⟩ : T64)).length = x.length + y.length := by simp
    have hat : ((i : Nat) : Int).toNat = i := by omega
    refine Ev.step (fun k => by rw [grapevinelaw1_TokensJoin_l0]) ?_
    refine Ev.pos (by omega) ?_
    have next : Ev (fun k => grapevinelaw1_TokensJoin_l0 x y (x ++ y.zipIdx.map fun w => (⟨w.1.f0, ((x.length + w.2 : Nat) : Int)⟩ : T64)) k (IntKind.i64.wrap ((i : Int) + 1))) (Sum.inr ()) := by
      rw [i64w (by omega), show ((i : Nat) : Int) + 1 = ((i + 1 : Nat) : Int) by omega]
      exact Join_loop x y hx hy hX n (i + 1) (by omega)
    by_cases h : i < x.length
    · have hz : (x ++ y.zipIdx.map fun w => (⟨w.1.f0, ((x.length + w.2 : Nat) : Int)⟩ : T64)).getD i z64 = x.getD i z64 := by
        rw [List.getD_eq_getElem?_getD, List.getD_eq_getElem?_getD, List.getElem?_append_left h]
      refine Ev.pos (by omega) (Ev.pos (by omega) ?_)
      rw [hat, hz]
      refine Ev.bind (b := false) ?_ ?_
      · refine Ev.pos (by omega) (Ev.neg (by simp) (Ev.pos (by omega) ?_))
        exact (Ev.now _).is (by rw [hX i h]; simp)
      · exact Ev.neg (by simp) next
    · have hz : (x ++ y.zipIdx.map fun w => (⟨w.1.f0, ((x.length + w.2 : Nat) : Int)⟩ : T64)).getD i z64 = ⟨(y.getD (i - x.length) z64).f0, (i : Int)⟩ := by
        rw [List.getD_eq_getElem?_getD, List.getElem?_append_right (by omega), List.getElem?_map, List.getElem?_zipIdx, List.getD_eq_getElem?_getD, List.getElem?_eq_getElem (show i - x.length < y.length by omega)]
        simp
        omega
      refine Ev.neg (by omega) ?_
      rw [i64w (by omega), show ((i : Int) - (x.length : Int)).toNat = i - x.length by omega, hat, hz]
      refine Ev.pos (by omega) ?_
      refine Ev.bind (b := false) ?_ ?_
      · refine Ev.pos (by omega) (Ev.neg (by simp) (Ev.pos (by omega) ?_))
        exact (Ev.now _).is (by simp)
      · exact Ev.neg (by simp) next
theorem Wd_join (A B : List Int) (z : Int) (hz : oth z = true) : Wd (A ++ z :: B) = Wd A ++ (Wd B).zipIdx.map fun w => ⟨w.1.f0, (((Wd A).length + w.2 : Nat) : Int)⟩ := by
  rw [Wd_numb, Wd_numb A, Wd_numb B, runs_sep oth z hz, numb_append]
  congr 1
  apply ext64
  · simp [numb]
  · intro i hi
    have hi' : i < (runs oth [] B).length := by simpa [numb] using hi
    rw [getD_eq _ _ hi, getD_eq _ _ (by simpa [numb] using hi')]
    simp [numb]
theorem app_size (a b : ByteArray) : (a ++ b).size = a.size + b.size := ByteArray.size_append
theorem TokensJoin : TokensJoin_Pure := by
  intro a0 a1 a2 hs0 hs1 w2
  have hz0 : a0.size ≤ 9223372036854775807 := Nat.le_trans hs0 (by decide)
  have hz1 : a1.size ≤ 9223372036854775807 := Nat.le_trans hs1 (by decide)
  apply Ev.rounds
  unfold grapevinelaw1_TokensJoin
  obtain ⟨v, hv, h0, h6⟩ := Low_eq (wf_i64 w2) (show (0 : Int) < 6 ∧ (6 : Int) < 1000 by omega)
  obtain ⟨z, hsz, hoz, hb⟩ := sign_of ⟨h0, h6⟩
  rw [hv]
  refine Ev.name fun t ht => ?_
  rw [ht]
  refine Ev.pos ⟨h0, by simpa using h6⟩ ?_
  refine Ev.name fun u hu => ?_
  have hu : u = bs [z] := hu.trans hb
  have hul : u.size ≤ 4 := by rw [hu, bs_size]; have := enc_length4 [z]; simpa using this
  refine Ev.pos (by omega) (Ev.pos (by rw [app_size]; omega) ?_)
  have yes : Ev (fun k => if true = true then ((grapevinelaw1_awake k).bind fun t26 => some t26) else ((tokens_Of k a0).bind fun t30 => ((tokens_Of k a1).bind fun t34 => ((tokens_Of k ((a0 ++ u) ++ a1)).bind fun t38 => (if ¬ (t38.length : Int) = (IntKind.i64.wrap ((t30.length : Int) + (t34.length : Int))) then some false else ((grapevinelaw1_TokensJoin_l0 t30 t34 t38 k 0).bind fun os43 => match os43 with | Sum.inl r => some r | Sum.inr s43 => ((grapevinelaw1_awake k).bind fun t64 => some t64))))))) true :=
    Ev.pos rfl (Ev.bind awake_ev (Ev.now _))
  by_cases h : (((a0 ++ u) ++ a1).size : Int) > 120
  · exact Ev.bind (b := true) (Ev.pos h (Ev.now _)) yes
  rw [valid_eq hz0, valid_eq hz1]
  cases hv0 : Lib.validD a0.data.toList
  · exact Ev.bind (b := true) (Ev.neg h (Ev.name fun w hw => Ev.pos (by rw [hw]; rfl) (Ev.now _))) yes
  cases hv1 : Lib.validD a1.data.toList
  · exact Ev.bind (b := true) (Ev.neg h (Ev.name fun w hw => Ev.neg (by rw [hw]; simp) (Ev.name fun w hw => (Ev.now _).is (by rw [hw]; rfl)))) yes
  refine Ev.bind (b := false) (Ev.neg h (Ev.name fun w hw => Ev.neg (by rw [hw]; simp) (Ev.name fun w hw => (Ev.now _).is (by rw [hw]; rfl)))) ?_
  refine Ev.neg (by simp) ?_
  obtain ⟨A, hA, rfl⟩ := valid_bs hv0
  obtain ⟨C, hC, rfl⟩ := valid_bs hv1
  subst hu
  have hall : (bs A ++ bs [z]) ++ bs C = bs (A ++ z :: C) := by rw [bs_append, bs_append]; simp
  rw [hall] at h ⊢
  have hsc : ∀ r ∈ A ++ z :: C, Sc r := by
    intro r hr
    rcases List.mem_append.1 hr with hr | hr
    · exact hA r hr
    · rcases List.mem_cons.1 hr with rfl | hr
      · exact hsz
      · exact hC r hr
  have hl : (enc (A ++ z :: C)).length ≤ 120 := by rw [bs_size] at h; omega
  have hl2 : (enc A).length ≤ 120 ∧ (enc C).length ≤ 120 := by rw [enc_append, enc_cons, List.length_append, List.length_append] at hl; omega
  refine Ev.bind (Of_ev hz0) ?_
  refine Ev.bind (Of_ev hz1) ?_
  refine Ev.bind (Of_ev (by rw [bs_size]; omega)) ?_
  rw [OfD_bs A hA hl2.1, OfD_bs C hC hl2.2, OfD_bs _ hsc hl]
  have hla := runes_bound A
  have hlc := runes_bound C
  have hea := enc_length A
  have hec := enc_length C
  have hWA := Wd_length A
  have hWC := Wd_length C
  rw [Wd_join A C z hoz]
  refine Ev.neg (by rw [i64w (by omega)]; simp) ?_
  refine Ev.bind (Join_loop (Wd A) (Wd C) (by omega) (by omega) (fun i hi => by rw [Wd_get A (by omega)]) ((Wd A).length + (Wd C).length) 0 (by omega)) ?_
  exact Ev.bind awake_ev (Ev.now _)
end Go.Proofs.YtjmhhmljldjmjaaDoor.Pure
