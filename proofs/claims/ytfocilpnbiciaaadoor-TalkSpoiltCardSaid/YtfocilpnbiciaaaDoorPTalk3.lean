/- Messages in plain words: how they are read. -/
import Derived.Test.YtfocilpnbiciaaaDoorPTalk2
namespace Go.Proofs.YtfocilpnbiciaaaDoor.Pure
open Go Go.Gg Go.Gp Gf
set_option linter.unusedVariables false
set_option linter.unusedSimpArgs false

/-! ## Numbers and records are laid as they were read -/
theorem numF_eq (l : List Int) : ∀ a : Int, numF a l = a * ((256 ^ l.length : Nat) : Int) + num l := by
  induction l with
  | nil => intro a; simp [numF, num]
  | cons x l ih =>
    intro a
    have h1 : numF a (x :: l) = numF (256 * a + x) l := rfl
    have h2 : num (x :: l) = numF (256 * 0 + x) l := rfl
    rw [h1, h2, ih, ih, List.length_cons, Nat.pow_succ]
    have e0 : ((256 ^ l.length * 256 : Nat) : Int) = ((256 ^ l.length : Nat) : Int) * 256 := Int.natCast_mul _ _
    rw [e0]
    generalize ((256 ^ l.length : Nat) : Int) = P
    have e1 : 256 * a * P = a * (P * 256) := by rw [Int.mul_comm 256 a, Int.mul_assoc, Int.mul_comm 256 P]
    rw [Int.add_mul, e1, Int.mul_zero, Int.zero_add, Int.add_assoc]
theorem be_add (a n s : Nat) : ∀ t, t ≤ s → be (a * 256 ^ s + n) t = be n t
  | 0, _ => rfl
  | t + 1, h => by
    rw [be, be, be_add a n s t (by omega)]
    congr 2
    have e : a * 256 ^ s = a * 256 ^ (s - t) * 256 ^ t := by rw [Nat.mul_assoc, ← Nat.pow_add]; congr 2; omega
    have e2 : a * 256 ^ (s - t) = a * 256 ^ (s - t - 1) * 256 := by rw [Nat.mul_assoc, ← Nat.pow_succ]; congr 2; omega
    rw [e, Nat.add_comm, Nat.add_mul_div_right _ _ (Nat.pow_pos (by omega)), e2, Nat.add_mul_mod_self_right]
theorem be_num : ∀ (l : List Int), Bytes l → be (num l).toNat l.length = l
  | [], _ => rfl
  | x :: l, h => by
    have hx := h x (by simp)
    have hl : Bytes l := fun y hy => h y (by simp [hy])
    have hb := num_bound hl l.length (Nat.le_refl _)
    rw [List.take_length] at hb
    have h1 : num (x :: l) = x * ((256 ^ l.length : Nat) : Int) + num l := by
      have h2 : num (x :: l) = numF (256 * 0 + x) l := rfl
      rw [h2, numF_eq, Int.mul_zero, Int.zero_add]
    obtain ⟨X, rfl⟩ : ∃ X : Nat, x = (X : Int) := ⟨x.toNat, by omega⟩
    obtain ⟨m, hm⟩ : ∃ m : Nat, num l = (m : Int) := ⟨(num l).toNat, by omega⟩
    have ih := be_num l hl
    rw [hm, Int.toNat_natCast] at ih
    rw [hm] at hb
    have e : (num ((X : Int) :: l)).toNat = X * 256 ^ l.length + m := by rw [h1, hm, ← Int.natCast_mul]; omega
    rw [e, List.length_cons, be, be_add X m l.length l.length (Nat.le_refl _), ih]
    congr 1
    rw [Nat.add_comm, Nat.add_mul_div_right _ _ (Nat.pow_pos (by omega)), Nat.div_eq_of_lt (by omega)]
    omega
theorem be_num' {l : List Int} (h : Bytes l) {s : Nat} (hs : l.length = s) : be (num l).toNat s = l := by rw [← hs]; exact be_num l h
theorem be_one {x : Int} (h : 0 ≤ x ∧ x < 256) : be x.toNat 1 = [x] := by simp [be]; omega
theorem rd_sound {b : List Int} (hb : Bytes b) {p : Int} (h : (rd b p).2.2 = true) :
    0 ≤ p ∧ Mayr (rd b p).1 ∧ (rd b p).2.1 = p + (lay (rd b p).1).length ∧ (rd b p).2.1 ≤ (b.length : Int) ∧ b.drop p.toNat = lay (rd b p).1 ++ b.drop (rd b p).2.1.toNat := by
  by_cases h0 : 0 ≤ p ∧ p ≤ b.length
  case neg => unfold rd at h; rw [if_neg h0] at h; simp [none27] at h
  obtain ⟨x, hx⟩ : ∃ x, x = b.drop p.toNat := ⟨_, rfl⟩
  have hxl : (x.length : Int) = (b.length : Int) - p := by rw [hx, List.length_drop]; omega
  have hxb : Bytes x := hx ▸ hb.drop _
  have e : rd b p = rdx x p := by unfold rd; rw [if_pos h0, hx]
  rw [e] at h ⊢
  rw [← hx]
  have hg := hxb.get 11
  obtain ⟨m, hm⟩ : ∃ m : Nat, x.getD 11 0 = (m : Int) := ⟨(x.getD 11 0).toNat, by omega⟩
  unfold rdx at h ⊢
  rw [hm, Int.toNat_natCast] at h ⊢
  by_cases hc : 12 ≤ x.length ∧ 12 + m ≤ x.length ∧ Mayr (recOf x m)
  case neg => rw [if_neg hc] at h; simp [none27] at h
  rw [if_pos hc]
  simp only
  have l1 : ((x.take (12 + m)).drop 12).length = m := by simp; omega
  have hsz : (recOf x m).f4.size = m := by unfold recOf; simp only [size_strOfNums, l1]
  have hl : (lay (recOf x m)).length = 12 + m := by rw [len_lay, hsz]
  have hlay : lay (recOf x m) = x.take (12 + m) := by
    have g0 := hxb.get 0
    have b1 : be (recOf x m).f0.toNat 1 = x.take 1 := by
      have e1 : (recOf x m).f0 = x.getD 0 0 := rfl
      rw [e1, be_one g0, take_getD x 0 (by omega)]; simp
    have b2 : be (recOf x m).f1.toNat 2 = (x.take 3).drop 1 := be_num' ((hxb.take 3).drop 1) (by simp; omega)
    have b3 : be (recOf x m).f2.toNat 6 = (x.take 9).drop 3 := be_num' ((hxb.take 9).drop 3) (by simp; omega)
    have b4 : be (recOf x m).f3.toNat 2 = (x.take 11).drop 9 := be_num' ((hxb.take 11).drop 9) (by simp; omega)
    have b5 : be (recOf x m).f4.size 1 = (x.take 12).drop 11 := by
      have : be (recOf x m).f4.size 1 = [(m : Int)] := by rw [hsz]; exact be_one (x := (m : Int)) (by omega)
      rw [this, take_getD x 0 (show 11 < x.length by omega), hm, drop_app_len _ _ (by simp; omega)]
    have b6 : bytesOf (recOf x m).f4 = (x.take (12 + m)).drop 12 := bytesOf_strOfNums ((hxb.take _).drop _)
    have cut : ∀ i j, i ≤ j → x.take i ++ (x.take j).drop i = x.take j := fun i j hij => by
      have : x.take i = (x.take j).take i := by rw [List.take_take, Nat.min_eq_left hij]
      rw [this, List.take_append_drop]
    unfold lay head
    rw [b1, b2, b3, b4, b5, b6, cut 1 3 (by omega), cut 3 9 (by omega), cut 9 11 (by omega), cut 11 12 (by omega), cut 12 (12 + m) (by omega)]
  refine ⟨h0.1, hc.2.2, by rw [hl]; omega, by omega, ?_⟩
  have e2 : b.drop (p + 12 + (m : Int)).toNat = x.drop (12 + m) := by rw [hx, List.drop_drop]; congr 1; omega
  rw [e2, hlay, List.take_append_drop]

/-! ## Records, one behind the other -/
def recR (b : List Int) : Nat → Int → List T39 → Option (List T39 × Int)
  | 0, p, acc => some (acc, p)
  | c + 1, p, acc => if (rd b p).2.2 = true then recR b c (rd b p).2.1 (acc ++ [(rd b p).1]) else none
theorem recR_sound {b : List Int} (hb : Bytes b) : ∀ (c : Nat) (p : Int) (acc rs : List T39) (q : Int), recR b c p acc = some (rs, q) → ∃ new, rs = acc ++ new ∧ new.length = c ∧ (c = 0 ∧ q = p ∨ 0 ≤ p ∧ q ≤ (b.length : Int)) ∧ b.drop p.toNat = lays new ++ b.drop q.toNat
  | 0, p, acc, rs, q, h => by
    cases h
    exact ⟨[], by simp, rfl, .inl ⟨rfl, rfl⟩, by simp [lays]⟩
  | c + 1, p, acc, rs, q, h => by
    rw [recR] at h
    split at h
    · rename_i h1
      obtain ⟨a1, a2, a3, a4, a5⟩ := rd_sound hb h1
      obtain ⟨new, n1, n2, n3, n4⟩ := recR_sound hb c _ _ rs q h
      refine ⟨(rd b p).1 :: new, by rw [n1]; simp, by simp [n2], .inr ⟨a1, ?_⟩, ?_⟩
      · rcases n3 with ⟨_, n3⟩ | n3 <;> omega
      · rw [a5, n4]; simp [lays]
    · cases h
theorem recR_lays (pre post : List Int) : ∀ (rs : List T39) (acc : List T39) (done : List Int), (∀ r ∈ rs, Mayr r) →
    recR (pre ++ (done ++ (lays rs ++ post))) rs.length ((pre.length + done.length : Nat) : Int) acc = some (acc ++ rs, ((pre.length + done.length + (lays rs).length : Nat) : Int))
  | [], acc, done, _ => by simp [recR, lays]
  | r :: rs, acc, done, h => by
    have hr := h r (by simp)
    have e : pre ++ (done ++ (lays (r :: rs) ++ post)) = (pre ++ done) ++ lay r ++ (lays rs ++ post) := by simp [lays]
    have h1 := rd_lay hr (pre ++ done) (lays rs ++ post)
    rw [← e, List.length_append] at h1
    rw [List.length_cons, recR, h1]
    simp only [if_true]
    have h2 := recR_lays pre post rs (acc ++ [r]) (done ++ lay r) (fun x hx => h x (by simp [hx]))
    have e2 : pre ++ ((done ++ lay r) ++ (lays rs ++ post)) = pre ++ (done ++ (lays (r :: rs) ++ post)) := by simp [lays]
    rw [e2, List.length_append, len_lay] at h2
    have e3 : ((pre.length + done.length : Nat) : Int) + 12 + (r.f4.size : Int) = ((pre.length + (done.length + (12 + r.f4.size)) : Nat) : Int) := by omega
    rw [e3, h2]
    have e4 : lays (r :: rs) = lay r ++ lays rs := by simp [lays]
    rw [e4, List.length_append, len_lay]
    congr 2
    · simp
    · omega

/-! ## Vectors -/
def ns (b : List Int) (p n : Nat) : List Int := (List.range n).map fun i => b.getD (p + 2 * i) 0 * 256 + b.getD (p + 2 * i + 1) 0
theorem len_ns (b : List Int) (p n : Nat) : (ns b p n).length = n := by simp [ns]
theorem ns_succ (b : List Int) (p n : Nat) : ns b p (n + 1) = ns b p n ++ [b.getD (p + 2 * n) 0 * 256 + b.getD (p + 2 * n + 1) 0] := by simp [ns, List.range_succ]
theorem ns_sound {b : List Int} (hb : Bytes b) (p : Nat) : ∀ n, p + 2 * n ≤ b.length → (ns b p n).flatMap two = (b.take (p + 2 * n)).drop p
  | 0, h => by simp [ns]
  | n + 1, h => by
    have g1 := hb.get (p + 2 * n)
    have g2 := hb.get (p + 2 * n + 1)
    have e : two (b.getD (p + 2 * n) 0 * 256 + b.getD (p + 2 * n + 1) 0) = [b.getD (p + 2 * n) 0, b.getD (p + 2 * n + 1) 0] := by
      generalize b.getD (p + 2 * n) 0 = x at g1 ⊢
      generalize b.getD (p + 2 * n + 1) 0 = y at g2 ⊢
      simp [two, be]; omega
    rw [ns_succ, List.flatMap_append, ns_sound hb p n (by omega)]
    simp only [List.flatMap_cons, List.flatMap_nil, List.append_nil, e]
    rw [show p + 2 * (n + 1) = p + 2 * n + 1 + 1 by omega, take_getD b 0 (i := p + 2 * n + 1) (by omega), take_getD b 0 (i := p + 2 * n) (by omega), List.drop_append_of_le_length (by simp; omega), List.drop_append_of_le_length (by simp; omega)]
    simp
theorem ns_twos {v : List Int} (hv : ∀ x ∈ v, 0 ≤ x ∧ x ≤ 65535) (pre post : List Int) : ns (pre ++ (v.flatMap two ++ post)) pre.length v.length = v := by
  have hn : ∀ m, m ≤ v.length → ns (pre ++ (v.flatMap two ++ post)) pre.length m = v.take m := by
    intro m
    induction m with
    | zero => intro _; rfl
    | succ m ih =>
      intro hm
      have hx := hv _ (getD_mem v 0 (show m < v.length by omega))
      have hfl : (v.take m).flatMap two ++ (two (v.getD m 0) ++ (v.drop (m + 1)).flatMap two) = v.flatMap two := by
        conv => rhs; rw [parts_getD v 0 (show m < v.length by omega)]
        simp
      have el : (pre ++ (v.take m).flatMap two).length = pre.length + 2 * m := by rw [List.length_append, len_twos]; simp; omega
      have e2 : pre ++ (v.flatMap two ++ post) = (pre ++ (v.take m).flatMap two) ++ (two (v.getD m 0) ++ ((v.drop (m + 1)).flatMap two ++ post)) := by
        rw [← hfl]; simp [List.append_assoc]
      have g1 : (pre ++ (v.flatMap two ++ post)).getD (pre.length + 2 * m) 0 = ((v.getD m 0).toNat / 256 % 256 : Nat) := by
        have := getD_app_right (pre ++ (v.take m).flatMap two) (two (v.getD m 0) ++ ((v.drop (m + 1)).flatMap two ++ post)) 0 0
        rw [el, show pre.length + 2 * m + 0 = pre.length + 2 * m from rfl] at this
        rw [e2, this]; simp [two, be]
      have g2 : (pre ++ (v.flatMap two ++ post)).getD (pre.length + 2 * m + 1) 0 = ((v.getD m 0).toNat % 256 : Nat) := by
        have := getD_app_right (pre ++ (v.take m).flatMap two) (two (v.getD m 0) ++ ((v.drop (m + 1)).flatMap two ++ post)) 0 1
        rw [el] at this
        rw [e2, this]; simp [two, be]
      rw [ns_succ, ih (by omega), g1, g2, take_getD v 0 (by omega)]
      congr 2
      omega
  rw [hn v.length (Nat.le_refl _), List.take_length]

/-! ## Frames are laid as they were read -/
theorem nextAt_sound {x : List Int} (hb : Bytes x) {kind : Int} {body : List Int} {n : Nat} (h : nextAt x = some (kind, body, n)) : n = body.length + 12 ∧ n ≤ x.length ∧ x.take n = frameOf kind body ∧ (1 ≤ kind ∧ kind ≤ 255) ∧ body.length ≤ 65535 := by
  have g1 := hb.get 1
  have g2 := hb.get 2
  have g3 := hb.get 3
  unfold nextAt at h
  obtain ⟨m, hm⟩ : ∃ m : Nat, x.getD 2 0 * 256 + x.getD 3 0 = (m : Int) := ⟨(x.getD 2 0 * 256 + x.getD 3 0).toNat, by omega⟩
  rw [hm, Int.toNat_natCast] at h
  split at h
  · cases h
  rename_i hl
  split at h
  · rename_i h1
    split at h
    · rename_i h2
      cases h
      have lb : ((x.take (m + 4)).drop 4).length = m := by simp; omega
      have e4 : x.take 4 = headOf (x.getD 1 0) (m : Int) := by
        rw [take_getD x 0 (i := 3) (by omega), take_getD x 0 (i := 2) (by omega), take_getD x 0 (i := 1) (by omega), take_getD x 0 (i := 0) (by omega)]
        simp only [List.take_zero, List.nil_append, List.cons_append, headOf]
        rw [h1.1]
        have a1 : x.getD 1 0 % 256 = x.getD 1 0 := by omega
        have a2 : (m : Int) / 256 % 256 = x.getD 2 0 := by omega
        have a3 : (m : Int) % 256 = x.getD 3 0 := by omega
        rw [a1, a2, a3]
      have e5 : headOf (x.getD 1 0) (m : Int) ++ (x.take (m + 4)).drop 4 = x.take (m + 4) := by
        rw [← e4]
        have : x.take 4 = (x.take (m + 4)).take 4 := by rw [List.take_take, Nat.min_eq_left (by omega)]
        rw [this, List.take_append_drop]
      refine ⟨by rw [lb], by omega, ?_, by omega, by rw [lb]; omega⟩
      unfold frameOf seal8
      rw [lb, e5, h2]
      rw [show m + 12 = (m + 4) + 8 by omega, List.take_add]
    · cases h
  · cases h
theorem frame_whole {l : List Int} (hb : Bytes l) (h : (nextS l 0).2.2.2 = true) (he : (nextS l 0).2.2.1 = (l.length : Int)) : l = frameOf (nextS l 0).1 (nextS l 0).2.1 ∧ (1 ≤ (nextS l 0).1 ∧ (nextS l 0).1 ≤ 255) ∧ (nextS l 0).2.1.length ≤ 65535 := by
  unfold nextS at h he ⊢
  rw [if_pos (by omega)] at h he ⊢
  have d0 : l.drop (0 : Int).toNat = l := rfl
  rw [d0] at h he ⊢
  cases hn : nextAt l with
  | none => rw [hn] at h; simp at h
  | some t =>
    obtain ⟨kind, body, n⟩ := t
    rw [hn] at he
    simp only at he ⊢
    obtain ⟨h1, h2, h3, h4, h5⟩ := nextAt_sound hb hn
    rw [← h3, List.take_of_length_le (by omega)]
    exact ⟨rfl, h4, h5⟩

/-! ## What is read -/
def fieldsT (kind : Int) (b : List Int) (n : Nat) (rs : List T39) : T54 := ⟨kind, b.getD 0 0, b.getD 1 0, ns b 3 n, ns b (3 + 2 * n) n, rs⟩
def Acc (l : List Int) (n : Int) (m : T54) : Prop := MayT m n ∧ l = frameOf m.f0 (bodyT m n)
theorem bodyT_read {m : T54} {n : Nat} (h : MayT m (n : Int)) :
    (bodyT m n).getD 2 0 = (n : Int) ∧ (bodyT m n).getD (3 + 4 * n) 0 = (m.f5.length : Int) ∧ (∀ rs, fieldsT m.f0 (bodyT m n) n rs = { m with f5 := rs }) ∧ recR (bodyT m n) m.f5.length ((4 + 4 * n : Nat) : Int) [] = some (m.f5, ((bodyT m n).length : Int)) ∧ 4 + 4 * n ≤ (bodyT m n).length := by
  obtain ⟨h0, h1, h3, h4, h5, h6, h7, h8⟩ := h.facts
  have e : bodyT m n = [m.f1, m.f2, (n : Int)] ++ (m.f3.flatMap two ++ (m.f4.flatMap two ++ (be m.f5.length 1 ++ lays m.f5))) := by simp [bodyT]
  have e2 : bodyT m n = ([m.f1, m.f2, (n : Int)] ++ m.f3.flatMap two) ++ (m.f4.flatMap two ++ (be m.f5.length 1 ++ lays m.f5)) := by simp [bodyT]
  have e3 : bodyT m n = ([m.f1, m.f2, (n : Int)] ++ m.f3.flatMap two ++ m.f4.flatMap two) ++ (be m.f5.length 1 ++ lays m.f5) := by simp [bodyT]
  have e4 : bodyT m n = ([m.f1, m.f2, (n : Int)] ++ m.f3.flatMap two ++ m.f4.flatMap two ++ be m.f5.length 1) ++ ([] ++ (lays m.f5 ++ [])) := by simp [bodyT]
  have l2 : ([m.f1, m.f2, (n : Int)] ++ m.f3.flatMap two).length = 3 + 2 * n := by simp only [List.length_append, len_twos, List.length_cons, List.length_nil]; omega
  have l3 : ([m.f1, m.f2, (n : Int)] ++ m.f3.flatMap two ++ m.f4.flatMap two).length = 3 + 4 * n := by simp only [List.length_append, len_twos, List.length_cons, List.length_nil]; omega
  have l4 : ([m.f1, m.f2, (n : Int)] ++ m.f3.flatMap two ++ m.f4.flatMap two ++ be m.f5.length 1).length = 4 + 4 * n := by rw [List.length_append, l3, len_be]; omega
  have b1 : be m.f5.length 1 = [(m.f5.length : Int)] := be_one (x := (m.f5.length : Int)) (by omega)
  refine ⟨by rw [e]; rfl, ?_, fun rs => ?_, ?_, ?_⟩
  · have := getD_app_right ([m.f1, m.f2, (n : Int)] ++ m.f3.flatMap two ++ m.f4.flatMap two) (be m.f5.length 1 ++ lays m.f5) 0 0
    rw [l3] at this
    rw [e3]
    refine Eq.trans this ?_
    rw [b1]; rfl
  · have a1 : ns (bodyT m n) 3 n = m.f3 := by
      have := ns_twos (v := m.f3) (fun x hx => h5 x (List.mem_append.2 (.inl hx))) [m.f1, m.f2, (n : Int)] (m.f4.flatMap two ++ (be m.f5.length 1 ++ lays m.f5))
      rw [← e, show m.f3.length = n by omega] at this
      exact this
    have a2 : ns (bodyT m n) (3 + 2 * n) n = m.f4 := by
      have := ns_twos (v := m.f4) (fun x hx => h5 x (List.mem_append.2 (.inr hx))) ([m.f1, m.f2, (n : Int)] ++ m.f3.flatMap two) (be m.f5.length 1 ++ lays m.f5)
      rw [← e2, l2, show m.f4.length = n by omega] at this
      exact this
    unfold fieldsT
    rw [a1, a2]
    have c0 : (bodyT m n).getD 0 0 = m.f1 := by rw [e]; rfl
    have c1 : (bodyT m n).getD 1 0 = m.f2 := by rw [e]; rfl
    rw [c0, c1]
  · have := recR_lays ([m.f1, m.f2, (n : Int)] ++ m.f3.flatMap two ++ m.f4.flatMap two ++ be m.f5.length 1) [] m.f5 [] [] h.2.2.2.2.2.2.2.mem
    rw [← e4, l4] at this
    refine Eq.trans this ?_
    congr 2
    rw [e4, List.length_append, l4]; simp
  · rw [e4, List.length_append, l4]; omega
theorem bodyT_laid {b : List Int} (hb : Bytes b) {n : Nat} (hn : n ≤ 8) {kind : Int} {rs : List T39} (h2 : b.getD 2 0 = (n : Int)) (hr : recR b (b.getD (3 + 4 * n) 0).toNat ((4 + 4 * n : Nat) : Int) [] = some (rs, (b.length : Int))) : bodyT (fieldsT kind b n rs) (n : Int) = b := by
  obtain ⟨new, n1, n2, n3, n4⟩ := recR_sound hb _ _ _ _ _ hr
  rw [List.nil_append] at n1
  subst n1
  rw [Int.toNat_natCast, Int.toNat_natCast, List.drop_length, List.append_nil] at n4
  have hlen : 4 + 4 * n ≤ b.length := by
    rcases n3 with ⟨_, h⟩ | h
    · omega
    · have := congrArg List.length n4
      have hc : rs.length = 0 ∨ 0 < rs.length := by omega
      rcases Nat.lt_or_ge b.length (4 + 4 * n) with h' | h'
      · have hz : b.getD (3 + 4 * n) 0 = 0 ∨ b.length = 4 + 4 * n - 0 := by
          left; exact getD_over b 0 (by omega)
        rcases hz with hz | hz
        · rw [hz] at hr
          simp only [Int.toNat_zero, recR, Option.some.injEq, Prod.mk.injEq] at hr
          omega
        · omega
      · exact h'
  have g0 := hb.get 0
  have g1 := hb.get 1
  have g3 := hb.get (3 + 4 * n)
  have hc : be rs.length 1 = [b.getD (3 + 4 * n) 0] := by
    rw [n2]; exact be_one g3
  have e0 : [b.getD 0 0, b.getD 1 0, (n : Int)] = b.take 3 := by
    rw [take_getD b 0 (i := 2) (by omega), take_getD b 0 (i := 1) (by omega), take_getD b 0 (i := 0) (by omega), h2]; rfl
  have cut : ∀ i j, i ≤ j → b.take i ++ (b.take j).drop i = b.take j := fun i j hij => by
    have : b.take i = (b.take j).take i := by rw [List.take_take, Nat.min_eq_left hij]
    rw [this, List.take_append_drop]
  unfold bodyT fieldsT
  simp only [List.flatMap_append]
  rw [e0, ns_sound hb 3 n (by omega), ns_sound hb (3 + 2 * n) n (by omega), hc, ← List.append_assoc, cut 3 (3 + 2 * n) (by omega), cut (3 + 2 * n) (3 + 2 * n + 2 * n) (by omega)]
  rw [show 3 + 2 * n + 2 * n = 3 + 4 * n by omega, ← take_getD b 0 (i := 3 + 4 * n) (by omega), show 3 + 4 * n + 1 = 4 + 4 * n by omega, ← n4, List.take_append_drop]
theorem Acc.next {l : List Int} {n : Int} {m : T54} (h : Acc l n m) : nextS l 0 = (m.f0, bodyT m n, (l.length : Int), true) := by
  obtain ⟨h0, h1, _⟩ := h.1.facts
  have hb := bodyT_len h.1
  have := nextS_frame0 (kind := m.f0) (body := bodyT m n) (rest := []) (by omega) (by omega)
  rw [List.append_nil, ← h.2] at this
  rw [this, h.2, len_frameOf]
  congr 3
theorem Acc.uniq {l : List Int} {n : Int} {m m' : T54} (h : Acc l n m) (h' : Acc l n m') : m = m' := by
  have e := h.next.symm.trans h'.next
  simp only [Prod.mk.injEq] at e
  obtain ⟨k, hk⟩ : ∃ k : Nat, n = (k : Int) := ⟨n.toNat, by have := h.1.facts; omega⟩
  subst hk
  obtain ⟨_, a2, a3, a4, _⟩ := bodyT_read h.1
  obtain ⟨_, b2, b3, b4, _⟩ := bodyT_read h'.1
  rw [← e.2.1, a2] at b2
  have hc : m.f5.length = m'.f5.length := by omega
  rw [← e.2.1, ← hc, a4] at b4
  have h5 : m.f5 = m'.f5 := by simpa using b4
  have c1 := a3 m.f5
  have c2 := b3 m'.f5
  rw [← e.1, ← e.2.1, ← h5, c1] at c2
  have c3 := (T54.mk.inj c2)
  obtain ⟨x0, x1, x2, x3, x4, x5⟩ := m
  obtain ⟨y0, y1, y2, y3, y4, y5⟩ := m'
  simp only at c3 h5
  rw [T54.mk.injEq]
  exact ⟨e.1, c3.2.1, c3.2.2.1, c3.2.2.2.1, c3.2.2.2.2.1, h5⟩
end Go.Proofs.YtfocilpnbiciaaaDoor.Pure
