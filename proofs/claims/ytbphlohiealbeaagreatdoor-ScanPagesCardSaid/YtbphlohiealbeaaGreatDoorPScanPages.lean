/- Pages of hits, and the plain law of ScanPages. -/
import Derived.Test.YtbphlohiealbeaaGreatDoorF0
import Derived.Test.YtbphlohiealbeaaGreatDoorF3
import Derived.Test.YtbphlohiealbeaaGreatDoorF4
import Derived.Test.YtbphlohiealbeaaGreatDoorLScanPages
import Derived.Test.YtbphlohiealbeaaGreatDoorPScanH
namespace Go.Proofs.YtbphlohiealbeaaGreatDoor.Pure
open Go Go.Gg Go.Gp Gf
set_option linter.unusedVariables false
set_option linter.unusedSimpArgs false
theorem SE.filt {α : Type} {lt : α → α → Bool} {xs ys : List α} (h : SE lt xs ys) (p : α → Bool) : SE lt (xs.filter p) (ys.filter p) := fun x => by
 have e : ∀ zs : List α, (zs.filter p).filter (eqv lt x) = (zs.filter (eqv lt x)).filter p := fun zs => by
  rw [List.filter_filter, List.filter_filter]; congr 1; funext z; exact Bool.and_comm _ _
 rw [e, e, h x]
def aft (q : T33) (x : T31) : T33 := ⟨q.f0, q.f1, q.f2, q.f3, q.f4, x.f0, x.f1, x.f2, x.f3, ⟨#[]⟩⟩
theorem mayQ_aft {q : T33} (hm : mayQ 13 q = true) {x : T31} (hx : recB x = true) : mayQ 13 (aft q x) = true := by
 unfold mayQ at hm ⊢; have e1 : askOf (aft q x) = askOf q := rfl; have e2 : (aft q x).f4 = q.f4 := rfl; have e3 : afterB (aft q x) = true := by
  unfold afterB; have e4 : ((aft q x).f9.toList == (⟨#[]⟩ : ByteArray).toList) = true := (bytes_eq _ _).2 rfl; have e5 : recB (afterOf (aft q x)) = true := by
   unfold recB at hx ⊢; simp only [Bool.and_eq_true, decide_eq_true_eq] at hx; have e6 : decide (0 ≤ (afterOf (aft q x)).f0 ∧ (afterOf (aft q x)).f0 < 8 ∧ 1 ≤ (afterOf (aft q x)).f1 ∧ (afterOf (aft q x)).f1 ≤ 1023 ∧ 0 ≤ (afterOf (aft q x)).f2 ∧ (afterOf (aft q x)).f2 ≤ 1099511627776 ∧ 0 ≤ (afterOf (aft q x)).f3 ∧ (afterOf (aft q x)).f3 ≤ 65535) = true := decide_eq_true hx.1; rw [e6]; have e7 : (afterOf (aft q x)).f4 = ⟨#[]⟩ := rfl; rw [e7]; decide +kernel
  rw [e4, e5]; simp
 simp only [Bool.and_eq_true] at hm; rw [e1, e2, e3, hm.1.1, hm.2]; rfl
theorem rec_seq {x : T31} (h : recB x = true) : x.f1 > 0 := by
 unfold recB at h; simp only [Bool.and_eq_true, decide_eq_true_eq] at h; omega
theorem hit_aft {q : T33} {x r : T31} (hx : hitB 13 q x = true) (hr : recB x = true) : hitB 13 (aft q x) r = (ltr x r && hitB 13 q r) := by
 have h1 : earlyB r (afterOf (aft q x)) = !ltr x r := by
  unfold earlyB; have e0 : (afterOf (aft q x)).f1 > 0 := (rec_seq hr : x.f1 > 0); have e1 : ltr r (afterOf (aft q x)) = ltr r x := rfl; rw [decide_eq_true e0, e1, Bool.true_and]
  cases h2 : ltr r x with
  | true => rw [ltr_swo.asym h2]; rfl
  | false =>
   cases h3 : ltr x r with
   | true =>
    have : ¬ ((⟨r.f0, r.f1⟩ : T27) = ⟨x.f0, x.f1⟩ ∧ (⟨r.f2, r.f3⟩ : T29) = ⟨x.f2, x.f3⟩) := fun ⟨a, b⟩ => by
     have := (eqv_iff.1 (same_eqv a b)).2; rw [this] at h3; cases h3
    have : (decide ((⟨r.f0, r.f1⟩ : T27) = ⟨x.f0, x.f1⟩) && decide ((⟨r.f2, r.f3⟩ : T29) = ⟨x.f2, x.f3⟩)) = false := by
     rw [Bool.eq_false_iff]; simp only [ne_eq, Bool.and_eq_true, decide_eq_true_eq]; exact this
    exact this
   | false =>
    obtain ⟨a, b⟩ := eqv_same (eqv_iff.2 ⟨h2, h3⟩); have : (decide ((⟨r.f0, r.f1⟩ : T27) = ⟨x.f0, x.f1⟩) && decide ((⟨r.f2, r.f3⟩ : T29) = ⟨x.f2, x.f3⟩)) = true := by rw [decide_eq_true a, decide_eq_true b]; rfl
    exact this
 have e2 : askOf (aft q x) = askOf q := rfl; unfold hitB at hx ⊢; rw [h1, e2, Bool.not_not]
 cases h3 : ltr x r with
 | false => rfl
 | true =>
  simp only [Bool.and_eq_true, Bool.not_eq_true'] at hx; have h4 : earlyB r (afterOf q) = false := by
   have hx1 := hx.1; unfold earlyB at hx1 ⊢; by_cases c : (afterOf q).f1 > 0
   ·rw [decide_eq_true c] at hx1 ⊢; simp only [Bool.true_and, Bool.or_eq_false_iff] at hx1 ⊢; refine ⟨?_, ?_⟩
    ·cases h5 : ltr r (afterOf q) with
     | false => rfl
     | true => have := ltr_swo.tr _ _ _ h3 h5; rw [hx1.1] at this; cases this
    ·rw [Bool.eq_false_iff]; simp only [ne_eq, Bool.and_eq_true, decide_eq_true_eq]; rintro ⟨a, b⟩; have h6 := eqv_iff.1 (same_eqv (a := r) (b := afterOf q) a b); rcases ltr_swo.neg x r (afterOf q) h3 with h7 | h7
     ·rw [hx1.1] at h7; cases h7
     ·rw [h6.2] at h7; cases h7
   ·rw [decide_eq_false c]; rfl
  rw [h4]; rfl
section
variable {q : T33} {l U : List T31} {n : Nat}
structure Hit (q : T33) (l U : List T31) (n : Nat) : Prop where
 hm : mayQ 13 q = true
 s1 : SmallN 13 (askOf q)
 s2 : cntN 13 (askOf q) ≤ 60
 h9 : q.f9.size ≤ 9223372036854775807
 hl : l.length ≤ 30
 hr : ∀ r ∈ l, r.f4.size ≤ 9223372036854775807
 hb : ∀ r ∈ l, recB r = true
 hs : Srt ltr U
 he : SE ltr (l.filter (hitB 13 q)) U
 hp : U.Pairwise fun a b => ltr a b = true
 hn : n = q.f4.toNat
 n1 : 1 ≤ n
 n50 : n ≤ 50
 hU : U.length ≤ 30
theorem Hit.mem (H : Hit q l U n) {x : T31} (h : x ∈ U) : x ∈ l ∧ hitB 13 q x = true := List.mem_filter.1 (SE.mem ltr_swo H.he.symm h)
theorem Hit.behind (H : Hit q l U n) {A B : List T31} {x : T31} (e : U = A ++ x :: B) : Ev (fun k => scan_Find k (aft q x) l) (B.take n) := by
 obtain ⟨xl, xh⟩ := H.mem (x := x) (by rw [e]; simp); have xr := H.hb x xl; obtain ⟨t, ht, _, hE⟩ := Find_ev (d := 13) (q := aft q x) (by decide) (by show (0 : Nat) ≤ _; omega) H.s1 (by have := H.s2; show cntN 13 (askOf q) ≤ 1000; omega) l (by have := H.hl; omega) H.hr; obtain ⟨_, _, u, hu, su, rfl⟩ := ht (mayQ_aft H.hm xr); have h1 : l.filter (hitB 13 (aft q x)) = (l.filter (hitB 13 q)).filter (ltr x) := by
  rw [List.filter_filter]; congr 1; funext r; exact hit_aft xh xr
 have h2 : U.filter (ltr x) = B := by
  have := H.hp; rw [e] at this ⊢; exact behind_one ltr_swo this
 have h3 := SE.filt H.he (ltr x); rw [← h1, h2] at h3; have hB : Srt ltr B := by
  have := H.hs; rw [e] at this; exact Srt.sub this ((List.sublist_cons_self x B).trans (List.sublist_append_right A (x :: B)))
 have : u = B := Srt.uniq ltr_swo hu hB (su.symm.trans h3); rw [this] at hE; have e4 : (aft q x).f4.toNat = n := H.hn.symm; rw [e4] at hE; exact hE
def endAt (U : List T31) (n i : Nat) : Nat := min (i * n) U.length
def page (U : List T31) (n i : Nat) : List T31 := (U.drop (endAt U n i)).take n
def qAt (q : T33) (U : List T31) (n i : Nat) : T33 := if i = 0 then q else aft q (U.getD (endAt U n i - 1) z31)
theorem page_len (U : List T31) (n i : Nat) : (page U n i).length = min n (U.length - endAt U n i) := by unfold page; rw [List.length_take, List.length_drop]
theorem endAt_succ (U : List T31) (n i : Nat) : endAt U n (i + 1) = endAt U n i + (page U n i).length := by
 rw [page_len]; unfold endAt; rw [Nat.succ_mul]; omega
theorem endAt_lt {U : List T31} {n i : Nat} (h : i * n < U.length) : endAt U n i = i * n := by unfold endAt; omega
theorem page_pos {U : List T31} {n i : Nat} (n1 : 1 ≤ n) (h : i * n < U.length) : 1 ≤ (page U n i).length := by rw [page_len, endAt_lt h]; omega
theorem drop_take_getD (V : List T31) (e n j : Nat) (h : j < n) : ((V.drop e).take n).getD j z31 = V.getD (e + j) z31 := by
 simp only [List.getD_eq_getElem?_getD, List.getElem?_take, if_pos h, List.getElem?_drop]
theorem page_last {U : List T31} {n i : Nat} (n1 : 1 ≤ n) (h : i * n < U.length) : (page U n i).getD ((page U n i).length - 1) z31 = U.getD (endAt U n (i + 1) - 1) z31 := by
 have h1 := page_pos n1 h; have h2 := page_len U n i; rw [endAt_succ]; obtain ⟨m, hm⟩ : ∃ m, m = (page U n i).length := ⟨_, rfl⟩; rw [← hm] at h1 h2 ⊢; show ((U.drop (endAt U n i)).take n).getD (m - 1) z31 = _; rw [drop_take_getD _ _ _ _ (by omega)]
 congr 1; omega
theorem aft_qAt (q : T33) (U : List T31) (n i : Nat) (x : T31) : aft (qAt q U n i) x = aft q x := by
 unfold qAt
 split <;> rfl
theorem Hit.page (H : Hit q l U n) (i : Nat) (hi : i = 0 ∨ (i - 1) * n < U.length) : Ev (fun k => scan_Find k (qAt q U n i) l) (page U n i) := by
 cases i with
 | zero =>
  obtain ⟨t, ht, _, hE⟩ := Find_ev (d := 13) (by decide) H.h9 H.s1 (by have := H.s2; omega) l (by have := H.hl; omega) H.hr; obtain ⟨_, _, u, hu, su, rfl⟩ := ht H.hm; have : u = U := Srt.uniq ltr_swo hu H.hs (su.symm.trans H.he); rw [this, ← H.hn] at hE; have e : Pure.page U n 0 = U.take n := by unfold Pure.page endAt; simp
  rw [e]; exact hE
 | succ j =>
  have hj : j * n < U.length := hi.elim (fun h => by cases h) (fun h => by simpa using h); have h1 := page_pos H.n1 hj; have h2 := endAt_succ U n j; have h3 : endAt U n (j + 1) ≤ U.length := by unfold endAt; omega
  have h4 : U = U.take (endAt U n (j + 1) - 1) ++ U.getD (endAt U n (j + 1) - 1) z31 :: U.drop (endAt U n (j + 1)) := by
   conv => lhs; rw [← List.take_append_drop (endAt U n (j + 1) - 1) U]
   rw [drop_getD U z31 (i := endAt U n (j + 1) - 1) (by omega), show endAt U n (j + 1) - 1 + 1 = endAt U n (j + 1) by omega]
  exact H.behind h4
theorem pages_many (n N : Nat) (n1 : 1 ≤ n) : ∃ c, ∀ i, i < c ↔ i * n < N := by
 refine ⟨(N + n - 1) / n, fun i => ?_⟩; rw [Nat.lt_iff_add_one_le, Nat.le_div_iff_mul_le (by omega), Nat.succ_mul]; omega
def pages (U : List T31) (n c : Nat) : List (List T31) := (List.range c).map (page U n)
theorem pages_len (U : List T31) (n c : Nat) : (pages U n c).length = c := by unfold pages; simp
theorem pages_succ (U : List T31) (n c : Nat) : pages U n (c + 1) = pages U n c ++ [page U n c] := by unfold pages; rw [List.range_succ]; simp
theorem pages_get (U : List T31) (n c i : Nat) (h : i < c) : (pages U n c).getD i [] = page U n i := by
 rw [getD_eq _ [] (by rw [pages_len]; exact h)]; unfold pages; simp
theorem Hit.few (H : Hit q l U n) {i : Nat} (h : i * n < U.length) : i < 30 := by
 have h1 := Nat.le_mul_of_pos_right i (show 0 < n from H.n1); have h2 := H.hU; omega
theorem Hit.all (H : Hit q l U n) {c : Nat} (hc : ∀ i, i < c ↔ i * n < U.length) : Ev (fun k => scan_All k q l) (pages U n c) := by
 unfold scan_All; refine Ev.bind (H.page 0 (.inl rfl)) ?_; refine Ev.bind (b := (pages U n c, qAt q U n c)) ?_ (Ev.now _); have := Ev.count (F := fun k (s : List (List T31) × List T31 × T33) (_ : Int) => scan_All_l0 l k s.1 s.2.1 s.2.2) (r := (pages U n c, qAt q U n c)) (fun i => (pages U n i, Pure.page U n i, qAt q U n i)) c (fun i hi r HH => by
  have hin := (hc i).1 hi; have h1 := page_pos H.n1 hin; have h2 := page_len U n i; have h3 := H.few hin; have h50 := H.n50; show Ev (fun k => scan_All_l0 l k (pages U n i) (Pure.page U n i) (qAt q U n i)) r; refine Ev.step (fun k => by rw [scan_All_l0]) ?_; refine Ev.pos (by omega) (Ev.pos (by rw [pages_len]; simp; omega) ?_); have e1 : IntKind.i64.wrap (((Pure.page U n i).length : Int) - 1) = (((Pure.page U n i).length - 1 : Nat) : Int) := by rw [i64w (by omega)]; omega
  rw [e1]; refine Ev.pos (by omega) ?_; simp only [Int.toNat_natCast, page_last H.n1 hin]; have e2 : (⟨(qAt q U n i).f0, (qAt q U n i).f1, (qAt q U n i).f2, (qAt q U n i).f3, (qAt q U n i).f4, (U.getD (endAt U n (i + 1) - 1) z31).f0, (U.getD (endAt U n (i + 1) - 1) z31).f1, (U.getD (endAt U n (i + 1) - 1) z31).f2, (U.getD (endAt U n (i + 1) - 1) z31).f3, (⟨#[]⟩ : ByteArray)⟩ : T33) = qAt q U n (i + 1) := by
   have := aft_qAt q U n i (U.getD (endAt U n (i + 1) - 1) z31); exact this
  rw [e2, ← pages_succ]; exact Ev.bind (H.page (i + 1) (.inr (by simpa using hin))) HH) (by
  have h1 : ¬ c * n < U.length := fun h => Nat.lt_irrefl c ((hc c).2 h)
  have h2 : Pure.page U n c = [] := List.eq_nil_of_length_eq_zero (by rw [page_len]; unfold endAt; omega); show Ev (fun k => scan_All_l0 l k (pages U n c) (Pure.page U n c) (qAt q U n c)) _; refine Ev.step (fun k => by rw [scan_All_l0]) ?_; rw [h2]; exact Ev.neg (by simp) (Ev.now _))
 exact this
theorem Hit.told (H : Hit q l U n) {c : Nat} (hc : ∀ i, i < c ↔ i * n < U.length) : Ev (fun k => grapevinelaw16_ScanPages_l1 q l (pages U n c) k [] 0) (Sum.inr (U, q)) := by
 obtain ⟨T, hT⟩ : ∃ T, T = pages U n c := ⟨_, rfl⟩; have hTl : T.length = c := by rw [hT]; exact pages_len U n c
 have q4 : q.f4 = (n : Int) := by have := (mayQ_lim H.hm).1; have := H.hn; omega
 rw [← hT]; have hc30 : c ≤ 30 := by
  cases c with
  | zero => omega
  | succ c => have := H.few ((hc c).1 (by omega)); omega
 have := Ev.count (F := fun k (y : List T31) i => grapevinelaw16_ScanPages_l1 q l T k y i) (r := Sum.inr (U, q)) (fun i => U.take (endAt U n i)) c (fun i hi r HH => by
  have hin := (hc i).1 hi; have h1 := page_pos H.n1 hin; have h2 := page_len U n i; have h3 := H.few hin; have h4 := endAt_lt hin; have h50 := H.n50; have hg : T.getD i [] = Pure.page U n i := by rw [hT]; exact pages_get U n c i hi
  have hi64 : IntKind.i64.wrap ((i : Int) + 1) = ((i + 1 : Nat) : Int) := by rw [i64w (by omega)]; omega
  have hnext : U.take (endAt U n i) ++ Pure.page U n i = U.take (endAt U n (i + 1)) := by
   rw [endAt_succ]; have : (U.drop (endAt U n i)).take n = (U.drop (endAt U n i)).take (Pure.page U n i).length := by
    by_cases c1 : n ≤ U.length - endAt U n i
    ·congr 1; omega
    ·rw [List.take_of_length_le (by rw [List.length_drop]; omega), List.take_of_length_le (by rw [List.length_drop]; omega)]
   conv => lhs; rhs; unfold Pure.page; rw [this]
   rw [List.take_add]
  refine Ev.step (fun k => by rw [grapevinelaw16_ScanPages_l1]) ?_; rw [Int.toNat_natCast, hg, hi64, hTl]; refine Ev.pos (by omega) ?_; refine Ev.bind (b := false) ?_ (Ev.neg Bool.false_ne_true ?_)
  ·refine Ev.pos (by omega) (Ev.neg (by omega) (Ev.pos (by omega) (Ev.neg (by omega) ?_))); refine Ev.ite (fun h => Ev.pos (by omega) ((Ev.now _).is ?_)) (fun _ => Ev.now _); have h5 := (hc (i + 1)).1 (by omega); rw [Nat.succ_mul] at h5; have h6 : ((Pure.page U n i).length : Int) = q.f4 := by omega
   rw [h6]; simp
  ·have fin : ∀ Q : T33, Ev (fun k => scan_Find k Q l) (Pure.page U n i) → Ev (fun k => ((scan_Find k Q l).bind fun t86 => ((grapevinelaw0_SameRecords k t86 (Pure.page U n i)).bind fun t90 => (if (!t90) = true then some (Sum.inl false) else (if 0 ≤ (i : Int) ∧ (i : Int) < (c : Int) then (if (U.take (endAt U n i)).length + (Pure.page U n i).length ≤ 1073741824 then grapevinelaw16_ScanPages_l1 q l T k (U.take (endAt U n i) ++ (Pure.page U n i)) ((i + 1 : Nat) : Int) else none) else none))))) r := fun Q hQ => by
    refine Ev.bind hQ (Ev.bind (SameR_self _ (by omega)) (Ev.neg (by simp) (Ev.pos (by omega) (Ev.pos ?_ ?_))))
    ·have := H.hU; rw [List.length_take]; omega
    ·rw [hnext]; exact HH
   cases i with
   | zero =>
    refine Ev.neg (by simp) (Ev.pos (by omega) ?_); exact fin q (H.page 0 (.inl rfl))
   | succ j =>
    refine Ev.pos (by omega) ?_; have hj : j * n < U.length := by rw [Nat.succ_mul] at hin; omega
    have hgj : T.getD j [] = Pure.page U n j := by rw [hT]; exact pages_get U n c j (by omega)
    have p1 := page_pos H.n1 hj; have p2 := page_len U n j; have e0 : IntKind.i64.wrap (((j + 1 : Nat) : Int) - 1) = (j : Int) := by rw [i64w (by omega)]; omega
    rw [e0, Int.toNat_natCast, hgj]; have e1 : IntKind.i64.wrap (((Pure.page U n j).length : Int) - 1) = (((Pure.page U n j).length - 1 : Nat) : Int) := by rw [i64w (by omega)]; omega
    rw [e1]; refine Ev.pos (by omega) (Ev.pos (by omega) (Ev.pos (by omega) (Ev.pos (by omega) ?_))); simp only [Int.toNat_natCast, page_last H.n1 hj]; exact fin (qAt q U n (j + 1)) (H.page (j + 1) (.inr (by simpa using hj)))) (by
  have h1 : ¬ c * n < U.length := fun h => Nat.lt_irrefl c ((hc c).2 h)
  refine Ev.step (fun k => by rw [grapevinelaw16_ScanPages_l1]) ?_; refine Ev.neg (by omega) ((Ev.now _).is ?_); rw [List.take_of_length_le (by unfold endAt; omega)])
 have e0 : U.take (endAt U n 0) = [] := by unfold endAt; simp
 rw [e0] at this; exact this
end
theorem pages_may (aw : Ev (fun k => (grapevinelaw16_awake k).bind fun t => some (Sum.inl (β := Unit) t)) (Sum.inl true)) (l : List T31) (hl : l.length ≤ 1000) (hr : ∀ r ∈ l, r.f4.size ≤ 9223372036854775807) : ∃ r, (r = Sum.inl true ∨ r = Sum.inr () ∧ ∀ x ∈ l, recB x = true) ∧ Ev (fun k => grapevinelaw16_ScanPages_l0 l k 0) r :=
 Ev.loop (F := fun k (s : Int) => grapevinelaw16_ScanPages_l0 l k s) (fun s n => 0 ≤ s ∧ s + n = l.length ∧ ∀ x ∈ l.take s.toNat, recB x = true) _ (fun s n ⟨h0, hn, hall⟩ => by
  by_cases h1 : s < (l.length : Int)
  ·obtain ⟨i, rfl⟩ : ∃ i : Nat, s = i := ⟨s.toNat, by omega⟩; have hx : l.getD i z31 ∈ l := by rw [getD_eq l z31 (by omega)]; exact List.getElem_mem _
   cases hb : recB (l.getD i z31) with
   | false =>
    refine .inl ⟨Sum.inl true, .inl rfl, ?_⟩; refine Ev.step (fun k => by rw [grapevinelaw16_ScanPages_l0]) ?_; refine Ev.pos h1 (Ev.pos (by omega) ?_); rw [Int.toNat_natCast, rrecMay_eq (hr _ hx), hb]; exact Ev.name fun t ht => by rw [ht]; exact Ev.pos rfl aw
   | true =>
    refine .inr ⟨(i : Int) + 1, n - 1, by omega, ⟨by omega, by omega, fun x hx' => ?_⟩, fun r H => ?_⟩
    ·rw [show ((i : Int) + 1).toNat = i + 1 by omega, take_getD l z31 (by omega)] at hx'; rcases List.mem_append.1 hx' with h | h
     ·exact hall x (by rw [Int.toNat_natCast]; exact h)
     ·simp only [List.mem_singleton] at h; rw [h]; exact hb
    ·refine Ev.step (fun k => by rw [grapevinelaw16_ScanPages_l0]) ?_; refine Ev.pos h1 (Ev.pos (by omega) ?_); rw [Int.toNat_natCast, rrecMay_eq (hr _ hx), hb, i64w (by omega)]; exact Ev.name fun t ht => by rw [ht]; exact Ev.neg (by simp) H
  ·refine .inl ⟨Sum.inr (), .inr ⟨rfl, fun x hx => hall x (by rw [List.take_of_length_le (by omega)]; exact hx)⟩, ?_⟩; refine Ev.step (fun k => by rw [grapevinelaw16_ScanPages_l0]) ?_; exact Ev.neg h1 (Ev.now _)) 0 l.length ⟨by omega, by omega, fun x hx => by simp at hx⟩
theorem ScanPages : ScanPages_Pure := by
 intro q l hq hl; apply Ev.rounds; unfold grapevinelaw16_ScanPages; have h9 : q.f9.size ≤ 9223372036854775807 := hq.2.2.2.2.2.2.2.2.2; have hr : ∀ r ∈ l, r.f4.size ≤ 9223372036854775807 := fun r h => (hl.2 r h).2.2.2.2
 have aw : Ev (fun k => (grapevinelaw16_awake k).bind fun t => some t) true := Ev.bind awake_ev (Ev.now _); obtain ⟨g, hg, hgs⟩ := GreatAsk_ev (askOf q); show Ev (fun k => ((grapevinelaw0_GreatAsk k (askOf q)).bind fun t4 => _).bind _) true
 cases g with
 | true => exact Ev.bind (b := true) (Ev.bind hg (Ev.pos rfl (Ev.now _))) (Ev.pos rfl aw)
 | false =>
 by_cases c9 : (q.f9.size : Int) > 300
 ·exact Ev.bind (b := true) (Ev.bind hg (Ev.neg Bool.false_ne_true (Ev.pos c9 (Ev.now _)))) (Ev.pos rfl aw)
 obtain ⟨g1, hg1, hgs1⟩ := GreatR_ev l 30 (by omega)
 cases g1 with
 | true => exact Ev.bind (b := true) (Ev.bind hg (Ev.neg Bool.false_ne_true (Ev.neg c9 (Ev.bind hg1 (Ev.pos rfl (Ev.now _)))))) (Ev.pos rfl aw)
 | false =>
 have n1 := hgs1 rfl; obtain ⟨s1, s2⟩ := hgs rfl; have hME := rMayQuery_ev (d := 13) (by decide) (q := q) s1 (by omega)
 cases hmq : mayQ 13 q with
 | false => exact Ev.bind (b := true) (Ev.bind hg (Ev.neg Bool.false_ne_true (Ev.neg c9 (Ev.bind hg1 (Ev.neg Bool.false_ne_true (Ev.bind (hME.is hmq) (Ev.pos rfl (Ev.now _)))))))) (Ev.pos rfl aw)
 | true =>
 obtain ⟨kb, hkE, hk⟩ := keyed_ev l (by omega)
 cases kb with
 | false => exact Ev.bind (b := true) (Ev.bind hg (Ev.neg Bool.false_ne_true (Ev.neg c9 (Ev.bind hg1 (Ev.neg Bool.false_ne_true (Ev.bind (hME.is hmq) (Ev.neg (by simp) (Ev.bind hkE (Ev.now _))))))))) (Ev.pos rfl aw)
 | true =>
 have hk := hk rfl; refine Ev.bind (b := false) (Ev.bind hg (Ev.neg Bool.false_ne_true (Ev.neg c9 (Ev.bind hg1 (Ev.neg Bool.false_ne_true (Ev.bind (hME.is hmq) (Ev.neg (by simp) (Ev.bind hkE (Ev.now _))))))))) (Ev.neg Bool.false_ne_true ?_); obtain ⟨r, hr0, hE0⟩ := pages_may (Ev.bind awake_ev (Ev.now _)) l (by omega) hr; rcases hr0 with rfl | ⟨rfl, hb⟩
 ·exact Ev.bind hE0 (Ev.now _)
 refine Ev.bind hE0 ?_; obtain ⟨q1, q2⟩ := mayQ_lim hmq; obtain ⟨U, hU, _, hUE⟩ := rHits_ev s1 (by omega) l (by omega) hr; obtain ⟨hs, he⟩ := hU hmq; have hUl := SE.length he; have hfl : (l.filter (hitB 13 q)).length ≤ l.length := List.length_filter_le _ _; have H : Hit q l U q.f4.toNat := ⟨hmq, s1, s2, h9, by omega, hr, hb, hs, he, SE.pair ltr_swo he (hk.filter (hitB 13 q)) hs, rfl, by omega, by omega, by omega⟩; obtain ⟨c, hc⟩ := pages_many q.f4.toNat U.length (by omega); refine Ev.bind (H.all hc) (Ev.bind (H.told hc) ?_); refine Ev.bind (b := true) (Ev.bind hUE (Ev.bind (SameR_self U (by omega)) (Ev.pos rfl aw))) (Ev.now _)
end Go.Proofs.YtbphlohiealbeaaGreatDoor.Pure
