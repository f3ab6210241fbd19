/- The plain law of ScanMerge. -/
import Derived.Test.YtbphlohiealbeaaDoorLScanMerge
import Derived.Test.YtbphlohiealbeaaDoorPScan2
namespace Go.Proofs.YtbphlohiealbeaaDoor.Pure
open Go Go.Gg Go.Gp Gf
set_option linter.unusedVariables false
set_option linter.unusedSimpArgs false
theorem ScanMerge : ScanMerge_Pure := by
  intro q l l' hq hl hl'
  apply Ev.rounds
  unfold grapevinelaw16_ScanMerge
  have h9 : q.f9.size ≤ 9223372036854775807 := hq.2.2.2.2.2.2.2.2.2
  have hr : ∀ r ∈ l, r.f4.size ≤ 9223372036854775807 := fun r h => (hl.2 r h).2.2.2.2
  have hr' : ∀ r ∈ l', r.f4.size ≤ 9223372036854775807 := fun r h => (hl'.2 r h).2.2.2.2
  have aw : Ev (fun k => (grapevinelaw16_awake k).bind fun t => some t) true := Ev.bind awake_ev (Ev.now _)
  obtain ⟨g, hg, hgs⟩ := GreatAsk_ev (askOf q)
  show Ev (fun k => ((grapevinelaw0_GreatAsk k (askOf q)).bind fun t4 => _).bind _) true
  cases g with
  | true => exact Ev.bind (b := true) (Ev.bind hg (Ev.pos rfl (Ev.now _))) (Ev.pos rfl aw)
  | false =>
  by_cases c9 : (q.f9.size : Int) > 300
  · exact Ev.bind (b := true) (Ev.bind hg (Ev.neg Bool.false_ne_true (Ev.pos c9 (Ev.now _)))) (Ev.pos rfl aw)
  obtain ⟨g1, hg1, hgs1⟩ := GreatR_ev l 20 (by omega)
  cases g1 with
  | true => exact Ev.bind (b := true) (Ev.bind hg (Ev.neg Bool.false_ne_true (Ev.neg c9 (Ev.bind hg1 (Ev.pos rfl (Ev.now _)))))) (Ev.pos rfl aw)
  | false =>
  obtain ⟨g2, hg2, hgs2⟩ := GreatR_ev l' 20 (by omega)
  cases g2 with
  | true => exact Ev.bind (b := true) (Ev.bind hg (Ev.neg Bool.false_ne_true (Ev.neg c9 (Ev.bind hg1 (Ev.neg Bool.false_ne_true (Ev.bind hg2 (Ev.now _))))))) (Ev.pos rfl aw)
  | false =>
  refine Ev.bind (b := false) (Ev.bind hg (Ev.neg Bool.false_ne_true (Ev.neg c9 (Ev.bind hg1 (Ev.neg Bool.false_ne_true (Ev.bind hg2 (Ev.now _))))))) ?_
  obtain ⟨s1, s2⟩ := hgs rfl
  have n1 := hgs1 rfl
  have n2 := hgs2 rfl
  refine Ev.neg Bool.false_ne_true ?_
  have FE := fun (m : List T31) hm hmr => Find_ev (d := 13) (by decide) h9 s1 (by omega) m hm hmr
  obtain ⟨a, at_, af, aE⟩ := FE l (by omega) hr
  obtain ⟨b, bt, bf, bE⟩ := FE l' (by omega) hr'
  obtain ⟨c, ct, cf, cE⟩ := FE (l ++ l') (by rw [List.length_append]; omega) (fun r h => (List.mem_append.1 h).elim (hr r) (hr' r))
  have key : c = c ∧ a.length ≤ 50 ∧ b.length ≤ 50 ∧ (∀ r ∈ a ++ b, r.f4.size ≤ 9223372036854775807) ∧ c.length ≤ a.length + b.length ∧ a.length ≤ c.length ∧ b.length ≤ c.length ∧ ∀ t, ((mayQ 13 q = true → 1 ≤ q.f4 ∧ q.f4 ≤ 50 ∧ ∃ u, Srt ltr u ∧ SE ltr ((a ++ b).filter (hitB 13 q)) u ∧ t = u.take q.f4.toNat) ∧ (mayQ 13 q = false → t = [])) → t = c := by
    cases hm : mayQ 13 q
    · have ea := af hm
      have eb := bf hm
      have ec := cf hm
      subst ea; subst eb; subst ec
      exact ⟨rfl, by simp, by simp, by simp, by simp, by simp, by simp, fun t ht => ht.2 rfl⟩
    · obtain ⟨l1, l2, A, hA, sA, rfl⟩ := at_ hm
      obtain ⟨_, _, B, hB, sB, rfl⟩ := bt hm
      obtain ⟨_, _, C, hC, sC, rfl⟩ := ct hm
      obtain ⟨n, hn⟩ : ∃ n, n = q.f4.toNat := ⟨_, rfl⟩
      rw [← hn]
      have eC : C = mrg ltr A B := Srt.uniq ltr_swo hC (mrg_srt ltr_swo A B hA hB) (by
        refine sC.symm.trans ?_
        rw [List.filter_append]
        exact (SE.append sA sB).trans (mrg_se ltr_swo A B hA hB))
      have memA : ∀ r ∈ A, r ∈ l ∧ hitB 13 q r = true := fun r h => List.mem_filter.1 (SE.mem ltr_swo sA.symm h)
      have memB : ∀ r ∈ B, r ∈ l' ∧ hitB 13 q r = true := fun r h => List.mem_filter.1 (SE.mem ltr_swo sB.symm h)
      have fl : (A.take n ++ B.take n).filter (hitB 13 q) = A.take n ++ B.take n := List.filter_eq_self.2 fun r h => by
        rcases List.mem_append.1 h with h | h
        · exact (memA r (List.mem_of_mem_take h)).2
        · exact (memB r (List.mem_of_mem_take h)).2
      have hTA : Srt ltr (A.take n) := Srt.sub hA (List.take_sublist _ _)
      have hTB : Srt ltr (B.take n) := Srt.sub hB (List.take_sublist _ _)
      have lm := mrg_len (lt := ltr) A B
      refine ⟨rfl, by rw [List.length_take]; omega, by rw [List.length_take]; omega, fun r h => ?_, ?_, ?_, ?_, fun t ht => ?_⟩
      · rcases List.mem_append.1 h with h | h
        · exact hr r (memA r (List.mem_of_mem_take h)).1
        · exact hr' r (memB r (List.mem_of_mem_take h)).1
      · rw [eC, List.length_take, List.length_take, List.length_take]; omega
      · rw [eC, List.length_take, List.length_take]; omega
      · rw [eC, List.length_take, List.length_take]; omega
      · obtain ⟨_, _, u, hu, su, rfl⟩ := ht.1 rfl
        rw [fl] at su
        have eu : u = mrg ltr (A.take n) (B.take n) := Srt.uniq ltr_swo hu (mrg_srt ltr_swo _ _ hTA hTB) (su.symm.trans (mrg_se ltr_swo _ _ hTA hTB))
        rw [eu, eC, mrg_take n A B]
  obtain ⟨_, ka, kb, kr, k1, k2, k3, kt⟩ := key
  obtain ⟨d, dt, df, dE⟩ := FE (a ++ b) (by rw [List.length_append]; omega) kr
  have hdc := kt d ⟨dt, df⟩
  refine Ev.pos (by simp; omega) (Ev.pos (by simp; omega) ?_)
  refine Ev.bind aE (Ev.bind bE ?_)
  refine Ev.pos (by simp; omega) (Ev.pos (by simp; omega) ?_)
  simp only [List.nil_append]
  refine Ev.bind cE ?_
  refine Ev.bind (b := true) ?_ (Ev.now _)
  refine Ev.bind dE ?_
  rw [hdc]
  have cl : c.length ≤ 100 := by omega
  refine Ev.bind (SameR_self c (by omega)) (Ev.pos rfl ?_)
  rw [i64w (by omega)]
  refine Ev.pos (by omega) (Ev.pos (by split <;> omega) aw)
end Go.Proofs.YtbphlohiealbeaaDoor.Pure
