/- The plain law of RecordRows. -/
import Derived.Test.YtjmhhmljldjmjaaDoorLRecordRows
import Derived.Test.YtjmhhmljldjmjaaDoorPRec
namespace Go.Proofs.YtjmhhmljldjmjaaDoor.Pure
open Go Go.Gg Go.Gp Gf
set_option linter.unusedVariables false
set_option linter.unusedSimpArgs false
def lays (l : List T27) : Nat → List Int
  | 0 => []
  | i + 1 => lays l i ++ lay (l.getD i z27)
theorem lays_bytes (l : List T27) : ∀ i, Bytes (lays l i)
  | 0 => Bytes.nil
  | i + 1 => (lays_bytes l i).app (lay_bytes _)
theorem lays_bound (l : List T27) : ∀ i, (∀ j, j < i → Mayr (l.getD j z27)) → (lays l i).length ≤ 132 * i
  | 0, _ => by simp [lays]
  | i + 1, h => by
    have := lays_bound l i fun j hj => h j (by omega)
    have := (h i (by omega)).2.2.1
    simp only [lays, List.length_append, len_lay]; omega
theorem lays_split (l : List T27) (i : Nat) : ∀ n, i ≤ n → ∃ post, lays l n = lays l i ++ post := by
  intro n
  induction n with
  | zero => intro h; exact ⟨[], by rw [show i = 0 by omega]; simp⟩
  | succ n ih =>
    intro h
    by_cases e : i = n + 1
    · exact ⟨[], by rw [e]; simp⟩
    · obtain ⟨p, hp⟩ := ih (by omega)
      exact ⟨p ++ lay (l.getD n z27), by rw [lays, hp, List.append_assoc]⟩
theorem Great_ev (l : List T27) (m : Int) (hm : 0 ≤ m ∧ m < 1000) : ∃ r, Ev (fun k => grapevinelaw0_GreatRecords k l m) r ∧ (r = false → (l.length : Int) ≤ m) := by
  by_cases h : (l.length : Int) ≤ m
  case neg =>
    refine ⟨true, ?_, fun e => by cases e⟩
    refine Ev.bind (b := Sum.inr ()) (Ev.step (g := fun _ => some (Sum.inr ())) (fun k => ?_) (Ev.now _)) ((Ev.now _).is (decide_eq_true (by omega)))
    rw [grapevinelaw0_GreatRecords_l0]
    by_cases h0 : (0 : Int) < (l.length : Int)
    · rw [if_pos h0, decide_eq_false h]; rfl
    · rw [if_neg h0]; rfl
  · obtain ⟨r, hr, hE⟩ := Ev.loop (F := fun k (s : Int) => grapevinelaw0_GreatRecords_l0 l m k s) (fun s n => 0 ≤ s ∧ s + n = l.length) (fun r => r = Sum.inl true ∨ r = Sum.inr ()) (fun s n hI => by
      obtain ⟨h0, hn⟩ := hI
      by_cases h1 : s < (l.length : Int)
      · by_cases h2 : (((l.getD s.toNat z27).f4).size : Int) > 300
        · refine .inl ⟨Sum.inl true, .inl rfl, Ev.step (g := fun _ => some (Sum.inl true)) (fun k => ?_) (Ev.now _)⟩
          rw [grapevinelaw0_GreatRecords_l0, if_pos h1, decide_eq_true h]
          simp only [Option.bind_some, if_true]
          rw [if_pos ⟨h0, h1⟩, if_pos h2]
        · refine .inr ⟨s + 1, n - 1, by omega, ⟨by omega, by omega⟩, fun r H => Ev.step (fun k => ?_) H⟩
          rw [grapevinelaw0_GreatRecords_l0, if_pos h1, decide_eq_true h]
          simp only [Option.bind_some, if_true]
          rw [if_pos ⟨h0, h1⟩, if_neg h2, i64w (by omega)]
      · refine .inl ⟨Sum.inr (), .inr rfl, Ev.step (g := fun _ => some (Sum.inr ())) (fun k => ?_) (Ev.now _)⟩
        rw [grapevinelaw0_GreatRecords_l0, if_neg h1]; rfl) 0 l.length ⟨by omega, by omega⟩
    rcases hr with rfl | rfl
    · exact ⟨true, Ev.bind hE (Ev.now _), fun e => by cases e⟩
    · exact ⟨false, Ev.bind hE ((Ev.now _).is (decide_eq_false (by omega))), fun _ => h⟩
theorem RecordRows : RecordRows_Pure := by
  intro l w0
  refine Ev.rounds ?_
  unfold grapevinelaw4_RecordRows
  obtain ⟨g, hg, hgl⟩ := Great_ev l 20 (by omega)
  refine Ev.bind hg (Ev.ite (fun _ => Ev.bind awake_ev (Ev.now _)) (fun hne => ?_))
  have hl := hgl (by simpa using hne)
  by_cases hall : ∀ j, j < l.length → Mayr (l.getD j z27)
  case neg =>
    -- the first one that may not be
    obtain ⟨j, ⟨hj, hjm⟩, hmin⟩ := least (P := fun j => j < l.length ∧ ¬ Mayr (l.getD j z27)) (by
      by_cases h : ∃ j, j < l.length ∧ ¬ Mayr (l.getD j z27)
      · exact h
      · exact absurd (fun j hj => by
          by_cases e : Mayr (l.getD j z27)
          · exact e
          · exact absurd ⟨j, hj, e⟩ h) hall)
    have hpre : ∀ i, i < j → Mayr (l.getD i z27) := fun i hi => by
      by_cases e : Mayr (l.getD i z27)
      · exact e
      · exact absurd ⟨by omega, e⟩ (hmin i hi)
    refine Ev.bind (b := Sum.inl true) ?_ (Ev.now _)
    exact Ev.count (F := fun k s i => grapevinelaw4_RecordRows_l0 l k s i) (fun i => lays l i) j (fun i hi r H => by
      have hm := hpre i hi
      have e : laid (l.getD i z27) = (lay (l.getD i z27), 0) := if_pos hm
      have hb := lays_bound l (i + 1) fun q hq => hpre q (by omega)
      simp only [lays, List.length_append] at hb
      refine Ev.step (fun k => rfl) ?_
      simp only [grapevinelaw4_RecordRows_l0, step64 i (by omega), Int.toNat_natCast]
      refine Ev.pos (by omega) (Ev.pos (by omega) (Ev.bind ((Lay_ev _).is e) (Ev.neg (by simp) (Ev.pos (by simp only; omega) H)))))
      (by
      have e : laid (l.getD j z27) = ([], 2) := if_neg hjm
      refine Ev.step (fun k => rfl) ?_
      simp only [grapevinelaw4_RecordRows_l0, Int.toNat_natCast, May_some, hjm, decide_false, Option.bind_some]
      refine Ev.pos (by omega) (Ev.pos (by omega) (Ev.bind ((Lay_ev _).is e) (Ev.pos (by simp) (Ev.bind (b := true) (Ev.pos rfl (Ev.pos (by omega) (Ev.pos rfl (Ev.bind awake_ev (Ev.now _))))) (Ev.now _))))))
  have hbound := lays_bound l l.length hall
  have hbytes := lays_bytes l l.length
  refine Ev.bind (b := Sum.inr (lays l l.length)) ?_ ?_
  · exact Ev.count (F := fun k s i => grapevinelaw4_RecordRows_l0 l k s i) (fun i => lays l i) l.length (fun i hi r H => by
      have hm := hall i hi
      have e : laid (l.getD i z27) = (lay (l.getD i z27), 0) := if_pos hm
      have hb := lays_bound l (i + 1) fun q hq => hall q (by omega)
      simp only [lays, List.length_append] at hb
      refine Ev.step (fun k => rfl) ?_
      simp only [grapevinelaw4_RecordRows_l0, step64 i (by omega), Int.toNat_natCast]
      refine Ev.pos (by omega) (Ev.pos (by omega) (Ev.bind ((Lay_ev _).is e) (Ev.neg (by simp) (Ev.pos (by simp only; omega) H)))))
      (by
      refine Ev.step (g := fun _ => some (Sum.inr (lays l l.length))) (fun k => ?_) (Ev.now _)
      rw [grapevinelaw4_RecordRows_l0, if_neg (by omega)])
  refine Ev.bind (b := Sum.inr ((lays l l.length).length : Int)) ?_ ?_
  · have := Ev.count (F := fun k (s : Int) i => grapevinelaw4_RecordRows_l1 l (lays l l.length) k s i) (r := Sum.inr ((lays l l.length).length : Int)) (fun i => ((lays l i).length : Int)) l.length (fun i hi r H => by
      have hm := hall i hi
      obtain ⟨post, hpost⟩ := lays_split l (i + 1) l.length (by omega)
      have hr := rd_lay hm (lays l i) post
      have hpost' : lays l l.length = lays l i ++ lay (l.getD i z27) ++ post := by rw [hpost]; rfl
      rw [← hpost'] at hr
      have hlen : ((lays l (i + 1)).length : Int) = ((lays l i).length : Int) + 12 + (l.getD i z27).f4.size := by simp [lays, len_lay]; omega
      have hle : (lays l (i + 1)).length ≤ (lays l l.length).length := by rw [hpost]; simp
      refine Ev.step (fun k => rfl) ?_
      simp only [grapevinelaw4_RecordRows_l1, step64 i (by omega), Int.toNat_natCast]
      refine Ev.pos (by omega) (Ev.bind ((Read_ev hbytes (by omega) (by omega)).is hr) ?_)
      refine Ev.bind (b := false) ((Ev.now _).congr fun k => ?_) (Ev.neg (by simp) (by rw [← hlen]; exact H))
      rw [if_neg (by simp), if_pos (by omega), if_neg (by simp), if_neg (by simp only; omega)]
      congr 1; exact decide_eq_false (by simp only; omega)) (by
      refine Ev.step (g := fun _ => some (Sum.inr ((lays l l.length).length : Int))) (fun k => ?_) (Ev.now _)
      rw [grapevinelaw4_RecordRows_l1, if_neg (by omega)])
    simpa [lays] using this
  · have hend : rd (lays l l.length) ((lays l l.length).length : Int) = none27 := by
      unfold rd rdx
      rw [if_pos (by omega), Int.toNat_natCast, List.drop_length]
      exact if_neg (by simp)
    refine Ev.bind ((Read_ev hbytes (by omega) (by omega)).is hend) (Ev.bind (b := true) (Ev.pos rfl (Ev.pos rfl (Ev.bind awake_ev (Ev.now _)))) (Ev.now _))
end Go.Proofs.YtjmhhmljldjmjaaDoor.Pure
