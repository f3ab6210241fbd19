/- The plain law of AskBack: what is written is read as it was; what is read may be, and is read the same from what it is written. -/
import Derived.Test.YtmgkpphbehamcaaGreatDoorLAskBack
import Derived.Test.YtmgkpphbehamcaaGreatDoorPAwk
import Derived.Test.YtmgkpphbehamcaaGreatDoorPBack3
import Derived.Test.YtmgkpphbehamcaaGreatDoorPBack4
namespace Go.Proofs.YtmgkpphbehamcaaGreatDoor.Pure
open Go Go.Gg Go.Gp Gf
set_option linter.unusedVariables false
set_option linter.unusedSimpArgs false
theorem SameQuery_refl {d : Nat} {q : T34} (h : SmallN d (askOf q)) : Ev (fun k => grapevinelaw0_SameQuery k q q) true := by
 unfold grapevinelaw0_SameQuery; exact Ev.bind (Ev.pos rfl (Ev.pos rfl (Ev.bind (SameAsk_refl d (askOf q) h) (Ev.now _)))) (Ev.now _)
theorem back_tail {s : List UInt8} (hs : s.length ≤ 300) : Ev (fun k => ((ask_Read k (ba s)).bind fun t38 => (if ¬ t38.2 = 0 then ((if t38.2 = 14 then ((grapevinelaw0_SameQuery k t38.1 (⟨0, 0, ([] : List ByteArray), ([] : List T26), 0, 0, 0, 0, 0, (⟨#[]⟩ : ByteArray)⟩ : T34)).bind fun t49 => (if t49 = true then ((grapevinelaw14_awake k ).bind fun t54 => some t54) else some false)) else some false).bind fun s46 => some s46) else ((ask_Write k t38.1).bind fun t58 => (if ¬ t58.2 = 0 then ((if ((ba s).size : Int) > 100 then ((ask_May k (⟨t38.1.f0, t38.1.f1, t38.1.f2, t38.1.f3⟩ : T26)).bind fun t66 => (if t66 = true then ((grapevinelaw14_awake k ).bind fun t71 => some t71) else some false)) else some false).bind fun s63 => some s63) else ((ask_Read k t58.1).bind fun t75 => (((ask_May k (⟨t38.1.f0, t38.1.f1, t38.1.f2, t38.1.f3⟩ : T26)).bind fun t86 => (if t86 = true then (if t75.2 = 0 then ((grapevinelaw0_SameQuery k t75.1 t38.1).bind fun t92 => (if t92 = true then ((grapevinelaw14_awake k ).bind fun t97 => some t97) else some false)) else some false) else some false)).bind fun s84 => some s84))))))) true := by
 have aw : Ev (fun k => (grapevinelaw14_awake k).bind fun t => some t) true := Ev.bind awake_ev (Ev.now _); refine Ev.bind (Read_ev s (by omega)) ?_; by_cases hok : okP s = true
 case neg =>
  have hr : readP s = (z34', 14) := by unfold readP; rw [if_neg hok]
  rw [hr]; refine Ev.pos (by decide) (Ev.bind (Ev.pos rfl ?_) (Ev.now _)); exact Ev.bind (SameQuery_refl (d := 1) (q := z34') ⟨by simp [z34', askOf], by simp [z34', askOf], by simp [z34', askOf], by simp [z34', askOf]⟩) (Ev.pos rfl aw)
 obtain ⟨k1, k2, k3, k4⟩ := ok_parts hok; have hr : readP s = ((rdP s).2, 0) := by unfold readP; rw [if_pos hok]
 have hsm := runP_small k1 (ok_run hok); have hask := rd_ask s; have hS : SmallN 700 (askOf (rdP s).2) := by rw [hask]; exact hsm.1
 have hC : cntN 700 (askOf (rdP s).2) ≤ 1000 := by rw [hask]; have := hsm.2; omega
 obtain ⟨m1, _, _⟩ := mayQ_parts k4; have hmay : Ev (fun k => ask_May k (askOf (rdP s).2)) true := (askMay_ev (d := 700) (by omega) hS hC).is m1; have hlen := fun h => write_small (s := s) h hok
 rw [hr] at hlen; rw [hr]; refine Ev.neg (by simp) ?_; have hW := Write_ev (d := 700) (by omega) hS hC; refine Ev.bind hW ?_; unfold writeQ; by_cases hl : (writeL 700 (rdP s).2).length ≤ 200
 ·rw [if_pos ⟨k4, hl⟩]; refine Ev.neg (by simp) ?_; refine Ev.bind ((Read_ev (writeL 700 (rdP s).2) (by omega)).is (read_write (by omega) hS k4 hl)) ?_; refine Ev.bind ?_ (Ev.now _); refine Ev.bind hmay (Ev.pos rfl (Ev.pos rfl ?_)); exact Ev.bind (SameQuery_refl hS) (Ev.pos rfl aw)
 ·rw [if_neg (fun e => hl e.2)]; refine Ev.pos (by simp) (Ev.bind ?_ (Ev.now _)); have h100 : ((ba s).size : Int) > 100 := by
   rw [ba_size]; by_cases h : s.length ≤ 100
   ·exact absurd (hlen h) hl
   ·omega
  exact Ev.pos h100 (Ev.bind hmay (Ev.pos rfl aw))
theorem AskBack : AskBack_Pure := by
 intro q s hq hs0; obtain ⟨s, rfl⟩ : ∃ l, s = ba l := ⟨s.data.toList, rfl⟩; apply Ev.rounds; unfold grapevinelaw14_AskBack; have aw : Ev (fun k => (grapevinelaw14_awake k).bind fun t => some t) true := Ev.bind awake_ev (Ev.now _); obtain ⟨g, hg, hgs⟩ := GreatAsk_ev (askOf q); have hg' : Ev (fun k => grapevinelaw0_GreatAsk k (⟨q.f0, q.f1, q.f2, q.f3⟩ : T26)) g := hg
 cases g with
 | true => exact Ev.bind (b := true) (Ev.bind hg' (Ev.pos rfl (Ev.now _))) (Ev.pos rfl aw)
 | false =>
 obtain ⟨s1, s2⟩ := hgs rfl; by_cases c1 : (q.f9.size : Int) > 300
 ·exact Ev.bind (b := true) (Ev.bind hg' (Ev.neg (by decide) (Ev.pos c1 (Ev.now _)))) (Ev.pos rfl aw)
 by_cases c2 : ((ba s).size : Int) > 300
 ·exact Ev.bind (b := true) (Ev.bind hg' (Ev.neg (by decide) (Ev.neg c1 ((Ev.now _).is (decide_eq_true c2))))) (Ev.pos rfl aw)
 refine Ev.bind (b := false) (Ev.bind hg' (Ev.neg (by decide) (Ev.neg c1 ((Ev.now _).is (decide_eq_false c2))))) (Ev.neg (by decide) ?_); have hsl : s.length ≤ 300 := by rw [ba_size] at c2; omega
 have hW := Write_ev (d := 13) (by omega) s1 (by omega); refine Ev.bind hW ?_; unfold writeQ; by_cases hc : mayQB 13 q = true ∧ (writeL 13 q).length ≤ 200
 ·rw [if_pos hc]; refine Ev.pos rfl ?_; refine Ev.bind ((Read_ev (writeL 13 q) (by have := hc.2; omega)).is (read_write (by omega) s1 hc.1 hc.2)) ?_; refine Ev.bind (b := false) (Ev.neg (by simp) (Ev.bind (SameQuery_refl s1) (Ev.neg (by simp) ((Ev.now _).is ?_)))) (Ev.neg (by decide) (back_tail hsl)); exact decide_eq_false (by rw [ba_size]; have := hc.2; omega)
 ·rw [if_neg hc]; refine Ev.neg (by simp) ?_; refine Ev.bind (b := false) (Ev.neg (by simp) ((Ev.now _).is ?_)) (Ev.neg (by decide) (back_tail hsl)); simp
end Go.Proofs.YtmgkpphbehamcaaGreatDoor.Pure
