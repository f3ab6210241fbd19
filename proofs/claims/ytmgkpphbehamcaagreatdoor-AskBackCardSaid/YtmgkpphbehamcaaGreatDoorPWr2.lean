/- A query's text in plain words. -/
import Derived.Test.YtmgkpphbehamcaaGreatDoorPWr1
namespace Go.Proofs.YtmgkpphbehamcaaGreatDoor.Pure
open Go Go.Gg Go.Gp Gf
set_option linter.unusedVariables false
set_option linter.unusedSimpArgs false
def aftT (q : T34) : List UInt8 := if q.f6 > 0 then [32, 97, 102, 116, 101, 114, 58] ++ Lib.join [Lib.itoa q.f7, Lib.itoa q.f8, Lib.itoa q.f5, Lib.itoa q.f6] [46] else []
def LIM : List UInt8 := [32, 108, 105, 109, 105, 116, 58]
def writeL (d : Nat) (q : T34) : List UInt8 := wrN d (askOf q) ++ LIM ++ Lib.itoa q.f4 ++ aftT q
def writeQ (d : Nat) (q : T34) : ByteArray × Int := if mayQB d q = true ∧ (writeL d q).length ≤ 200 then (ba (writeL d q), 0) else (⟨#[]⟩, 2)
theorem aft_range {q : T34} (h : aftB q = true) : (0 ≤ q.f5 ∧ q.f5 < 8) ∧ (0 ≤ q.f6 ∧ q.f6 ≤ 1023) ∧ (0 ≤ q.f7 ∧ q.f7 ≤ 1099511627776) ∧ (0 ≤ q.f8 ∧ q.f8 ≤ 65535) := by
 unfold aftB at h; rw [Bool.or_eq_true] at h; rcases h with h | h
 ·have := of_decide_eq_true h; unfold aft at this; injection this with a b c d e
  omega
 ·rw [Bool.and_eq_true] at h; obtain ⟨_, h⟩ := h; unfold recB aft at h; rw [Bool.and_eq_true] at h; have := of_decide_eq_true h.1
  dsimp only at this
  omega
theorem mayQ_parts {d : Nat} {q : T34} (h : mayQB d q = true) : mayB d (askOf q) = true ∧ (1 ≤ q.f4 ∧ q.f4 ≤ 50) ∧ aftB q = true := by
 unfold mayQB at h; rw [Bool.and_eq_true, Bool.and_eq_true] at h; exact ⟨h.1, of_decide_eq_true h.2.1, h.2.2⟩
theorem may_good {d : Nat} {x : T26} (h : mayB d x = true) : goodN d x = true := by
 unfold mayB at h; rw [Bool.and_eq_true, Bool.and_eq_true] at h; exact h.2.2
theorem Write_loop {v24 : List Int} {v27 : Int} (a b c e : Int) (hv : v24 = [a, b, c, e]) (h7 : v27 = 4) (ha : -9223372036854775808 ≤ a ∧ a ≤ 9223372036854775807) (hb : -9223372036854775808 ≤ b ∧ b ≤ 9223372036854775807) (hc : -9223372036854775808 ≤ c ∧ c ≤ 9223372036854775807) (he : -9223372036854775808 ≤ e ∧ e ≤ 9223372036854775807) :
  Ev (fun k => ask_Write_l0 v24 v27 k ([] : List ByteArray) 0) ([Lib.itoa a, Lib.itoa b, Lib.itoa c, Lib.itoa e].map ba) := by
 subst hv; subst h7; have hl : (([a, b, c, e] : List Int).length : Int) = 4 := rfl; refine Ev.step (fun k => by rw [ask_Write_l0]) (Ev.pos (by decide) (Ev.pos (by rw [hl]; decide) ?_)); rw [show ([a, b, c, e] : List Int).getD (0 : Int).toNat 0 = a from rfl, itoa_tell a ha]; refine Ev.bind (Ev.now _) (Ev.pos (by simp) ?_); rw [i64w (by omega), show (0 : Int) + 1 = 1 from rfl]; refine Ev.step (fun k => by rw [ask_Write_l0]) (Ev.pos (by decide) (Ev.pos (by rw [hl]; decide) ?_)); rw [show ([a, b, c, e] : List Int).getD (1 : Int).toNat 0 = b from rfl, itoa_tell b hb]; refine Ev.bind (Ev.now _) (Ev.pos (by simp) ?_); rw [i64w (by omega), show (1 : Int) + 1 = 2 from rfl]; refine Ev.step (fun k => by rw [ask_Write_l0]) (Ev.pos (by decide) (Ev.pos (by rw [hl]; decide) ?_)); rw [show ([a, b, c, e] : List Int).getD (2 : Int).toNat 0 = c from rfl, itoa_tell c hc]; refine Ev.bind (Ev.now _) (Ev.pos (by simp) ?_); rw [i64w (by omega), show (2 : Int) + 1 = 3 from rfl]; refine Ev.step (fun k => by rw [ask_Write_l0]) (Ev.pos (by decide) (Ev.pos (by rw [hl]; decide) ?_)); rw [show ([a, b, c, e] : List Int).getD (3 : Int).toNat 0 = e from rfl, itoa_tell e he]; refine Ev.bind (Ev.now _) (Ev.pos (by simp) ?_); rw [i64w (by omega), show (3 : Int) + 1 = 4 from rfl]; exact Ev.step (g := fun _ => some ([Lib.itoa a, Lib.itoa b, Lib.itoa c, Lib.itoa e].map ba)) (fun k => by rw [ask_Write_l0, if_neg (by decide)]; rfl) (Ev.now _)
theorem Write_ev {d : Nat} (hd : d < 1000) {q : T34} (h : SmallN d (askOf q)) (hc : cntN d (askOf q) ≤ 1000) : Ev (fun k => ask_Write k q) (writeQ d q) := by
 unfold ask_Write writeQ; refine Ev.bind (mayQuery_ev hd h hc) ?_; by_cases hm : mayQB d q = true
 case neg =>
  refine Ev.pos (by simpa using hm) ((Ev.now _).is ?_); rw [if_neg (fun e => hm e.1)]
 refine Ev.neg (by simp [hm]) ?_; obtain ⟨m1, m2, m3⟩ := mayQ_parts hm; have hr := aft_range m3; have hw := wrN_len d _ h (may_good m1); have h4 := itoa_len q.f4 (by omega); have h5 := itoa_len q.f5 (by omega); have h6 := itoa_len q.f6 (by omega); have h7 := itoa_len q.f7 (by omega); have h8 := itoa_len q.f8 (by omega); refine Ev.bind (write_ev d (askOf q) h hc (may_good m1)) ?_; refine Ev.pos (by show (wrN d (askOf q)).length + 7 ≤ _; omega) ?_; rw [itoa_tell q.f4 (by omega)]; refine Ev.bind (Ev.now _) ?_; have e1 : (ba (wrN d (askOf q)) ++ (⟨#[32, 108, 105, 109, 105, 116, 58]⟩ : ByteArray)) = ba (wrN d (askOf q) ++ LIM) := ba_app _ LIM; rw [e1, ba_app]; have hlen1 : (wrN d (askOf q) ++ LIM ++ Lib.itoa q.f4).length ≤ 3000000000 := by simp only [List.length_append, LIM, List.length_cons, List.length_nil]; omega
 have hlen0 : (wrN d (askOf q) ++ LIM).length ≤ 2500000000 := by simp only [List.length_append, LIM, List.length_cons, List.length_nil]; omega
 refine Ev.pos (by rw [ba_size, ba_size]; omega) ?_; refine Ev.name fun v17 hv17 => ?_
 by_cases hp : q.f6 > 0
 ·refine Ev.pos hp ?_; refine Ev.name fun v24 hv24 => Ev.name fun v27 hv27 => ?_
  refine Ev.bind (Write_loop q.f7 q.f8 q.f5 q.f6 hv24 hv27 (by omega) (by omega) (by omega) (by omega)) ?_; have hj := join_len [46] [Lib.itoa q.f7, Lib.itoa q.f8, Lib.itoa q.f5, Lib.itoa q.f6]; simp only [List.map_cons, List.map_nil, List.sum_cons, List.sum_nil, List.length_cons, List.length_nil] at hj; refine Ev.bind ((Ev.now _).congr fun k => join_tell _ [46] (by simp) (by omega)) ?_; refine Ev.pos (by show 7 + (Lib.join _ _).length ≤ _; omega) ?_; have e2 : ((⟨#[32, 97, 102, 116, 101, 114, 58]⟩ : ByteArray) ++ ba (Lib.join [Lib.itoa q.f7, Lib.itoa q.f8, Lib.itoa q.f5, Lib.itoa q.f6] [46])) = ba (aftT q) := by
   unfold aftT; rw [if_pos hp]; exact ba_app _ _
  rw [e2]; have hlen2 : (aftT q).length ≤ 1000 := by
   unfold aftT; rw [if_pos hp, List.length_append]; simp only [List.length_cons, List.length_nil]; omega
  have e3 : v17 ++ ba (aftT q) = ba (writeL d q) := by rw [hv17, ba_app]; rfl
  rw [e3]; refine Ev.pos (by rw [hv17, ba_size, ba_size]; omega) ?_; refine Ev.bind (Ev.now _) ?_; rw [ba_size]; by_cases h200 : (writeL d q).length ≤ 200
  ·exact Ev.neg (by omega) ((Ev.now _).is (by rw [if_pos ⟨hm, h200⟩]))
  ·exact Ev.pos (by omega) ((Ev.now _).is (by rw [if_neg (fun e => h200 e.2)]))
 ·refine Ev.neg hp ?_; have e3 : v17 = ba (writeL d q) := by
   rw [hv17]; unfold writeL aftT; rw [if_neg hp, List.append_nil]
  rw [e3, ba_size]; by_cases h200 : (writeL d q).length ≤ 200
  ·exact Ev.neg (by omega) ((Ev.now _).is (by rw [if_pos ⟨hm, h200⟩]))
  ·exact Ev.pos (by omega) ((Ev.now _).is (by rw [if_neg (fun e => h200 e.2)]))
end Go.Proofs.YtmgkpphbehamcaaGreatDoor.Pure
