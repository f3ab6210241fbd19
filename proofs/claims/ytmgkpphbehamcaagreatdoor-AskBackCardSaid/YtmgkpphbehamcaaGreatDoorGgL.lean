/- Structs compared. -/
import Derived.Test.YtmgkpphbehamcaaGreatDoorGgK
import Derived.Laws.StructEq
namespace Go.Gg
open Go
variable {P : Program} {B : World} {G : GMap} {Γ : List Chunk} {L : Env} {ty : TypeId}
inductive Lf where
 | int (x y : Int)
 | bool (x y : Bool)
 | str (x y : ByteArray)
def Lf.ok : Lf → Bool
 | .int x y => x == y
 | .bool x y => x == y
 | .str x y => x.toList == y.toList
def eqFs (P : Program) (rec : TypeId → Value → Value → Option (List Lf)) (xs ys : Array Value) : List Field → Option (List Lf)
 | [] => some []
 | f :: fs => if f.name == "_" then eqFs P rec xs ys fs else
  match evq P (part f.type xs f.offset), evq P (part f.type ys f.offset) with
  | some u, some v => match rec f.type u v, eqFs P rec xs ys fs with
   | some a, some b => some (a ++ b)
   | _, _ => none
  | _, _ => none
def eqLv (P : Program) : Nat → TypeId → Value → Value → Option (List Lf)
 | 0, _, _, _ => none
 | d + 1, t, x, y => match P.underlying t, x, y with
  | some .bool, .bool a, .bool b => some [.bool a b]
  | some (.int _), .int k a, .int k' b => if k = k' then some [.int a b] else none
  | some .string, .string a, .string b => some [.str a b]
  | some (.struct fs), .agg xs, .agg ys => if P.stoodInHeld t then none else eqFs P (eqLv P d) xs ys fs.toList
  | _, _, _ => none
theorem eqFs_run {d : Nat} {W : World} {rec : TypeId → Value → Value → Option (List Lf)} (h : ∀ t x y ls, rec t x y = some ls → (Op.equalIn d t x y).run P W = .ok (ls.all Lf.ok) W) (xs ys : Array Value) :
  ∀ (fs : List Field) (ls : List Lf), eqFs P rec xs ys fs = some ls → (Op.eqFields d xs ys fs).run P W = .ok (ls.all Lf.ok) W := by
 intro fs
 induction fs with
 | nil => intro ls e; cases e; simp [Op.eqFields]
 | cons f fs ih =>
  intro ls e; unfold eqFs at e
  split at e
  ·rename_i hn
   have hn' : ¬ (f.name ≠ "_") := by simpa using hn
   rw [Op.eqFields, if_neg hn']; exact ih ls e
  ·rename_i hn
   have hn' : f.name ≠ "_" := by simpa using hn
   split at e
   ·rename_i u v hu hv
    split at e
    ·rename_i a b ha hb
     cases e
     rw [Op.eqFields]; simp only [if_pos hn', Sem.run_bind, evq_run hu W, evq_run hv W, h _ _ _ _ ha, Result.andThen_ok, List.all_append]
     cases a.all Lf.ok
     ·simp
     ·simpa using ih b hb
    ·cases e
   ·cases e
theorem eqLv_run {W : World} (m : Nat) : ∀ (d : Nat) (t : TypeId) (x y : Value) (ls : List Lf), eqLv P d t x y = some ls → (Op.equalIn (d + m) t x y).run P W = .ok (ls.all Lf.ok) W := by
 intro d
 induction d with
 | zero => intro t x y ls e; cases e
 | succ d ih =>
  intro t x y ls e; rw [show d + 1 + m = (d + m) + 1 by omega]; unfold eqLv at e
  split at e
  ·rename_i hu; cases e; rw [run_equalIn_bool' W _ t _ _ hu]; simp [Lf.ok]
  ·rename_i k k' _ b hu
   split at e
   ·rename_i hk; subst hk; cases e; rw [run_equalIn_int W _ t _ _ _ _ hu]; simp [Lf.ok]
   ·cases e
  ·rename_i hu; cases e; rw [run_equalIn_string W _ t _ _ hu]; simp [Lf.ok]
  ·rename_i fs xs ys hu
   split at e
   ·cases e
   ·rename_i hp
    have hf : P.fieldsOf t = fs := by simp [Program.fieldsOf, hu]
    rw [run_equalIn_struct W (d + m) t xs ys (by rw [hf]; exact hu) (by simpa using hp), hf]; exact eqFs_run (fun t x y ls e => ih t x y ls e) xs ys _ _ e
  ·cases e
theorem Tells.eqAgg {t u : TypeId} {x y : Operand} {xs ys : Array Value} {ls : List Lf} (hx : evalE L x = some (.agg xs)) (hy : evalE L y = some (.agg ys)) (h : eqLv P 16 t (.agg xs) (.agg ys) = some ls) (hm : P.eqGuardType P.depth t = false) :
  Tells P B G Γ (exec1 (rho L) (.binOp .eql t x y u) ty) (.bool (ls.all Lf.ok)) := by
 refine Tells.of_run (s := do eqGuard .eql t x y (rho L x) (rho L y); binOp .eql t (rho L x) (rho L y)) fun W _ => ?_
 rw [rho_of hx, rho_of hy, Sem.run_bind, run_eqGuard_agg W .eql t x y xs ys hm]; simp only [Result.andThen_ok]; rw [run_eql_struct, show (10000 : Nat) = 16 + 9984 from rfl, eqLv_run 9984 16 t _ _ ls h]; rfl
theorem toList_inj (a b : ByteArray) : a.toList = b.toList ↔ a = b := by
 constructor
 ·intro h; rw [ByteArray.toList_eq, ByteArray.toList_eq] at h
  cases a; cases b
  simp only [ByteArray.mk.injEq]; exact Array.ext' h
 ·intro h; subst h; rfl
end Go.Gg
