/- How events lie in memory. -/
import Derived.Test.YtlopdjbehhdmpaaRows
import Derived.Test.YtlopdjbehhdmpaaPure
import Derived.Test.YtlopdjbehhdmpaaFacts
import Derived.Test.YtlopdjbehhdmpaaVc4
import Derived.KernelRfl
namespace Go.Proofs.Ytlopdjbehhdmpaa
open Go.Vc Go.RowKit

/-- A slice at a holds the events E 0 .. E (n - 1). -/
structure EvAt (w : World) (a : Option Addr) (n : Nat) (E : Nat → Ev) : Prop where
  sl : SL a n
  c : ∀ {i}, i < n → w.cell? ⟨ab a, ao a + i * 4 + 0, none⟩ = some (.int .i64 (E i).c)
  k : ∀ {i}, i < n → w.cell? ⟨ab a, ao a + i * 4 + 1 + 0, none⟩ = some (.int .i64 (E i).k)
  o : ∀ {i}, i < n → w.cell? ⟨ab a, ao a + i * 4 + 1 + 1, none⟩ = some (.int .i64 (E i).o)
  n : ∀ {i}, i < n → w.cell? ⟨ab a, ao a + i * 4 + 1 + 2, none⟩ = some (.int .i64 (E i).n)

theorem EvAt.step {w : World} {a : Option Addr} {n i : Nat} {E : Nat → Ev} (h : EvAt w a n E) (hi : i < n) : ∀ (j : Nat) (v : Value), [Value.int .i64 (E i).k, .int .i64 (E i).o, .int .i64 (E i).n][j]? = some v → w.cell? ⟨ab a, ao a + i * 4 + 1 + j, none⟩ = some v := by
  intro j v hj
  match j, hj with
  | 0, hj => cases hj; exact h.k hi
  | 1, hj => cases hj; exact h.o hi
  | 2, hj => cases hj; exact h.n hi
theorem EvAt.all {w : World} {a : Option Addr} {n i : Nat} {E : Nat → Ev} (h : EvAt w a n E) (hi : i < n) : ∀ (j : Nat) (v : Value), [Value.int .i64 (E i).c, .int .i64 (E i).k, .int .i64 (E i).o, .int .i64 (E i).n][j]? = some v → w.cell? ⟨ab a, ao a + i * 4 + j, none⟩ = some v := by
  intro j v hj
  match j, hj with
  | 0, hj => cases hj; exact h.c hi
  | 1, hj => cases hj; exact h.k hi
  | 2, hj => cases hj; exact h.o hi
  | 3, hj => cases hj; exact h.n hi
theorem EvAt.below {w w' : World} {a : Option Addr} {n : Nat} {E : Nat → Ev} (h : EvAt w a n E) (hb : Below w.heap.size w w') : EvAt w' a n E :=
  ⟨h.sl, fun hi => bl0 hb (h.c hi), fun hi => bl0 hb (h.k hi), fun hi => bl0 hb (h.o hi), fun hi => bl0 hb (h.n hi)⟩
theorem EvAt.le {w : World} {a : Option Addr} {n m : Nat} {E : Nat → Ev} (h : EvAt w a n E) (hm : m ≤ n) : EvAt w a m E :=
  ⟨h.sl.le hm, fun hi => h.c (by omega), fun hi => h.k (by omega), fun hi => h.o (by omega), fun hi => h.n (by omega)⟩
theorem bagg {w0 w : World} (h : Below w0.heap.size w0 w) {b o : Nat} {cs : List Value} (hc : ∀ (j : Nat) (v : Value), cs[j]? = some v → w0.cell? ⟨b, o + j, none⟩ = some v) : ∀ (j : Nat) (v : Value), cs[j]? = some v → w.cell? ⟨b, o + j, none⟩ = some v :=
  fun j v hj => bl0 h (hc j v hj)

/-- Events that may be. -/
def badE (cl : Int) (e : Ev) : Prop := ((e.c < 0 ∨ cl ≤ e.c) ∨ e.k < 1) ∨ 11 < e.k
instance (cl : Int) (e : Ev) : Decidable (badE cl e) := by unfold badE; infer_instance
def okE (E : Nat → Ev) (cl : Int) (n : Nat) : Prop := ∀ i, i < n → ¬ badE cl (E i)
instance okDec (E : Nat → Ev) (cl : Int) : ∀ n, Decidable (okE E cl n)
  | 0 => .isTrue fun i hi => by omega
  | n + 1 => match okDec E cl n with
    | .isTrue h => if hb : badE cl (E n) then .isFalse (fun h' => h' n (by omega) hb) else .isTrue fun i hi => by
        by_cases hin : i = n
        · subst hin; exact hb
        · exact h i (by omega)
    | .isFalse h => .isFalse fun h' => h fun i hi => h' i (by omega)
/-- The document's check. -/
def check (E : Nat → Ev) (n : Nat) (cl : Int) : Int := if cl < 0 ∨ 16 < cl then 2 else if 1048576 < n then 1 else if okE E cl n then 0 else 110
end Go.Proofs.Ytlopdjbehhdmpaa
