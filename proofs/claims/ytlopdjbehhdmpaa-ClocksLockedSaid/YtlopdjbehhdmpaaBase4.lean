/- Clocks as rows of ints; what a thing hands on. -/
import Derived.Test.YtlopdjbehhdmpaaC5
import Derived.Test.YtlopdjbehhdmpaaVc7
namespace Go.Proofs.Ytlopdjbehhdmpaa
open Go.Vc Go.RowKit

def ints (f : Nat → Nat) : Nat → Value := fun k => .int .i64 ((f k : Nat) : Int)
def clkV (f : Nat → Nat) : Value := .agg (arr 16 (ints f))
theorem ints_one (f : Nat → Nat) (k : Nat) : (ints f k).oneCell' = true := rfl
theorem clkV_congr {f g : Nat → Nat} (h : ∀ k, k < 16 → f k = g k) : clkV f = clkV g := by
  unfold clkV
  rw [arr_congr (g := ints g) (fun k hk => by unfold ints; rw [h k hk])]
theorem ints_congr {f g : Nat → Nat} {k : Nat} (h : f k = g k) : ints f k = ints g k := by unfold ints; rw [h]
/-- What lies in a thing's hands. -/
def hndN (u s d : Nat → Nat) : Nat → Nat := fun x => if x < 16 then u x else if x < 32 then s (x - 16) else d (x - 32)
theorem hnd0 (u s d : Nat → Nat) {k : Nat} (h : k < 16) : ints (hndN u s d) (0 + 0 + k) = ints u k := ints_congr (f := fun k => hndN u s d (0 + 0 + k)) (by simp only [hndN]; rw [if_pos (by omega)]; congr 1; omega)
theorem hnd1 (u s d : Nat → Nat) {k : Nat} (h : k < 16) : ints (hndN u s d) (0 + 16 + k) = ints s k := ints_congr (f := fun k => hndN u s d (0 + 16 + k)) (by simp only [hndN]; rw [if_neg (by omega), if_pos (by omega)]; congr 1; omega)
theorem hnd2 (u s d : Nat → Nat) {k : Nat} (h : k < 16) : ints (hndN u s d) (0 + 32 + k) = ints d k := ints_congr (f := fun k => hndN u s d (0 + 32 + k)) (by simp only [hndN]; rw [if_neg (by omega), if_neg (by omega)]; congr 1; omega)
theorem set0 (u s d f : Nat → Nat) {x : Nat} : (if 0 + 0 ≤ x ∧ x < 0 + 0 + 16 then ints f (x - (0 + 0)) else ints (hndN u s d) x) = ints (hndN f s d) x := by
  unfold ints hndN
  by_cases h : x < 16
  · rw [if_pos (by omega), if_pos h, show x - (0 + 0) = x by omega]
  · rw [if_neg (by omega), if_neg h, if_neg h]
theorem set1 (u s d f : Nat → Nat) {x : Nat} : (if 0 + 16 ≤ x ∧ x < 0 + 16 + 16 then ints f (x - (0 + 16)) else ints (hndN u s d) x) = ints (hndN u f d) x := by
  unfold ints hndN
  by_cases h : x < 16
  · rw [if_neg (by omega), if_pos h, if_pos h]
  · by_cases h2 : x < 32
    · rw [if_pos (by omega), if_neg h, if_pos h2, show x - (0 + 16) = x - 16 by omega]
    · rw [if_neg (by omega), if_neg h, if_neg h2, if_neg h, if_neg h2]
theorem set2 (u s d f : Nat → Nat) {x : Nat} (hx : x < 48) : (if 0 + 32 ≤ x ∧ x < 0 + 32 + 16 then ints f (x - (0 + 32)) else ints (hndN u s d) x) = ints (hndN u s f) x := by
  unfold ints hndN
  by_cases h : x < 16
  · rw [if_neg (by omega), if_pos h, if_pos h]
  · by_cases h2 : x < 32
    · rw [if_neg (by omega), if_neg h, if_pos h2, if_neg h, if_pos h2]
    · rw [if_pos (by omega), if_neg h, if_neg h2, show x - (0 + 32) = x - 32 by omega]
theorem set16 (f g : Nat → Nat) {x : Nat} (hx : x < 16) : (if 0 ≤ x ∧ x < 0 + 16 then ints g (x - 0) else ints f x) = ints g x := by
  rw [if_pos (by omega)]; rfl
theorem zero16 : Array.replicate 16 (Value.int .i64 0) = arr 16 (ints fun _ => 0) := arr_rep 16 _
def eqN (F G : Nat → Nat) : Bool := (List.range 16).all fun k => F k == G k
theorem eqN_iff {F G : Nat → Nat} : eqN F G = true ↔ ∀ k, k < 16 → F k = G k := by
  unfold eqN; simp
theorem eq62 {ρ : Operand → Value} {w : World} {d : Option Nat} {ty T' : TypeId} {ps : String} {af : Array Edge} {g : Option (Nat × Bool)} {x y : Operand} {F G : Nat → Nat} (hx : ρ x = clkV F) (hy : ρ y = clkV G) :
    (execOp ρ ⟨d, .binOp .eql 62 x y T', ty, ps, af, g⟩).run Try.prog w = .ok (.value (.bool (eqN F G))) w := by
  obtain ⟨i, hi⟩ : ∃ i, Try.prog.info? 3 = some i := by
    have := sz3
    cases h : Try.prog.info? 3 with
    | none => rw [h] at this; cases this
    | some i => exact ⟨i, rfl⟩
  have h := x_eqArr (P := Try.prog) (w := w) (d := d) (ty := ty) (T' := T') (ps := ps) (af := af) (g := g) (F := fun k => (F k : Int)) (G := fun k => (G k : Int)) Try.underlying62 Try.underlying3 hi (by kernel_rfl) Try.eqGuardType62 hx hy
  rw [h]
  congr 3
  rw [Bool.eq_iff_iff, eqN_iff, decide_eq_true_iff]
  constructor
  · intro h k hk; have := h k hk; omega
  · intro h k hk; rw [h k hk]
end Go.Proofs.Ytlopdjbehhdmpaa
