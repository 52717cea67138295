/- What the functions make: rows of events, of bools, of numbers. -/
import Derived.Test.YtlopdjbehhdmpaaC2
import Derived.Test.YtlopdjbehhdmpaaVc5
namespace Go.Proofs.Ytlopdjbehhdmpaa
open Go.Vc Go.RowKit

/-! ### Who is ahead, as Bools -/
open Classical in
noncomputable def ahB (E : Nat → Ev) (x j : Nat) : Bool := decide (Ah E x j)
open Classical in
/-- Row j when the events below i have been looked at. -/
noncomputable def rowM (E : Nat → Ev) (j i x : Nat) : Bool := decide (∃ y, y < i ∧ linkedE E y j = true ∧ (x = y ∨ Ah E x y))
noncomputable def rowK (E : Nat → Ev) (j i k x : Nat) : Bool := rowM E j i x || (x == i) || (decide (x < k) && ahB E x i)
theorem rowM_zero (E : Nat → Ev) (j x : Nat) : rowM E j 0 x = false := by simp [rowM]
theorem rowM_end (E : Nat → Ev) (j x : Nat) : rowM E j j x = ahB E x j := by
  unfold rowM ahB
  rw [decide_eq_decide]
  exact Ah.cases'.symm
theorem rowM_skip {E : Nat → Ev} {j i : Nat} (h : linkedE E i j = false) (x : Nat) : rowM E j (i + 1) x = rowM E j i x := by
  unfold rowM
  rw [decide_eq_decide]
  constructor
  · rintro ⟨y, hy, hl, r⟩
    refine ⟨y, ?_, hl, r⟩
    by_cases hyi : y = i
    · subst hyi; rw [h] at hl; cases hl
    · omega
  · rintro ⟨y, hy, r⟩; exact ⟨y, by omega, r⟩
theorem rowK_start (E : Nat → Ev) (j i x : Nat) : rowK E j i 0 x = (if x = i then true else rowM E j i x) := by
  unfold rowK
  by_cases h : x = i <;> simp [h]
theorem rowK_step (E : Nat → Ev) (j i k x : Nat) : rowK E j i (k + 1) x = (if x = k then rowK E j i k k || ahB E k i else rowK E j i k x) := by
  unfold rowK
  by_cases h : x = k
  · subst h; simp
  · have : decide (x < k + 1) = decide (x < k) := by rw [decide_eq_decide]; omega
    simp [h, this]
theorem rowK_end {E : Nat → Ev} {j i : Nat} (h : linkedE E i j = true) (x : Nat) : rowK E j i i x = rowM E j (i + 1) x := by
  rw [Bool.eq_iff_iff]
  simp only [rowK, rowM, ahB, Bool.or_eq_true, Bool.and_eq_true, decide_eq_true_eq, beq_iff_eq]
  constructor
  · rintro ((⟨y, hy, r⟩ | rfl) | ⟨_, ha⟩)
    · exact ⟨y, by omega, r⟩
    · exact ⟨x, by omega, h, .inl rfl⟩
    · exact ⟨i, by omega, h, .inr ha⟩
  · rintro ⟨y, hy, hl, r⟩
    by_cases hyi : y = i
    · subst hyi
      rcases r with rfl | ha
      · exact .inl (.inr rfl)
      · exact .inr ⟨ha.lt, ha⟩
    · exact .inl (.inl ⟨y, by omega, hl, r⟩)
end Go.Proofs.Ytlopdjbehhdmpaa
