/- The heap's calls, each told as a function of its state. -/
import Derived.Test.YtahcjihhkmolpaaH3
namespace Go.Proofs.Ytahcjihhkmolpaa
open Go.Vc Go.RowKit
/-- A heap's state: its nodes, its pool. -/
structure Hs where
  n : Nat
  nd : Nat → Nd
  m : Nat
  pool : Nat → Int
def hs0 : Hs := ⟨0, fun _ => ⟨0, false, 0⟩, 0, fun _ => 0⟩
/-- What Alloc answers (number, generation, error), and the state behind it. -/
def allocR (most : Int) (s : Hs) (v : Int) : (Int × Int × Int) × Hs :=
  if s.m = 0 then
    if most ≤ (s.n : Int) then ((0, 0, 5), s)
    else (((s.n : Int) + 1, 1, 0), ⟨s.n + 1, upf s.nd s.n ⟨1, true, v⟩, 0, s.pool⟩)
  else (((((s.pool (s.m - 1) - 1).toNat : Nat) : Int) + 1, (s.nd (s.pool (s.m - 1) - 1).toNat).g, 0), ⟨s.n, upf s.nd (s.pool (s.m - 1) - 1).toNat ⟨(s.nd (s.pool (s.m - 1) - 1).toNat).g, true, v⟩, s.m - 1, s.pool⟩)
def inR (s : Hs) (num : Int) : Prop := 1 ≤ num ∧ num ≤ (s.n : Int)
instance (s : Hs) (num : Int) : Decidable (inR s num) := inferInstanceAs (Decidable (_ ∧ _))
def isR (s : Hs) (num gen : Int) : Prop := inR s num ∧ (s.nd (num - 1).toNat).l = true ∧ (s.nd (num - 1).toNat).g = gen
instance (s : Hs) (num gen : Int) : Decidable (isR s num gen) := inferInstanceAs (Decidable (_ ∧ _ ∧ _))
def freeS (s : Hs) (num : Int) : Hs := ⟨s.n, upf s.nd (num - 1).toNat ⟨(s.nd (num - 1).toNat).g + 1, false, 0⟩, s.m + 1, upf s.pool s.m num⟩
def freeR (s : Hs) (num gen : Int) : Hs := if isR s num gen then freeS s num else s
def getR (s : Hs) (num gen : Int) : Int × Bool := if isR s num gen then ((s.nd (num - 1).toNat).v, true) else (0, false)
/-- The heap is in a state. -/
def HT (w : World) (B hp : Nat) (obj most : Int) (s : Hs) : Prop := H w B hp obj most s.n s.nd s.m s.pool
section
variable {w w' : World} {B B' hp : Nat} {obj most : Int} {s : Hs} {TS : List TypeId}
theorem HT.keep (h : HT w B hp obj most s) (hb : Below w.heap.size w w') : HT w' B hp obj most s := H.keep h hb
theorem HT.mod (h : HT w B hp obj most s) (hm : ModT w w' B' TS) (hT : (([78, 82, 126, 80, 85, 132, 3] : List TypeId).all fun t => !TS.contains t) = true) : HT w' B hp obj most s := H.mod h hm hT
theorem HT.pl (h : HT w B hp obj most s) {j : Nat} (hj : j < s.m) : ∃ i : Nat, i < s.n ∧ s.pool j = (i : Int) + 1 := by
  obtain ⟨_, _, _, _, _, _, _, _, h⟩ := h
  exact h.pl j hj
end
abbrev TSL : List TypeId := [78, 126, 132, 85]
theorem alloc_c (Bs hp : Nat) (obj most v : Int) (s : Hs) (w0 : World) (hS : HT w0 Bs hp obj most s) (hBs : Bs ≤ w0.heap.size) (hm : s.m ≤ 1099511627776) (hmost : most ≤ 1048576) :
    C Try.prog 12 #[.pointer (some ⟨hp, 0, none⟩), .pointer none, .int .i64 v] w0 fun r w => r = .tuple #[.agg #[.int .i64 (allocR most s v).1.1, .int .i64 (allocR most s v).1.2.1], .int .i64 (allocR most s v).1.2.2] ∧ HT w Bs hp obj most (allocR most s v).2 ∧ ModT w0 w Bs TSL := by
  unfold allocR
  by_cases h0 : s.m = 0
  · rw [if_pos h0]
    by_cases hf : most ≤ (s.n : Int)
    · rw [if_pos hf]
      exact (alloc_full Bs hp obj most s.n s.nd s.m s.pool w0 hS v h0 hf).mono fun r w h => ⟨h.1, HT.keep hS h.2, ModT.below h.2 hBs _⟩
    · rw [if_neg hf]
      exact (alloc_new Bs hp obj most s.n s.nd s.m s.pool w0 hS v hBs h0 (by omega) hmost).mono fun r w h => ⟨h.1, h.2.1, h.2.2⟩
  · rw [if_neg h0]
    obtain ⟨i, hi, hp1⟩ := HT.pl hS (j := s.m - 1) (by omega)
    have hk : s.m = (s.m - 1) + 1 := by omega
    have hti : (s.pool (s.m - 1) - 1).toNat = i := by omega
    rw [hti]
    have hS' : H w0 Bs hp obj most s.n s.nd ((s.m - 1) + 1) s.pool := by rw [← hk]; exact hS
    exact (alloc_pool Bs hp obj most s.n s.nd (s.m - 1) s.pool w0 hS' v hBs (by omega) i hi hp1).mono fun r w h => ⟨h.1, h.2.1, h.2.2⟩
theorem num_in {s : Hs} {num : Int} (h : inR s num) : (num - 1).toNat < s.n ∧ (((num - 1).toNat : Nat) : Int) + 1 = num := by unfold inR at h; omega
theorem free_c (Bs hp : Nat) (obj most num gen : Int) (s : Hs) (w0 : World) (hS : HT w0 Bs hp obj most s) (hBs : Bs ≤ w0.heap.size) (hm : s.m ≤ 1099511627776) (hg : ∀ i, i < s.n → -4611686018427387904 ≤ (s.nd i).g ∧ (s.nd i).g ≤ 4611686018427387904) :
    C Try.prog 13 #[.pointer (some ⟨hp, 0, none⟩), .pointer none, .agg #[.int .i64 num, .int .i64 gen]] w0 fun r w => r = .bool (decide (isR s num gen)) ∧ HT w Bs hp obj most (freeR s num gen) ∧ ModT w0 w Bs TSL := by
  unfold freeR
  by_cases hin : inR s num
  · obtain ⟨h1, h2⟩ := num_in hin
    by_cases hl : (s.nd (num - 1).toNat).l = true ∧ (s.nd (num - 1).toNat).g = gen
    · have hr : isR s num gen := ⟨hin, hl⟩
      rw [if_pos hr, decide_eq_true hr, ← hl.2]
      have := free_ok Bs hp obj most s.n s.nd s.m s.pool w0 hS hBs hm (num - 1).toNat h1 (hg _ h1) hl.1
      rw [h2] at this
      exact this.mono fun r w h => ⟨h.1, h.2.1, h.2.2⟩
    · have hr : ¬ isR s num gen := fun h => hl h.2
      rw [if_neg hr, decide_eq_false hr]
      have := free_no Bs hp obj most s.n s.nd s.m s.pool w0 hS (num - 1).toNat h1 gen hl
      rw [h2] at this
      exact this.mono fun r w h => ⟨h.1, HT.keep hS h.2, ModT.below h.2 hBs _⟩
  · have hr : ¬ isR s num gen := fun h => hin h.1
    rw [if_neg hr, decide_eq_false hr]
    exact (free_out Bs hp obj most s.n s.nd s.m s.pool w0 hS num gen (by unfold inR at hin; omega)).mono fun r w h => ⟨h.1, HT.keep hS h.2, ModT.below h.2 hBs _⟩
theorem get_c (Bs hp : Nat) (obj most num gen : Int) (s : Hs) (w0 : World) (hS : HT w0 Bs hp obj most s) :
    C Try.prog 14 #[.pointer (some ⟨hp, 0, none⟩), .pointer none, .agg #[.int .i64 num, .int .i64 gen]] w0 fun r w => r = .tuple #[.int .i64 (getR s num gen).1, .bool (getR s num gen).2] ∧ Below w0.heap.size w0 w := by
  unfold getR
  by_cases hin : inR s num
  · obtain ⟨h1, h2⟩ := num_in hin
    have := get_in Bs hp obj most s.n s.nd s.m s.pool w0 hS (num - 1).toNat h1 gen
    rw [h2] at this
    by_cases hl : (s.nd (num - 1).toNat).l = true ∧ (s.nd (num - 1).toNat).g = gen
    · rw [if_pos hl] at this
      rw [if_pos (show isR s num gen from ⟨hin, hl⟩)]; exact this
    · rw [if_neg hl] at this
      rw [if_neg (show ¬ isR s num gen from fun h => hl h.2)]; exact this
  · rw [if_neg (show ¬ isR s num gen from fun h => hin h.1)]
    exact get_out Bs hp obj most s.n s.nd s.m s.pool w0 hS num gen (by unfold inR at hin; omega)
/-- A heap's state is small. -/
def Small (s : Hs) (k : Nat) : Prop := s.n ≤ k ∧ s.m ≤ k ∧ ∀ i, i < s.n → 0 ≤ (s.nd i).g ∧ (s.nd i).g ≤ (k : Int) + 1
theorem upf_all {n n' j : Nat} {nd : Nat → Nd} {K : Int} {d : Nd} (h : ∀ i, i < n → 0 ≤ (nd i).g ∧ (nd i).g ≤ K) (hd : 0 ≤ d.g ∧ d.g ≤ K) (hn : ∀ i, i < n' → i ≠ j → i < n) : ∀ i, i < n' → 0 ≤ (upf nd j d i).g ∧ (upf nd j d i).g ≤ K := by
  intro i hi
  unfold upf
  by_cases hij : i = j
  · rw [if_pos hij]; exact hd
  · rw [if_neg hij]; exact h i (hn i hi hij)
theorem Small.alloc {s : Hs} {k : Nat} (h : Small s k) (most v : Int) (hp : 0 < s.m → (s.pool (s.m - 1) - 1).toNat < s.n) : Small (allocR most s v).2 (k + 1) := by
  obtain ⟨h1, h2, h3⟩ := h
  have h4 : ∀ i, i < s.n → 0 ≤ (s.nd i).g ∧ (s.nd i).g ≤ ((k + 1 : Nat) : Int) + 1 := fun i hi => by have := h3 i hi; omega
  unfold allocR
  split
  · split
    · exact ⟨Nat.le_succ_of_le h1, Nat.le_succ_of_le h2, h4⟩
    · exact ⟨Nat.succ_le_succ h1, Nat.zero_le _, upf_all h4 (d := ⟨1, true, v⟩) ⟨Int.zero_le_ofNat 1, by show (1 : Int) ≤ _; omega⟩ (fun i hi hij => Nat.lt_of_le_of_ne (Nat.le_of_lt_succ hi) hij)⟩
  · rename_i h0
    refine ⟨Nat.le_succ_of_le h1, by show s.m - 1 ≤ k + 1; omega, upf_all h4 (d := ⟨(s.nd (s.pool (s.m - 1) - 1).toNat).g, true, v⟩) (h4 _ (hp (by omega))) (fun i hi _ => hi)⟩
theorem Small.free {s : Hs} {k : Nat} (h : Small s k) (num gen : Int) : Small (freeR s num gen) (k + 1) := by
  obtain ⟨h1, h2, h3⟩ := h
  have h4 : ∀ i, i < s.n → 0 ≤ (s.nd i).g ∧ (s.nd i).g ≤ ((k + 1 : Nat) : Int) + 1 := fun i hi => by have := h3 i hi; omega
  unfold freeR
  split
  · rename_i hr
    have h5 := h3 _ (num_in hr.1).1
    exact ⟨Nat.le_succ_of_le h1, Nat.succ_le_succ h2, upf_all h4 (d := ⟨(s.nd (num - 1).toNat).g + 1, false, 0⟩) ⟨by show 0 ≤ (s.nd _).g + 1; omega, by show (s.nd _).g + 1 ≤ _; omega⟩ (fun i hi _ => hi)⟩
  · exact ⟨Nat.le_succ_of_le h1, Nat.le_succ_of_le h2, h4⟩
theorem Small.gens {s : Hs} {k : Nat} (h : Small s k) (hk : k ≤ 1099511627776) : ∀ i, i < s.n → -4611686018427387904 ≤ (s.nd i).g ∧ (s.nd i).g ≤ 4611686018427387904 := fun i hi => by have := h.2.2 i hi; omega
theorem Small.more {s : Hs} {k : Nat} (h : Small s k) : Small s (k + 1) := ⟨by have := h.1; omega, by have := h.2.1; omega, fun i hi => by have := h.2.2 i hi; omega⟩
theorem alloc_x (Bs hp : Nat) (obj most v : Int) (s : Hs) (w0 : World) (hS : HT w0 Bs hp obj most s) (hBs : Bs ≤ w0.heap.size) (hm : s.m ≤ 1099511627776) (hmost : most ≤ 1048576) :
    C Try.prog 12 #[.pointer (some ⟨hp, 0, none⟩), .pointer none, .int .i64 v] w0 fun r w => ∃ num gen err s2, allocR most s v = ((num, gen, err), s2) ∧ r = .tuple #[.agg #[.int .i64 num, .int .i64 gen], .int .i64 err] ∧ HT w Bs hp obj most s2 ∧ ModT w0 w Bs TSL :=
  (alloc_c Bs hp obj most v s w0 hS hBs hm hmost).mono fun _ _ h => ⟨_, _, _, _, rfl, h.1, h.2.1, h.2.2⟩
theorem free_x (Bs hp : Nat) (obj most num gen : Int) (s : Hs) (w0 : World) (hS : HT w0 Bs hp obj most s) (hBs : Bs ≤ w0.heap.size) (hm : s.m ≤ 1099511627776) (hg : ∀ i, i < s.n → -4611686018427387904 ≤ (s.nd i).g ∧ (s.nd i).g ≤ 4611686018427387904) :
    C Try.prog 13 #[.pointer (some ⟨hp, 0, none⟩), .pointer none, .agg #[.int .i64 num, .int .i64 gen]] w0 fun r w => ∃ b s2, b = decide (isR s num gen) ∧ s2 = freeR s num gen ∧ r = .bool b ∧ HT w Bs hp obj most s2 ∧ ModT w0 w Bs TSL :=
  (free_c Bs hp obj most num gen s w0 hS hBs hm hg).mono fun _ _ h => ⟨_, _, rfl, rfl, h.1, h.2.1, h.2.2⟩
theorem get_x (Bs hp : Nat) (obj most num gen : Int) (s : Hs) (w0 : World) (hS : HT w0 Bs hp obj most s) :
    C Try.prog 14 #[.pointer (some ⟨hp, 0, none⟩), .pointer none, .agg #[.int .i64 num, .int .i64 gen]] w0 fun r w => ∃ x b, getR s num gen = (x, b) ∧ r = .tuple #[.int .i64 x, .bool b] ∧ Below w0.heap.size w0 w :=
  (get_c Bs hp obj most num gen s w0 hS).mono fun _ _ h => ⟨_, _, rfl, h.1, h.2⟩
/-- What Alloc does to the numbers. -/
theorem allocR_counts {most v : Int} {s s2 : Hs} {num gen err : Int} (h : allocR most s v = ((num, gen, err), s2)) (hn : (s.n : Int) ≤ most) :
    (err = 0 ∧ 0 < num ∧ (s2.n : Int) - s2.m = s.n - s.m + 1 ∧ (s2.n = s.n ∨ (s2.n = s.n + 1 ∧ s2.m = 0)) ∧ (s2.n : Int) ≤ most) ∨ (err = 5 ∧ num = 0 ∧ s2 = s ∧ s.m = 0 ∧ (s.n : Int) = most) := by
  unfold allocR at h
  split at h
  · rename_i h0
    split at h
    · rename_i hf
      cases h
      exact .inr ⟨rfl, rfl, rfl, h0, by omega⟩
    · rename_i hf
      cases h
      refine .inl ⟨rfl, by omega, ?_, .inr ⟨rfl, rfl⟩, ?_⟩
      · show ((s.n + 1 : Nat) : Int) - ((0 : Nat) : Int) = _; omega
      · show ((s.n + 1 : Nat) : Int) ≤ most; omega
  · rename_i h0
    cases h
    refine .inl ⟨rfl, by omega, ?_, .inl rfl, hn⟩
    show (s.n : Int) - ((s.m - 1 : Nat) : Int) = _; omega
theorem freeR_counts {s : Hs} {num gen : Int} : (freeR s num gen).n = s.n ∧ (isR s num gen → (freeR s num gen).m = s.m + 1) ∧ (¬ isR s num gen → (freeR s num gen).m = s.m) := by
  unfold freeR
  by_cases h : isR s num gen
  · rw [if_pos h]; exact ⟨rfl, fun _ => rfl, fun h9 => absurd h h9⟩
  · rw [if_neg h]; exact ⟨rfl, fun h9 => absurd h9 h, fun _ => rfl⟩
end Go.Proofs.Ytahcjihhkmolpaa
