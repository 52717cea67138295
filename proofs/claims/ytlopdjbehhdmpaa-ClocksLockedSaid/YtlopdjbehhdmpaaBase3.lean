/- What the document's functions tell of races, counts and reads; pairs and events in memory. -/
import Derived.Test.YtlopdjbehhdmpaaC3
namespace Go.Proofs.Ytlopdjbehhdmpaa
open Go.Vc Go.RowKit

theorem check_zero {E : Nat → Ev} {n : Nat} {cl : Int} (h : check E n cl = 0) : 0 ≤ cl ∧ cl ≤ 16 ∧ n ≤ 1048576 ∧ okE E cl n := by
  unfold check at h
  split at h
  · cases h
  · rename_i h1
    split at h
    · cases h
    · rename_i h2
      split at h
      · rename_i h3; exact ⟨by omega, by omega, by omega, h3⟩
      · cases h
theorem okE.at {E : Nat → Ev} {n i : Nat} {cl : Int} (h : okE E cl n) (hi : i < n) : 0 ≤ (E i).c ∧ (E i).c < cl ∧ 1 ≤ (E i).k ∧ (E i).k ≤ 11 := by
  have := h i hi
  unfold badE at this
  omega

/-! ### The document's clocks, row by row -/
noncomputable def rcN (E : Nat → Ev) (j i k : Nat) : Nat := cnt E j k i + if (E j).c = (k : Int) then 1 else 0
theorem cnt_le (E : Nat → Ev) (j k : Nat) : ∀ m, cnt E j k m ≤ m
  | 0 => Nat.le_refl _
  | m + 1 => by have := cnt_le E j k m; simp only [cnt]; split <;> omega
theorem rcN_le (E : Nat → Ev) (j i k : Nat) : rcN E j i k ≤ i + 1 := by have := cnt_le E j k i; unfold rcN; split <;> omega
theorem rcN_start {E : Nat → Ev} {j : Nat} (h : 0 ≤ (E j).c) (k : Nat) : (if k = (E j).c.toNat then (1 : Int) else 0) = (rcN E j 0 k : Int) := by
  have : (k = (E j).c.toNat) ↔ (E j).c = (k : Int) := by omega
  unfold rcN cnt
  by_cases hk : (E j).c = (k : Int)
  · rw [if_pos (this.2 hk), if_pos hk]; rfl
  · rw [if_neg (fun h => hk (this.1 h)), if_neg hk]; rfl
theorem rcN_hit {E : Nat → Ev} {j i : Nat} (h : 0 ≤ (E i).c) (ha : ahB E i j = true) (k : Nat) : (if k = (E i).c.toNat then ((rcN E j i (E i).c.toNat : Nat) : Int) + 1 else (rcN E j i k : Int)) = (rcN E j (i + 1) k : Int) := by
  have hA : Ah E i j := by simpa [ahB] using ha
  have : (k = (E i).c.toNat) ↔ (E i).c = (k : Int) := by omega
  by_cases hk : (E i).c = (k : Int)
  · have hk' := this.2 hk
    rw [if_pos hk']
    subst hk'
    simp only [rcN, cnt, hA, true_and]
    rw [if_pos hk]
    push_cast; omega
  · rw [if_neg (fun h => hk (this.1 h))]
    simp only [rcN, cnt, hk, and_false, if_false, Nat.add_zero]
theorem rcN_miss {E : Nat → Ev} {j i : Nat} (ha : ahB E i j = false) (k : Nat) : rcN E j (i + 1) k = rcN E j i k := by
  have hA : ¬ Ah E i j := by simpa [ahB] using ha
  simp only [rcN, cnt, hA, false_and, if_false, Nat.add_zero]
theorem rcN_end (E : Nat → Ev) (j k : Nat) : rcN E j j k = rclk E j k := rfl

/-! ### Races -/
def acc (e : Ev) : Prop := e.k = 8 ∨ e.k = 9
instance (e : Ev) : Decidable (acc e) := by unfold acc; infer_instance
noncomputable def raceB (E : Nat → Ev) (i j : Nat) : Bool :=
  decide ((((acc (E i) ∧ acc (E j)) ∧ ((E i).k = 9 ∨ (E j).k = 9)) ∧ ((E i).o = (E j).o ∧ (E i).n = (E j).n)) ∧ (E i).c ≠ (E j).c) && !ahB E i j
/-- The first below m of which p holds. -/
def firstOf (p : Nat → Bool) : Nat → Option Nat
  | 0 => none
  | m + 1 => match firstOf p m with
    | some i => some i
    | none => if p m then some m else none
theorem firstOf_none {p : Nat → Bool} : ∀ {m : Nat}, (∀ i, i < m → p i = false) → firstOf p m = none
  | 0, _ => rfl
  | m + 1, h => by
    have := firstOf_none (p := p) (m := m) (fun i hi => h i (by omega))
    rw [firstOf, this]; simp [h m (by omega)]
theorem firstOf_some {p : Nat → Bool} {i : Nat} (h : ∀ x, x < i → p x = false) (hp : p i = true) : ∀ {m : Nat}, i < m → firstOf p m = some i
  | 0, hm => by omega
  | m + 1, hm => by
    by_cases him : i = m
    · subst him; rw [firstOf, firstOf_none h]; simp [hp]
    · rw [firstOf, firstOf_some h hp (show i < m by omega)]
def optL (o : Option Nat) (j : Nat) : List (Nat × Nat) := match o with | some i => [(i, j)] | none => []
noncomputable def racesL (E : Nat → Ev) : Nat → List (Nat × Nat)
  | 0 => []
  | j + 1 => racesL E j ++ optL (firstOf (fun i => raceB E i j) j) j
theorem racesL_len (E : Nat → Ev) : ∀ n, (racesL E n).length ≤ n
  | 0 => Nat.le_refl _
  | n + 1 => by
    have := racesL_len E n
    unfold racesL optL
    split <;> simp <;> omega
def prC (L : List (Nat × Nat)) : List Value := L.flatMap fun p => [.int .i64 (p.1 : Int), .int .i64 (p.2 : Int)]
theorem prC_snoc (L : List (Nat × Nat)) (i j : Nat) : prC (L ++ [(i, j)]) = prC L ++ [.int .i64 (i : Int), .int .i64 (j : Int)] := by simp [prC]
theorem prC_get : ∀ (L : List (Nat × Nat)) (t : Nat) (p : Nat × Nat), L[t]? = some p → (prC L)[t * 2]? = some (.int .i64 (p.1 : Int)) ∧ (prC L)[t * 2 + 1]? = some (.int .i64 (p.2 : Int))
  | [], t, p, h => by simp at h
  | q :: L, 0, p, h => by
    simp at h; subst h
    simp [prC]
  | q :: L, t + 1, p, h => by
    have := prC_get L t p (by simpa using h)
    have e : prC (q :: L) = [.int .i64 (q.1 : Int), .int .i64 (q.2 : Int)] ++ prC L := by simp [prC]
    rw [e, show (t + 1) * 2 = 2 + t * 2 by omega, show 2 + t * 2 + 1 = 2 + (t * 2 + 1) by omega]
    rw [List.getElem?_append_right (by simp), List.getElem?_append_right (by simp)]
    simpa using this
/-- A slice of pairs. -/
structure PairsAt (w : World) (a : Option Addr) (L : List (Nat × Nat)) : Prop where
  sl : SL a L.length
  at' : ∀ {t : Nat} {p : Nat × Nat}, L[t]? = some p → w.cell? ⟨ab a, ao a + t * 2 + 0, none⟩ = some (.int .i64 (p.1 : Int)) ∧ w.cell? ⟨ab a, ao a + t * 2 + 1, none⟩ = some (.int .i64 (p.2 : Int))
theorem PairsAt.keep {w w' : World} {a : Option Addr} {L : List (Nat × Nat)} (h : PairsAt w a L) (hb : Below w.heap.size w w') : PairsAt w' a L :=
  ⟨h.sl, fun ht => ⟨bl0 hb (h.at' ht).1, bl0 hb (h.at' ht).2⟩⟩
theorem PairsAt.of_own {w : World} {B : Nat} {T : TypeId} {a : Option Addr} {c : Nat} {L : List (Nat × Nat)} (h : Own w B T 2 a L.length c (prC L)) : PairsAt w a L :=
  ⟨h.sl, fun ht => by
    have := prC_get L _ _ ht
    rw [h.off, Nat.zero_add]
    exact ⟨h.cell this.1, h.cell this.2⟩⟩

/-! ### Events in a row of the call's own -/
def evC (E : Nat → Ev) (n : Nat) : List Value := (List.range n).flatMap fun i => [.int .i64 (E i).c, .int .i64 (E i).k, .int .i64 (E i).o, .int .i64 (E i).n]
theorem evC_succ (E : Nat → Ev) (n : Nat) : evC E (n + 1) = evC E n ++ [.int .i64 (E n).c, .int .i64 (E n).k, .int .i64 (E n).o, .int .i64 (E n).n] := by simp [evC, List.range_succ]
theorem evC_len (E : Nat → Ev) : ∀ n, (evC E n).length = n * 4
  | 0 => rfl
  | n + 1 => by rw [evC_succ, List.length_append, evC_len E n]; simp; omega
theorem evC_get (E : Nat → Ev) (i : Nat) : ∀ n, i < n → ∀ (j : Nat) (v : Value), [Value.int .i64 (E i).c, .int .i64 (E i).k, .int .i64 (E i).o, .int .i64 (E i).n][j]? = some v → (evC E n)[i * 4 + j]? = some v
  | 0, h => by omega
  | n + 1, h => by
    intro j v hj
    rw [evC_succ]
    have hj4 : j < 4 := by have := (List.getElem?_eq_some_iff.1 hj).1; simpa using this
    by_cases hin : i = n
    · subst hin
      rw [List.getElem?_append_right (by rw [evC_len]; omega), evC_len, show i * 4 + j - i * 4 = j by omega]
      exact hj
    · rw [List.getElem?_append_left (by rw [evC_len]; omega)]
      exact evC_get E i n (by omega) j v hj
theorem evC_one (E : Nat → Ev) : ∀ (n : Nat), ∀ u ∈ evC E n, u.oneCell' = true := by
  intro n u hu
  simp only [evC, List.mem_flatMap] at hu
  obtain ⟨i, _, hu⟩ := hu
  simp at hu
  rcases hu with rfl | rfl | rfl | rfl <;> rfl
theorem evC_congr {E F : Nat → Ev} {n : Nat} (h : ∀ i, i < n → E i = F i) : evC E n = evC F n := by
  induction n with
  | zero => rfl
  | succ n ih => rw [evC_succ, evC_succ, ih (fun i hi => h i (by omega)), h n (by omega)]
theorem EvAt.of_own {w : World} {B : Nat} {T : TypeId} {a : Option Addr} {n c : Nat} {E : Nat → Ev} (h : Own w B T 4 a n c (evC E n)) : EvAt w a n E := by
  have key : ∀ {i : Nat}, i < n → ∀ (j : Nat) (v : Value), [Value.int .i64 (E i).c, .int .i64 (E i).k, .int .i64 (E i).o, .int .i64 (E i).n][j]? = some v → w.cell? ⟨ab a, ao a + i * 4 + j, none⟩ = some v := by
    intro i hi j v hj
    rw [h.off, Nat.zero_add]
    exact h.cell (evC_get E i n hi j v hj)
  exact ⟨h.sl, fun hi => key hi 0 _ rfl, fun hi => key hi 1 _ rfl, fun hi => key hi 2 _ rfl, fun hi => key hi 3 _ rfl⟩
theorem EvAt.news {w : World} {a : Option Addr} {n : Nat} {E : Nat → Ev} (h : EvAt w a n E) {ad : Addr} (ha : a = some ad) : ∀ (j : Nat) (u : Value), (evC E n)[j]? = some u → w.cell? (ad.add j) = some u := by
  intro j u hj
  have hlt : j < n * 4 := by have := (List.getElem?_eq_some_iff.1 hj).1; rwa [evC_len] at this
  have hn : 0 < n := by omega
  have h0 := h.sl hn
  rw [ha] at h0
  have had : ad = ⟨ab a, ao a, none⟩ := by rw [ha]; exact Option.some.inj h0
  have hji : j = (j / 4) * 4 + j % 4 := by omega
  have hi : j / 4 < n := by omega
  have hadd : ∀ m, Addr.add ⟨ab a, ao a, none⟩ m = ⟨ab a, ao a + m, none⟩ := fun m => by
    unfold Addr.add; split
    · rename_i h0; simp [h0]
    · rfl
  rw [had, hadd]
  have h4 : j % 4 < 4 := Nat.mod_lt _ (by decide)
  have hv : ∃ v, [Value.int .i64 (E (j / 4)).c, .int .i64 (E (j / 4)).k, .int .i64 (E (j / 4)).o, .int .i64 (E (j / 4)).n][j % 4]? = some v := ⟨_, List.getElem?_eq_getElem (by simpa using h4)⟩
  obtain ⟨v, hv⟩ := hv
  have h5 := evC_get E (j / 4) n hi (j % 4) v hv
  rw [← hji, hj] at h5
  have hvu : u = v := Option.some.inj h5
  subst hvu
  have h6 := h.all hi (j % 4) u hv
  rw [Nat.add_assoc, ← hji] at h6
  exact h6
/-- Marks behind the end. -/
def markE (E : Nat → Ev) (n : Nat) : Nat → Ev := fun i => if i < n then E i else ⟨100 + ((i - n : Nat) : Int), 0, 0, 0⟩
theorem markE_lt {E : Nat → Ev} {n i : Nat} (h : i < n) : markE E n i = E i := if_pos h
theorem markE_at (E : Nat → Ev) (n i : Nat) : markE E n (n + i) = ⟨100 + (i : Int), 0, 0, 0⟩ := by
  unfold markE; rw [if_neg (by omega), show n + i - n = i by omega]

/-! ### What a read sees -/
def seesAt (E : Nat → Ev) (j : Nat) : Nat → Option Nat
  | 0 => none
  | m + 1 => if (E m).k = 9 ∧ ((E m).o = (E j).o ∧ (E m).n = (E j).n) then some m else seesAt E j m
end Go.Proofs.Ytlopdjbehhdmpaa
