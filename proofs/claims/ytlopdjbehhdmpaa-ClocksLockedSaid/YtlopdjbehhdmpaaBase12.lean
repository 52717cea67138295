/- Cells under one lock never race; ints that came in. -/
import Derived.Test.YtlopdjbehhdmpaaC18
namespace Go.Proofs.Ytlopdjbehhdmpaa
open Go.Vc Go.RowKit Go.ChangeShapes Go.WideShapes Go.ChangeAt Go.Deep
/-- A slice of ints. -/
structure IntsAt (w : World) (a : Option Addr) (n : Nat) (f : Nat → Int) : Prop where
  sl : SL a n
  at' : ∀ {i}, i < n → w.cell? ⟨ab a, ao a + i * 1, none⟩ = some (.int .i64 (f i))
theorem IntsAt.below {w w' : World} {a : Option Addr} {n : Nat} {f : Nat → Int} (h : IntsAt w a n f) (hb : Below w.heap.size w w') : IntsAt w' a n f :=
  ⟨h.sl, fun hi => bl0 hb (h.at' hi)⟩
theorem open_ints8 {H : Type} {enc : TypeId × Value → H} {W : World} {base : Nat} {spare : Nat → Bool} {held : Bool} {a : Option Addr} {len cap : Nat} {d : DataW H} {p : List MemPlace} (h : DataW.Trod enc Try.prog W base spare held 34 (.slice a len cap) d p) :
    ∃ f, IntsAt W a len f ∧ len ≤ maxLen := by
  obtain ⟨fuel, hf⟩ := h
  rcases open_ints Try.underlying34 Try.underlying3 (by kernel_rfl) hf with ⟨hcs, hx⟩ | ⟨x, l, c, zs, hcs, hb, hl, hm, hz, hx, hcell, hwf⟩
  · simp [Value.cells] at hcs
    obtain ⟨rfl, rfl, rfl⟩ := hcs
    exact ⟨fun _ => 0, ⟨SL.zero _, fun h => by omega⟩, Nat.zero_le _⟩
  · simp [Value.cells] at hcs
    obtain ⟨rfl, rfl, rfl⟩ := hcs
    have hlz : len ≤ zs.length := by rw [hz]; split <;> omega
    have hsp : 0 < len → x = ⟨x.block, x.off, none⟩ := fun h0 => by
      have h1 := hcell 0 (by omega)
      have e1 : x.add 0 = x := by simp [Addr.add]
      rw [e1] at h1
      obtain ⟨b, o, s⟩ := x
      cases s with
      | none => rfl
      | some s => unfold World.cell? at h1; simp at h1; split at h1 <;> simp at h1
    refine ⟨fun i => zs.getD i 0, ⟨fun h0 => by rw [hsp h0]; rfl, fun {i} hi => ?_⟩, by omega⟩
    have h1 := hcell i (by omega)
    rw [hsp (by omega), Addr.add_lit] at h1
    rw [Nat.mul_one]; exact h1

/-! ### The trace -/
def put (E : Nat → Ev) (N : Nat) (e : Ev) : Nat → Ev := fun i => if i = N then e else E i
theorem put_self (E : Nat → Ev) (N : Nat) (e : Ev) : put E N e N = e := if_pos rfl
theorem put_ne {E : Nat → Ev} {N i : Nat} {e : Ev} (h : i ≠ N) : put E N e i = E i := if_neg h
theorem evC_put (E : Nat → Ev) (N : Nat) (e : Ev) : evC (put E N e) (N + 1) = evC E N ++ [.int .i64 e.c, .int .i64 e.k, .int .i64 e.o, .int .i64 e.n] := by
  rw [evC_succ, put_self, evC_congr (fun i hi => put_ne (by omega))]
/-- Turns of K accesses each, between a lock and an unlock. -/
def Turns (E : Nat → Ev) (cl : Int) (K N : Nat) : Prop := ∀ j, j < N → (0 ≤ (E j).c ∧ (E j).c < cl) ∧ (E j).c = (E (j / (K + 2) * (K + 2))).c ∧
  (j % (K + 2) = 0 → (E j).k = 1 ∧ (E j).o = 1 ∧ (E j).n = 0) ∧ (0 < j % (K + 2) → j % (K + 2) ≤ K → ((E j).k = 8 ∨ (E j).k = 9)) ∧ (j % (K + 2) = K + 1 → (E j).k = 2 ∧ (E j).o = 1 ∧ (E j).n = 0)
theorem Turns.nil (E : Nat → Ev) (cl : Int) (K : Nat) : Turns E cl K 0 := fun j hj => absurd hj (Nat.not_lt_zero j)
theorem dm {K i r : Nat} (hr : r < K + 2) : (i * (K + 2) + r) / (K + 2) = i ∧ (i * (K + 2) + r) % (K + 2) = r := by
  constructor
  · rw [Nat.mul_comm, Nat.mul_add_div (by omega), Nat.div_eq_of_lt hr, Nat.add_zero]
  · rw [Nat.mul_comm, Nat.mul_add_mod, Nat.mod_eq_of_lt hr]
/-- One event more: number r of turn i. -/
theorem Turns.put {E : Nat → Ev} {cl : Int} {K N i r : Nat} {e : Ev} (h : Turns E cl K N) (hN : N = i * (K + 2) + r) (hr : r < K + 2) (hc : 0 ≤ e.c ∧ e.c < cl) (hs : 0 < r → e.c = (E (i * (K + 2))).c)
    (h0 : r = 0 → e.k = 1 ∧ e.o = 1 ∧ e.n = 0) (h1 : 0 < r → r ≤ K → (e.k = 8 ∨ e.k = 9)) (h2 : r = K + 1 → e.k = 2 ∧ e.o = 1 ∧ e.n = 0) : Turns (put E N e) cl K (N + 1) := by
  intro j hj
  by_cases hjN : j = N
  · subst hjN
    obtain ⟨hd, hm⟩ := dm (K := K) (i := i) hr
    rw [put_self, hN, hd, hm]
    refine ⟨hc, ?_, h0, h1, h2⟩
    by_cases hr0 : r = 0
    · rw [hr0, Nat.add_zero, put_self]
    · rw [put_ne (by omega)]; exact hs (by omega)
  · have := h j (by omega)
    have hle : j / (K + 2) * (K + 2) ≤ j := Nat.div_mul_le_self _ _
    rw [put_ne hjN, put_ne (by omega)]
    exact this
/-- Whole turns do not race. -/
theorem Turns.free {E : Nat → Ev} {cl : Int} {K M : Nat} (h : Turns E cl K (M * (K + 2))) {i j : Nat} (hij : i < j) (hj : j < M * (K + 2)) : raceB E i j = false := by
  by_cases hra : (acc (E i) ∧ acc (E j)) ∧ (E i).c ≠ (E j).c
  · obtain ⟨⟨ha, hb⟩, hne⟩ := hra
    have hi := h i (by omega)
    have hjj := h j hj
    have hdi := Nat.div_add_mod i (K + 2)
    have hdj := Nat.div_add_mod j (K + 2)
    have hmi := Nat.mod_lt i (show 0 < K + 2 by omega)
    have hmj := Nat.mod_lt j (show 0 < K + 2 by omega)
    rw [Nat.mul_comm] at hdi hdj
    obtain ⟨hic, hi0, hi1, hi2, hi3⟩ := hi
    obtain ⟨hjc, hj0, hj1, hj2, hj3⟩ := hjj
    generalize hqi : i / (K + 2) = qi at hdi hi0
    generalize hqj : j / (K + 2) = qj at hdj hj0
    generalize hri : i % (K + 2) = ri at *
    generalize hrj : j % (K + 2) = rj at *
    have hq : qi < qj := by
      have hle : qi ≤ qj := by rw [← hqi, ← hqj]; exact Nat.div_le_div_right (Nat.le_of_lt hij)
      rcases Nat.lt_or_ge qi qj with h9 | h9
      · exact h9
      · have : qi = qj := by omega
        rw [hi0, hj0, this] at hne
        exact absurd rfl hne
    have hq2 : (qi + 1) * (K + 2) ≤ qj * (K + 2) := Nat.mul_le_mul_right _ hq
    rw [Nat.succ_mul] at hq2
    have hri0 : ri ≠ 0 := fun h9 => by have := hi1 h9; rcases ha with ha | ha <;> omega
    have hrj0 : rj ≠ 0 := fun h9 => by have := hj1 h9; rcases hb with hb | hb <;> omega
    have hriK : ri ≠ K + 1 := fun h9 => by have := hi3 h9; rcases ha with ha | ha <;> omega
    obtain ⟨hd1, hm1⟩ := dm (K := K) (i := qi) (show K + 1 < K + 2 by omega)
    obtain ⟨hd2, hm2⟩ := dm (K := K) (i := qj) (show 0 < K + 2 by omega)
    rw [Nat.add_zero] at hd2 hm2
    have hu := h (qi * (K + 2) + (K + 1)) (by omega)
    have hl := h (qj * (K + 2)) (by omega)
    have hu3 := hu.2.2.2.2 hm1
    have hl1 := hl.2.2.1 hm2
    have hu0 := hu.2.1
    rw [hd1] at hu0
    have a1 : Ah E i (qi * (K + 2) + (K + 1)) := se_own E (by omega) (by rw [hi0, hu0])
    have a2 : Ah E (qi * (K + 2) + (K + 1)) (qj * (K + 2)) := .link (by omega) (by
      unfold linkedE oneE
      rw [hu3.1, hu3.2.1, hu3.2.2, hl1.1, hl1.2.1, hl1.2.2]
      simp)
    have a3 : Ah E (qj * (K + 2)) j := se_own E (by omega) (by rw [← hj0])
    unfold raceB
    rw [ahB_iff.2 ((a1.trans a2).trans a3)]
    simp
  · unfold raceB
    rw [decide_eq_false (fun h9 => hra ⟨h9.1.1.1, h9.2⟩)]
    rfl
theorem racesL_free {E : Nat → Ev} : ∀ {n : Nat}, (∀ i j, i < j → j < n → raceB E i j = false) → racesL E n = []
  | 0, _ => rfl
  | n + 1, h => by
    rw [racesL, racesL_free (fun i j h1 h2 => h i j h1 (by omega)), firstOf_none (fun i hi => h i n hi (by omega))]
    rfl
theorem Turns.check {E : Nat → Ev} {cl : Int} {K M : Nat} (h : Turns E cl K (M * (K + 2))) (h1 : 1 ≤ cl) (h2 : cl ≤ 16) (h3 : M * (K + 2) ≤ 1048576) : check E (M * (K + 2)) cl = 0 := by
  refine check_good (by omega) (by omega) fun i hi => ?_
  have hmi := Nat.mod_lt i (show 0 < K + 2 by omega)
  obtain ⟨hic, hi0, hi1, hi2, hi3⟩ := h i hi
  have hk : 1 ≤ (E i).k ∧ (E i).k ≤ 11 := by
    by_cases h0 : i % (K + 2) = 0
    · have := hi1 h0; omega
    · by_cases hK : i % (K + 2) = K + 1
      · have := hi3 hK; omega
      · have := hi2 (by omega) (by omega); omega
  unfold badE
  omega
theorem tmod_range {a k : Int} (h1 : 1 ≤ k) (h2 : k ≤ 16) : -16 < a.tmod k ∧ a.tmod k < 16 ∧ -k < a.tmod k ∧ a.tmod k < k := by
  have e1 := Int.tmod_lt_of_pos a (show 0 < k by omega)
  have e2 : -k < a.tmod k := by
    have := Int.tmod_lt_of_pos (-a) (show 0 < k by omega)
    rw [Int.neg_tmod] at this
    omega
  omega
theorem tmod_pos {a k : Int} (h1 : 1 ≤ k) (h0 : 0 ≤ a) : 0 ≤ a.tmod k ∧ a.tmod k < k := ⟨Int.tmod_nonneg k h0, Int.tmod_lt_of_pos a (by omega)⟩
theorem bu51k (a b c : Int) : Try.prog.built 51 [(0, .int .i64 a), (1, .int .i64 b), (2, .int .i64 c)] = some #[.int .i64 a, .int .i64 b, .int .i64 c] := by kernel_rfl
theorem bu53k (c a b d : Int) : Try.prog.built 53 [(0, .int .i64 c), (1, .agg #[.int .i64 a, .int .i64 b, .int .i64 d])] = some #[.int .i64 c, .int .i64 a, .int .i64 b, .int .i64 d] := by kernel_rfl
end Go.Proofs.Ytlopdjbehhdmpaa
