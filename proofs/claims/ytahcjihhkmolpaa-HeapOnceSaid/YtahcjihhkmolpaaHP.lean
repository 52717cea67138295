/- A heap tells no ref twice, and a ref tells its value until it is freed: the plain law. -/
import Derived.Test.YtahcjihhkmolpaaHC
namespace Go.Proofs.Ytahcjihhkmolpaa
open Go.Vc
/-- What was told, its values, and what is gone fit the heap's state. -/
structure Told (s : Hs) (len : Nat) (R : Nat → Int × Int) (V : Nat → Int) (G : Nat → Bool) : Prop where
  known : ∀ k, k < len → ∃ i, i < s.n ∧ (R k).1 = (i : Int) + 1 ∧ (R k).2 ≤ (s.nd i).g ∧ ((s.nd i).l = false → (R k).2 < (s.nd i).g)
  gone : ∀ k, k < len → (G k = false ↔ isR s (R k).1 (R k).2)
  value : ∀ k, k < len → G k = false → (s.nd ((R k).1 - 1).toNat).v = V k
  pool : ∀ j, j < s.m → ∃ i, i < s.n ∧ s.pool j = (i : Int) + 1 ∧ (s.nd i).l = false
  apart : ∀ j j', j < s.m → j' < s.m → s.pool j = s.pool j' → j = j'
theorem Told.nil (R : Nat → Int × Int) (V : Nat → Int) (G : Nat → Bool) : Told hs0 0 R V G :=
  ⟨fun k h => absurd h (Nat.not_lt_zero k), fun k h => absurd h (Nat.not_lt_zero k), fun k h => absurd h (Nat.not_lt_zero k), fun j h => absurd h (Nat.not_lt_zero j), fun j _ h => absurd h (Nat.not_lt_zero j)⟩
theorem isR_iff {s : Hs} {i : Nat} {num gen : Int} (hn : num = (i : Int) + 1) (hi : i < s.n) : isR s num gen ↔ (s.nd i).l = true ∧ (s.nd i).g = gen := by
  subst hn
  have h1 : ((i : Int) + 1 - 1).toNat = i := by omega
  unfold isR inR
  rw [h1]
  constructor
  · exact fun h => h.2
  · exact fun h => ⟨by omega, h⟩
/-- Alloc tells a ref that has not been told; what is known goes on. -/
theorem Told.alloc {s s2 : Hs} {len : Nat} {R : Nat → Int × Int} {V : Nat → Int} {G : Nat → Bool} {most v num gen err : Int} (h : Told s len R V G) (ha : allocR most s v = ((num, gen, err), s2)) :
    (err = 0 ∧ (∀ k, k < len → R k ≠ (num, gen)) ∧ Told s2 (len + 1) (upf R len (num, gen)) (upf V len v) (upf G len false)) ∨ (err ≠ 0 ∧ s2 = s) := by
  unfold allocR at ha
  split at ha
  · rename_i h0
    split at ha
    · cases ha; exact .inr ⟨by decide, rfl⟩
    · cases ha
      refine .inl ⟨rfl, fun k hk he => ?_, ?_⟩
      · obtain ⟨i, hi, h1, _⟩ := h.known k hk
        rw [he] at h1
        have : (s.n : Int) + 1 = (i : Int) + 1 := h1
        omega
      · have hnd : ∀ i, i < s.n → upf s.nd s.n ⟨1, true, v⟩ i = s.nd i := fun i hi => by unfold upf; rw [if_neg (by omega)]
        have hlt : ∀ {k}, k < len + 1 → k ≠ len → k < len := fun h1 h2 => by omega
        refine ⟨fun k hk => ?_, fun k hk => ?_, fun k hk => ?_, fun j hj => absurd hj (Nat.not_lt_zero j), fun j _ hj => absurd hj (Nat.not_lt_zero j)⟩
        · by_cases hkl : k = len
          · subst hkl
            refine ⟨s.n, Nat.lt_succ_self _, ?_, ?_, ?_⟩ <;> simp [upf]
          · obtain ⟨i, hi, h1, h2, h3⟩ := h.known k (hlt hk hkl)
            refine ⟨i, Nat.lt_succ_of_lt hi, ?_, ?_, ?_⟩
            · simp only [upf, hkl, if_false]; exact h1
            · show (upf R len _ k).2 ≤ (upf s.nd s.n _ i).g
              rw [hnd i hi]; simp only [upf, hkl, if_false]; exact h2
            · show (upf s.nd s.n _ i).l = false → (upf R len _ k).2 < (upf s.nd s.n _ i).g
              rw [hnd i hi]; simp only [upf, hkl, if_false]; exact h3
        · by_cases hkl : k = len
          · subst hkl
            rw [isR_iff (i := s.n) (by simp [upf]) (Nat.lt_succ_self _)]
            simp [upf]
          · obtain ⟨i, hi, h1, h2, h3⟩ := h.known k (hlt hk hkl)
            have := h.gone k (hlt hk hkl)
            rw [isR_iff h1 hi] at this
            rw [isR_iff (i := i) (by simp only [upf, hkl, if_false]; exact h1) (Nat.lt_succ_of_lt hi)]
            show upf G len false k = false ↔ (upf s.nd s.n _ i).l = true ∧ (upf s.nd s.n _ i).g = (upf R len _ k).2
            rw [hnd i hi]; simp only [upf, hkl, if_false]; exact this
        · by_cases hkl : k = len
          · subst hkl
            intro _
            have : ((s.n : Int) + 1 - 1).toNat = s.n := by omega
            simp [upf, this]
          · obtain ⟨i, hi, h1, h2, h3⟩ := h.known k (hlt hk hkl)
            intro hg
            have hv := h.value k (hlt hk hkl) (by simpa only [upf, hkl, if_false] using hg)
            have hti : ((R k).1 - 1).toNat = i := by omega
            rw [hti] at hv
            show (upf s.nd s.n _ ((upf R len _ k).1 - 1).toNat).v = upf V len v k
            simp only [show upf R len ((s.n : Int) + 1, 1) k = R k by simp only [upf, hkl, if_false], show upf V len v k = V k by simp only [upf, hkl, if_false], hti]
            rw [hnd i hi]; exact hv
  · rename_i h0
    obtain ⟨i, hi, hp, hd⟩ := h.pool (s.m - 1) (by omega)
    have hti : (s.pool (s.m - 1) - 1).toNat = i := by omega
    rw [hti] at ha
    cases ha
    have hlt : ∀ {k}, k < len + 1 → k ≠ len → k < len := fun h1 h2 => by omega
    have hself : upf s.nd i ⟨(s.nd i).g, true, v⟩ i = ⟨(s.nd i).g, true, v⟩ := by simp [upf]
    have hne : ∀ {x}, x ≠ i → upf s.nd i ⟨(s.nd i).g, true, v⟩ x = s.nd x := fun hx => by simp [upf, hx]
    refine .inl ⟨rfl, fun k hk he => ?_, ?_⟩
    · obtain ⟨x, hx, h1, h2, h3⟩ := h.known k hk
      rw [he] at h1 h2 h3
      have hxi : x = i := by have : (i : Int) + 1 = (x : Int) + 1 := h1; omega
      subst hxi
      have : (s.nd x).g < (s.nd x).g := h3 hd
      omega
    · refine ⟨fun k hk => ?_, fun k hk => ?_, fun k hk => ?_, fun j hj => ?_, fun j j' hj hj' => ?_⟩
      · by_cases hkl : k = len
        · subst hkl
          refine ⟨i, hi, ?_, ?_, ?_⟩ <;> simp [upf]
        · obtain ⟨x, hx, h1, h2, h3⟩ := h.known k (hlt hk hkl)
          refine ⟨x, hx, by simp only [upf, hkl, if_false]; exact h1, ?_, ?_⟩
          · show (upf R len _ k).2 ≤ (upf s.nd i _ x).g
            rw [show upf R len ((i : Int) + 1, (s.nd i).g) k = R k by simp only [upf, hkl, if_false]]
            by_cases hxi : x = i
            · subst hxi; rw [hself]; exact h2
            · rw [hne hxi]; exact h2
          · show (upf s.nd i _ x).l = false → (upf R len _ k).2 < (upf s.nd i _ x).g
            rw [show upf R len ((i : Int) + 1, (s.nd i).g) k = R k by simp only [upf, hkl, if_false]]
            by_cases hxi : x = i
            · subst hxi; rw [hself]; exact fun h9 => by cases h9
            · rw [hne hxi]; exact h3
      · by_cases hkl : k = len
        · subst hkl
          rw [isR_iff (s := ⟨s.n, upf s.nd i ⟨(s.nd i).g, true, v⟩, s.m - 1, s.pool⟩) (i := i) (by simp [upf]) hi]
          simp [upf]
        · obtain ⟨x, hx, h1, h2, h3⟩ := h.known k (hlt hk hkl)
          have := h.gone k (hlt hk hkl)
          rw [isR_iff h1 hx] at this
          rw [isR_iff (s := ⟨s.n, upf s.nd i ⟨(s.nd i).g, true, v⟩, s.m - 1, s.pool⟩) (i := x) (by simp only [upf, hkl, if_false]; exact h1) hx]
          show upf G len false k = false ↔ (upf s.nd i _ x).l = true ∧ (upf s.nd i _ x).g = (upf R len _ k).2
          rw [show upf R len ((i : Int) + 1, (s.nd i).g) k = R k by simp only [upf, hkl, if_false], show upf G len false k = G k by simp only [upf, hkl, if_false]]
          by_cases hxi : x = i
          · subst hxi
            rw [hself, this, hd]
            have := h3 hd
            constructor
            · intro h9; cases h9.1
            · intro h9
              have h10 : (s.nd x).g = (R k).2 := h9.2
              omega
          · rw [hne hxi]; exact this
      · by_cases hkl : k = len
        · subst hkl
          intro _
          have : ((i : Int) + 1 - 1).toNat = i := by omega
          simp [upf, this]
        · obtain ⟨x, hx, h1, h2, h3⟩ := h.known k (hlt hk hkl)
          intro hg
          have hg' : G k = false := by simpa only [upf, hkl, if_false] using hg
          have hv := h.value k (hlt hk hkl) hg'
          have hl := (isR_iff h1 hx).1 ((h.gone k (hlt hk hkl)).1 hg')
          have hxt : ((R k).1 - 1).toNat = x := by omega
          have hxi : x ≠ i := fun e => by subst e; rw [hd] at hl; cases hl.1
          rw [hxt] at hv
          show (upf s.nd i _ ((upf R len _ k).1 - 1).toNat).v = upf V len v k
          rw [show upf R len ((i : Int) + 1, (s.nd i).g) k = R k by simp only [upf, hkl, if_false], show upf V len v k = V k by simp only [upf, hkl, if_false], hxt, hne hxi]
          exact hv
      · have hj' : j < s.m - 1 := hj
        obtain ⟨x, hx, h1, h2⟩ := h.pool j (by omega)
        refine ⟨x, hx, h1, ?_⟩
        show (upf s.nd i _ x).l = false
        have hxi : x ≠ i := fun e => by
          subst e
          have := h.apart j (s.m - 1) (by omega) (by omega) (by rw [h1, hp])
          omega
        rw [hne hxi]; exact h2
      · have h1 : j < s.m - 1 := hj
        have h2 : j' < s.m - 1 := hj'
        exact h.apart j j' (by omega) (by omega)
/-- Free: who names the node is gone. -/
theorem Told.free {s : Hs} {len : Nat} {R : Nat → Int × Int} {V : Nat → Int} {G : Nat → Bool} (h : Told s len R V G) (num gen : Int) :
    (∀ k, k < len → R k = (num, gen) → G k = !decide (isR s num gen)) ∧ Told (freeR s num gen) len R V (fun k => if R k = (num, gen) then true else G k) := by
  have hfirst : ∀ k, k < len → R k = (num, gen) → G k = !decide (isR s num gen) := fun k hk he => by
    have := h.gone k hk
    rw [he] at this
    cases hg : G k with
    | false => rw [decide_eq_true (this.1 hg)]; rfl
    | true => rw [decide_eq_false (fun h9 => by have := this.2 h9; rw [hg] at this; cases this)]; rfl
  refine ⟨hfirst, ?_⟩
  unfold freeR
  by_cases hr : isR s num gen
  · rw [if_pos hr]
    obtain ⟨hin, hl, hgen⟩ := hr
    obtain ⟨hin1, hin2⟩ := num_in hin
    generalize hit : (num - 1).toNat = i at hl hgen hin1 hin2
    have hself : ∀ d, upf s.nd i d i = d := fun d => by simp [upf]
    have hne : ∀ {x} d, x ≠ i → upf s.nd i d x = s.nd x := fun d hx => by simp [upf, hx]
    unfold freeS
    rw [hit]
    refine ⟨fun k hk => ?_, fun k hk => ?_, fun k hk => ?_, fun j hj => ?_, fun j j' hj hj' => ?_⟩
    · obtain ⟨x, hx, h1, h2, h3⟩ := h.known k hk
      refine ⟨x, hx, h1, ?_, ?_⟩
      · show (R k).2 ≤ (upf s.nd i _ x).g
        by_cases hxi : x = i
        · subst hxi; rw [hself]; show (R k).2 ≤ (s.nd x).g + 1; omega
        · rw [hne _ hxi]; exact h2
      · show (upf s.nd i _ x).l = false → (R k).2 < (upf s.nd i _ x).g
        by_cases hxi : x = i
        · subst hxi; rw [hself]; intro _; show (R k).2 < (s.nd x).g + 1; omega
        · rw [hne _ hxi]; exact h3
    · obtain ⟨x, hx, h1, h2, h3⟩ := h.known k hk
      have := h.gone k hk
      rw [isR_iff h1 hx] at this
      rw [isR_iff (s := ⟨s.n, upf s.nd i ⟨(s.nd i).g + 1, false, 0⟩, s.m + 1, upf s.pool s.m num⟩) h1 hx]
      show (if R k = (num, gen) then true else G k) = false ↔ (upf s.nd i _ x).l = true ∧ (upf s.nd i _ x).g = (R k).2
      by_cases hxi : x = i
      · subst hxi
        rw [hself]
        constructor
        · intro h9
          exfalso
          split at h9
          · cases h9
          · rename_i hRk
            have h10 := this.1 h9
            exact hRk (Prod.ext (by rw [h1, hin2]) (by rw [← h10.2, hgen]))
        · rintro ⟨h9, -⟩; cases h9
      · rw [hne _ hxi]
        have hRk : R k ≠ (num, gen) := fun e => by
          rw [e] at h1
          have : num = (x : Int) + 1 := h1
          omega
        rw [if_neg hRk]; exact this
    · intro hg
      obtain ⟨x, hx, h1, h2, h3⟩ := h.known k hk
      have hRk : R k ≠ (num, gen) := fun e => by simp [e] at hg
      have hg' : G k = false := by simpa [hRk] using hg
      have hv := h.value k hk hg'
      have hl2 := (isR_iff h1 hx).1 ((h.gone k hk).1 hg')
      have hxt : ((R k).1 - 1).toNat = x := by omega
      have hxi : x ≠ i := fun e => by
        subst e
        exact hRk (Prod.ext (by rw [h1, hin2]) (by rw [← hl2.2, hgen]))
      rw [hxt] at hv ⊢
      show (upf s.nd i _ x).v = V k
      rw [hne _ hxi]; exact hv
    · have hj' : j < s.m + 1 := hj
      by_cases hjm : j = s.m
      · subst hjm
        refine ⟨i, hin1, ?_, ?_⟩
        · show upf s.pool s.m num s.m = _; simp [upf]; omega
        · show (upf s.nd i _ i).l = false; rw [hself]
      · obtain ⟨x, hx, h1, h2⟩ := h.pool j (by omega)
        have hxi : x ≠ i := fun e => by subst e; rw [hl] at h2; cases h2
        refine ⟨x, hx, ?_, ?_⟩
        · show upf s.pool s.m num j = _; simp only [upf, hjm, if_false]; exact h1
        · show (upf s.nd i _ x).l = false; rw [hne _ hxi]; exact h2
    · have h1 : j < s.m + 1 := hj
      have h2 : j' < s.m + 1 := hj'
      show upf s.pool s.m num j = upf s.pool s.m num j' → _
      have key : ∀ q, q < s.m → s.pool q ≠ num := fun q hq e => by
        obtain ⟨x, hx, h3, h4⟩ := h.pool q hq
        have : x = i := by omega
        subst this
        rw [hl] at h4; cases h4
      by_cases ha : j = s.m <;> by_cases hb : j' = s.m
      · intro _; omega
      · simp only [upf, ha, hb, if_true, if_false]; intro e; exact absurd e.symm (key j' (by omega))
      · simp only [upf, ha, hb, if_true, if_false]; intro e; exact absurd e (key j (by omega))
      · simp only [upf, ha, hb, if_false]; exact h.apart j j' (by omega) (by omega)
  · rw [if_neg hr]
    have hG : ∀ k, k < len → (if R k = (num, gen) then true else G k) = G k := fun k hk => by
      split
      · rename_i e; rw [hfirst k hk e, decide_eq_false hr]; rfl
      · rfl
    exact ⟨h.known, fun k hk => by rw [hG k hk]; exact h.gone k hk, fun k hk hg => h.value k hk (by rw [hG k hk] at hg; exact hg), h.pool, h.apart⟩
/-- Get tells what is known. -/
theorem Told.get {s : Hs} {len : Nat} {R : Nat → Int × Int} {V : Nat → Int} {G : Nat → Bool} (h : Told s len R V G) {k : Nat} (hk : k < len) {x : Int} {b : Bool} (hg : getR s (R k).1 (R k).2 = (x, b)) : b = !G k ∧ (b = true → x = V k) ∧ (b = false → x = 0) := by
  have h1 := h.gone k hk
  unfold getR at hg
  split at hg
  · rename_i hr
    cases hg
    have h2 := h1.2 hr
    exact ⟨by rw [h2]; rfl, fun _ => h.value k hk h2, fun h9 => by cases h9⟩
  · rename_i hr
    cases hg
    have : G k = true := by
      cases h3 : G k with
      | true => rfl
      | false => exact absurd (h1.1 h3) hr
    exact ⟨by rw [this]; rfl, fun h9 => (by cases h9), fun _ => rfl⟩
end Go.Proofs.Ytahcjihhkmolpaa
