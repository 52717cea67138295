/- What the program's Races keeps: of each cell the accesses so far. -/
import Derived.Test.YtlopdjbehhdmpaaC10
namespace Go.Proofs.Ytlopdjbehhdmpaa
open Go.Vc Go.RowKit
def idxL (E : Nat → Ev) (j : Nat) (p : Int × Int) : List Nat := (List.range j).filter fun i => decide (acc (E i)) && ((E i).o == p.1 && (E i).n == p.2)
theorem idxL_succ (E : Nat → Ev) (j : Nat) (p : Int × Int) : idxL E (j + 1) p = idxL E j p ++ (if acc (E j) ∧ (E j).o = p.1 ∧ (E j).n = p.2 then [j] else []) := by
  unfold idxL
  rw [List.range_succ, List.filter_append]
  congr 1
  by_cases h : acc (E j) ∧ (E j).o = p.1 ∧ (E j).n = p.2
  · simp [h]
  · rw [if_neg h]
    simp only [List.filter_cons, List.filter_nil]
    rw [if_neg]
    simpa using h
theorem idxL_mem {E : Nat → Ev} {j i : Nat} {p : Int × Int} : i ∈ idxL E j p ↔ i < j ∧ acc (E i) ∧ (E i).o = p.1 ∧ (E i).n = p.2 := by
  unfold idxL; simp [List.mem_filter]
theorem idxL_len (E : Nat → Ev) (p : Int × Int) (j : Nat) : (idxL E j p).length ≤ j := by
  unfold idxL
  exact Nat.le_trans (List.length_filter_le _ _) (by simp)
theorem idxL_sorted (E : Nat → Ev) (p : Int × Int) (j : Nat) : (idxL E j p).Pairwise (· < ·) := List.Pairwise.filter _ List.pairwise_lt_range
def intV (L : List Nat) : List Value := L.map fun i : Nat => .int .i64 (i : Int)
theorem intV_len (L : List Nat) : (intV L).length = L.length := by simp [intV]
theorem intV_get {L : List Nat} {t i : Nat} (h : L[t]? = some i) : (intV L)[t]? = some (.int .i64 (i : Int)) := by simp [intV, h]
theorem intV_snoc (L : List Nat) (j : Nat) : intV (L ++ [j]) = intV L ++ [.int .i64 (j : Int)] := by simp [intV]
/-- No race before the first one that the list shows. -/
theorem first_of {E : Nat → Ev} {j s i : Nat} {p : Int × Int} (hp : p = ((E j).o, (E j).n)) (hno : ∀ t x, t < s → (idxL E j p)[t]? = some x → raceB E x j = false) (hs : (idxL E j p)[s]? = some i) : ∀ x, x < i → raceB E x j = false := by
  intro x hx
  cases hr : raceB E x j with
  | false => rfl
  | true =>
    have hij : i < j := (idxL_mem.1 (List.mem_of_getElem? hs)).1
    have hm : x ∈ idxL E j p := by
      unfold raceB at hr
      simp only [Bool.and_eq_true, decide_eq_true_eq] at hr
      obtain ⟨⟨⟨⟨⟨h1, h2⟩, h3⟩, h4, h5⟩, h6⟩, h7⟩ := hr
      exact idxL_mem.2 ⟨by omega, h1, by rw [hp]; exact h4, by rw [hp]; exact h5⟩
    obtain ⟨t, ht⟩ := List.mem_iff_getElem?.1 hm
    have hts : t < s := by
      apply Nat.lt_of_not_le
      intro hle
      have hts2 : t ≠ s := fun h => by subst h; rw [hs] at ht; cases ht; omega
      obtain ⟨h1, h2⟩ := List.getElem?_eq_some_iff.1 ht
      obtain ⟨h3, h4⟩ := List.getElem?_eq_some_iff.1 hs
      have := List.pairwise_iff_getElem.1 (idxL_sorted E p j) s t h3 h1 (by omega)
      omega
    rw [hno t x hts ht] at hr; cases hr
theorem none_of {E : Nat → Ev} {j : Nat} {p : Int × Int} (hp : p = ((E j).o, (E j).n)) (hno : ∀ t x, t < (idxL E j p).length → (idxL E j p)[t]? = some x → raceB E x j = false) : ∀ x, x < j → raceB E x j = false := by
  intro x hx
  cases hr : raceB E x j with
  | false => rfl
  | true =>
    have hm : x ∈ idxL E j p := by
      unfold raceB at hr
      simp only [Bool.and_eq_true, decide_eq_true_eq] at hr
      obtain ⟨⟨⟨⟨⟨h1, h2⟩, h3⟩, h4, h5⟩, h6⟩, h7⟩ := hr
      exact idxL_mem.2 ⟨hx, h1, by rw [hp]; exact h4, by rw [hp]; exact h5⟩
    obtain ⟨t, ht⟩ := List.mem_iff_getElem?.1 hm
    have := (List.getElem?_eq_some_iff.1 ht).1
    rw [hno t x this ht] at hr; cases hr
theorem racesL_none {E : Nat → Ev} {j : Nat} (h : ∀ x, x < j → raceB E x j = false) : racesL E (j + 1) = racesL E j := by
  simp only [racesL, firstOf_none h, optL, List.append_nil]
theorem racesL_some {E : Nat → Ev} {i j : Nat} (h : ∀ x, x < i → raceB E x j = false) (hi : raceB E i j = true) (hij : i < j) : racesL E (j + 1) = racesL E j ++ [(i, j)] := by
  simp only [racesL, firstOf_some h hi hij, optL]
theorem raceB_at {E : Nat → Ev} {i j : Nat} {p : Int × Int} (hp : p = ((E j).o, (E j).n)) (hj : acc (E j)) (hi : i ∈ idxL E j p) : raceB E i j = (decide ((E i).c ≠ (E j).c ∧ ((E i).k = 9 ∨ (E j).k = 9)) && !ahB E i j) := by
  obtain ⟨h1, h2, h3, h4⟩ := idxL_mem.1 hi
  rw [hp] at h3 h4
  simp only at h3 h4
  unfold raceB
  congr 1
  rw [decide_eq_decide]
  constructor
  · rintro ⟨⟨⟨_, h⟩, _⟩, h'⟩; exact ⟨h', h⟩
  · rintro ⟨h', h⟩; exact ⟨⟨⟨⟨h2, hj⟩, h⟩, h3, h4⟩, h'⟩
theorem noacc_none {E : Nat → Ev} {j : Nat} (h : ¬ acc (E j)) : ∀ x, x < j → raceB E x j = false := by
  intro x _
  unfold raceB
  rw [decide_eq_false (by rintro ⟨⟨⟨⟨_, h'⟩, _⟩, _⟩, _⟩; exact h h')]; rfl

/-! ### The map -/
structure OfAt (w : World) (B r : Nat) (E : Nat → Ev) (j : Nat) (A : Int × Int → Option Addr) (Cc : Int × Int → Nat) : Prop where
  map : ∃ Lm : List ((Int × Int) × Value), MapF w r pairV Lm ∧ ∀ p, lookL Lm p = (if idxL E j p = [] then none else some (.slice (A p) (idxL E j p).length (Cc p)))
  own : ∀ p, idxL E j p ≠ [] → Own w B 3 1 (A p) (idxL E j p).length (Cc p) (intV (idxL E j p))
theorem own_head {w : World} {B B' : Nat} {E : TypeId} {s s' : Nat} {a a' : Option Addr} {n n' c c' : Nat} {xs ys : List Value} {u v : Value} (h : Own w B E s a n c xs) (h' : Own w B' E s' a' n' c' ys) (hx : xs[0]? = some u) (hy : ys[0]? = some v) (hne : u ≠ v) : ab a ≠ ab a' := by
  intro hab
  have h1 := h.cell hx
  have h2 := h'.cell hy
  rw [hab, h2] at h1
  cases h1; exact hne rfl
theorem own_map {w : World} {B r : Nat} {E : TypeId} {s : Nat} {a : Option Addr} {n c : Nat} {xs : List Value} {α : Type} {κ : α → Value} {Lm : List (α × Value)} (h : Own w B E s a n c xs) (hM : MapF w r κ Lm) : some r ≠ Value.ownBlock (.slice a n c) := by
  intro hh
  cases a with
  | none => cases hh
  | some q =>
    simp only [Value.ownBlock, Option.some.injEq] at hh
    obtain ⟨cur, hc, _⟩ := h.row (by simp)
    exact hM.ne hc hh
theorem own_put {w : World} {B r : Nat} {E : TypeId} {s : Nat} {a : Option Addr} {n c : Nat} {xs : List Value} {α : Type} {κ : α → Value} {Lm : List (α × Value)} (h : Own w B E s a n c xs) (hM : MapF w r κ Lm) (o : Obj) : Own (putObj w r o) B E s a n c xs := by
  cases a with
  | none => exact World.ownsRow.kept h (grown_putObj w r o) (.inl rfl)
  | some q =>
    obtain ⟨cur, hc, _⟩ := h.row (by simp)
    exact h.grown (grown_putObj w r o) (by have := hM.ne hc; simpa using Ne.symm this)
theorem own_other {w w' : World} {B b : Nat} {E T : TypeId} {s : Nat} {a : Option Addr} {n c : Nat} {xs : List Value} {cs : Array Value} (h : Own w B E s a n c xs) (hg : w.grownBy w' (some b)) (hB : Blk w b cs T) (hT : T ≠ E) : Own w' B E s a n c xs := by
  cases a with
  | none => exact World.ownsRow.kept h hg (.inl rfl)
  | some q =>
    obtain ⟨cur, hc, _⟩ := h.row (by simp)
    exact h.grown hg (by have := hc.ne hB (Ne.symm hT); simpa using this)
theorem own_ty {w w' : World} {B B' : Nat} {E T : TypeId} {s s' : Nat} {a a' : Option Addr} {n n' c c' : Nat} {xs ys : List Value} (h : Own w B E s a n c xs) (h' : Own w B' T s' a' n' c' ys) (hg : w.grownBy w' (Value.ownBlock (.slice a' n' c'))) (hT : T ≠ E) : Own w' B E s a n c xs := by
  cases a with
  | none => exact World.ownsRow.kept h hg (.inl rfl)
  | some q =>
    obtain ⟨cur, hc, _⟩ := h.row (by simp)
    exact h.grown hg (neBlk h' hc (Ne.symm hT))
section
variable {w w' : World} {B r : Nat} {E : Nat → Ev} {j : Nat} {A : Int × Int → Option Addr} {Cc : Int × Int → Nat}
theorem OfAt.keep (h : OfAt w B r E j A Cc) (hb : Below w.heap.size w w') : OfAt w' B r E j A Cc :=
  ⟨let ⟨Lm, h1, h2⟩ := h.map; ⟨Lm, h1.keep hb, h2⟩, fun p hp => (h.own p hp).keep hb⟩
theorem OfAt.other (h : OfAt w B r E j A Cc) {b : Nat} {T : TypeId} {cs : Array Value} (hg : w.grownBy w' (some b)) (hB : Blk w b cs T) (hT : T ≠ 3) : OfAt w' B r E j A Cc :=
  ⟨let ⟨Lm, h1, h2⟩ := h.map; ⟨Lm, h1.grown hg (by have := h1.ne hB; simpa using this), h2⟩, fun p hp => own_other (h.own p hp) hg hB hT⟩
theorem OfAt.app (h : OfAt w B r E j A Cc) {B' : Nat} {T : TypeId} {s : Nat} {a : Option Addr} {n c : Nat} {ys : List Value} (hO : Own w B' T s a n c ys) (hg : w.grownBy w' (Value.ownBlock (.slice a n c))) (hT : T ≠ 3) : OfAt w' B r E j A Cc :=
  ⟨let ⟨Lm, h1, h2⟩ := h.map; ⟨Lm, h1.grown hg (own_map hO h1), h2⟩, fun p hp => own_ty (h.own p hp) hO hg hT⟩
theorem OfAt.start (w : World) (B : Nat) (E : Nat → Ev) : OfAt (w.alloc (.map #[] 0)) B w.heap.size E 0 (fun _ => none) (fun _ => 0) :=
  ⟨⟨[], MapF.made w pairV, fun _ => rfl⟩, fun p hp => absurd rfl hp⟩
theorem OfAt.at (h : OfAt w B r E j A Cc) (p : Int × Int) : ∃ Lm sa sc, MapF w r pairV Lm ∧ (lookL Lm p).getD (.slice none 0 0) = .slice sa (idxL E j p).length sc ∧ Own w B 3 1 sa (idxL E j p).length sc (intV (idxL E j p)) ∧
    (∀ q, lookL Lm q = (if idxL E j q = [] then none else some (.slice (A q) (idxL E j q).length (Cc q)))) ∧ (idxL E j p = [] → sa = none) := by
  obtain ⟨Lm, h1, h2⟩ := h.map
  by_cases hp : idxL E j p = []
  · exact ⟨Lm, none, 0, h1, by rw [h2, if_pos hp, hp]; rfl, by rw [hp]; exact Own.nil w B 3 1, h2, fun _ => rfl⟩
  · exact ⟨Lm, A p, Cc p, h1, by rw [h2, if_neg hp]; rfl, h.own p hp, h2, fun h => absurd h hp⟩
theorem OfAt.skip (h : OfAt w B r E j A Cc) (hj : ¬ acc (E j)) : OfAt w B r E (j + 1) A Cc := by
  have hi : ∀ p, idxL E (j + 1) p = idxL E j p := fun p => by rw [idxL_succ, if_neg (fun hh => hj hh.1), List.append_nil]
  exact ⟨let ⟨Lm, h1, h2⟩ := h.map; ⟨Lm, h1, fun p => by rw [h2, hi]⟩, fun p hp => by rw [hi] at hp ⊢; exact h.own p hp⟩
/-- One access more. -/
theorem OfAt.snoc (h : OfAt w B r E j A Cc) {p : Int × Int} (hp : p = ((E j).o, (E j).n)) (hj : acc (E j)) {Lm : List ((Int × Int) × Value)} {sa a' : Option Addr} {sc c2 t : Nat} {o o2 : Obj} {w3 : World}
    (hM : MapF w r pairV Lm) (hL : ∀ q, lookL Lm q = (if idxL E j q = [] then none else some (.slice (A q) (idxL E j q).length (Cc q)))) (hO : Own w B 3 1 sa (idxL E j p).length sc (intV (idxL E j p))) (hnil : idxL E j p = [] → sa = none)
    (hg : (putObj w r o).grownBy w3 (Value.ownBlock (.slice sa (idxL E j p).length sc))) (hB : MapB w3 r pairV (entL Lm p (.slice none 0 0)) p t) (hO3 : Own w3 B 3 1 a' ((idxL E j p).length + 1) c2 (intV (idxL E j p) ++ [.int .i64 (j : Int)]))
    (hM4 : MapF (putObj w3 r o2) r pairV (putL (entL Lm p (.slice none 0 0)) p (.slice a' ((idxL E j p).length + 1) c2))) :
    OfAt (putObj w3 r o2) B r E (j + 1) (fun q => if q = p then a' else A q) (fun q => if q = p then c2 else Cc q) := by
  have hip : idxL E (j + 1) p = idxL E j p ++ [j] := by rw [idxL_succ, if_pos ⟨hj, by rw [hp], by rw [hp]⟩]
  have hiq : ∀ q, q ≠ p → idxL E (j + 1) q = idxL E j q := fun q hq => by
    rw [idxL_succ, if_neg (fun hh => hq (by rw [hp]; exact Prod.ext hh.2.1.symm hh.2.2.symm)), List.append_nil]
  refine ⟨⟨_, hM4, fun q => ?_⟩, fun q hq => ?_⟩
  · rw [lookL_put]
    by_cases hqp : q = p
    · subst hqp
      rw [if_pos rfl, hip, if_neg (by simp)]
      simp
    · rw [if_neg hqp, lookL_ent, if_neg hqp, hL q, hiq q hqp]
      simp [hqp]
  · by_cases hqp : q = p
    · subst hqp
      rw [hip] at hq ⊢
      rw [intV_snoc]
      simp only [if_true, List.length_append, List.length_singleton]
      exact own_put hO3 hB.map o2
    · rw [hiq q hqp] at hq ⊢
      simp only [hqp, if_false]
      have h1 := h.own q hq
      have h2 := own_put h1 hM o
      refine own_put ?_ hB.map o2
      refine h2.grown hg ?_
      cases sa with
      | none => simp [Value.ownBlock]
      | some x =>
        have hne : idxL E j p ≠ [] := fun hh => by have := hnil hh; cases this
        obtain ⟨u, us, hu⟩ := List.exists_cons_of_ne_nil hne
        obtain ⟨v, vs, hv⟩ := List.exists_cons_of_ne_nil hq
        have hmu := idxL_mem.1 (show u ∈ idxL E j p by rw [hu]; simp)
        have hmv := idxL_mem.1 (show v ∈ idxL E j q by rw [hv]; simp)
        have := own_head h1 hO (u := .int .i64 (v : Int)) (v := .int .i64 (u : Int)) (intV_get (by rw [hv]; rfl)) (intV_get (by rw [hu]; rfl)) (by
          intro huv
          have : v = u := by simp at huv; omega
          subst this
          exact hqp (Prod.ext (hmv.2.2.1.symm.trans hmu.2.2.1) (hmv.2.2.2.symm.trans hmu.2.2.2)))
        show some (ab (A q)) ≠ some (ab (some x))
        simpa using this
end
end Go.Proofs.Ytlopdjbehhdmpaa
