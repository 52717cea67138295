/- Drawn regions: the operations that only look are carried out where they stand, the others one behind the other. A loop that is gone through a few times. -/
import Derived.Test.YtahcjihhkmolpaaVc14
namespace Go.Vc
open Go Go.RowKit

/-! ### Rounds -/
/-- So many rounds, then out. -/
def Rounds (P : Program) (n : Nat) (c : Code) (Q : Exit → Env → World → Prop) : Nat → Env → World → Prop
  | 0, _, _ => False
  | k + 1, e, w => W P n c (thenE (Rounds P n c Q k) Q) e w
theorem W.rounds {P : Program} {n : Nat} {c : Code} {Q : Exit → Env → World → Prop} {e : Env} {w : World} (k : Nat) (h : Rounds P n c Q k e w) : W P n (.loop c) Q e w := by
  refine W.loop (Rounds P n c Q) k h fun k e w h => ?_
  cases k with
  | zero => exact h.elim
  | succ k =>
    refine W.mono (fun x e w hx => ?_) h
    cases x with
    | normal => exact ⟨k, Nat.lt_succ_self k, hx⟩
    | _ => exact hx
theorem Rounds.go {P : Program} {n : Nat} {c : Code} {Q : Exit → Env → World → Prop} {e : Env} {w : World} {k : Nat} (h : W P n c (thenE (Rounds P n c Q k) Q) e w) : Rounds P n c Q (k + 1) e w := h

/-! ### Lookers and doers -/
/-- The walk: os: the operations ahead of the last ones, lookers as early as may be; ch: whether one is a doer; K: what holds of the world throughout. -/
def FL (P : Program) (n : Nat) (l0 : List Oper) (K : World → Prop) (ch : Nat → Bool) (Q : Env → World → Prop) : List Nat → Env → World → Prop
  | [], e, w => Q e w
  | i :: rest, e, w => ∃ o, l0[i]? = some o ∧ if ch i = true then L P n l0.toArray (fun x e' w' => x = .normal ∧ K w' ∧ FL P n l0 K ch Q rest e' w') [o] e w
    else ∃ v, ((Region.wanted o (yieldE l0.toArray e) = true ∧ ∀ w', K w' → (execOp (ev e) o).run P w' = .ok (.value v) w') ∨ (Region.wanted o (yieldE l0.toArray e) = false ∧ v = undef)) ∧ FL P n l0 K ch Q rest (updO e o.dst v) w
section
variable {P : Program} {n : Nat} {l0 : List Oper} {K : World → Prop} {ch : Nat → Bool} {Q : Env → World → Prop} {rest : List Nat} {e : Env} {w : World} {d : Nat} {op : Op} {ty : TypeId} {ps : String} {af : Array Edge} {v : Value} {i j : Nat} {want : Bool} {o : Oper}
theorem F.nil (h : Q e w) : FL P n l0 K ch Q [] e w := h
theorem F.va (hl : l0[i]? = some ⟨some d, op, ty, ps, af, none⟩) (hc : ch i = false) (hr : ∀ w', K w' → (execOp (ev e) ⟨some d, op, ty, ps, af, none⟩).run P w' = .ok (.value v) w') (k : FL P n l0 K ch Q rest (upd e d v) w) : FL P n l0 K ch Q (i :: rest) e w :=
  ⟨_, hl, by rw [if_neg (by simp [hc])]; exact ⟨v, .inl ⟨rfl, hr⟩, k⟩⟩
theorem F.on (hl : l0[i]? = some ⟨some d, op, ty, ps, af, some (j, want)⟩) (hc : ch i = false) (hw : yieldE l0.toArray e j = some want) (hr : ∀ w', K w' → (execOp (ev e) ⟨some d, op, ty, ps, af, some (j, want)⟩).run P w' = .ok (.value v) w') (k : FL P n l0 K ch Q rest (upd e d v) w) : FL P n l0 K ch Q (i :: rest) e w :=
  ⟨_, hl, by rw [if_neg (by simp [hc])]; exact ⟨v, .inl ⟨by simp [Region.wanted, hw], hr⟩, k⟩⟩
theorem F.off (hl : l0[i]? = some o) (hc : ch i = false) (hw : Region.wanted o (yieldE l0.toArray e) = false) (k : FL P n l0 K ch Q rest (updO e o.dst undef) w) : FL P n l0 K ch Q (i :: rest) e w :=
  ⟨_, hl, by rw [if_neg (by simp [hc])]; exact ⟨undef, .inr ⟨hw, rfl⟩, k⟩⟩
theorem F.doo (hl : l0[i]? = some o) (hc : ch i = true) (h : L P n l0.toArray (fun x e' w' => x = .normal ∧ K w' ∧ FL P n l0 K ch Q rest e' w') [o] e w) : FL P n l0 K ch Q (i :: rest) e w :=
  ⟨_, hl, by rw [if_pos hc]; exact h⟩
end
/-- Every operation stands behind what it waits for; a doer waits for none that stands behind it, and all behind it wait for it. pr: of these two doers the first one comes first. -/
def ordOk (l0 : List Oper) (k : Nat) (ch : Nat → Bool) (os : List Nat) (pr : List (Nat × Nat) := []) : Bool :=
  (List.range k).all (fun i => os.contains i) && (os.all fun i => Nat.blt i k) &&
  (List.range os.length).all fun b => match os[b]? with
    | none => false
    | some y => (match l0[y]? with | none => false | some o => o.after.all fun x => !Region.binds .any x || (os.take b).contains x.on) &&
      (List.range b).all fun a => match os[a]? with | none => false | some x => x != y && (!ch x || (befores l0 l0.length [y]).contains x || pr.any fun p => p.1 == x && (p.2 == y || (befores l0 l0.length [y]).contains p.2))
structure OrdOk (l0 : List Oper) (k : Nat) (ch : Nat → Bool) (os : List Nat) (V : (Nat → Bool) → Prop) : Prop where
  all : ∀ i, i < k → i ∈ os
  lt : ∀ i ∈ os, i < k
  topo : ∀ pre y suf, os = pre ++ y :: suf → ∃ o, l0[y]? = some o ∧ ∀ x ∈ o.after, Region.binds .any x = true → x.on ∈ pre
  nodup : ∀ pre y suf, os = pre ++ y :: suf → y ∉ pre
  wait : ∀ pre x mid y suf, os = pre ++ x :: mid ++ y :: suf → ch x = true → ∀ D, V D → D y = true → D x = true
theorem ordOk_of {l0 : List Oper} {k : Nat} {ch : Nat → Bool} {os : List Nat} {pr : List (Nat × Nat)} {V : (Nat → Bool) → Prop} (hdeps : ∀ D, V D → ∀ i o, l0[i]? = some o → D i = true → depsOn o D) (hpr : ∀ p ∈ pr, ∀ D, V D → D p.2 = true → D p.1 = true) (h : ordOk l0 k ch os pr = true) : OrdOk l0 k ch os V := by
  unfold ordOk at h
  simp only [Bool.and_eq_true] at h
  obtain ⟨⟨h1, h2⟩, h3⟩ := h
  have key : ∀ (b y : Nat), os[b]? = some y → (∃ o, l0[y]? = some o ∧ ∀ x ∈ o.after, Region.binds .any x = true → x.on ∈ os.take b) ∧ ∀ a x, a < b → os[a]? = some x → x ≠ y ∧ (ch x = true → (befores l0 l0.length [y]).contains x = true ∨ ∃ p ∈ pr, p.1 = x ∧ (p.2 = y ∨ (befores l0 l0.length [y]).contains p.2 = true)) := by
    intro b y hy
    have h4 := List.all_eq_true.1 h3 b (List.mem_range.2 (List.getElem?_eq_some_iff.1 hy).1)
    rw [hy] at h4
    simp only [Bool.and_eq_true] at h4
    obtain ⟨h5, h6⟩ := h4
    constructor
    · cases ho : l0[y]? with
      | none => rw [ho] at h5; cases h5
      | some o =>
        rw [ho] at h5
        refine ⟨o, rfl, fun x hx hb => ?_⟩
        simp only [Array.all_eq_true'] at h5
        have := h5 x hx
        rw [hb, Bool.not_true, Bool.false_or] at this
        exact List.contains_iff_mem.1 this
    · intro a x hab hx
      have h7 := List.all_eq_true.1 h6 a (List.mem_range.2 hab)
      rw [hx] at h7
      simp only [Bool.and_eq_true, bne_iff_ne, ne_eq, Bool.or_eq_true, Bool.not_eq_true'] at h7
      refine ⟨h7.1, fun hc => ?_⟩
      rcases h7.2 with (h8 | h8) | h8
      · rw [hc] at h8; cases h8
      · exact .inl h8
      · rw [List.any_eq_true] at h8
        obtain ⟨p, hp, h9⟩ := h8
        simp only [Bool.and_eq_true, beq_iff_eq, Bool.or_eq_true] at h9
        exact .inr ⟨p, hp, h9.1, h9.2⟩
  refine ⟨fun i hi => List.contains_iff_mem.1 (List.all_eq_true.1 h1 i (List.mem_range.2 hi)), fun i hi => by have := List.all_eq_true.1 h2 i hi; rwa [Nat.blt_eq] at this, ?_, ?_, ?_⟩
  · intro pre y suf he
    have hy : os[pre.length]? = some y := by rw [he]; simp
    obtain ⟨o, ho, h4⟩ := (key _ _ hy).1
    exact ⟨o, ho, fun x hx hb => by have := h4 x hx hb; rw [he] at this; simpa using this⟩
  · intro pre y suf he hin
    have hy : os[pre.length]? = some y := by rw [he]; simp
    obtain ⟨a, ha⟩ := List.mem_iff_getElem?.1 hin
    have hal := (List.getElem?_eq_some_iff.1 ha).1
    have hx : os[a]? = some y := by rw [he, List.getElem?_append_left hal]; exact ha
    exact ((key _ _ hy).2 a y hal hx).1 rfl
  · intro pre x mid y suf he hc
    have hy : os[(pre ++ x :: mid).length]? = some y := by rw [he, List.getElem?_append_right (Nat.le_refl _)]; simp
    have hx : os[pre.length]? = some x := by rw [he]; simp
    intro D hD hDy
    have hbd : ∀ z, (befores l0 l0.length [y]).contains z = true → D z = true := fun z hz => befores_done hdeps hD l0.length [y] (fun q hq => by simp at hq; rw [hq]; exact hDy) z (List.contains_iff_mem.1 hz)
    rcases ((key _ _ hy).2 pre.length x (by simp) hx).2 hc with h9 | ⟨p, hp, rfl, h9⟩
    · exact hbd x h9
    · refine hpr p hp D hD ?_
      rcases h9 with h9 | h9
      · rw [h9]; exact hDy
      · exact hbd _ h9

/-- The first k operations' own edges order what looks at a slot behind what writes it. -/
def ordKB (n : Nat) (ops : Array Oper) (k : Nat) : Bool :=
  (List.range ops.size).all fun i =>
    match ops[i]? with
    | none => false
    | some o =>
      dstB n o.dst && (o.after.all fun x => !Region.binds .any x || Nat.blt x.on i) &&
      (Nat.ble k i || (!(match o.op with | .select .. => true | _ => false) &&
      (List.range k).all fun j =>
        match ops[j]? with
        | none => true
        | some p =>
          match p.dst with
          | none => true
          | some t => (i == j || o.dst != some t) && (!(o.looksAt ops).contains t || o.after.any fun x => Region.binds .any x && x.on == j)))
structure OrdK (n : Nat) (ops : Array Oper) (k : Nat) : Prop where
  dst : ∀ (i : Nat) (o : Oper), ops[i]? = some o → dstB n o.dst = true
  sel : ∀ (i : Nat) (o : Oper), i < k → ops[i]? = some o → ∀ cs b, o.op ≠ .select cs b
  back : ∀ (i : Nat) (o : Oper), ops[i]? = some o → ∀ x ∈ o.after, Region.binds .any x = true → x.on < i
  one : ∀ (i j : Nat) (o p : Oper) (t : Nat), i < k → j < k → ops[i]? = some o → ops[j]? = some p → o.dst = some t → p.dst = some t → i = j
  look : ∀ (i j : Nat) (o p : Oper) (t : Nat), i < k → j < k → ops[i]? = some o → ops[j]? = some p → p.dst = some t → t ∈ o.looksAt ops → ∃ x ∈ o.after, Region.binds .any x = true ∧ x.on = j
theorem OrdK.bk {n : Nat} {ops : Array Oper} {k : Nat} (h : OrdK n ops k) : Bk n ops := ⟨h.dst, h.back⟩
theorem ordK_of {n : Nat} {ops : Array Oper} {k : Nat} (h : ordKB n ops k = true) : OrdK n ops k := by
  unfold ordKB at h
  have lt : ∀ {i : Nat} {o : Oper}, ops[i]? = some o → i < ops.size := fun h => (Array.getElem?_eq_some_iff.1 h).1
  have key : ∀ (i : Nat) (o : Oper), ops[i]? = some o → (dstB n o.dst = true ∧ (o.after.all fun x => !Region.binds .any x || Nat.blt x.on i) = true) ∧ (i < k → (!(match o.op with | .select .. => true | _ => false)) = true ∧
      ∀ (j : Nat) (p : Oper) (t : Nat), j < k → ops[j]? = some p → p.dst = some t → (i == j || o.dst != some t) = true ∧ (!(o.looksAt ops).contains t || o.after.any fun x => Region.binds .any x && x.on == j) = true) := by
    intro i o ho
    have h1 := List.all_eq_true.1 h i (List.mem_range.2 (lt ho))
    simp only [ho, Bool.and_eq_true] at h1
    refine ⟨h1.1, fun hik => ?_⟩
    have h2 := h1.2
    have h3 : Nat.ble k i = false := by
      cases hb : Nat.ble k i with
      | false => rfl
      | true => have := Nat.le_of_ble_eq_true hb; omega
    rw [h3, Bool.false_or, Bool.and_eq_true] at h2
    refine ⟨h2.1, fun j p t hj hp ht => ?_⟩
    have h4 := List.all_eq_true.1 h2.2 j (List.mem_range.2 hj)
    simp only [hp, ht, Bool.and_eq_true] at h4
    exact h4
  refine ⟨fun i o ho => (key i o ho).1.1, fun i o hi ho cs b he => ?_, fun i o ho x hx hb => ?_, fun i j o p t hi hj ho hp h1 h2 => ?_, fun i j o p t hi hj ho hp ht hl => ?_⟩
  · have := ((key i o ho).2 hi).1; rw [he] at this; cases this
  · have := (key i o ho).1.2
    rw [Array.all_eq_true'] at this
    have := this x hx
    simp only [hb, Bool.not_true, Bool.false_or, Nat.blt_eq] at this
    exact this
  · have := (((key i o ho).2 hi).2 j p t hj hp h2).1
    simp only [h1, bne_self_eq_false, Bool.or_false, beq_iff_eq] at this
    exact this
  · have := (((key i o ho).2 hi).2 j p t hj hp ht).2
    have hc : (o.looksAt ops).contains t = true := by simpa using hl
    rw [hc, Bool.not_true, Bool.false_or] at this
    obtain ⟨x, hx, hb⟩ := Array.any_eq_true'.1 this
    simp only [Bool.and_eq_true, beq_iff_eq] at hb
    exact ⟨x, hx, hb.1, hb.2⟩
theorem lin_suffix2 {n : Nat} {ops : Array Oper} {V : (Nat → Bool) → Prop} (h : Bk n ops) : ∀ {listed : Array Bool} {σ : List Nat}, Lin ops listed σ → ∀ (m : Nat), m ≤ ops.size → listed.size = ops.size → (∀ j, j < m → listed.getD j false = true) → (∀ j, m ≤ j → listed.getD j false = false) →
    (∀ D, V D → ∀ i, m ≤ i → i < ops.size → D i = true → ∀ j, j < i → D j = true) → (∀ τ ρ, σ = τ ++ ρ → V (fun j => listed.getD j false || τ.contains j)) → σ = List.range' m (ops.size - m) := by
  intro listed σ hlin
  induction hlin with
  | @nil listed hr =>
    intro m hms hs h1 h2 _ _
    have : ops.size ≤ m := by
      rcases Nat.lt_or_ge m ops.size with h3 | h3
      · have := ready_all2 h hs hr m h3
        rw [h2 m (Nat.le_refl _)] at this; cases this
      · exact h3
    rw [show ops.size - m = 0 by omega]; rfl
  | @cons listed i σ hi hl ih =>
    intro m hms hs h1 h2 hall hV
    obtain ⟨hli, o, ho, hdep⟩ := mem_ready.1 hi
    have hio : i < ops.size := (Array.getElem?_eq_some_iff.1 ho).1
    have hil : i < listed.size := by omega
    have hDi : listed.getD i false = false := by
      simp only [Array.getD_eq_getD_getElem?, hil, Array.getElem?_eq_getElem, Option.getD_some] at hli ⊢; exact hli
    have hmi : m ≤ i := by
      rcases Nat.lt_or_ge i m with h3 | h3
      · rw [h1 i h3] at hDi; cases hDi
      · exact h3
    have hVi := hV [i] σ rfl
    have him : i = m := by
      rcases Nat.lt_or_ge m i with h3 | h3
      · have := hall _ hVi i hmi hio (by simp) m h3
        simp only [h2 m (Nat.le_refl _), Bool.false_or] at this
        simp at this; omega
      · omega
    subst him
    rw [show ops.size - i = (ops.size - (i + 1)) + 1 by omega, List.range'_succ]
    congr 1
    refine ih (i + 1) (by omega) (by simp [hs]) (fun j hj => ?_) (fun j hj => ?_) (fun D hD j hj => hall D hD j (by omega)) (fun τ ρ hσ => ?_)
    · by_cases hji : i = j
      · subst hji; simp [hil]
      · rw [getD_set_ne false hji]; exact h1 j (by omega)
    · rw [getD_set_ne false (by omega)]; exact h2 j (by omega)
    · have := hV (i :: τ) ρ (by rw [hσ]; rfl)
      have e1 : (fun j => listed.getD j false || (i :: τ).contains j) = fun j => (listed.setIfInBounds i true).getD j false || τ.contains j := by
        funext j
        by_cases hj : i = j
        · subst hj; simp [hil]
        · rw [getD_set_ne false hj]
          simp [Ne.symm hj]
      rw [e1] at this; exact this
/-- Where the walk stands: pre has been looked through, suf has not; e0: the frame at the beginning; es: the walk's frame. -/
structure FI (P : Program) (n : Nat) (l0 : List Oper) (k : Nat) (K : World → Prop) (ch : Nat → Bool) (Q : Env → World → Prop) (os : List Nat) (e0 : Env) (D : Nat → Bool) (pre suf : List Nat) (e es : Env) (w : World) : Prop where
  cat : os = pre ++ suf
  fl : FL P n l0 K ch Q suf es w
  done : ∀ x ∈ pre, ch x = true → D x = true
  sub : ∀ j, j < k → D j = true → j ∈ pre
  kD : K w
  hit : ∀ j o t, j < k → l0[j]? = some o → o.dst = some t → D j = true → e t = es t
  miss : ∀ t, (∀ j o, j < k → l0[j]? = some o → o.dst = some t → D j = false) → e t = e0 t
  out : ∀ t, (∀ j o, l0[j]? = some o → j ∈ pre → o.dst ≠ some t) → es t = e0 t
  wait : ∀ j ∈ pre, D j = false → ∃ o E v, l0[j]? = some o ∧ (∀ t ∈ o.looksAt l0.toArray, E t = es t) ∧ (∀ t, o.dst = some t → es t = v) ∧
    ((Region.wanted o (yieldE l0.toArray E) = true ∧ ∀ w', K w' → (execOp (ev E) o).run P w' = .ok (.value v) w') ∨ (Region.wanted o (yieldE l0.toArray E) = false ∧ v = undef))
  rep : ∃ a, Rep n a es
section
variable {P : Program} {n : Nat} {l0 : List Oper} {k : Nat} {K : World → Prop} {ch : Nat → Bool} {Q : Env → World → Prop} {os : List Nat} {e0 : Env} {D : Nat → Bool} {V : (Nat → Bool) → Prop}
/-- A looker is looked through. -/
theorem FI.look (h : OrdK n l0.toArray k) (ho : OrdOk l0 k ch os V) {pre suf : List Nat} {i : Nat} {e es : Env} {w : World} (hI : FI P n l0 k K ch Q os e0 D pre (i :: suf) e es w) (hc : ch i = false) : ∃ es', FI P n l0 k K ch Q os e0 D (pre ++ [i]) suf e es' w := by
  obtain ⟨o, hl, hf⟩ := hI.fl
  rw [if_neg (by simp [hc])] at hf
  obtain ⟨v, hv, hf⟩ := hf
  have hla : l0.toArray[i]? = some o := by simpa using hl
  have hnot : D i = false := by
    cases hD : D i with
    | false => rfl
    | true => exact absurd (hI.sub i (ho.lt i (by rw [hI.cat]; simp)) hD) (ho.nodup pre i suf hI.cat)
  have hdst := h.dst i o hla
  have hik : i < k := ho.lt i (by rw [hI.cat]; simp)
  have hpk : ∀ j ∈ pre, j < k := fun j hj => ho.lt j (by rw [hI.cat]; exact List.mem_append_left _ hj)
  -- the slot is new
  have hnew : ∀ t, o.dst = some t → ∀ j p, j < k → l0[j]? = some p → p.dst = some t → j = i := fun t ht j p hj hp hpt => h.one j i p o t hj hik (by simpa using hp) hla hpt ht
  refine ⟨updO es o.dst v, ⟨by rw [hI.cat]; simp, hf, fun x hx hcx => ?_, fun j hj hD => List.mem_append_left _ (hI.sub j hj hD), hI.kD, fun j p t hjk hp ht hD => ?_, hI.miss, fun t hno => ?_, fun j hj hD => ?_, ?_⟩⟩
  · rcases List.mem_append.1 hx with hx | hx
    · exact hI.done x hx hcx
    · simp at hx; subst hx; rw [hc] at hcx; cases hcx
  · rw [hI.hit j p t hjk hp ht hD]
    cases hd : o.dst with
    | none => rfl
    | some d =>
      have : t ≠ d := fun hh => by
        have := hnew d hd j p hjk hp (by rw [ht, hh])
        subst this; rw [hnot] at hD; cases hD
      exact (upd_ne _ _ this).symm
  · cases hd : o.dst with
    | none => exact hI.out t (fun j p hp hj => hno j p hp (List.mem_append_left _ hj))
    | some d =>
      have : t ≠ d := fun hh => hno i o hl (List.mem_append_right _ (by simp)) (by rw [hd, hh])
      show upd es d v t = e0 t
      rw [upd_ne _ _ this]; exact hI.out t (fun j p hp hj => hno j p hp (List.mem_append_left _ hj))
  · rcases List.mem_append.1 hj with hjp | hj
    · obtain ⟨p, E, u, hp, hE, hu, hr⟩ := hI.wait j hjp hD
      have hne : ∀ t, (t ∈ p.looksAt l0.toArray ∨ p.dst = some t) → updO es o.dst v t = es t := by
        intro t ht
        cases hd : o.dst with
        | none => rfl
        | some d =>
          refine upd_ne _ _ (fun hh => ?_)
          subst hh
          rcases ht with ht | ht
          · obtain ⟨x, hx, hb, rfl⟩ := h.look j i p o t (hpk j hjp) hik (by simpa using hp) hla hd ht
            obtain ⟨q1, q2, hq⟩ := List.append_of_mem hjp
            obtain ⟨p', hp', htopo⟩ := ho.topo q1 j (q2 ++ x.on :: suf) (by rw [hI.cat, hq]; simp)
            obtain rfl : p' = p := Option.some.inj (hp'.symm.trans hp)
            have hin := htopo x hx hb
            exact ho.nodup pre x.on suf hI.cat (by rw [hq]; exact List.mem_append_left _ hin)
          · have := hnew t hd j p (hpk j hjp) hp ht
            subst this
            exact ho.nodup pre j suf hI.cat hjp
      exact ⟨p, E, u, hp, fun t ht => (hE t ht).trans (hne t (.inl ht)).symm, fun t ht => (hne t (.inr ht)).trans (hu t ht), hr⟩
    · simp at hj; subst hj
      refine ⟨o, es, v, hl, fun t ht => ?_, fun t ht => by rw [ht]; exact upd_same _ _ _, hv⟩
      cases hd : o.dst with
      | none => rfl
      | some d =>
        have hdt : t ≠ d := fun hh => by
          subst hh
          obtain ⟨x, hx, hb, he⟩ := h.look j j o o t hik hik hla hla hd ht
          have := h.back j o hla x hx hb
          omega
        exact (upd_ne es v hdt).symm
  · obtain ⟨a, ha⟩ := hI.rep
    exact ⟨_, ha.put hdst v⟩
/-- .. till a doer stands first. -/
theorem FI.norm (h : OrdK n l0.toArray k) (ho : OrdOk l0 k ch os V) : ∀ (suf pre : List Nat) {e es : Env} {w : World}, FI P n l0 k K ch Q os e0 D pre suf e es w → ∃ pre' suf' es', FI P n l0 k K ch Q os e0 D pre' suf' e es' w ∧ (suf' = [] ∨ ∃ c r, suf' = c :: r ∧ ch c = true)
  | [], pre, _, es, _, hI => ⟨pre, [], es, hI, .inl rfl⟩
  | i :: suf, pre, _, es, _, hI => by
    cases hc : ch i with
    | true => exact ⟨pre, i :: suf, es, hI, .inr ⟨i, suf, rfl, hc⟩⟩
    | false =>
      obtain ⟨es', hI'⟩ := hI.look h ho hc
      exact FI.norm h ho suf _ hI'
theorem FI.looks (h : OrdK n l0.toArray k) {pre suf : List Nat} {e es : Env} {w : World} (ho : OrdOk l0 k ch os V) (hI : FI P n l0 k K ch Q os e0 D pre suf e es w) {i : Nat} (hik : i < k) {o : Oper} (hl : l0[i]? = some o) (hdep : depsOn o D) : ∀ t ∈ o.looksAt l0.toArray, e t = es t := by
  intro t ht
  by_cases hex : ∃ (j : Nat) (p : Oper), j < k ∧ l0[j]? = some p ∧ p.dst = some t
  · obtain ⟨j, p, hj, hp, hd⟩ := hex
    obtain ⟨x, hx, hb, rfl⟩ := h.look i j o p t hik hj (by simpa using hl) (by simpa using hp) hd ht
    exact hI.hit x.on p t hj hp hd (hdep x hx hb)
  · rw [hI.miss t (fun j p hj hp hd => absurd ⟨j, p, hj, hp, hd⟩ hex), hI.out t (fun j p hp hj hd => hex ⟨j, p, ho.lt j (by rw [hI.cat]; exact List.mem_append_left _ hj), hp, hd⟩)]
end
theorem Rep.ext {n : Nat} {a : Act} {e e' : Env} (h : Rep n a e) (h' : Rep n a e') : e = e' := funext fun t => (h.get t).symm.trans (h'.get t)

theorem wpOps_FL {P : Program} {n : Nat} {l0 : List Oper} {k : Nat} {K : World → Prop} {ch : Nat → Bool} {Q : Env → World → Prop} {os : List Nat} {e0 : Env} {V : (Nat → Bool) → Prop} (h : OrdK n l0.toArray k) (ho : OrdOk l0 k ch os V) (hk : k ≤ l0.length)
    (hall : ∀ D, V D → ∀ i, k ≤ i → i < l0.toArray.size → D i = true → ∀ j, j < i → D j = true) (hdeps : ∀ D, V D → ∀ i o, l0[i]? = some o → D i = true → depsOn o D)
    {Q' : Exit → Act → World → Prop} (hQ : ∀ a w e, Rep n a e → Q e w → wpOps P l0.toArray Q' (List.range' k (l0.toArray.size - k)) a w) :
    ∀ {listed : Array Bool} {σ : List Nat}, Lin l0.toArray listed σ → (∀ τ ρ, σ = τ ++ ρ → V (fun j => listed.getD j false || τ.contains j)) →
      ∀ (a : Act) (e es : Env) (w : World) (pre suf : List Nat), listed.size = l0.toArray.size → (∀ j, k ≤ j → listed.getD j false = false) → Rep n a e → FI P n l0 k K ch Q os e0 (fun j => listed.getD j false) pre suf e es w → (suf = [] ∨ ∃ c r, suf = c :: r ∧ ch c = true) → wpOps P l0.toArray Q' σ a w := by
  -- the walk has come to its end where all ahead of k has been done
  have fin : ∀ {D : Nat → Bool} {e es : Env} {w : World} {pre suf : List Nat}, (∀ j, j < k → D j = true) → (∀ j, k ≤ j → D j = false) → FI P n l0 k K ch Q os e0 D pre suf e es w → (suf = [] ∨ ∃ c r, suf = c :: r ∧ ch c = true) → Q e w := by
    intro D e es w pre suf hD hD2 hI hs
    have hsuf : suf = [] := by
      rcases hs with hs | ⟨c, r, rfl, _⟩
      · exact hs
      · have hcl := ho.lt c (by rw [hI.cat]; simp)
        exact absurd (hI.sub c hcl (hD c hcl)) (ho.nodup pre c r hI.cat)
    subst hsuf
    have he : e = es := by
      funext t
      by_cases hex : ∃ (j : Nat) (p : Oper), j < k ∧ l0[j]? = some p ∧ p.dst = some t
      · obtain ⟨j, p, hj, hp, hd⟩ := hex
        exact hI.hit j p t hj hp hd (hD j hj)
      · rw [hI.miss t (fun j p hj hp hd => absurd ⟨j, p, hj, hp, hd⟩ hex), hI.out t (fun j p hp hj hd => hex ⟨j, p, ho.lt j (by rw [hI.cat]; simpa using hj), hp, hd⟩)]
    rw [he]; exact hI.fl
  intro listed σ hlin
  induction hlin with
  | @nil listed hr =>
    intro _ a e es w pre suf hs hkf ha hI hsf
    have hra := ready_all2 h.bk hs hr
    have hkl : l0.toArray.size ≤ k := by
      rcases Nat.lt_or_ge k l0.toArray.size with h3 | h3
      · have := hra k h3
        rw [hkf k (Nat.le_refl _)] at this; cases this
      · exact h3
    have := hQ a w e ha (fin (fun j hj => hra j (by simp; omega)) hkf hI hsf)
    rw [show l0.toArray.size - k = 0 by omega] at this
    exact this
  | @cons listed i σ hi hl ih =>
    intro hV a e es w pre suf hs hkf ha hI hsf
    have hi0 := hi
    obtain ⟨h1, o, hio', hdep⟩ := mem_ready.1 hi
    have hlo : l0[i]? = some o := by simpa using hio'
    have hio : i < l0.toArray.size := (Array.getElem?_eq_some_iff.1 hio').1
    have hil : i < listed.size := by omega
    have hDi : listed.getD i false = false := by
      simp only [Array.getD_eq_getD_getElem?, hil, Array.getElem?_eq_getElem, Option.getD_some] at h1 ⊢; exact h1
    have hVD : V (fun j => listed.getD j false) ∧ V (setD (fun j => listed.getD j false) i) := by
      constructor
      · have := hV [] (i :: σ) rfl
        have e1 : (fun j => listed.getD j false || ([] : List Nat).contains j) = fun j => listed.getD j false := funext fun j => by simp
        rw [e1] at this; exact this
      · have := hV [i] σ rfl
        have e1 : (fun j => listed.getD j false || ([i] : List Nat).contains j) = setD (fun j => listed.getD j false) i := funext fun j => by
          unfold setD
          by_cases hj : j = i
          · simp [hj]
          · simp [hj]
        rw [e1] at this; exact this
    by_cases hik : k ≤ i
    · have hothers : ∀ j, j < i → listed.getD j false = true := fun j hj => by
        have := hall _ hVD.2 i hik hio (by simp [setD]) j hj
        unfold setD at this
        rw [if_neg (by omega)] at this
        exact this
      have hki : i = k := by
        rcases Nat.lt_or_ge k i with h3 | h3
        · have := hothers k h3; rw [hkf k (Nat.le_refl _)] at this; cases this
        · omega
      subst hki
      rw [lin_suffix2 (V := V) h.bk (.cons hi0 hl) i (by omega) hs hothers (fun j hj => hkf j hj) hall hV]
      exact hQ a w e ha (fin hothers hkf hI hsf)
    · have hik : i < k := by omega
      have hV' : ∀ τ ρ, σ = τ ++ ρ → V (fun j => (listed.setIfInBounds i true).getD j false || τ.contains j) := by
        intro τ ρ hσ
        have := hV (i :: τ) ρ (by rw [hσ]; rfl)
        have e1 : (fun j => listed.getD j false || (i :: τ).contains j) = fun j => (listed.setIfInBounds i true).getD j false || τ.contains j := by
          funext j
          by_cases hj : i = j
          · subst hj; simp [hil]
          · rw [getD_set_ne false hj]
            simp [Ne.symm hj]
        rw [e1] at this; exact this
      have hkf' : ∀ j, k ≤ j → (listed.setIfInBounds i true).getD j false = false := fun j hj => by rw [getD_set_ne false (by omega)]; exact hkf j hj
      have hlk := hI.looks h ho hik hlo hdep
      have hset : (fun j => (listed.setIfInBounds i true).getD j false) = setD (fun j => listed.getD j false) i := setD_eq hil
      have hD1 : setD (fun j => listed.getD j false) i i = true := by simp [setD]
      have hDn : ∀ j, j ≠ i → setD (fun j => listed.getD j false) i j = listed.getD j false := fun j hj => by simp [setD, hj]
      have mem : i ∈ pre ∨ i ∈ suf := by have := ho.all i hik; rw [hI.cat] at this; exact List.mem_append.1 this
      rcases mem with hip | his
      · -- a looker, looked through ahead
        obtain ⟨o', E, v, hl', hE, hu, hr⟩ := hI.wait i hip hDi
        obtain rfl : o' = o := Option.some.inj (hl'.symm.trans hlo)
        have hEe : ∀ t ∈ o'.looksAt l0.toArray, e t = E t := fun t ht => (hlk t ht).trans (hE t ht).symm
        have hex := execOp_looks (h.sel i o' hik hio') hEe
        have hwa := wanted_looks hEe
        have next : wpOps P l0.toArray Q' σ (a.put o'.dst v) w := by
          refine ih hV' _ (updO e o'.dst v) es w pre suf (by simp [hs]) hkf' (ha.put (h.dst i o' hio') v) ?_ hsf
          rw [hset]
          refine ⟨hI.cat, hI.fl, fun x hx hc => ?_, fun j hj hD => ?_, hI.kD, fun j p t hjk hp ht hD => ?_, fun t hno => ?_, hI.out, fun j hj hD => ?_, hI.rep⟩
          · by_cases hxi : x = i
            · subst hxi; exact hD1
            · rw [hDn x hxi]; exact hI.done x hx hc
          · by_cases hji : j = i
            · subst hji; exact hip
            · rw [hDn j hji] at hD; exact hI.sub j hj hD
          · by_cases hji : j = i
            · subst hji
              obtain rfl : p = o' := Option.some.inj (hp.symm.trans hlo)
              rw [ht]
              exact (upd_same _ _ _).trans (hu t ht).symm
            · rw [hDn j hji] at hD
              cases hd : o'.dst with
              | none => exact hI.hit j p t hjk hp ht hD
              | some d =>
                have : t ≠ d := fun hh => hji (h.one j i p o' t hjk hik (by simpa using hp) hio' ht (by rw [hd, hh]))
                exact (upd_ne _ _ this).trans (hI.hit j p t hjk hp ht hD)
          · have hnt : o'.dst ≠ some t := fun hh => by have := hno i o' hik hlo hh; rw [hD1] at this; cases this
            have hm := hI.miss t (fun j p hjk hp hd => by
              have := hno j p hjk hp hd
              by_cases hji : j = i
              · subst hji; exact hDi
              · rwa [hDn j hji] at this)
            cases hd : o'.dst with
            | none => exact hm
            | some d => exact (upd_ne _ _ (fun hh => hnt (by rw [hd, hh]))).trans hm
          · have hji : j ≠ i := fun hh => by subst hh; rw [hD1] at hD; cases hD
            rw [hDn j hji] at hD
            exact hI.wait j hj hD
        rw [wpOps_cons]
        unfold wpOp
        simp only [hio']
        rw [wanted_rep ha, hwa]
        rcases hr with ⟨hw, hr⟩ | ⟨hw, hv⟩
        · rw [if_pos hw]
          refine .inl ?_
          unfold Oper.wp
          rw [ha.eval, hex, hr w hI.kD]
          exact next
        · rw [if_neg (by rw [hw]; simp), ← hv]; exact next
      · -- the doer that stands first
        rcases hsf with hsf | ⟨c, r, rfl, hc⟩
        · rw [hsf] at his; cases his
        have hic : i = c := by
          rcases List.mem_cons.1 his with h9 | h9
          · exact h9
          · exfalso
            obtain ⟨m1, m2, hm⟩ := List.append_of_mem h9
            have := ho.wait pre c m1 i m2 (by rw [hI.cat, hm]; simp) hc _ hVD.2 hD1
            have hci : c ≠ i := fun hh => by
              subst hh
              exact ho.nodup (pre ++ c :: m1) c m2 (by rw [hI.cat, hm]; simp) (by simp)
            rw [hDn c hci] at this
            exact ho.nodup pre c r hI.cat (hI.sub c (ho.lt c (by rw [hI.cat]; simp)) this)
        subst hic
        obtain ⟨o', hl', hf⟩ := hI.fl
        obtain rfl : o' = o := Option.some.inj (hl'.symm.trans hlo)
        rw [if_pos hc] at hf
        obtain ⟨as, has⟩ := hI.rep
        have hfa := hf (fun q hq => by simp at hq; subst hq; exact h.dst i q hio') as has
        have hex := execOp_looks (h.sel i o' hik hio') hlk
        have hwa := wanted_looks hlk
        have next : ∀ v w', K w' → FL P n l0 K ch Q r (updO es o'.dst v) w' → wpOps P l0.toArray Q' σ (a.put o'.dst v) w' := by
          intro v w' hK hfl
          have hI' : FI P n l0 k K ch Q os e0 (setD (fun j => listed.getD j false) i) (pre ++ [i]) r (updO e o'.dst v) (updO es o'.dst v) w' := by
            have hnew : ∀ t, o'.dst = some t → ∀ j p, j < k → l0[j]? = some p → p.dst = some t → j = i := fun t ht j p hjk hp hpt => h.one j i p o' t hjk hik (by simpa using hp) hio' hpt ht
            have hpk : ∀ j ∈ pre, j < k := fun j hj => ho.lt j (by rw [hI.cat]; exact List.mem_append_left _ hj)
            refine ⟨by rw [hI.cat]; simp, hfl, fun x hx hcx => ?_, fun j hj hD => ?_, hK, fun j p t hjk hp ht hD => ?_, fun t hno => ?_, fun t hno => ?_, fun j hj hD => ?_, ⟨_, has.put (h.dst i o' hio') v⟩⟩
            · by_cases hxi : x = i
              · subst hxi; exact hD1
              · rw [hDn x hxi]
                rcases List.mem_append.1 hx with hx | hx
                · exact hI.done x hx hcx
                · simp at hx; exact absurd hx hxi
            · by_cases hji : j = i
              · subst hji; simp
              · rw [hDn j hji] at hD; exact List.mem_append_left _ (hI.sub j hj hD)
            · by_cases hji : j = i
              · subst hji
                obtain rfl : p = o' := Option.some.inj (hp.symm.trans hlo)
                rw [ht]; exact (upd_same _ _ _).trans (upd_same _ _ _).symm
              · rw [hDn j hji] at hD
                cases hd : o'.dst with
                | none => exact hI.hit j p t hjk hp ht hD
                | some d =>
                  have : t ≠ d := fun hh => hji (hnew d hd j p hjk hp (by rw [ht, hh]))
                  show upd e d v t = upd es d v t
                  rw [upd_ne _ _ this, upd_ne _ _ this]; exact hI.hit j p t hjk hp ht hD
            · have hnt : o'.dst ≠ some t := fun hh => by have := hno i o' hik hlo hh; rw [hD1] at this; cases this
              have hm := hI.miss t (fun j p hjk hp hd => by
                have := hno j p hjk hp hd
                by_cases hji : j = i
                · subst hji; exact hDi
                · rwa [hDn j hji] at this)
              cases hd : o'.dst with
              | none => exact hm
              | some d => exact (upd_ne _ _ (fun hh => hnt (by rw [hd, hh]))).trans hm
            · have hnt : o'.dst ≠ some t := hno i o' hlo (by simp)
              have hm := hI.out t (fun j p hp hj => hno j p hp (List.mem_append_left _ hj))
              cases hd : o'.dst with
              | none => exact hm
              | some d => exact (upd_ne _ _ (fun hh => hnt (by rw [hd, hh]))).trans hm
            · have hji : j ≠ i := fun hh => by subst hh; rw [hD1] at hD; cases hD
              rw [hDn j hji] at hD
              have hjp : j ∈ pre := by
                rcases List.mem_append.1 hj with hj | hj
                · exact hj
                · simp at hj; exact absurd hj hji
              obtain ⟨p, E, u, hp, hE, hu, hr⟩ := hI.wait j hjp hD
              have hne : ∀ t, (t ∈ p.looksAt l0.toArray ∨ p.dst = some t) → updO es o'.dst v t = es t := by
                intro t ht
                cases hd : o'.dst with
                | none => rfl
                | some d =>
                  refine upd_ne _ _ (fun hh => ?_)
                  subst hh
                  rcases ht with ht | ht
                  · obtain ⟨x, hx, hb, rfl⟩ := h.look j i p o' t (hpk j hjp) hik (by simpa using hp) hio' hd ht
                    obtain ⟨q1, q2, hq⟩ := List.append_of_mem hjp
                    obtain ⟨p', hp', htopo⟩ := ho.topo q1 j (q2 ++ x.on :: r) (by rw [hI.cat, hq]; simp)
                    obtain rfl : p' = p := Option.some.inj (hp'.symm.trans hp)
                    have hin := htopo x hx hb
                    exact ho.nodup pre x.on r hI.cat (by rw [hq]; exact List.mem_append_left _ hin)
                  · exact hji (hnew t hd j p (hpk j hjp) hp ht)
              exact ⟨p, E, u, hp, fun t ht => (hE t ht).trans (hne t (.inl ht)).symm, fun t ht => (hne t (.inr ht)).trans (hu t ht), hr⟩
          obtain ⟨pre2, suf2, es2, hI2, hs2⟩ := FI.norm h ho r _ hI'
          exact ih hV' _ _ es2 w' pre2 suf2 (by simp [hs]) hkf' (ha.put (h.dst i o' hio') v) (by rw [hset]; exact hI2) hs2
        have nx : ∀ v w', lift n (fun x e' w' => x = Exit.normal ∧ K w' ∧ FL P n l0 K ch Q r e' w') .normal (as.put o'.dst v) w' → wpOps P l0.toArray Q' σ (a.put o'.dst v) w' := by
          rintro v w' ⟨e', hre, _, hK, hfl⟩
          have : e' = updO es o'.dst v := Rep.ext hre (has.put (h.dst i o' hio') v)
          rw [this] at hfl
          exact next v w' hK hfl
        rw [wpOps_cons]
        unfold wpOp
        simp only [hio']
        rw [wanted_rep ha, hwa]
        unfold wpList at hfa
        rw [wanted_rep has] at hfa
        split at hfa
        · rename_i hw
          rw [if_pos hw]
          refine .inl ?_
          rcases hfa with hfa | ⟨_, a9, w9, e9, _, h9, _⟩
          · unfold Oper.wp at hfa ⊢
            rw [has.eval] at hfa
            rw [ha.eval, hex]
            generalize (execOp (ev es) o').run P w = rr at hfa
            cases rr with
            | ok x w' =>
              cases x <;> simp only [Oper.upon] at hfa ⊢
              case value u => exact nx u w' hfa
              case skip => exact nx undef w' hfa
              case enter f args =>
                refine Calls.mono hfa fun x w'' hx => ?_
                cases x with
                | returned u => exact nx u w'' hx
                | panicked ch => obtain ⟨e9, _, h9, _⟩ := hx; cases h9
                | outgrown => obtain ⟨a9, w9, e9, _, h9, _⟩ := hx; cases h9
              case row row args => exact Rows.mono hfa fun u w'' hx => nx u w'' hx
              case defer d9 =>
                obtain ⟨e9, hre, _⟩ := hfa
                have := hre.defers
                simp [Act.put] at this
                cases hd : o'.dst <;> rw [hd] at this <;> simp at this
            | halt x w' =>
              cases x <;> simp only [Oper.upon] at hfa
              case panic v => obtain ⟨e9, _, h9, _⟩ := hfa; cases h9
          · cases h9
        · rename_i hw
          rw [if_neg hw]
          exact nx undef w hfa
/-- .. of a schedule. -/
theorem wp_FL {P : Program} {n : Nat} {l : List Oper} {Q : Exit → Env → World → Prop} {e : Env} {w : World} {k : Nat} {ch : Nat → Bool} {os : List Nat} {K : World → Prop} {σ : List Nat} (ho : OrdK n l.toArray k) (hA : sufB l k = true) (hkl : k ≤ l.length) (hoo : OrdOk l k ch os (Pre σ)) (hlin : Lin l.toArray (Array.replicate l.toArray.size false) σ) (hdeps : ∀ D, Pre σ D → ∀ i o, l[i]? = some o → D i = true → depsOn o D)
    (hK : K w) (h : FL P n l K ch (fun e' w' => L P n l.toArray Q (l.drop k) e' w') os e w) {a : Act} (ha : Rep n a e) : wpOps P l.toArray (lift n Q) σ a w := by
  have h0 : FI P n l k K ch (fun e' w' => L P n l.toArray Q (l.drop k) e' w') os e (fun j => (Array.replicate l.toArray.size false).getD j false) [] os e e w :=
    ⟨rfl, h, (fun x hx => by cases hx), (fun j _ hD => absurd hD (by rw [getD_replicate_false']; simp)), hK, (fun j o t _ _ _ hD => absurd hD (by rw [getD_replicate_false']; simp)), (fun t _ => rfl), (fun t _ => rfl), (fun j hj => by cases hj), ⟨a, ha⟩⟩
  obtain ⟨pre, suf, es, hI, hs⟩ := FI.norm ho hoo _ _ h0
  refine wpOps_FL (V := Pre σ) ho hoo hkl (fun D hD i hki hil => sufB_all hA hdeps hD i hki (by simpa using hil)) hdeps (fun a' w' e' ha' hq => ?_) hlin ?_ a e es _ pre suf (by simp) (fun j _ => getD_replicate_false' _ _) ha hI hs
  · have h4 := hq (fun o' ho' => by
      obtain ⟨i, hi⟩ := List.mem_iff_getElem?.1 ho'
      rw [List.getElem?_drop] at hi
      exact ho.dst (k + i) o' (by simpa using hi)) a' ha'
    have h5 := wpOps_eq_wpList (P := P) (ops := l.toArray) (Q := lift n Q) (l.drop k) k (fun j => by rw [List.getElem?_drop]; simp)
    rw [List.length_drop] at h5
    have h6 : l.toArray.size - k = l.length - k := by simp
    rw [h6, h5]
    exact h4
  · intro τ ρ hσ
    exact ⟨τ, ρ, hσ, fun k => by show ((Array.replicate l.toArray.size false).getD k false || τ.contains k) = true ↔ _; rw [getD_replicate_false']; simp⟩
theorem lin_deps {l : List Oper} {σ : List Nat} (hlin : Lin l.toArray (Array.replicate l.toArray.size false) σ) : ∀ D, Pre σ D → ∀ i o, l[i]? = some o → D i = true → depsOn o D := by
  have hclosed := lin_closed hlin (fun i o _ hi => by rw [getD_replicate_false'] at hi; cases hi) (by simp)
  rintro D ⟨τ, ρ, hσ, hD⟩ i o hi hDi x hx hb
  have := hclosed τ ρ hσ i o (by simpa using hi) (.inr ((hD i).1 hDi)) x hx hb
  rcases this with h1 | h1
  · rw [getD_replicate_false'] at h1; cases h1
  · exact (hD _).2 h1
/-- A drawn region: lookers in their order, doers one behind the other, and the last operations behind all. -/
theorem W.fl {P : Program} {n : Nat} {id : Nat} {l : List Oper} {Q : Exit → Env → World → Prop} {e : Env} {w : World} (k : Nat) (ch : List Nat) (os : List Nat) (K : World → Prop) (hm : P.follows .mixedOrders = true) (hB : ordKB n l.toArray k = true) (hA : sufB l k = true) (hk : Nat.ble k l.length = true) (hO : ordOk l k (fun i => ch.contains i) os = true)
    (hK : K w.drew) (h : FL P n l K (fun i => ch.contains i) (fun e' w' => L P n l.toArray Q (l.drop k) e' w') os e w.drew) : W P n (.region id l.toArray true) Q e w := by
  intro a ha
  refine wp_region_draw fun t => ?_
  simp only [Region.schedule, hm, Bool.true_or, if_true]
  have hlin := lin_go l.toArray l.toArray.size t (Array.replicate l.toArray.size false) (by simp) (by simp)
  unfold Region.linearise
  generalize Region.linearise.go .any l.toArray l.toArray.size t (Array.replicate l.toArray.size false) [] = σ at hlin ⊢
  exact wp_FL (ordK_of hB) hA (Nat.le_of_ble_eq_true hk) (ordOk_of (lin_deps hlin) (fun p hp => by cases hp) hO) hlin (lin_deps hlin) hK h ha
/-- .. two of whose doers, x and y, do not wait for one another: either may come first. -/
theorem W.fl2 {P : Program} {n : Nat} {id : Nat} {l : List Oper} {Q : Exit → Env → World → Prop} {e : Env} {w : World} (k : Nat) (ch : List Nat) (x y : Nat) (os os2 : List Nat) (K : World → Prop) (hm : P.follows .mixedOrders = true) (hB : ordKB n l.toArray k = true) (hA : sufB l k = true) (hk : Nat.ble k l.length = true) (hO : ordOk l k (fun i => ch.contains i) os [(x, y)] = true) (hO2 : ordOk l k (fun i => ch.contains i) os2 [(y, x)] = true)
    (hK : K w.drew) (h : FL P n l K (fun i => ch.contains i) (fun e' w' => L P n l.toArray Q (l.drop k) e' w') os e w.drew) (h2 : FL P n l K (fun i => ch.contains i) (fun e' w' => L P n l.toArray Q (l.drop k) e' w') os2 e w.drew) : W P n (.region id l.toArray true) Q e w := by
  intro a ha
  refine wp_region_draw fun t => ?_
  simp only [Region.schedule, hm, Bool.true_or, if_true]
  have hlin := lin_go l.toArray l.toArray.size t (Array.replicate l.toArray.size false) (by simp) (by simp)
  unfold Region.linearise
  generalize Region.linearise.go .any l.toArray l.toArray.size t (Array.replicate l.toArray.size false) [] = σ at hlin ⊢
  by_cases hxy : ∀ D, Pre σ D → D y = true → D x = true
  · exact wp_FL (ordK_of hB) hA (Nat.le_of_ble_eq_true hk) (ordOk_of (lin_deps hlin) (fun p hp => by simp at hp; subst hp; exact hxy) hO) hlin (lin_deps hlin) hK h ha
  · have hyx : ∀ D, Pre σ D → D x = true → D y = true := by
      intro D hD hDx
      cases hDy : D y with
      | true => rfl
      | false =>
        exfalso
        refine hxy fun D' hD' hy' => ?_
        rcases hD.chain hD' with h9 | h9
        · exact h9 x hDx
        · have := h9 y hy'; rw [hDy] at this; cases this
    exact wp_FL (ordK_of hB) hA (Nat.le_of_ble_eq_true hk) (ordOk_of (lin_deps hlin) (fun p hp => by simp at hp; subst hp; exact hyx) hO2) hlin (lin_deps hlin) hK h2 ha
end Go.Vc
