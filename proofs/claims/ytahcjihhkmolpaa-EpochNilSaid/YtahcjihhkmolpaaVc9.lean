/- Drawn regions whose last operation does as it likes; more operations: pointers of either kind, atomic pointers, slices of three bounds, copy, function values, structs compared. -/
import Derived.Test.YtahcjihhkmolpaaVc8
import Derived.Laws.LoneSync
import Derived.Laws.StructEq
import Derived.Laws.Pointers
namespace Go.Vc
open Go Go.RowKit

/-! ### Drawn regions -/
section
variable {P : Program} {ops : Array Oper} {V : (Nat → Bool) → Prop} {J : (Nat → Bool) → World → Prop} {n : Nat}

theorem lin_suffix (h : Ord n ops) : ∀ {listed : Array Bool} {σ : List Nat}, Lin ops listed σ → ∀ (m : Nat), m ≤ ops.size → listed.size = ops.size → (∀ j, j < m → listed.getD j false = true) → (∀ j, m ≤ j → listed.getD j false = false) →
    (∀ D, V D → ∀ i, m ≤ i → i < ops.size → D i = true → ∀ j, j < i → D j = true) → (∀ τ ρ, σ = τ ++ ρ → V (fun j => listed.getD j false || τ.contains j)) → σ = List.range' m (ops.size - m) := by
  intro listed σ hlin
  induction hlin with
  | @nil listed hr =>
    intro m hms hs h1 h2 _ _
    have : ops.size ≤ m := by
      rcases Nat.lt_or_ge m ops.size with h3 | h3
      · have := ready_all h hs hr m h3
        rw [h2 m (Nat.le_refl _)] at this; cases this
      · exact h3
    rw [show ops.size - m = 0 by omega]; rfl
  | @cons listed i σ hi hl ih =>
    intro m hms hs h1 h2 hall hV
    obtain ⟨hli, o, ho, hdep⟩ := mem_ready.1 hi
    have hio : i < ops.size := (Array.getElem?_eq_some_iff.1 ho).1
    have hil : i < listed.size := by omega
    have hDi : listed.getD i false = false := by
      simp only [Array.getD_eq_getD_getElem?, hil, Array.getElem?_eq_getElem, Option.getD_some] at hli ⊢; exact hli
    have hmi : m ≤ i := by
      rcases Nat.lt_or_ge i m with h3 | h3
      · rw [h1 i h3] at hDi; cases hDi
      · exact h3
    have hVi := hV [i] σ rfl
    have him : i = m := by
      rcases Nat.lt_or_ge m i with h3 | h3
      · have := hall _ hVi i hmi hio (by simp) m h3
        simp only [h2 m (Nat.le_refl _), Bool.false_or] at this
        simp at this; omega
      · omega
    subst him
    rw [show ops.size - i = (ops.size - (i + 1)) + 1 by omega, List.range'_succ]
    congr 1
    refine ih (i + 1) (by omega) (by simp [hs]) (fun j hj => ?_) (fun j hj => ?_) (fun D hD j hj => hall D hD j (by omega)) (fun τ ρ hσ => ?_)
    · by_cases hji : i = j
      · subst hji; simp [hil]
      · rw [getD_set_ne false hji]; exact h1 j (by omega)
    · rw [getD_set_ne false (by omega)]; exact h2 j (by omega)
    · have := hV (i :: τ) ρ (by rw [hσ]; rfl)
      have e1 : (fun j => listed.getD j false || (i :: τ).contains j) = fun j => (listed.setIfInBounds i true).getD j false || τ.contains j := by
        funext j
        by_cases hj : i = j
        · subst hj; simp [hil]
        · rw [getD_set_ne false hj]
          simp [Ne.symm hj]
      rw [e1] at this; exact this

theorem wpOps_JL (h : Ord n ops) {e0 : Env} {vals : Nat → Value} {k : Nat} (hk : k < ops.size) (hloc : ∀ i o, i < k → ops[i]? = some o → Loc P ops V J i o (EE e0 ops.toList vals i) (vals i))
    (hall : ∀ D, V D → ∀ i, k ≤ i → i < ops.size → D i = true → ∀ j, j < i → D j = true)
    {Q : Exit → Act → World → Prop} (hQ : ∀ a w D, Rep n a (EE e0 ops.toList vals k) → (∀ i, i < k → D i = true) → J D w → wpOps P ops Q (List.range' k (ops.size - k)) a w) :
    ∀ {listed : Array Bool} {σ : List Nat}, Lin ops listed σ → (∀ τ ρ, σ = τ ++ ρ → V (fun j => listed.getD j false || τ.contains j)) →
      ∀ (a : Act) (e : Env) (w : World), listed.size = ops.size → (∀ j, k ≤ j → listed.getD j false = false) → Rep n a e → Mid ops e0 vals listed e → J (fun j => listed.getD j false) w → wpOps P ops Q σ a w := by
  intro listed σ hlin
  induction hlin with
  | @nil listed hr =>
    intro _ a e w hs hkf ha hm hJ
    have := ready_all h hs hr k (by omega)
    rw [hkf k (Nat.le_refl _)] at this; cases this
  | @cons listed i σ hi hl ih =>
    intro hV a e w hs hkf ha hm hJ
    have hi0 := hi
    obtain ⟨h1, o, ho, hdep⟩ := mem_ready.1 hi
    have hio : i < ops.size := (Array.getElem?_eq_some_iff.1 ho).1
    have hil : i < listed.size := by omega
    have hDi : (fun j => listed.getD j false) i = false := by
      show listed.getD i false = false
      simp only [Array.getD_eq_getD_getElem?, hil, Array.getElem?_eq_getElem, Option.getD_some] at h1 ⊢; exact h1
    have hVD : V (fun j => listed.getD j false) := by
      have := hV [] (i :: σ) rfl
      have e1 : (fun j => listed.getD j false || ([] : List Nat).contains j) = fun j => listed.getD j false := funext fun j => by simp
      rw [e1] at this; exact this
    have hVD : V (fun j => listed.getD j false) ∧ V (setD (fun j => listed.getD j false) i) := by
      refine ⟨hVD, ?_⟩
      have := hV [i] σ rfl
      have e1 : (fun j => listed.getD j false || ([i] : List Nat).contains j) = setD (fun j => listed.getD j false) i := funext fun j => by
        unfold setD
        by_cases hj : j = i
        · simp [hj]
        · simp [hj]
      rw [e1] at this; exact this
    by_cases hik : k ≤ i
    · have hothers : ∀ j, j < i → listed.getD j false = true := fun j hj => by
        have := hall _ hVD.2 i hik hio (by simp [setD]) j hj
        unfold setD at this
        rw [if_neg (by omega)] at this
        exact this
      have hki : i = k := by
        rcases Nat.lt_or_ge k i with h3 | h3
        · have := hothers k h3; rw [hkf k (Nat.le_refl _)] at this; cases this
        · omega
      subst hki
      have hσ := lin_suffix (V := V) h (.cons hi0 hl) i (by omega) hs hothers (fun j hj => hkf j hj) hall hV
      rw [hσ]
      have he : e = EE e0 ops.toList vals i := by
        funext t
        have hlz : ∀ j : Nat, ops.toList[j]? = ops[j]? := fun j => by rw [Array.getElem?_toList]
        by_cases hex : ∃ (j : Nat) (p : Oper), j < i ∧ ops[j]? = some p ∧ p.dst = some t
        · obtain ⟨j, p, hj, hp, hd⟩ := hex
          rw [hm.hit j p t hp hd (hothers j hj)]
          exact (EE_hit e0 ops.toList vals t j p (by rw [hlz]; exact hp) hd (fun i' p' hp' hd' => h.one i' j p' p t (by rw [← hlz]; exact hp') hp hd' hd) _ hj).symm
        · rw [hm.miss t (fun j p hp hd => by
            rcases Nat.lt_or_ge j i with h3 | h3
            · exact absurd ⟨j, p, h3, hp, hd⟩ hex
            · exact hkf j h3)]
          exact (EE_miss e0 ops.toList vals t _ (fun j p hj hp hd => hex ⟨j, p, hj, by rw [← hlz]; exact hp, hd⟩)).symm
      subst he
      exact hQ a w _ ha hothers hJ
    · have hlk := looks_eq h hm ho hdep
      have hex := execOp_looks (h.sel i o ho) hlk
      have hwa := wanted_looks hlk
      have hV' : ∀ τ ρ, σ = τ ++ ρ → V (fun j => (listed.setIfInBounds i true).getD j false || τ.contains j) := by
        intro τ ρ hσ
        have := hV (i :: τ) ρ (by rw [hσ]; rfl)
        have e1 : (fun j => listed.getD j false || (i :: τ).contains j) = fun j => (listed.setIfInBounds i true).getD j false || τ.contains j := by
          funext j
          by_cases hj : i = j
          · subst hj; simp [hil]
          · rw [getD_set_ne false hj]
            simp [Ne.symm hj]
        rw [e1] at this; exact this
      have next : ∀ w', J (setD (fun j => listed.getD j false) i) w' → wpOps P ops Q σ (a.put o.dst (vals i)) w' := by
        intro w' hJ'
        refine ih hV' _ _ w' (by simp [hs]) (fun j hj => by rw [getD_set_ne false (by omega)]; exact hkf j hj) (ha.put (h.dst i o ho) (vals i)) (hm.step h ho hil) ?_
        rw [setD_eq hil]; exact hJ'
      rw [wpOps_cons]
      unfold wpOp
      simp only [ho]
      rw [wanted_rep ha, hwa]
      rcases hloc i o (by omega) ho with ⟨hw, hl⟩ | ⟨hw, hv, hl⟩
      · rw [if_pos hw]
        refine .inl ?_
        have hl' := hl (fun j => listed.getD j false) w hDi hVD hdep hJ
        unfold Oper.wp
        rw [ha.eval, hex]
        generalize (execOp (ev (EE e0 ops.toList vals i)) o).run P w = r at hl'
        cases r with
        | ok x w' =>
          cases x <;> simp only [LocRun] at hl' <;> simp only [Oper.upon]
          case value u => rw [hl'.1]; exact next w' hl'.2
          case skip => rw [← hl'.1]; exact next w' hl'.2
          case enter f args =>
            refine Calls.mono hl' fun x w'' hx => ?_
            cases x with
            | returned u => rw [hx.1]; exact next w'' hx.2
            | panicked ch => exact hx.elim
            | outgrown => exact hx.elim
        | halt x w' => simp only [LocRun] at hl'
      · rw [if_neg (by rw [hw]; simp)]
        rw [← hv]
        exact next w (hl (fun j => listed.getD j false) w hDi hVD hdep hJ)

/-- Each operation from k on waits for all that stand ahead of it. -/
def sufB (l : List Oper) (k : Nat) : Bool := (List.range l.length).all fun i => Nat.blt i k || (List.range i).all fun j => (befores l l.length [i]).contains j
theorem sufB_all {l : List Oper} {k : Nat} (h : sufB l k = true) {V : (Nat → Bool) → Prop} (hV : ∀ D, V D → ∀ i o, l[i]? = some o → D i = true → depsOn o D) {D : Nat → Bool} (hD : V D) : ∀ i, k ≤ i → i < l.length → D i = true → ∀ j, j < i → D j = true := by
  intro i hki hil hDi j hj
  unfold sufB at h
  have h1 := List.all_eq_true.1 h i (List.mem_range.2 hil)
  have h2 : Nat.blt i k = false := by
    cases hb : Nat.blt i k with
    | false => rfl
    | true => rw [Nat.blt_eq] at hb; omega
  rw [h2, Bool.false_or] at h1
  have h3 := List.all_eq_true.1 h1 j (List.mem_range.2 hj)
  exact befores_done hV hD l.length [i] (fun x hx => by simp at hx; rw [hx]; exact hDi) j (List.contains_iff_mem.1 h3)

/-- A drawn region whose last operations stand one behind the other, behind all others: those do as they like. -/
theorem W.drawsL {id : Nat} {l : List Oper} {Q : Exit → Env → World → Prop} {e : Env} {w : World} (k : Nat) (hm : P.follows .mixedOrders = true) (hB : ordB n l.toArray = true) (hA : sufB l k = true) (hk : Nat.blt k l.length = true)
    (h : ∀ V : (Nat → Bool) → Prop, (∀ D D', V D → V D' → (∀ k, D k = true → D' k = true) ∨ (∀ k, D' k = true → D k = true)) → (∀ D, V D → ∀ i o, l[i]? = some o → D i = true → depsOn o D) →
      ∃ J : (Nat → Bool) → World → Prop, J (fun _ => false) w.drew ∧ JL P l.toArray V J (fun e' => ∀ D w', (∀ i, i < k → D i = true) → J D w' → L P n l.toArray Q (l.drop k) e' w') 0 (l.take k) e) : W P n (.region id l.toArray true) Q e w := by
  intro a ha
  have ho := ord_of hB
  have hkl : k < l.length := by rw [Nat.blt_eq] at hk; exact hk
  refine wp_region_draw fun t => ?_
  simp only [Region.schedule, hm, Bool.true_or, if_true]
  have hlin := lin_go l.toArray l.toArray.size t (Array.replicate l.toArray.size false) (by simp) (by simp)
  unfold Region.linearise
  generalize Region.linearise.go .any l.toArray l.toArray.size t (Array.replicate l.toArray.size false) [] = σ at hlin ⊢
  have hclosed := lin_closed hlin (fun i o _ hi => by rw [getD_replicate_false'] at hi; cases hi) (by simp)
  have hdeps : ∀ D, Pre σ D → ∀ i o, l[i]? = some o → D i = true → depsOn o D := by
    rintro D ⟨τ, ρ, hσ, hD⟩ i o hi hDi x hx hb
    have := hclosed τ ρ hσ i o (by simpa using hi) (.inr ((hD i).1 hDi)) x hx hb
    rcases this with h1 | h1
    · rw [getD_replicate_false'] at h1; cases h1
    · exact (hD _).2 h1
  obtain ⟨J, hJ, hjl⟩ := h (Pre σ) (fun D D' h1 h2 => h1.chain h2) hdeps
  obtain ⟨vals, h1, h2⟩ := JL.collect (l.take k) 0 e hjl
  have hEE : ∀ j, j ≤ k → EE e (l.take k) vals j = EE e l vals j := by
    intro j
    induction j with
    | zero => intro _; rfl
    | succ j ih =>
      intro hj
      simp only [EE, ih (by omega)]
      rw [List.getElem?_take_of_lt (by omega)]
  have hlt : (l.take k).length = k := by simp; omega
  refine wpOps_JL (V := Pre σ) (J := J) ho (e0 := e) (vals := vals) (k := k) (by simpa using hkl) (fun i o' hi ho' => ?_) (fun D hD i hki hil => sufB_all hA hdeps hD i hki (by simpa using hil)) (fun a' w' D ha' hD hJ' => ?_) hlin ?_ a e _ (by simp) (fun j _ => getD_replicate_false' _ _) ha ⟨fun j o t _ _ hl => ?_, fun t _ => rfl⟩ ?_
  · have := h1 i o' (by rw [List.getElem?_take_of_lt hi]; simpa using ho')
    rw [hEE i (by omega)] at this
    simpa using this
  · rw [hlt, hEE k (Nat.le_refl _)] at h2
    have h3 := h2 D w' hD hJ'
    have h4 := h3 (fun o' ho' => by
      obtain ⟨i, hi⟩ := List.mem_iff_getElem?.1 ho'
      rw [List.getElem?_drop] at hi
      exact ho.dst (k + i) o' (by simpa using hi)) a' (by simpa using ha')
    have h5 := wpOps_eq_wpList (P := P) (ops := l.toArray) (Q := lift n Q) (l.drop k) k (fun j => by rw [List.getElem?_drop]; simp)
    rw [List.length_drop] at h5
    have h6 : l.toArray.size - k = l.length - k := by simp
    rw [h6, h5]
    exact h4
  · intro τ ρ hσ
    exact ⟨τ, ρ, hσ, fun k => by show ((Array.replicate l.toArray.size false).getD k false || τ.contains k) = true ↔ _; rw [getD_replicate_false']; simp⟩
  · rw [getD_replicate_false'] at hl; cases hl
  · have : (fun k => (Array.replicate l.toArray.size false).getD k false) = fun _ => false := funext fun k => getD_replicate_false' _ _
    rw [this]; exact hJ
/-- The others leave a class of worlds alone. -/
theorem W.lastL {id : Nat} {l : List Oper} {Q : Exit → Env → World → Prop} {e : Env} {w : World} (k : Nat) (Cl : World → Prop) (hm : P.follows .mixedOrders = true) (hB : ordB n l.toArray = true) (hA : sufB l k = true) (hk : Nat.blt k l.length = true)
    (hC : Cl w.drew) (h : QL P l.toArray Cl (fun e' => ∀ w', Cl w' → L P n l.toArray Q (l.drop k) e' w') 0 (l.take k) e) : W P n (.region id l.toArray true) Q e w := by
  refine W.drawsL k hm hB hA hk fun V _ _ => ⟨fun _ => Cl, hC, ?_⟩
  have mono : ∀ (l' : List Oper) (i : Nat) (e : Env), JL P l.toArray V (fun _ => Cl) (fun e' => ∀ w', Cl w' → L P n l.toArray Q (l.drop k) e' w') i l' e → JL P l.toArray V (fun _ => Cl) (fun e' => ∀ (D : Nat → Bool) w', (∀ i, i < k → D i = true) → Cl w' → L P n l.toArray Q (l.drop k) e' w') i l' e := by
    intro l'
    induction l' with
    | nil => exact fun i e h _ w' _ hw => h w' hw
    | cons o l' ih => exact fun i e ⟨v, h1, h2⟩ => ⟨v, h1, ih _ _ h2⟩
  exact mono _ 0 e (h V)
end

/-! ### Operations -/
section
variable {P : Program} {ρ : Operand → Value} {w : World} {d : Option Nat} {ty : TypeId} {ps : String} {af : Array Edge} {g : Option (Nat × Bool)}
variable {x y z : Operand} {T T' E : TypeId}
theorem x_neqPtrNil {q : Option Addr} (hx : ρ x = .pointer q) (hy : ρ y = .pointer none) (hT : P.underlying T = some (.pointer E)) :
    (execOp ρ ⟨d, .binOp .neq T x y T', ty, ps, af, g⟩).run P w = .ok (.value (.bool q.isSome)) w := by
  have h1 : (Op.equalIn 10000 T (.pointer q) (.pointer none)).run P w = .ok q.isNone w := by
    rw [show (10000 : Nat) = 9999 + 1 from rfl, Op.equalIn]
    cases q <;> simp [run_underlying hT]
  have h2 : (eqGuard .neq T x y (.pointer q) (.pointer none)).run P w = .ok () w := by cases q <;> simp [eqGuard]
  simp only [execOp, hx, hy, Sem.run_bind, h2, binOp, Op.equal, Op.maxDepth, h1, Result.andThen_ok, Sem.run_pure]
  cases q <;> rfl
theorem x_eqFnNil {v : Value} {b : Bool} {u : TypeDesc} (hx : ρ x = v) (hv : (v = .nilFunc ∧ b = true) ∨ (∃ f xs ys, v = .func f xs ys ∧ b = false)) (hy : ρ y = .nilFunc) (hT : P.underlying T = some u) (hu : ∃ a b c, u = .func a b c) :
    (execOp ρ ⟨d, .binOp .eql T x y T', ty, ps, af, g⟩).run P w = .ok (.value (.bool b)) w := by
  obtain ⟨a1, b1, c1, rfl⟩ := hu
  have h1 : (Op.equalIn 10000 T v .nilFunc).run P w = .ok b w := by
    rw [show (10000 : Nat) = 9999 + 1 from rfl, Op.equalIn]
    rcases hv with ⟨rfl, rfl⟩ | ⟨f, xs, ys, rfl, rfl⟩ <;> simp [run_underlying hT]
  have h2 : (eqGuard .eql T x y v .nilFunc).run P w = .ok () w := by
    rcases hv with ⟨rfl, rfl⟩ | ⟨f, xs, ys, rfl, rfl⟩ <;> simp [eqGuard]
  simp only [execOp, hx, hy, Sem.run_bind, h2, binOp, Op.equal, Op.maxDepth, h1, Result.andThen_ok, Sem.run_pure]
theorem x_neqFnNil {v : Value} {b : Bool} {u : TypeDesc} (hx : ρ x = v) (hv : (v = .nilFunc ∧ b = false) ∨ (∃ f xs ys, v = .func f xs ys ∧ b = true)) (hy : ρ y = .nilFunc) (hT : P.underlying T = some u) (hu : ∃ a b c, u = .func a b c) :
    (execOp ρ ⟨d, .binOp .neq T x y T', ty, ps, af, g⟩).run P w = .ok (.value (.bool b)) w := by
  obtain ⟨a1, b1, c1, rfl⟩ := hu
  have h1 : (Op.equalIn 10000 T v .nilFunc).run P w = .ok (!b) w := by
    rw [show (10000 : Nat) = 9999 + 1 from rfl, Op.equalIn]
    rcases hv with ⟨rfl, rfl⟩ | ⟨f, xs, ys, rfl, rfl⟩ <;> simp [run_underlying hT]
  have h2 : (eqGuard .neq T x y v .nilFunc).run P w = .ok () w := by
    rcases hv with ⟨rfl, rfl⟩ | ⟨f, xs, ys, rfl, rfl⟩ <;> simp [eqGuard]
  simp only [execOp, hx, hy, Sem.run_bind, h2, binOp, Op.equal, Op.maxDepth, h1, Result.andThen_ok, Sem.run_pure]
  cases b <;> rfl
/-- A field of a struct that is a value. -/
theorem x_fieldV {cs : Array Value} {f : Nat} {fs : Array Field} {fl : Field} {v : Value} (hx : ρ x = .agg cs) (hT : P.underlying T = some (.struct fs)) (hf : fs[f]? = some fl) (hp : P.plainKey fl.type = true) (hc : cs[fl.offset]? = some v) :
    (execOp ρ ⟨d, .field T x f, ty, ps, af, g⟩).run P w = .ok (.value v) w := by
  have h1 : (part fl.type cs fl.offset).run P w = .ok v w := run_part_plain w hp hc
  simp [execOp, Instr.field, hx, run_underlying hT, hf, asAgg, h1]
/-- s[:k:m] -/
theorem x_slice3 {a : Option Addr} {n c k m s : Nat} (hx : ρ x = .slice a n c) (hy : ρ y = .int .i64 (k : Int)) (hz : ρ z = .int .i64 (m : Int)) (hT : P.underlying T = some (.slice E)) (hs : (P.info? E).map (·.size) = some s) (hk : k ≤ m) (hm : m ≤ c) :
    (execOp ρ ⟨d, .slice T x none (some y) (some z), ty, ps, af, g⟩).run P w = .ok (.value (.slice a k m)) w := by
  have h0 : ∀ q : Addr, q.add 0 = q := fun q => by simp [Addr.add]
  have h1 : a.map (fun q => q.add 0) = a := by cases a <;> simp [h0]
  have h2 : (0 : Int) ≤ (m : Int) ∧ (m : Int) ≤ (c : Int) := by omega
  have h3 : (0 : Int) ≤ (k : Int) ∧ (k : Int) ≤ (m : Int) := by omega
  simp [execOp, Instr.sliceAt, Instr.slice, Instr.sliceBounds, Instr.sliceBound, hx, hy, hz, asIntOf, run_underlying hT, run_sizeOf hs, h2, h3, hk, hm]
  intro _; exact h1
/-- unsafe.Pointer(p), p to a variable that has cells. -/
theorem x_toUnsafe {src dst t : TypeId} {a : Addr} {v : Value} (hx : ρ x = .pointer (some a)) (hs : P.underlying src = some (.pointer t)) (hd : P.underlying dst = some .unsafePointer) (hz : (P.info? t).map (fun i => decide (i.size = 0)) = some false) (hc : w.cell? a = some v) :
    (execOp ρ ⟨d, .convert src dst x, ty, ps, af, g⟩).run P w = .ok (.value (.pointer (some a))) w := by
  simp only [execOp, hx, Sem.run_bind, run_convert_to_unsafe hs hd hz hc, Result.andThen_ok, Sem.run_pure]
/-- And back, the block being one variable of that type. -/
theorem x_ofUnsafe {src dst t : TypeId} {b : Nat} {cs : Array Value} (hx : ρ x = .pointer (some ⟨b, 0, none⟩)) (hs : P.underlying src = some .unsafePointer) (hd : P.underlying dst = some (.pointer t)) (hB : Blk w b cs t) (hl : liesAt P P.depth t (cs.size / P.cellsOf t) 0 t 1 = true) {n : Nat} (hn : (P.info? t).map (·.size) = some n) :
    (execOp ρ ⟨d, .convert src dst x, ty, ps, af, g⟩).run P w = .ok (.value (.pointer (some ⟨b, 0, none⟩))) w := by
  have h1 : w.shape? b = some (t, cs.size) := by unfold Blk at hB; simp [World.shape?, hB]
  have h2 : (convert src dst (.pointer (some ⟨b, 0, none⟩))).run P w = .ok (.pointer (some ⟨b, 0, none⟩)) w := by
    simp [convert, Conv.unsafePointer, Conv.seenAt, viewAt, variablesAt, run_sizeOf hn, run_underlying hs, run_underlying hd, h1, hl, Result.andThen]
  simp only [execOp, hx, Sem.run_bind, h2, Result.andThen_ok, Sem.run_pure]
/-- sync/atomic.LoadPointer. -/
theorem x_loadP {f : FuncId} {fn : Func} {aT : Array TypeId} {a : Addr} {p : Option Addr} (hx : ρ x = .pointer (some a)) (hf : P.funcs[f]? = some fn) (hname : (fn.name == "runtime.NumGoroutine") = false) (hb : fn.body.isNone = true) (hn : Extern.findNext fn = none)
    (he : Extern.find fn = some (Extern.Atomic.loadT .ptr)) (hc : w.cell? a = some (.pointer p)) (hρ : ρ (.func f) = .func (.func f) #[] #[]) :
    (execOp ρ ⟨d, .call ⟨.value (.func f), #[x], aT⟩, ty, ps, af, g⟩).run P w = .ok (.value (.pointer p)) w := by
  have h1 : (callFunc f #[.pointer (some a)]).run P w = .ok (.value (.pointer p)) w := by
    rw [run_callFunc_extern hf hname hb hn he]
    change (Sem.run P (do Extern.Atomic.read .ptr (← asAddr (.pointer (some a)))) w).andThen _ = _
    simp [Extern.Atomic.read, asAddr, hc, Result.andThen]
  simp [execOp, resolve, hρ, Deferred.ofValue, invoke, hx, h1]
/-- sync/atomic.StorePointer. -/
theorem x_storeP {f : FuncId} {fn : Func} {aT : Array TypeId} {a : Addr} {p : Option Addr} {u : Value} (hx : ρ x = .pointer (some a)) (hy : ρ y = .pointer p) (hf : P.funcs[f]? = some fn) (hname : (fn.name == "runtime.NumGoroutine") = false) (hb : fn.body.isNone = true) (hn : Extern.findNext fn = none)
    (he : Extern.find fn = some Extern.Atomic.storeT) (hc : w.cell? a = some u) (hz : w.frozen? a = false) (hρ : ρ (.func f) = .func (.func f) #[] #[]) :
    (execOp ρ ⟨d, .call ⟨.value (.func f), #[x, y], aT⟩, ty, ps, af, g⟩).run P w = .ok (.value (.tuple #[])) (w.setCell a (.pointer p)) := by
  have h1 : (callFunc f #[.pointer (some a), .pointer p]).run P w = .ok (.value (.tuple #[])) (w.setCell a (.pointer p)) := by
    rw [run_callFunc_extern hf hname hb hn he]
    change (Sem.run P (do
      store (← asAddr (.pointer (some a))) (.pointer p) .atomic
      pure Extern.Atomic.none_) w).andThen _ = _
    simp [asAddr, hc, hz, run_store P w a (.pointer p) .atomic rfl, Result.andThen, Extern.Atomic.none_]
  simp [execOp, resolve, hρ, Deferred.ofValue, invoke, hx, hy, h1]
/-- A call of a function value with what it has caught. -/
theorem x_callV0 {f : FuncId} {fn : Func} {aT : Array TypeId} {ys : Array Value} (hx : ρ x = .func (.func f) #[] ys) (hf : P.funcs[f]? = some fn) (hb : fn.body.isSome = true) (hn : (fn.name == "runtime.NumGoroutine") = false) :
    (execOp ρ ⟨d, .call ⟨.value x, #[], aT⟩, ty, ps, af, g⟩).run P w = .ok (.enter f ys) w := by
  rw [x_call hx rfl hf hb hn]
  simp
/-- Structs of two ints compared. -/
theorem run_eqPair {It : TypeId} {f0 f1 : Field} {κ : IntKind} (hT : P.underlying T = some (.struct #[f0, f1])) (h0 : f0.name ≠ "_" ∧ f0.type = It ∧ f0.offset = 0) (h1 : f1.name ≠ "_" ∧ f1.type = It ∧ f1.offset = 1) (hI : P.underlying It = some (.int κ)) (hs : P.stoodInHeld T = false) (a b a' b' : Int) (w : World) :
    (Op.equalIn 10000 T (.agg #[.int κ a, .int κ b]) (.agg #[.int κ a', .int κ b'])).run P w = .ok (decide (a = a' ∧ b = b')) w := by
  have hf : P.fieldsOf T = #[f0, f1] := by unfold Program.fieldsOf; rw [hT]
  have hpl : P.plainKey It = true := by unfold Program.plainKey; simp [hI]
  rw [show (10000 : Nat) = 9999 + 1 from rfl, run_equalIn_struct (P := P) (w := w) 9999 T _ _ (by rw [hT, hf]) hs, hf]
  have p0 : ∀ x y : Int, (part It #[.int κ x, .int κ y] 0).run P w = .ok (.int κ x) w := fun x y => run_part_plain w hpl rfl
  have p1 : ∀ x y : Int, (part It #[.int κ x, .int κ y] 1).run P w = .ok (.int κ y) w := fun x y => run_part_plain w hpl rfl
  have q : ∀ x y : Int, (Op.equalIn 9999 It (.int κ x) (.int κ y)).run P w = .ok (x == y) w := fun x y => run_equalIn_int (P := P) (w := w) 9998 It κ κ x y hI
  simp only [Op.eqFields, h0.1, h1.1, h0.2.1, h1.2.1, h0.2.2, h1.2.2, ne_eq, not_false_eq_true, if_true, Sem.run_bind, p0, p1, q, Result.andThen_ok]
  by_cases ha : a = a'
  · by_cases hb : b = b' <;> simp [ha, hb, p1, q]
  · simp [ha]
theorem x_eqPair {It : TypeId} {f0 f1 : Field} {κ : IntKind} {a b a' b' : Int} (hx : ρ x = .agg #[.int κ a, .int κ b]) (hy : ρ y = .agg #[.int κ a', .int κ b']) (hT : P.underlying T = some (.struct #[f0, f1])) (h0 : f0.name ≠ "_" ∧ f0.type = It ∧ f0.offset = 0) (h1 : f1.name ≠ "_" ∧ f1.type = It ∧ f1.offset = 1) (hI : P.underlying It = some (.int κ)) (hs : P.stoodInHeld T = false) (hg : P.eqGuardType P.depth T = false) :
    (execOp ρ ⟨d, .binOp .eql T x y T', ty, ps, af, g⟩).run P w = .ok (.value (.bool (decide (a = a' ∧ b = b')))) w := by
  simp only [execOp, hx, hy, Sem.run_bind, run_eqGuard_agg (P := P) (w := w) .eql T x y _ _ hg, Result.andThen_ok, run_eql_struct, run_eqPair hT h0 h1 hI hs, Sem.run_pure]
end
end Go.Vc
