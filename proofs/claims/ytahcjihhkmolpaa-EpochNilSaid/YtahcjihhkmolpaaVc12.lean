/- Drawn regions of several parts that work beside one another, each on slots and types of its own. -/
import Derived.Test.YtahcjihhkmolpaaVc11
namespace Go.Vc
open Go Go.RowKit

/-- Slots in range, edges that lead back: all that an invariant needs. -/
def backB (n : Nat) (ops : Array Oper) : Bool := (List.range ops.size).all fun i => match ops[i]? with
  | none => false
  | some o => dstB n o.dst && o.after.all fun x => !Region.binds .any x || Nat.blt x.on i
structure Bk (n : Nat) (ops : Array Oper) : Prop where
  dst : ∀ (i : Nat) (o : Oper), ops[i]? = some o → dstB n o.dst = true
  back : ∀ (i : Nat) (o : Oper), ops[i]? = some o → ∀ x ∈ o.after, Region.binds .any x = true → x.on < i
theorem bk_of {n : Nat} {ops : Array Oper} (h : backB n ops = true) : Bk n ops := by
  have key : ∀ (i : Nat) (o : Oper), ops[i]? = some o → dstB n o.dst = true ∧ (o.after.all fun x => !Region.binds .any x || Nat.blt x.on i) = true := by
    intro i o ho
    have h1 := List.all_eq_true.1 h i (List.mem_range.2 (Array.getElem?_eq_some_iff.1 ho).1)
    rw [ho] at h1
    simpa only [Bool.and_eq_true] using h1
  refine ⟨fun i o ho => (key i o ho).1, fun i o ho x hx hb => ?_⟩
  have := (key i o ho).2
  rw [Array.all_eq_true'] at this
  have := this x hx
  simp only [hb, Bool.not_true, Bool.false_or, Nat.blt_eq] at this
  exact this
theorem ready_all2 {n : Nat} {ops : Array Oper} {listed : Array Bool} (h : Bk n ops) (hs : listed.size = ops.size) (hr : Region.ready .any ops listed = []) : ∀ i, i < ops.size → listed.getD i false = true := by
  intro i
  induction i using Nat.strongRecOn with
  | _ i ih =>
    intro hi
    cases hl : listed.getD i false with
    | true => rfl
    | false =>
      exfalso
      have hi' : i < listed.size := by omega
      have hmem : i ∈ Region.ready .any ops listed := by
        refine mem_ready.2 ⟨?_, ops[i], by simp [hi], fun x hx hb => ?_⟩
        · simp only [Array.getD_eq_getD_getElem?, hi', Array.getElem?_eq_getElem, Option.getD_some] at hl ⊢; exact hl
        · have hlt := h.back i ops[i] (by simp [hi]) x hx hb
          exact ih x.on hlt (by omega)
      rw [hr] at hmem; cases hmem
section
variable {P : Program} {ops : Array Oper} {n : Nat} {I : (Nat → Bool) → Env → World → Prop}
/-- What is asked of operation i. -/
def StepI (P : Program) (ops : Array Oper) (I : (Nat → Bool) → Env → World → Prop) (i : Nat) (o : Oper) (D : Nat → Bool) (e : Env) (w : World) : Prop :=
  (Region.wanted o (yieldE ops e) = true ∧ match (execOp (ev e) o).run P w with
    | .ok (.value v) w' => I (setD D i) (updO e o.dst v) w'
    | .ok .skip w' => I (setD D i) (updO e o.dst undef) w'
    | .ok (.enter f args) w' => C P f args w' (fun v w'' => I (setD D i) (updO e o.dst v) w'')
    | _ => False) ∨
  (Region.wanted o (yieldE ops e) = false ∧ I (setD D i) (updO e o.dst undef) w)
theorem wpOps_I (h : Bk n ops) (hstep : ∀ i o, ops[i]? = some o → ∀ D e w, D i = false → depsOn o D → (∀ j o', ops[j]? = some o' → D j = true → depsOn o' D) → I D e w → StepI P ops I i o D e w)
    {Q : Exit → Act → World → Prop} (hQ : ∀ a w D e, Rep n a e → (∀ i, i < ops.size → D i = true) → I D e w → Q .normal a w) :
    ∀ {listed : Array Bool} {σ : List Nat}, Lin ops listed σ → ∀ (a : Act) (e : Env) (w : World), listed.size = ops.size → Rep n a e → (∀ j o', ops[j]? = some o' → listed.getD j false = true → depsOn o' (fun k => listed.getD k false)) → I (fun k => listed.getD k false) e w → wpOps P ops Q σ a w := by
  intro listed σ hlin
  induction hlin with
  | @nil listed hr =>
    intro a e w hs ha _ hI
    exact hQ a w _ e ha (ready_all2 h hs hr) hI
  | @cons listed i σ hi _ ih =>
    intro a e w hs ha hcl hI
    obtain ⟨h1, o, ho, hdep⟩ := mem_ready.1 hi
    have hio : i < ops.size := (Array.getElem?_eq_some_iff.1 ho).1
    have hil : i < listed.size := by omega
    have hDi : (fun k => listed.getD k false) i = false := by
      show listed.getD i false = false
      simp only [Array.getD_eq_getD_getElem?, hil, Array.getElem?_eq_getElem, Option.getD_some] at h1 ⊢; exact h1
    have hs' := hstep i o ho (fun k => listed.getD k false) e w hDi hdep hcl hI
    have hcl' : ∀ j o', ops[j]? = some o' → (listed.setIfInBounds i true).getD j false = true → depsOn o' (fun k => (listed.setIfInBounds i true).getD k false) := by
      intro j o' ho' hj x hx hb
      by_cases hij : i = j
      · subst hij
        obtain rfl : o' = o := Option.some.inj (ho'.symm.trans ho)
        exact getD_set_true (hdep x hx hb)
      · rw [getD_set_ne false hij] at hj
        exact getD_set_true (hcl j o' ho' hj x hx hb)
    have next : ∀ v w', I (setD (fun k => listed.getD k false) i) (updO e o.dst v) w' → wpOps P ops Q σ (a.put o.dst v) w' := fun v w' hI' =>
      ih _ _ w' (by simp [hs]) (ha.put (h.dst i o ho) v) hcl' (by rw [setD_eq hil]; exact hI')
    rw [wpOps_cons]
    unfold wpOp
    simp only [ho]
    rw [wanted_rep ha]
    rcases hs' with ⟨hw, hr⟩ | ⟨hw, hr⟩
    · rw [if_pos hw]
      refine .inl ?_
      unfold Oper.wp
      rw [ha.eval]
      generalize (execOp (ev e) o).run P w = r at hr
      cases r with
      | ok x w' =>
        cases x <;> simp only at hr <;> simp only [Oper.upon]
        case value u => exact next u w' hr
        case skip => exact next undef w' hr
        case enter f args =>
          refine Calls.mono hr fun x w'' hx => ?_
          cases x with
          | returned u => exact next u w'' hx
          | panicked ch => exact hx.elim
          | outgrown => exact hx.elim
      | halt x w' => simp only at hr
    · rw [if_neg (by rw [hw]; simp)]
      exact next undef w hr
/-- A drawn region by an invariant of what has been done. -/
theorem W.inv {id : Nat} {l : List Oper} {Q : Exit → Env → World → Prop} {e : Env} {w : World} (I : (Nat → Bool) → Env → World → Prop) (hm : P.follows .mixedOrders = true) (hB : backB n l.toArray = true) (h0 : I (fun _ => false) e w.drew)
    (hstep : ∀ i o, l[i]? = some o → ∀ D e w, D i = false → depsOn o D → (∀ j o', l[j]? = some o' → D j = true → depsOn o' D) → I D e w → StepI P l.toArray I i o D e w)
    (hfin : ∀ D e w, (∀ i, i < l.length → D i = true) → I D e w → Q .normal e w) : W P n (.region id l.toArray true) Q e w := by
  intro a ha
  have ho := bk_of hB
  refine wp_region_draw fun t => ?_
  simp only [Region.schedule, hm, Bool.true_or, if_true]
  have hlin := lin_go l.toArray l.toArray.size t (Array.replicate l.toArray.size false) (by simp) (by simp)
  unfold Region.linearise
  generalize Region.linearise.go .any l.toArray l.toArray.size t (Array.replicate l.toArray.size false) [] = σ at hlin ⊢
  refine wpOps_I (I := I) ho (fun i o hi D e w h1 h2 h3 h4 => hstep i o (by simpa using hi) D e w h1 h2 (fun j o' hj => h3 j o' (by simpa using hj)) h4) (fun a' w' D e' ha' hD hI => ⟨e', ha', hfin D e' w' (fun i hi => hD i (by simpa using hi)) hI⟩) hlin a e _ (by simp) ha (fun j o' _ hj => ?_) ?_
  · rw [getD_replicate_false'] at hj; cases hj
  · have : (fun k => (Array.replicate l.toArray.size false).getD k false) = fun _ => false := funext fun k => getD_replicate_false' _ _
    rw [this]; exact h0

/-! ### Parts -/
/-- A part: its operations, its slots, its types of blocks, and what is held of these. -/
structure Part (B : Nat) where
  idx : List Nat
  slots : List Nat
  types : List TypeId
  inv : (Nat → Bool) → Env → World → Prop
  frame : ∀ (D D' : Nat → Bool) (e e' : Env) (w w' : World) (TS : List TypeId), (∀ i ∈ idx, D' i = D i) → (∀ t ∈ slots, e' t = e t) → ModT w w' B TS → (types.all fun t => !TS.contains t) = true → B ≤ w.heap.size → inv D e w → inv D' e' w'
/-- An operation of a part. -/
def StepP (P : Program) (ops : Array Oper) {B : Nat} (p : Part B) (i : Nat) (o : Oper) (D : Nat → Bool) (e : Env) (w : World) : Prop :=
  Region.wanted o (yieldE ops e) = true ∧ ∃ t v w', o.dst = some t ∧ (execOp (ev e) o).run P w = .ok (.value v) w' ∧ p.slots.contains t = true ∧ ModT w w' B p.types ∧ p.inv (setD D i) (upd e t v) w'
def partsB {B : Nat} (ps : List (Part B)) : Bool := (List.range ps.length).all fun a => (List.range ps.length).all fun b => a == b || match ps[a]?, ps[b]? with
  | some p, some q => (p.idx.all fun x => !q.idx.contains x) && (p.slots.all fun x => !q.slots.contains x) && (p.types.all fun x => !q.types.contains x)
  | _, _ => true
theorem parts_at {B : Nat} {ps : List (Part B)} (h : partsB ps = true) {a b : Nat} {p q : Part B} (ha : ps[a]? = some p) (hb : ps[b]? = some q) (hab : a ≠ b) : (p.idx.all fun x => !q.idx.contains x) = true ∧ (p.slots.all fun x => !q.slots.contains x) = true ∧ (p.types.all fun x => !q.types.contains x) = true := by
  unfold partsB at h
  have h1 := List.all_eq_true.1 (List.all_eq_true.1 h a (List.mem_range.2 (List.getElem?_eq_some_iff.1 ha).1)) b (List.mem_range.2 (List.getElem?_eq_some_iff.1 hb).1)
  rw [ha, hb] at h1
  simp only [Bool.or_eq_true, beq_iff_eq, hab, false_or, Bool.and_eq_true] at h1
  exact ⟨h1.1.1, h1.1.2, h1.2⟩
theorem W.parts {id : Nat} {l : List Oper} {Q : Exit → Env → World → Prop} {e : Env} {w : World} {B : Nat} (G : List Nat) (TS : List TypeId) (ps : List (Part B)) (hm : P.follows .mixedOrders = true) (hB : backB n l.toArray = true) (hBs : B ≤ w.heap.size) (hps : partsB ps = true)
    (hG : ∀ p ∈ ps, (p.slots.all G.contains) = true) (hT : ∀ p ∈ ps, (p.types.all TS.contains) = true)
    (h0 : ∀ p ∈ ps, p.inv (fun _ => false) e w.drew)
    (hstep : ∀ i o, l[i]? = some o → ∃ p ∈ ps, p.idx.contains i = true ∧ ∀ D e' w', D i = false → depsOn o D → (∀ j o', l[j]? = some o' → D j = true → depsOn o' D) → Agree G e' e → ModT w w' B TS → B ≤ w'.heap.size → p.inv D e' w' → StepP P l.toArray p i o D e' w')
    (hfin : ∀ D e' w', (∀ i, i < l.length → D i = true) → Agree G e' e → ModT w w' B TS → (∀ p ∈ ps, p.inv D e' w') → Q .normal e' w') : W P n (.region id l.toArray true) Q e w := by
  refine W.inv (fun D e' w' => Agree G e' e ∧ ModT w w' B TS ∧ ∀ p ∈ ps, p.inv D e' w') hm hB ⟨Agree.refl _ _, ModT.below ((Below.refl _ _).drew) hBs _, h0⟩ ?_ ?_
  · intro i o ho D e1 w1 hDi hdep hcl ⟨hA, hM, hI⟩
    obtain ⟨p, hp, hpi, hs⟩ := hstep i o ho
    have hBw : B ≤ w1.heap.size := Nat.le_trans hBs hM.size
    obtain ⟨hw, t, v, w2, hd, hr, hts, hM2, hI2⟩ := hs D e1 w1 hDi hdep hcl hA hM hBw (hI p hp)
    refine .inl ⟨hw, ?_⟩
    rw [hr, hd]
    have htG : G.contains t = true := List.all_eq_true.1 (hG p hp) t (List.contains_iff_mem.1 hts)
    refine ⟨Agree.upd htG hA, hM.trans (hM2.wide (hT p hp)), fun q hq => ?_⟩
    obtain ⟨a, ha⟩ := List.mem_iff_getElem?.1 hp
    obtain ⟨b, hb⟩ := List.mem_iff_getElem?.1 hq
    by_cases hab : a = b
    · subst hab
      obtain rfl : p = q := Option.some.inj (ha.symm.trans hb)
      exact hI2
    · obtain ⟨h1, h2, h3⟩ := parts_at hps hb ha (Ne.symm hab)
      refine q.frame D _ e1 _ w1 w2 p.types (fun j hj => ?_) (fun u hu => ?_) hM2 h3 hBw (hI q hq)
      · unfold setD
        have : j ≠ i := fun e => by
          subst e
          have := List.all_eq_true.1 h1 j hj
          rw [hpi] at this; cases this
        rw [if_neg this]
      · have : u ≠ t := fun e => by
          subst e
          have := List.all_eq_true.1 h2 u hu
          rw [hts] at this; cases this
        exact upd_ne _ _ this
  · intro D e1 w1 hD ⟨hA, hM, hI⟩
    exact hfin D e1 w1 hD hA hM hI
end
end Go.Vc
