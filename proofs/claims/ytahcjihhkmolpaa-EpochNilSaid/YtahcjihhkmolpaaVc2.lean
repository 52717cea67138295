/- A region that leaves its order open: one walk in the order of the text serves every order, where each operation yields one value in every world that may have come about. -/
import Derived.Test.YtahcjihhkmolpaaVc1
namespace Go.Vc
open Go

def setD (D : Nat → Bool) (i : Nat) : Nat → Bool := fun k => if k = i then true else D k

/-- What is asked of operation i: in every world that may have come about (D: what has been done) it yields v. -/
def LocRun (P : Program) (J : (Nat → Bool) → World → Prop) (i : Nat) (v : Value) (D : Nat → Bool) : Result Next → Prop
  | .ok (.value u) w => u = v ∧ J (setD D i) w
  | .ok .skip w => v = undef ∧ J (setD D i) w
  | .ok (.enter f args) w => C P f args w (fun r w' => r = v ∧ J (setD D i) w')
  | _ => False

def depsOn (o : Oper) (D : Nat → Bool) : Prop := ∀ x ∈ o.after, Region.binds .any x = true → D x.on = true

/-- V: which sets of operations may have been done. -/
def Loc (P : Program) (ops : Array Oper) (V : (Nat → Bool) → Prop) (J : (Nat → Bool) → World → Prop) (i : Nat) (o : Oper) (e : Env) (v : Value) : Prop :=
  (Region.wanted o (yieldE ops e) = true ∧ ∀ D w, D i = false → (V D ∧ V (setD D i)) → depsOn o D → J D w → LocRun P J i v D ((execOp (ev e) o).run P w)) ∨
  (Region.wanted o (yieldE ops e) = false ∧ v = undef ∧ ∀ D w, D i = false → (V D ∧ V (setD D i)) → depsOn o D → J D w → J (setD D i) w)

/-- The walk in the order of the text. -/
def JL (P : Program) (ops : Array Oper) (V : (Nat → Bool) → Prop) (J : (Nat → Bool) → World → Prop) (Q : Env → Prop) : Nat → List Oper → Env → Prop
  | _, [], e => Q e
  | i, o :: rest, e => ∃ v, Loc P ops V J i o e v ∧ JL P ops V J Q (i + 1) rest (updO e o.dst v)

/-- Whether the operations' own edges order what looks at a slot behind what writes it. -/
def ordB (n : Nat) (ops : Array Oper) : Bool :=
  (List.range ops.size).all fun i =>
    match ops[i]? with
    | none => false
    | some o =>
      dstB n o.dst && !(match o.op with | .select .. => true | _ => false) &&
      (o.after.all fun x => !Region.binds .any x || Nat.blt x.on i) &&
      (List.range ops.size).all fun j =>
        match ops[j]? with
        | none => false
        | some p =>
          match p.dst with
          | none => true
          | some t => (i == j || o.dst != some t) && (!(o.looksAt ops).contains t || o.after.any fun x => Region.binds .any x && x.on == j)

structure Ord (n : Nat) (ops : Array Oper) : Prop where
  dst : ∀ (i : Nat) (o : Oper), ops[i]? = some o → dstB n o.dst = true
  sel : ∀ (i : Nat) (o : Oper), ops[i]? = some o → ∀ cs b, o.op ≠ .select cs b
  back : ∀ (i : Nat) (o : Oper), ops[i]? = some o → ∀ x ∈ o.after, Region.binds .any x = true → x.on < i
  one : ∀ (i j : Nat) (o p : Oper) (t : Nat), ops[i]? = some o → ops[j]? = some p → o.dst = some t → p.dst = some t → i = j
  look : ∀ (i j : Nat) (o p : Oper) (t : Nat), ops[i]? = some o → ops[j]? = some p → p.dst = some t → t ∈ o.looksAt ops → ∃ x ∈ o.after, Region.binds .any x = true ∧ x.on = j

theorem ord_of {n : Nat} {ops : Array Oper} (h : ordB n ops = true) : Ord n ops := by
  unfold ordB at h
  have lt : ∀ {i : Nat} {o : Oper}, ops[i]? = some o → i < ops.size := fun h => (Array.getElem?_eq_some_iff.1 h).1
  have key : ∀ (i : Nat) (o : Oper), ops[i]? = some o → (dstB n o.dst = true ∧ (!(match o.op with | .select .. => true | _ => false)) = true) ∧
      ((o.after.all fun x => !Region.binds .any x || Nat.blt x.on i) = true) ∧ ∀ (j : Nat) (p : Oper) (t : Nat), ops[j]? = some p → p.dst = some t → (i == j || o.dst != some t) = true ∧ (!(o.looksAt ops).contains t || o.after.any fun x => Region.binds .any x && x.on == j) = true := by
    intro i o ho
    have h1 := List.all_eq_true.1 h i (List.mem_range.2 (lt ho))
    simp only [ho, Bool.and_eq_true] at h1
    refine ⟨h1.1.1, h1.1.2, fun j p t hp ht => ?_⟩
    have h2 := List.all_eq_true.1 h1.2 j (List.mem_range.2 (lt hp))
    simp only [hp, ht, Bool.and_eq_true] at h2
    exact h2
  refine ⟨fun i o ho => (key i o ho).1.1, fun i o ho cs b he => ?_, fun i o ho x hx hb => ?_, fun i j o p t ho hp h1 h2 => ?_, fun i j o p t ho hp ht hl => ?_⟩
  · have := (key i o ho).1.2; rw [he] at this; cases this
  · have := (key i o ho).2.1
    rw [Array.all_eq_true'] at this
    have := this x hx
    simp only [hb, Bool.not_true, Bool.false_or, Nat.blt_eq] at this
    exact this
  · have := ((key i o ho).2.2 j p t hp h2).1
    simp only [h1, bne_self_eq_false, Bool.or_false, beq_iff_eq] at this
    exact this
  · have := ((key i o ho).2.2 j p t hp ht).2
    have hc : (o.looksAt ops).contains t = true := by simpa using hl
    rw [hc, Bool.not_true, Bool.false_or] at this
    obtain ⟨x, hx, hb⟩ := Array.any_eq_true'.1 this
    simp only [Bool.and_eq_true, beq_iff_eq] at hb
    exact ⟨x, hx, hb.1, hb.2⟩

section
variable {P : Program} {ops : Array Oper} {V : (Nat → Bool) → Prop} {J : (Nat → Bool) → World → Prop} {n : Nat}

/-- The frame behind the first k operations of l. -/
def EE (e : Env) (l : List Oper) (vals : Nat → Value) : Nat → Env
  | 0 => e
  | k + 1 => updO (EE e l vals k) ((l[k]?).bind (·.dst)) (vals k)

theorem EE_cons (e : Env) (o : Oper) (l : List Oper) (vals : Nat → Value) : ∀ k, EE e (o :: l) vals (k + 1) = EE (updO e o.dst (vals 0)) l (fun k => vals (k + 1)) k
  | 0 => rfl
  | k + 1 => by
    show updO (EE e (o :: l) vals (k + 1)) _ _ = _
    rw [EE_cons e o l vals k]
    rfl

theorem JL.collect {Q : Env → Prop} : ∀ (l : List Oper) (i : Nat) (e : Env), JL P ops V J Q i l e →
    ∃ vals : Nat → Value, (∀ k o, l[k]? = some o → Loc P ops V J (i + k) o (EE e l vals k) (vals k)) ∧ Q (EE e l vals l.length)
  | [], _, _, h => ⟨fun _ => undef, fun k o ho => by simp at ho, h⟩
  | o :: l, i, e, ⟨v, hl, h⟩ => by
    obtain ⟨vals, h1, h2⟩ := JL.collect l (i + 1) _ h
    refine ⟨fun k => match k with | 0 => v | k + 1 => vals k, ?_, ?_⟩
    · intro k p hp
      cases k with
      | zero => simp at hp; subst hp; exact hl
      | succ k =>
        rw [EE_cons]
        have := h1 k p (by simpa using hp)
        rw [show i + (k + 1) = i + 1 + k by omega]
        exact this
    · rw [List.length_cons, EE_cons]; exact h2

theorem EE_miss (e : Env) (l : List Oper) (vals : Nat → Value) (t : Nat) : ∀ k, (∀ j o, j < k → l[j]? = some o → o.dst ≠ some t) → EE e l vals k t = e t
  | 0, _ => rfl
  | k + 1, h => by
    have ih := EE_miss e l vals t k (fun j o hj ho => h j o (by omega) ho)
    show updO _ _ _ t = _
    cases hk : l[k]? with
    | none => exact ih
    | some o =>
      simp only [Option.bind_some]
      cases hd : o.dst with
      | none => exact ih
      | some d =>
        have : t ≠ d := fun hh => h k o (by omega) hk (by rw [hd, hh])
        show upd _ _ _ _ = _
        rw [upd_ne _ _ this]; exact ih

theorem EE_hit (e : Env) (l : List Oper) (vals : Nat → Value) (t j : Nat) (o : Oper) (hj : l[j]? = some o) (hd : o.dst = some t) (hone : ∀ i p, l[i]? = some p → p.dst = some t → i = j) : ∀ k, j < k → EE e l vals k t = vals j
  | 0, h => by omega
  | k + 1, h => by
    show updO _ _ _ t = _
    by_cases hjk : k = j
    · subst hjk
      rw [hj]
      simp only [Option.bind_some, hd]
      exact upd_same _ _ _
    · have ih := EE_hit e l vals t j o hj hd hone k (by omega)
      cases hk : l[k]? with
      | none => exact ih
      | some p =>
        simp only [Option.bind_some]
        cases hp : p.dst with
        | none => exact ih
        | some d =>
          have : t ≠ d := fun hh => hjk (hone k p hk (by rw [hp, hh]))
          show upd _ _ _ _ = _
          rw [upd_ne _ _ this]; exact ih

/-- The frame where the operations of 'listed' have been carried out. -/
structure Mid (ops : Array Oper) (e0 : Env) (vals : Nat → Value) (listed : Array Bool) (e : Env) : Prop where
  hit : ∀ j o t, ops[j]? = some o → o.dst = some t → listed.getD j false = true → e t = vals j
  miss : ∀ t, (∀ j o, ops[j]? = some o → o.dst = some t → listed.getD j false = false) → e t = e0 t

theorem looks_eq (h : Ord n ops) {e0 : Env} {vals : Nat → Value} {listed : Array Bool} {e : Env} (hm : Mid ops e0 vals listed e) {i : Nat} {o : Oper} (ho : ops[i]? = some o)
    (hdep : ∀ x ∈ o.after, Region.binds .any x = true → listed.getD x.on false = true) : ∀ t ∈ o.looksAt ops, e t = EE e0 ops.toList vals i t := by
  intro t ht
  have hl : ∀ j : Nat, ops.toList[j]? = ops[j]? := fun j => by rw [Array.getElem?_toList]
  by_cases hex : ∃ (j : Nat) (p : Oper), ops[j]? = some p ∧ p.dst = some t
  · obtain ⟨j, p, hp, hd⟩ := hex
    obtain ⟨x, hx, hb, rfl⟩ := h.look i j o p t ho hp hd ht
    have hji := h.back i o ho x hx hb
    rw [hm.hit x.on p t hp hd (hdep x hx hb)]
    exact (EE_hit e0 ops.toList vals t x.on p (by rw [hl]; exact hp) hd (fun i' p' hp' hd' => h.one i' x.on p' p t (by rw [← hl]; exact hp') hp hd' hd) i hji).symm
  · have hno : ∀ (j : Nat) (p : Oper), ops[j]? = some p → p.dst ≠ some t := fun j p hp hd => hex ⟨j, p, hp, hd⟩
    rw [hm.miss t (fun j p hp hd => absurd hd (hno j p hp))]
    exact (EE_miss e0 ops.toList vals t i (fun j p _ hp => hno j p (by rw [← hl]; exact hp))).symm

theorem execOp_looks {e e' : Env} {o : Oper} (hs : ∀ cs b, o.op ≠ .select cs b) (h : ∀ t ∈ o.looksAt ops, e t = e' t) : execOp (ev e) o = execOp (ev e') o := by
  refine execOp_congr o hs fun x hx => ?_
  cases x with
  | tmp t => exact h t (List.mem_append_left _ (List.mem_filterMap.2 ⟨.tmp t, by simpa using hx, rfl⟩))
  | const v => rfl
  | global g => rfl
  | func f => rfl

theorem wanted_looks {e e' : Env} {o : Oper} (h : ∀ t ∈ o.looksAt ops, e t = e' t) : Region.wanted o (yieldE ops e) = Region.wanted o (yieldE ops e') := by
  unfold Region.wanted
  cases hg : o.guard with
  | none => rfl
  | some g =>
    obtain ⟨j, b⟩ := g
    simp only
    have : yieldE ops e j = yieldE ops e' j := by
      unfold yieldE
      cases hj : (ops[j]?).bind (·.dst) with
      | none => rfl
      | some t =>
        have := h t (List.mem_append_right _ (by rw [hg]; simp only [hj]; simp))
        simp only [this]
    rw [this]

theorem ready_all {listed : Array Bool} (h : Ord n ops) (hs : listed.size = ops.size) (hr : Region.ready .any ops listed = []) : ∀ i, i < ops.size → listed.getD i false = true := by
  intro i
  induction i using Nat.strongRecOn with
  | _ i ih =>
    intro hi
    cases hl : listed.getD i false with
    | true => rfl
    | false =>
      exfalso
      have hi' : i < listed.size := by omega
      have hmem : i ∈ Region.ready .any ops listed := by
        refine mem_ready.2 ⟨?_, ops[i], by simp [hi], fun x hx hb => ?_⟩
        · simp only [Array.getD_eq_getD_getElem?, hi', Array.getElem?_eq_getElem, Option.getD_some] at hl ⊢; exact hl
        · have hlt := h.back i ops[i] (by simp [hi]) x hx hb
          exact ih x.on hlt (by omega)
      rw [hr] at hmem; cases hmem

theorem count_set {l : Array Bool} {i : Nat} (h : l.getD i true = false) : (l.setIfInBounds i true).toList.count false + 1 = l.toList.count false := by
  have hi : i < l.size := by
    rcases Nat.lt_or_ge i l.size with h' | h'
    · exact h'
    · simp [Array.getElem?_eq_none h'] at h
  have hv : l[i] = false := by simpa [hi] using h
  show List.countP (· == false) _ + 1 = List.countP (· == false) _
  rw [Array.toList_setIfInBounds, List.countP_set (by simpa using hi)]
  have hv' : l.toList[i]'(by simpa using hi) = false := by simpa using hv
  simp only [hv']
  have : 0 < l.toList.countP (· == false) := List.countP_pos_iff.2 ⟨false, by rw [← hv']; exact List.getElem_mem _, rfl⟩
  simp only [beq_self_eq_true, if_true]
  have e2 : (if (true == false) = true then 1 else 0) = 0 := rfl
  rw [e2]
  omega

theorem count_zero {l : Array Bool} (h : l.toList.count false = 0) : ∀ i, i < l.size → l.getD i false = true := by
  intro i hi
  simp only [Array.getD_eq_getD_getElem?, hi, Array.getElem?_eq_getElem, Option.getD_some]
  cases hv : l[i] with
  | true => rfl
  | false =>
    exfalso
    have : false ∈ l.toList := by rw [← hv]; simp
    have := List.count_pos_iff.2 this
    omega

theorem setD_eq {l : Array Bool} {i : Nat} (hi : i < l.size) : (fun k => (l.setIfInBounds i true).getD k false) = setD (fun k => l.getD k false) i := by
  funext k
  unfold setD
  by_cases hk : k = i
  · subst hk; simp [hi]
  · rw [getD_set_ne false (Ne.symm hk), if_neg hk]

theorem Mid.step (h : Ord n ops) {e0 : Env} {vals : Nat → Value} {listed : Array Bool} {e : Env} (hm : Mid ops e0 vals listed e) {i : Nat} {o : Oper} (ho : ops[i]? = some o) (hi : i < listed.size) :
    Mid ops e0 vals (listed.setIfInBounds i true) (updO e o.dst (vals i)) := by
  constructor
  · intro j p t hp ht hl
    by_cases hji : j = i
    · subst hji
      obtain rfl : p = o := Option.some.inj (hp.symm.trans ho)
      rw [ht]; exact upd_same _ _ _
    · rw [getD_set_ne false (Ne.symm hji)] at hl
      have hv := hm.hit j p t hp ht hl
      cases hd : o.dst with
      | none => exact hv
      | some d =>
        have : t ≠ d := fun hh => hji (h.one j i p o t hp ho ht (by rw [hd, hh]))
        show upd _ _ _ _ = _
        rw [upd_ne _ _ this]; exact hv
  · intro t hno
    have hv := hm.miss t (fun j p hp ht => by
      have := hno j p hp ht
      by_cases hji : j = i
      · subst hji; simp [hi] at this
      · rw [getD_set_ne false (Ne.symm hji)] at this; exact this)
    cases hd : o.dst with
    | none => exact hv
    | some d =>
      have : t ≠ d := fun hh => by
        have := hno i o ho (by rw [hd, hh])
        simp [hi] at this
      show upd _ _ _ _ = _
      rw [upd_ne _ _ this]; exact hv

/-- A list that takes up one operation after another, each when it is ready. -/
inductive Lin (ops : Array Oper) : Array Bool → List Nat → Prop
  | nil {listed} : Region.ready .any ops listed = [] → Lin ops listed []
  | cons {listed i σ} : i ∈ Region.ready .any ops listed → Lin ops (listed.setIfInBounds i true) σ → Lin ops listed (i :: σ)

theorem lin_go (ops : Array Oper) : ∀ (fuel t : Nat) (listed : Array Bool), listed.size = ops.size → listed.toList.count false ≤ fuel → Lin ops listed (Region.linearise.go .any ops fuel t listed []) := by
  intro fuel
  induction fuel with
  | zero =>
    intro t listed hs hc
    have hall := count_zero (show listed.toList.count false = 0 by omega)
    refine .nil ?_
    cases hr : Region.ready .any ops listed with
    | nil => rfl
    | cons i r =>
      exfalso
      have hmem : i ∈ Region.ready .any ops listed := by rw [hr]; exact List.mem_cons_self
      obtain ⟨h1, o, ho, _⟩ := mem_ready.1 hmem
      have hi : i < ops.size := (Array.getElem?_eq_some_iff.1 ho).1
      have hi' : i < listed.size := by omega
      have := hall i hi'
      simp only [Array.getD_eq_getD_getElem?, hi', Array.getElem?_eq_getElem, Option.getD_some] at h1 this
      rw [h1] at this; cases this
  | succ fuel ih =>
    intro t listed hs hc
    simp only [Region.linearise.go]
    change Lin ops listed (match (Region.ready .any ops listed)[t % (Region.ready .any ops listed).length]? with
      | some i => Region.linearise.go .any ops fuel (t / (Region.ready .any ops listed).length) (listed.setIfInBounds i true) [i]
      | none => [].reverse)
    cases hi : (Region.ready .any ops listed)[t % (Region.ready .any ops listed).length]? with
    | none =>
      have hnil : Region.ready .any ops listed = [] := by
        cases hr : Region.ready .any ops listed with
        | nil => rfl
        | cons x xs =>
          rw [hr] at hi
          have hlt : t % (x :: xs).length < (x :: xs).length := Nat.mod_lt _ (by simp)
          simp at hi
          simp at hlt
          omega
      exact .nil hnil
    | some i =>
      simp only []
      rw [linearise_go_acc, List.reverse_singleton, List.singleton_append]
      have hmem := List.mem_of_getElem? hi
      exact .cons hmem (ih _ _ (by simp [hs]) (by have := count_set (mem_ready.1 hmem).1; omega))

/-- A set that may have been done: a beginning of the list. -/
def Pre (σ : List Nat) (D : Nat → Bool) : Prop := ∃ τ ρ, σ = τ ++ ρ ∧ ∀ k, D k = true ↔ k ∈ τ

theorem Pre.chain {σ : List Nat} {D D' : Nat → Bool} (h : Pre σ D) (h' : Pre σ D') : (∀ k, D k = true → D' k = true) ∨ (∀ k, D' k = true → D k = true) := by
  obtain ⟨τ, ρ, e1, h1⟩ := h
  obtain ⟨τ', ρ', e2, h2⟩ := h'
  rcases List.append_eq_append_iff.1 (e1.symm.trans e2) with ⟨x, hx, _⟩ | ⟨x, hx, _⟩
  · left; intro k hk; rw [h2, hx]; exact List.mem_append_left _ ((h1 k).1 hk)
  · right; intro k hk; rw [h1, hx]; exact List.mem_append_left _ ((h2 k).1 hk)

theorem lin_closed : ∀ {listed : Array Bool} {σ : List Nat}, Lin ops listed σ → (∀ i o, ops[i]? = some o → listed.getD i false = true → ∀ x ∈ o.after, Region.binds .any x = true → listed.getD x.on false = true) → listed.size = ops.size →
    ∀ (τ ρ : List Nat), σ = τ ++ ρ → ∀ i o, ops[i]? = some o → (listed.getD i false = true ∨ i ∈ τ) → ∀ x ∈ o.after, Region.binds .any x = true → (listed.getD x.on false = true ∨ x.on ∈ τ) := by
  intro listed σ h
  induction h with
  | nil _ =>
    intro hc _ τ ρ hσ i o ho hi x hx hb
    have : τ = [] := (List.append_eq_nil_iff.1 hσ.symm).1
    subst this
    rcases hi with hi | hi
    · exact .inl (hc i o ho hi x hx hb)
    · cases hi
  | @cons listed j σ hj _ ih =>
    intro hc hs τ ρ hσ i o ho hi x hx hb
    cases τ with
    | nil =>
      rcases hi with hi | hi
      · exact .inl (hc i o ho hi x hx hb)
      · cases hi
    | cons t τ =>
      simp only [List.cons_append, List.cons.injEq] at hσ
      obtain ⟨rfl, hσ⟩ := hσ
      obtain ⟨_, oj, hoj, hdj⟩ := mem_ready.1 hj
      have hjs : j < ops.size := (Array.getElem?_eq_some_iff.1 hoj).1
      have hc' : ∀ i o, ops[i]? = some o → (listed.setIfInBounds j true).getD i false = true → ∀ x ∈ o.after, Region.binds .any x = true → (listed.setIfInBounds j true).getD x.on false = true := by
        intro i o ho hi x hx hb
        by_cases hij : j = i
        · subst hij
          obtain rfl : o = oj := Option.some.inj (ho.symm.trans hoj)
          exact getD_set_true (hdj x hx hb)
        · rw [getD_set_ne false hij] at hi
          exact getD_set_true (hc i o ho hi x hx hb)
      have hconv : ∀ k, ((listed.setIfInBounds j true).getD k false = true ∨ k ∈ τ) ↔ (listed.getD k false = true ∨ k ∈ j :: τ) := by
        intro k
        by_cases hk : j = k
        · subst hk; simp [hs, hjs]
        · rw [getD_set_ne false hk]; simp [Ne.symm hk]
      exact (hconv _).1 (ih hc' (by simp [hs]) τ ρ hσ i o ho ((hconv _).2 hi) x hx hb)

theorem wpOps_J (h : Ord n ops) {e0 : Env} {vals : Nat → Value} (hloc : ∀ i o, ops[i]? = some o → Loc P ops V J i o (EE e0 ops.toList vals i) (vals i))
    {Q : Exit → Act → World → Prop} (hQ : ∀ a w D, Rep n a (EE e0 ops.toList vals ops.size) → (∀ i, i < ops.size → D i = true) → J D w → Q .normal a w) :
    ∀ {listed : Array Bool} {σ : List Nat}, Lin ops listed σ → (∀ τ ρ, σ = τ ++ ρ → V (fun k => listed.getD k false || τ.contains k)) →
      ∀ (a : Act) (e : Env) (w : World), listed.size = ops.size → Rep n a e → Mid ops e0 vals listed e → J (fun k => listed.getD k false) w → wpOps P ops Q σ a w := by
  have fin : ∀ (listed : Array Bool) (a : Act) (e : Env) (w : World), Rep n a e → Mid ops e0 vals listed e → J (fun k => listed.getD k false) w → (∀ i, i < ops.size → listed.getD i false = true) → Q .normal a w := by
    intro listed a e w ha hm hJ hall
    have he : e = EE e0 ops.toList vals ops.size := by
      funext t
      have hl : ∀ j : Nat, ops.toList[j]? = ops[j]? := fun j => by rw [Array.getElem?_toList]
      by_cases hex : ∃ (j : Nat) (p : Oper), ops[j]? = some p ∧ p.dst = some t
      · obtain ⟨j, p, hp, hd⟩ := hex
        have hjs : j < ops.size := (Array.getElem?_eq_some_iff.1 hp).1
        rw [hm.hit j p t hp hd (hall j hjs)]
        exact (EE_hit e0 ops.toList vals t j p (by rw [hl]; exact hp) hd (fun i' p' hp' hd' => h.one i' j p' p t (by rw [← hl]; exact hp') hp hd' hd) _ hjs).symm
      · have hno : ∀ (j : Nat) (p : Oper), ops[j]? = some p → p.dst ≠ some t := fun j p hp hd => hex ⟨j, p, hp, hd⟩
        rw [hm.miss t (fun j p hp hd => absurd hd (hno j p hp))]
        exact (EE_miss e0 ops.toList vals t _ (fun j p _ hp => hno j p (by rw [← hl]; exact hp))).symm
    subst he
    exact hQ a w _ ha hall hJ
  intro listed σ hlin
  induction hlin with
  | @nil listed hr =>
    intro _ a e w hs ha hm hJ
    exact fin listed a e w ha hm hJ (ready_all h hs hr)
  | @cons listed i σ hi _ ih =>
    intro hV a e w hs ha hm hJ
    obtain ⟨h1, o, ho, hdep⟩ := mem_ready.1 hi
    have hio : i < ops.size := (Array.getElem?_eq_some_iff.1 ho).1
    have hil : i < listed.size := by omega
    have hlk := looks_eq h hm ho hdep
    have hex := execOp_looks (h.sel i o ho) hlk
    have hwa := wanted_looks hlk
    have hDi : (fun k => listed.getD k false) i = false := by
      show listed.getD i false = false
      simp only [Array.getD_eq_getD_getElem?, hil, Array.getElem?_eq_getElem, Option.getD_some] at h1 ⊢; exact h1
    have hVD : V (fun k => listed.getD k false) := by
      have := hV [] (i :: σ) rfl
      have e1 : (fun k => listed.getD k false || ([] : List Nat).contains k) = fun k => listed.getD k false := funext fun k => by simp
      rw [e1] at this; exact this
    have hVD : V (fun k => listed.getD k false) ∧ V (setD (fun k => listed.getD k false) i) := by
      refine ⟨hVD, ?_⟩
      have := hV [i] σ rfl
      have e1 : (fun k => listed.getD k false || ([i] : List Nat).contains k) = setD (fun k => listed.getD k false) i := funext fun k => by
        unfold setD
        by_cases hk : k = i
        · simp [hk]
        · simp [hk]
      rw [e1] at this; exact this
    have hV' : ∀ τ ρ, σ = τ ++ ρ → V (fun k => (listed.setIfInBounds i true).getD k false || τ.contains k) := by
      intro τ ρ hσ
      have := hV (i :: τ) ρ (by rw [hσ]; rfl)
      have e1 : (fun k => listed.getD k false || (i :: τ).contains k) = fun k => (listed.setIfInBounds i true).getD k false || τ.contains k := by
        funext k
        by_cases hk : i = k
        · subst hk; simp [hil]
        · rw [getD_set_ne false hk]
          simp [Ne.symm hk]
      rw [e1] at this; exact this
    have next : ∀ w', J (setD (fun k => listed.getD k false) i) w' → wpOps P ops Q σ (a.put o.dst (vals i)) w' := by
      intro w' hJ'
      refine ih hV' _ _ w' (by simp [hs]) (ha.put (h.dst i o ho) (vals i)) (hm.step h ho hil) ?_
      rw [setD_eq hil]; exact hJ'
    rw [wpOps_cons]
    unfold wpOp
    simp only [ho]
    rw [wanted_rep ha, hwa]
    rcases hloc i o ho with ⟨hw, hl⟩ | ⟨hw, hv, hl⟩
    · rw [if_pos hw]
      refine .inl ?_
      have hl' := hl (fun k => listed.getD k false) w hDi hVD hdep hJ
      unfold Oper.wp
      rw [ha.eval, hex]
      generalize (execOp (ev (EE e0 ops.toList vals i)) o).run P w = r at hl'
      cases r with
      | ok x w' =>
        cases x <;> simp only [LocRun] at hl' <;> simp only [Oper.upon]
        case value u => rw [hl'.1]; exact next w' hl'.2
        case skip => rw [← hl'.1]; exact next w' hl'.2
        case enter f args =>
          refine Calls.mono hl' fun x w'' hx => ?_
          cases x with
          | returned u => rw [hx.1]; exact next w'' hx.2
          | panicked ch => exact hx.elim
          | outgrown => exact hx.elim
      | halt x w' => simp only [LocRun] at hl'
    · rw [if_neg (by rw [hw]; simp)]
      rw [← hv]
      exact next w (hl (fun k => listed.getD k false) w hDi hVD hdep hJ)

theorem getD_replicate_false' (m j : Nat) : (Array.replicate m false).getD j false = false := by
  rcases Nat.lt_or_ge j m with h | h <;> simp [h]

/-- A region that draws its order: V D: the operations of D may have been done, and no other; these sets lie in one another, and what an operation waits for is in the set with it. -/
theorem W.draws {id : Nat} {l : List Oper} {Q : Exit → Env → World → Prop} {e : Env} {w : World} (hm : P.follows .mixedOrders = true) (hB : ordB n l.toArray = true)
    (h : ∀ V : (Nat → Bool) → Prop, (∀ D D', V D → V D' → (∀ k, D k = true → D' k = true) ∨ (∀ k, D' k = true → D k = true)) → (∀ D, V D → ∀ i o, l[i]? = some o → D i = true → depsOn o D) →
      ∃ J : (Nat → Bool) → World → Prop, J (fun _ => false) w.drew ∧ JL P l.toArray V J (fun e' => ∀ D w', (∀ i, i < l.length → D i = true) → J D w' → Q .normal e' w') 0 l e) : W P n (.region id l.toArray true) Q e w := by
  intro a ha
  have ho := ord_of hB
  refine wp_region_draw fun t => ?_
  simp only [Region.schedule, hm, Bool.true_or, if_true]
  have hlin := lin_go l.toArray l.toArray.size t (Array.replicate l.toArray.size false) (by simp) (by simp)
  unfold Region.linearise
  generalize Region.linearise.go .any l.toArray l.toArray.size t (Array.replicate l.toArray.size false) [] = σ at hlin ⊢
  have hclosed := lin_closed hlin (fun i o _ hi => by rw [getD_replicate_false'] at hi; cases hi) (by simp)
  obtain ⟨J, hJ, hjl⟩ := h (Pre σ) (fun D D' h1 h2 => h1.chain h2) (by
    rintro D ⟨τ, ρ, hσ, hD⟩ i o hi hDi x hx hb
    have := hclosed τ ρ hσ i o (by simpa using hi) (.inr ((hD i).1 hDi)) x hx hb
    rcases this with h1 | h1
    · rw [getD_replicate_false'] at h1; cases h1
    · exact (hD _).2 h1)
  obtain ⟨vals, h1, h2⟩ := JL.collect l 0 e hjl
  refine wpOps_J (V := Pre σ) (J := J) ho (e0 := e) (vals := vals) (fun i o hi => ?_) (fun a' w' D ha' hD hJ' => ?_) hlin ?_ a e _ (by simp) ha ⟨fun j o t _ _ hl => ?_, fun t _ => rfl⟩ ?_
  · have := h1 i o (by simpa using hi)
    simpa using this
  · exact ⟨_, ha', h2 D w' (fun i hi => hD i (by simpa using hi)) hJ'⟩
  · intro τ ρ hσ
    exact ⟨τ, ρ, hσ, fun k => by show ((Array.replicate l.toArray.size false).getD k false || τ.contains k) = true ↔ _; rw [getD_replicate_false']; simp⟩
  · rw [getD_replicate_false'] at hl; cases hl
  · have : (fun k => (Array.replicate l.toArray.size false).getD k false) = fun _ => false := funext fun k => getD_replicate_false' _ _
    rw [this]; exact hJ
end
end Go.Vc
