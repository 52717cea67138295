/- A walk by rules over frames that are functions: what a Go text does is stepped through one operation a rule, no simplifier in between. Nothing here speaks of a program. -/
import Derived.WalkKit
import Derived.Orders
import Derived.Deep.LoopGhost
namespace Go.Vc
open Go

abbrev Env := Nat → Value
def upd (e : Env) (d : Nat) (v : Value) : Env := fun t => if t = d then v else e t
def updO (e : Env) (d : Option Nat) (v : Value) : Env := match d with | some d => upd e d v | none => e
def ev (e : Env) (x : Operand) : Value := match x with
  | .tmp t => e t
  | .const v => v
  | .global g => .pointer (some ⟨g, 0, none⟩)
  | .func f => .func (.func f) #[] #[]

theorem upd_same (e : Env) (d : Nat) (v : Value) : upd e d v d = v := if_pos rfl
theorem upd_ne (e : Env) {d t : Nat} (v : Value) (h : t ≠ d) : upd e d v t = e t := if_neg h
/-- A slot whose value is known is written out. -/
theorem upd_id {e : Env} {t : Nat} {v : Value} (h : e t = v) : e = upd e t v := by
  funext s
  unfold upd
  split
  · rename_i hs; rw [hs, h]
  · rfl

structure Rep (n : Nat) (a : Act) (e : Env) : Prop where
  size : a.tmps.size = n
  defers : a.defers = []
  get : ∀ t, a.tmps.getD t undef = e t

theorem Rep.eval {n : Nat} {a : Act} {e : Env} (h : Rep n a e) : a.eval = ev e := by
  funext x
  cases x <;> simp [Act.eval, ev, h.get]

def dstB (n : Nat) (d : Option Nat) : Bool := match d with | some d => Nat.blt d n | none => true

theorem Rep.put {n : Nat} {a : Act} {e : Env} (h : Rep n a e) {d : Option Nat} (hd : dstB n d = true) (v : Value) : Rep n (a.put d v) (updO e d v) := by
  cases d with
  | none => exact h
  | some d =>
    have hd' : d < n := by simpa [dstB, Nat.blt_eq] using hd
    refine ⟨by simp [Act.put, h.size], by simp [Act.put, h.defers], fun t => ?_⟩
    have hg := h.get t
    simp only [Act.put, updO, upd, Array.getD_eq_getD_getElem?, Array.getElem?_setIfInBounds] at hg ⊢
    by_cases htd : t = d
    · subst htd; simp [h.size, hd']
    · simp only [htd, if_false, Ne.symm htd]
      exact hg

/-- The frames of a function that has n slots, and what is asked of their ends. -/
def lift (n : Nat) (Q : Exit → Env → World → Prop) : Exit → Act → World → Prop := fun x a w => ∃ e, Rep n a e ∧ Q x e w

def W (P : Program) (n : Nat) (c : Code) (Q : Exit → Env → World → Prop) (e : Env) (w : World) : Prop :=
  ∀ a, Rep n a e → c.wp P (lift n Q) a w

def thenE (next : Env → World → Prop) (Q : Exit → Env → World → Prop) : Exit → Env → World → Prop
  | .normal, e, w => next e w
  | x, e, w => Q x e w

def inBlockE (id : Nat) (Q : Exit → Env → World → Prop) : Exit → Env → World → Prop
  | .exit id', e, w => if id' = id then Q .normal e w else Q (.exit id') e w
  | x, e, w => Q x e w

section
variable {P : Program} {n : Nat} {Q Q' : Exit → Env → World → Prop} {e : Env} {w : World}

theorem W.mono {c : Code} (hq : ∀ x e w, Q x e w → Q' x e w) (h : W P n c Q e w) : W P n c Q' e w :=
  fun a ha => wp_mono (h a ha) fun x _ _ ⟨e', r, q⟩ => ⟨e', r, hq x _ _ q⟩

theorem W.seq {x y : Code} (h : W P n x (thenE (W P n y Q) Q) e w) : W P n (.seq x y) Q e w := by
  intro a ha
  refine wp_seq (wp_mono (h a ha) ?_)
  rintro ex a' w' ⟨e', r, q⟩
  cases ex with
  | normal => exact q a' r
  | exit id => exact ⟨e', r, q⟩
  | goto l => exact ⟨e', r, q⟩
  | ret => exact ⟨e', r, q⟩
  | panic ch => exact ⟨e', r, q⟩
  | outgrown => exact ⟨e', r, q⟩

theorem W.skip (h : Q .normal e w) : W P n .skip Q e w := fun _ ha => wp_skip ⟨e, ha, h⟩
theorem W.exit {id : Nat} (h : Q (.exit id) e w) : W P n (.exit id) Q e w := fun _ ha => wp_exit ⟨e, ha, h⟩
theorem W.goto {l : Nat} (h : Q (.goto l) e w) : W P n (.goto l) Q e w := fun _ ha => wp_goto ⟨e, ha, h⟩
theorem W.label {l : Nat} (h : Q .normal e w) : W P n (.label l) Q e w := fun _ ha => wp_label ⟨e, ha, h⟩
theorem W.ret (h : Q .ret e w) : W P n .ret Q e w := fun _ ha => wp_ret ⟨e, ha, h⟩

theorem W.cond {c : Operand} {x y : Code} {b : Bool} (hc : ev e c = .bool b) (ht : b = true → W P n x Q e w) (hf : b = false → W P n y Q e w) :
    W P n (.cond c x y) Q e w := by
  intro a ha
  have hc' : a.eval c = .bool b := by rw [ha.eval]; exact hc
  cases b
  · exact wp_cond_false hc' (hf rfl a ha)
  · exact wp_cond_true hc' (ht rfl a ha)

/-- A test on a proposition. -/
theorem W.condP {c : Operand} {x y : Code} {p : Prop} [Decidable p] (hc : ev e c = .bool (decide p)) (ht : p → W P n x Q e w) (hf : ¬p → W P n y Q e w) :
    W P n (.cond c x y) Q e w :=
  W.cond hc (fun h => ht (of_decide_eq_true h)) (fun h => hf (of_decide_eq_false h))
theorem W.condT {c : Operand} {x y : Code} (hc : ev e c = .bool true) (ht : W P n x Q e w) : W P n (.cond c x y) Q e w :=
  W.cond hc (fun _ => ht) (fun h => by cases h)
theorem W.condF {c : Operand} {x y : Code} (hc : ev e c = .bool false) (hf : W P n y Q e w) : W P n (.cond c x y) Q e w :=
  W.cond hc (fun h => by cases h) (fun _ => hf)

theorem W.block {id : Nat} {c : Code} (h : W P n c (inBlockE id Q) e w) : W P n (.block id c) Q e w := by
  intro a ha
  refine wp_block (wp_mono (h a ha) ?_)
  rintro ex a' w' ⟨e', r, q⟩
  cases ex with
  | normal => exact ⟨e', r, q⟩
  | exit id' =>
    simp only [inBlockE] at q
    simp only [Exit.inBlock]
    split
    · rename_i h; rw [if_pos h] at q; exact ⟨e', r, q⟩
    · rename_i h; rw [if_neg h] at q; exact ⟨e', r, q⟩
  | goto l => exact ⟨e', r, q⟩
  | ret => exact ⟨e', r, q⟩
  | panic ch => exact ⟨e', r, q⟩
  | outgrown => exact ⟨e', r, q⟩

/-- A loop: an invariant that bears a number which every round lowers. -/
theorem W.loop {c : Code} (I : Nat → Env → World → Prop) (k₀ : Nat) (h₀ : I k₀ e w)
    (round : ∀ k e w, I k e w → W P n c (thenE (fun e' w' => ∃ k', k' < k ∧ I k' e' w') Q) e w) : W P n (.loop c) Q e w := by
  intro a ha
  refine wp_loop_ghost (fun k a w => ∃ e, Rep n a e ∧ I k e w) k₀ ⟨e, ha, h₀⟩ ?_
  rintro k a w ⟨e, ha, hI⟩
  refine wp_mono (round k e w hI a ha) ?_
  rintro ex a' w' ⟨e', r, q⟩
  cases ex with
  | normal => obtain ⟨k', hk, hI'⟩ := q; exact ⟨k', hk, e', r, hI'⟩
  | exit id => exact ⟨e', r, q⟩
  | goto l => exact ⟨e', r, q⟩
  | ret => exact ⟨e', r, q⟩
  | panic ch => exact ⟨e', r, q⟩
  | outgrown => exact ⟨e', r, q⟩

/-- The ways meet again. -/
theorem W.cut {c : Code} {next : Env → World → Prop} (R : Env → World → Prop) (h : W P n c (thenE R Q) e w) (k : ∀ e' w', R e' w' → next e' w') : W P n c (thenE next Q) e w := by
  refine W.mono ?_ h
  intro x e w q
  cases x <;> first | exact k _ _ q | exact q

/-! ### Regions -/
def L (P : Program) (n : Nat) (ops : Array Oper) (Q : Exit → Env → World → Prop) (l : List Oper) (e : Env) (w : World) : Prop :=
  (∀ o ∈ l, dstB n o.dst = true) → ∀ a, Rep n a e → wpList P ops (lift n Q) l a w

def regB (n : Nat) (l : List Oper) : Bool := l.all fun o => dstB n o.dst

theorem W.region {id : Nat} {l : List Oper} (hB : regB n l = true) (h : L P n l.toArray Q l e w) : W P n (.region id l.toArray false) Q e w :=
  fun a ha => wp_region_lit (h (fun o ho => List.all_eq_true.1 hB o ho) a ha)

variable {ops : Array Oper} {o : Oper} {rest : List Oper} {w' : World} {v : Value}

theorem L.nil (h : Q .normal e w) : L P n ops Q [] e w := fun _ _ ha => wpList_nil ⟨e, ha, h⟩

/-- What a guard sees. -/
def yieldE (ops : Array Oper) (e : Env) (j : Nat) : Option Bool :=
  match (ops[j]?).bind (·.dst) with
  | some t => match e t with | .bool b => some b | _ => none
  | none => none

theorem yielded_rep {a : Act} (ha : Rep n a e) (j : Nat) : yielded ops a.tmps j = yieldE ops e j := by
  unfold yielded yieldE
  cases h : (ops[j]?).bind (·.dst) with
  | none => simp
  | some t =>
    have hg := ha.get t
    simp only [Option.bind_some, Array.getD_eq_getD_getElem?] at hg ⊢
    cases h2 : a.tmps[t]? with
    | none => rw [h2] at hg; simp only [Option.getD_none] at hg; rw [← hg]; rfl
    | some u => rw [h2] at hg; simp only [Option.getD_some] at hg; rw [← hg]; cases u <;> rfl

theorem wanted_rep {a : Act} (ha : Rep n a e) (o : Oper) : Region.wanted o (yielded ops a.tmps) = Region.wanted o (yieldE ops e) := by
  have : yielded ops a.tmps = yieldE ops e := funext (yielded_rep ha)
  rw [this]

/-- An operation that is wanted and yields a value. -/
theorem L.val' (hw : Region.wanted o (yieldE ops e) = true) (hr : (execOp (ev e) o).run P w = .ok (.value v) w') (k : L P n ops Q rest (updO e o.dst v) w') : L P n ops Q (o :: rest) e w := by
  intro hd a ha
  unfold wpList
  rw [wanted_rep ha, if_pos hw]
  refine .inl ?_
  unfold Oper.wp
  rw [ha.eval, hr, Oper.upon_value]
  exact k (fun o' ho' => hd o' (List.mem_cons_of_mem _ ho')) _ (ha.put (hd o List.mem_cons_self) v)

theorem L.skip' (hw : Region.wanted o (yieldE ops e) = true) (hr : (execOp (ev e) o).run P w = .ok .skip w') (k : L P n ops Q rest (updO e o.dst undef) w') : L P n ops Q (o :: rest) e w := by
  intro hd a ha
  unfold wpList
  rw [wanted_rep ha, if_pos hw]
  refine .inl ?_
  unfold Oper.wp
  rw [ha.eval, hr, Oper.upon_skip]
  exact k (fun o' ho' => hd o' (List.mem_cons_of_mem _ ho')) _ (ha.put (hd o List.mem_cons_self) undef)

/-- An operation that is not wanted. -/
theorem L.off (hw : Region.wanted o (yieldE ops e) = false) (k : L P n ops Q rest (updO e o.dst undef) w) : L P n ops Q (o :: rest) e w := by
  intro hd a ha
  unfold wpList
  rw [wanted_rep ha, hw]
  exact k (fun o' ho' => hd o' (List.mem_cons_of_mem _ ho')) _ (ha.put (hd o List.mem_cons_self) undef)

/-- What a contract says: it returns, and of the value and the world this holds. -/
def Ret (R : Value → World → Prop) : Ending → World → Prop
  | .returned v, w => R v w
  | _, _ => False
/-- A contract. -/
def C (P : Program) (f : FuncId) (args : Array Value) (w : World) (R : Value → World → Prop) : Prop := Calls P f args w (Ret R)

theorem C.mono {f : FuncId} {args : Array Value} {R R' : Value → World → Prop} (h : C P f args w R) (hr : ∀ v w, R v w → R' v w) : C P f args w R' :=
  Calls.mono h fun e w' he => by cases e <;> first | exact hr _ _ he | exact he

theorem L.call' {f : FuncId} {args : Array Value} {R : Value → World → Prop} (hw : Region.wanted o (yieldE ops e) = true) (hr : (execOp (ev e) o).run P w = .ok (.enter f args) w)
    (hc : C P f args w R) (k : ∀ v w', R v w' → L P n ops Q rest (updO e o.dst v) w') : L P n ops Q (o :: rest) e w := by
  intro hd a ha
  unfold wpList
  rw [wanted_rep ha, if_pos hw]
  refine .inl ?_
  unfold Oper.wp
  rw [ha.eval, hr, Oper.upon_enter]
  refine Calls.mono hc fun x w' hx => ?_
  cases x with
  | returned v => exact k v w' hx (fun o' ho' => hd o' (List.mem_cons_of_mem _ ho')) _ (ha.put (hd o List.mem_cons_self) v)
  | panicked ch => exact hx.elim
  | outgrown => exact hx.elim

end

section
variable {P : Program} {n : Nat} {Q : Exit → Env → World → Prop} {e : Env} {w w' : World} {ops : Array Oper} {rest : List Oper} {v : Value}
variable {d : Nat} {op : Op} {ty : TypeId} {ps : String} {af : Array Edge}

/-- Unguarded, with a slot. -/
theorem L.va (hr : (execOp (ev e) ⟨some d, op, ty, ps, af, none⟩).run P w = .ok (.value v) w') (k : L P n ops Q rest (upd e d v) w') : L P n ops Q (⟨some d, op, ty, ps, af, none⟩ :: rest) e w :=
  L.val' rfl hr k
/-- Unguarded, without a slot, a value. -/
theorem L.va0 (hr : (execOp (ev e) ⟨none, op, ty, ps, af, none⟩).run P w = .ok (.value v) w') (k : L P n ops Q rest e w') : L P n ops Q (⟨none, op, ty, ps, af, none⟩ :: rest) e w :=
  L.val' rfl hr k
/-- A store. -/
theorem L.st (hr : (execOp (ev e) ⟨none, op, ty, ps, af, none⟩).run P w = .ok .skip w') (k : L P n ops Q rest e w') : L P n ops Q (⟨none, op, ty, ps, af, none⟩ :: rest) e w :=
  L.skip' rfl hr k
theorem L.call {f : FuncId} {args : Array Value} {R : Value → World → Prop} (hr : (execOp (ev e) ⟨some d, op, ty, ps, af, none⟩).run P w = .ok (.enter f args) w)
    (hc : C P f args w R) (k : ∀ v w', R v w' → L P n ops Q rest (upd e d v) w') : L P n ops Q (⟨some d, op, ty, ps, af, none⟩ :: rest) e w :=
  L.call' rfl hr hc k
theorem L.call0 {f : FuncId} {args : Array Value} {R : Value → World → Prop} (hr : (execOp (ev e) ⟨none, op, ty, ps, af, none⟩).run P w = .ok (.enter f args) w)
    (hc : C P f args w R) (k : ∀ v w', R v w' → L P n ops Q rest e w') : L P n ops Q (⟨none, op, ty, ps, af, none⟩ :: rest) e w :=
  L.call' rfl hr hc k

variable {dst : Option Nat} {j : Nat} {want : Bool}
/-- The guard says yes. -/
theorem L.on (hw : yieldE ops e j = some want) (k : L P n ops Q (⟨dst, op, ty, ps, af, none⟩ :: rest) e w) : L P n ops Q (⟨dst, op, ty, ps, af, some (j, want)⟩ :: rest) e w := by
  intro hd a ha
  have := k (fun o ho => by
    rcases List.mem_cons.1 ho with rfl | ho
    · exact (hd ⟨dst, op, ty, ps, af, some (j, want)⟩ List.mem_cons_self : dstB n dst = true)
    · exact hd _ (List.mem_cons_of_mem _ ho)) a ha
  unfold wpList at this ⊢
  rw [wanted_rep ha] at this ⊢
  have h1 : Region.wanted ⟨dst, op, ty, ps, af, some (j, want)⟩ (yieldE ops e) = true := by simp [Region.wanted, hw]
  have h2 : Region.wanted ⟨dst, op, ty, ps, af, none⟩ (yieldE ops e) = true := rfl
  rw [if_pos h1]
  rw [if_pos h2] at this
  exact this
/-- The guard says no. -/
theorem L.no (hw : yieldE ops e j = some (!want)) (k : L P n ops Q rest (updO e dst undef) w) : L P n ops Q (⟨dst, op, ty, ps, af, some (j, want)⟩ :: rest) e w :=
  L.off (by cases want <;> simp [Region.wanted, hw]) k
end

/-! ### What is forgotten: the slots of G -/
def hav (G : List Nat) (f e : Env) : Env := fun t => if G.contains t then f t else e t
def Agree (G : List Nat) (e' e : Env) : Prop := ∀ t, G.contains t = false → e' t = e t
theorem Agree.refl (G : List Nat) (e : Env) : Agree G e e := fun _ _ => rfl
theorem Agree.upd {G : List Nat} {e' e : Env} {d : Nat} {v : Value} (hd : G.contains d = true) (h : Agree G e' e) : Agree G (upd e' d v) e := fun t ht => by
  have : t ≠ d := fun h => by subst h; rw [hd] at ht; cases ht
  rw [upd_ne _ _ this]; exact h t ht
theorem Agree.out {G : List Nat} {e' e : Env} (h : Agree G e' e) : ∃ f, e' = hav G f e := ⟨e', by
  funext t
  unfold hav
  split
  · rfl
  · rename_i ht; exact h t (by simpa using ht)⟩

section
variable {P : Program} {n : Nat} {Q : Exit → Env → World → Prop} {e : Env} {w : World} {ops : Array Oper}

theorem wpList_mono {Q1 Q2 : Exit → Act → World → Prop} (hq : ∀ x a w, Q1 x a w → Q2 x a w) : ∀ (l : List Oper) (a : Act) (w : World), wpList P ops Q1 l a w → wpList P ops Q2 l a w
  | [], _, _, h => hq _ _ _ h
  | o :: l, a, w, h => by
    unfold wpList at h ⊢
    split
    · rename_i hw
      rw [if_pos hw] at h
      rcases h with h | ⟨h1, a0, w0, h2⟩
      · left
        unfold Oper.wp at *
        generalize ((execOp a.eval o).run P w) = r at *
        cases r with
        | ok x w' =>
          cases x <;> simp only [Oper.upon] at h ⊢ <;>
            first
              | exact wpList_mono hq l _ _ h
              | exact h
              | exact Calls.mono h (fun e w'' he => by cases e <;> first | exact wpList_mono hq l _ _ he | exact hq _ _ _ he | (obtain ⟨a0, w0, h2⟩ := he; exact ⟨a0, w0, hq _ _ _ h2⟩))
              | exact Rows.mono h (fun _ _ he => wpList_mono hq l _ _ he)
        | halt x w' => cases x <;> simp only [Oper.upon] at h ⊢ <;> first | exact hq _ _ _ h | exact h
      · exact .inr ⟨h1, a0, w0, hq _ _ _ h2⟩
    · rename_i hw
      rw [if_neg hw] at h
      exact wpList_mono hq l _ _ h

theorem wpList_append {Q' : Exit → Act → World → Prop} : ∀ (l1 l2 : List Oper) (a : Act) (w : World), wpList P ops (Exit.then (wpList P ops Q' l2) Q') l1 a w → wpList P ops Q' (l1 ++ l2) a w
  | [], _, _, _, h => h
  | o :: l1, l2, a, w, h => by
    show wpList P ops Q' (o :: (l1 ++ l2)) a w
    unfold wpList at h ⊢
    split
    · rename_i hw
      rw [if_pos hw] at h
      rcases h with h | ⟨h1, h2⟩
      · left
        unfold Oper.wp at *
        generalize ((execOp a.eval o).run P w) = r at *
        cases r with
        | ok x w' =>
          cases x <;> simp only [Oper.upon] at h ⊢ <;>
            first
              | exact wpList_append l1 l2 _ _ h
              | exact h
              | exact Calls.mono h (fun e w'' he => by cases e <;> first | exact wpList_append l1 l2 _ _ he | exact he)
              | exact Rows.mono h (fun _ _ he => wpList_append l1 l2 _ _ he)
        | halt x w' => cases x <;> simp only [Oper.upon] at h ⊢ <;> exact h
      · exact .inr ⟨h1, h2⟩
    · rename_i hw
      rw [if_neg hw] at h
      exact wpList_append l1 l2 _ _ h

/-- A region's operations in two parts. -/
theorem L.cut (k : Nat) (R : Env → World → Prop) {l : List Oper} (h1 : L P n ops (thenE R Q) (l.take k) e w) (h2 : ∀ e' w', R e' w' → L P n ops Q (l.drop k) e' w') : L P n ops Q l e w := by
  intro hd a ha
  rw [← List.take_append_drop k l] at hd ⊢
  refine wpList_append _ _ _ _ (wpList_mono ?_ _ _ _ (h1 (fun o ho => hd o (List.mem_append_left _ ho)) a ha))
  rintro x a' w' ⟨e', r, q⟩
  cases x with
  | normal => exact h2 e' w' q (fun o ho => hd o (List.mem_append_right _ ho)) a' r
  | exit id => exact ⟨e', r, q⟩
  | goto l => exact ⟨e', r, q⟩
  | ret => exact ⟨e', r, q⟩
  | panic ch => exact ⟨e', r, q⟩
  | outgrown => exact ⟨e', r, q⟩

/-- A guarded piece: whatever the guard says, slot d holds v behind it, of the slots of G nothing is known, and the world stands. -/
theorem L.meet (k : Nat) (G : List Nat) (d : Nat) (v : Value) {l : List Oper} (h1 : L P n ops (thenE (fun e' w' => w' = w ∧ e' d = v ∧ Agree G e' e) Q) (l.take k) e w) (h2 : ∀ f, L P n ops Q (l.drop k) (upd (hav G f e) d v) w) : L P n ops Q l e w := by
  refine L.cut k _ h1 ?_
  rintro e' w' ⟨rfl, hd, hA⟩
  obtain ⟨f, hf⟩ := hA.out
  rw [upd_id hd, hf]
  exact h2 f

end
end Go.Vc
