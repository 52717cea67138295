/- Maps as lists of keys and values. -/
import Derived.Test.YtahcjihhkmolpaaVc5
import Derived.WideKeyRuns
import Derived.Laws.StructEq
namespace Go.Vc
open Go Go.RowKit

/-- The world with block r turned. -/
def putObj (w : World) (r : Nat) (o : Obj) : World := { w with heap := w.heap.setIfInBounds r o }
theorem putObj_other (w : World) {r k : Nat} (o : Obj) (h : k ≠ r) : (putObj w r o).heap[k]? = w.heap[k]? := by
  show (w.heap.setIfInBounds r o)[k]? = _
  rw [Array.getElem?_setIfInBounds_ne (Ne.symm h)]
theorem putObj_size (w : World) (r : Nat) (o : Obj) : (putObj w r o).heap.size = w.heap.size := by simp [putObj]
theorem putObj_self {w : World} {r : Nat} (o : Obj) (h : r < w.heap.size) : (putObj w r o).heap[r]? = some o := by simp [putObj, h]
theorem grown_putObj (w : World) (r : Nat) (o : Obj) : w.grownBy (putObj w r o) (some r) :=
  ⟨rfl, rfl, rfl, Nat.le_of_eq (putObj_size w r o).symm, fun _ _ hk => putObj_other w o (fun h => hk (by rw [h]))⟩
theorem putObj_below {B : Nat} {a w : World} (h : Below B a w) {r : Nat} (hr : B ≤ r) (o : Obj) : Below B a (putObj w r o) :=
  h.trans ⟨rfl, rfl, rfl, Nat.le_of_eq (putObj_size w r o).symm, fun _ hk => putObj_other w o (by omega)⟩

/-- How keys of a type are found: κ makes a key's value. -/
structure Keys (P : Program) (T : TypeId) {α : Type} [DecidableEq α] (κ : α → Value) : Prop where
  check : ∀ (b : Bool) (a : α) (w : World), (Instr.checkKey b 10000 T (κ a)).run P w = .ok () w
  bits : ∀ a, Instr.sameBits 10000 (κ a) (κ a) = true
  eq : ∀ (a b : α) (w : World), (Op.equal T (κ a) (κ b)).run P w = .ok (decide (a = b)) w
  now : ∀ (d : TypeDesc), P.underlying T = some d → (∀ a b, Instr.sameNow d (κ a) (κ b) = some (decide (a = b))) ∨ (∀ a b, Instr.sameNow d (κ a) (κ b) = none)
  und : ∃ d, P.underlying T = some d

variable {α : Type} [DecidableEq α]

def scan (a : α) : List (α × Value) → Nat → Option (Nat × Value)
  | [], _ => none
  | p :: L, i => if a = p.1 then some (i, p.2) else scan a L (i + 1)
def lookL (L : List (α × Value)) (a : α) : Option Value := (scan a L 0).map (·.2)

theorem scan_shift (a : α) : ∀ (L : List (α × Value)) (i : Nat), scan a L i = (scan a L 0).map fun x => (x.1 + i, x.2)
  | [], _ => rfl
  | p :: L, i => by
    unfold scan
    split
    · simp
    · rw [scan_shift a L (i + 1), scan_shift a L (0 + 1), Option.map_map]
      congr 1; funext x; simp; omega
theorem lookL_cons (p : α × Value) (L : List (α × Value)) (a : α) : lookL (p :: L) a = if a = p.1 then some p.2 else lookL L a := by
  unfold lookL
  conv => lhs; unfold scan
  split
  · rfl
  · rw [scan_shift a L (0 + 1), Option.map_map]; rfl
theorem lookL_nil (a : α) : lookL ([] : List (α × Value)) a = none := rfl
theorem lookL_append (L M : List (α × Value)) (a : α) : lookL (L ++ M) a = (lookL L a).or (lookL M a) := by
  induction L with
  | nil => rfl
  | cons p L ih =>
    rw [List.cons_append, lookL_cons, lookL_cons]
    split
    · rfl
    · exact ih
theorem lookL_none {L : List (α × Value)} {a : α} : lookL L a = none ↔ ∀ p ∈ L, p.1 ≠ a := by
  induction L with
  | nil => simp [lookL_nil]
  | cons p L ih =>
    rw [lookL_cons]
    by_cases h : a = p.1
    · simp [h]
    · simp [h, ih, Ne.symm h]
theorem scan_spec {a : α} : ∀ {L : List (α × Value)} {i : Nat} {v : Value}, scan a L 0 = some (i, v) → L[i]? = some (a, v)
  | [], _, _, h => by cases h
  | p :: L, i, v, h => by
    unfold scan at h
    split at h
    · rename_i hp; cases h; simp [hp]
    · rw [scan_shift] at h
      cases hs : scan a L 0 with
      | none => rw [hs] at h; cases h
      | some x =>
        rw [hs] at h
        simp at h
        obtain ⟨rfl, rfl⟩ := h
        have := scan_spec (a := a) (L := L) (i := x.1) (v := x.2) hs
        simpa using this
/-- a's value turned, or a laid behind the others. -/
def putL (L : List (α × Value)) (a : α) (v : Value) : List (α × Value) :=
  match scan a L 0 with
  | some (i, _) => L.set i (a, v)
  | none => L ++ [(a, v)]
theorem lookL_set {L : List (α × Value)} {a : α} {i : Nat} {u v : Value} (h : scan a L 0 = some (i, u)) (b : α) : lookL (L.set i (a, v)) b = if b = a then some v else lookL L b := by
  induction L generalizing i with
  | nil => cases h
  | cons p L ih =>
    unfold scan at h
    split at h
    · rename_i hp
      cases h
      rw [List.set_cons_zero, lookL_cons, lookL_cons]
      by_cases hb : b = a
      · subst hb; simp
      · simp [hb, ← hp]
    · rename_i hp
      rw [scan_shift] at h
      cases hs : scan a L 0 with
      | none => rw [hs] at h; cases h
      | some x =>
        rw [hs] at h
        simp at h
        obtain ⟨rfl, rfl⟩ := h
        rw [List.set_cons_succ, lookL_cons, lookL_cons, ih (i := x.1) hs]
        by_cases hb : b = a
        · subst hb; simp [hp]
        · by_cases hb2 : b = p.1 <;> simp [hb, hb2]
          intro hh; exact absurd hh.symm hp
theorem lookL_put (L : List (α × Value)) (a : α) (v : Value) (b : α) : lookL (putL L a v) b = if b = a then some v else lookL L b := by
  unfold putL
  cases hs : scan a L 0 with
  | some x => exact lookL_set (i := x.1) (u := x.2) hs b
  | none =>
    simp only
    rw [lookL_append, lookL_cons, lookL_nil]
    by_cases hb : b = a
    · subst hb; simp [lookL, hs]
    · simp [hb]
theorem lookL_mem {L : List (α × Value)} {a : α} {v : Value} (h : lookL L a = some v) : (a, v) ∈ L := by
  unfold lookL at h
  cases hs : scan a L 0 with
  | none => rw [hs] at h; cases h
  | some x =>
    rw [hs] at h
    simp at h; subst h
    exact List.mem_of_getElem? (scan_spec (i := x.1) hs)

/-- Block r is a map that holds L, its keys made by κ. -/
def MapF {α : Type} (w : World) (r : Nat) (κ : α → Value) (L : List (α × Value)) : Prop :=
  ∃ es ck, w.heap[r]? = some (.map es ck) ∧ es.toList.map (fun e => (e.key, e.val)) = L.map (fun p => (κ p.1, p.2)) ∧ (es.toList.map (·.born)).Nodup ∧ ∀ e ∈ es.toList, e.born < ck

section
omit [DecidableEq α]
variable {w w' : World} {r : Nat} {κ : α → Value} {L : List (α × Value)}
theorem MapF.lt (h : MapF w r κ L) : r < w.heap.size := by obtain ⟨es, ck, h, _⟩ := h; exact (Array.getElem?_eq_some_iff.1 h).1
theorem MapF.grown (h : MapF w r κ L) {row : Option Nat} (hg : w.grownBy w' row) (hne : some r ≠ row) : MapF w' r κ L := by
  have := h.lt
  obtain ⟨es, ck, h, hr⟩ := h
  exact ⟨es, ck, (hg.block r this hne).trans h, hr⟩
theorem MapF.keep (h : MapF w r κ L) (hb : Below w.heap.size w w') : MapF w' r κ L := h.grown (grownBy_of_below hb) (by simp)
theorem MapF.ne (h : MapF w r κ L) {b : Nat} {cs : Array Value} {T : TypeId} (h' : Blk w b cs T) : r ≠ b := by
  intro hb; subst hb
  obtain ⟨es, ck, h, _⟩ := h
  unfold Blk at h'
  rw [h] at h'; cases h'
theorem MapF.made (w : World) (κ : α → Value) : MapF (w.alloc (.map #[] 0)) w.heap.size κ ([] : List (α × Value)) :=
  ⟨#[], 0, by show (w.heap.push _)[_]? = _; simp, rfl, by simp, fun e he => by simp at he⟩
end

section
variable {P : Program} {T : TypeId} {κ : α → Value}
theorem run_findKey (K : Keys P T κ) (a : α) (w : World) : ∀ (es : List MapEntry) (L : List (α × Value)), es.map (fun e => (e.key, e.val)) = L.map (fun p => (κ p.1, p.2)) →
    (Instr.findKey T (κ a) es).run P w = .ok (scan a L 0) w := by
  obtain ⟨d, hd⟩ := K.und
  have asking : ∀ (es : List MapEntry) (L : List (α × Value)) (i : Nat), es.map (fun e => (e.key, e.val)) = L.map (fun p => (κ p.1, p.2)) → (Instr.findAsking T (κ a) es i).run P w = .ok (scan a L i) w := by
    intro es
    induction es with
    | nil => intro L i h; cases L with
      | nil => rfl
      | cons p L => simp at h
    | cons e es ih =>
      intro L i h
      cases L with
      | nil => simp at h
      | cons p L =>
        simp only [List.map_cons, List.cons.injEq, Prod.mk.injEq] at h
        obtain ⟨⟨h1, h2⟩, h3⟩ := h
        unfold Instr.findAsking
        simp only [Sem.run_bind, h1, K.eq, Result.andThen_ok, Sem.run_ite]
        unfold scan
        by_cases hp : a = p.1
        · simp [hp, h2]
        · simp only [hp, decide_false, Bool.false_eq_true, if_false]; exact ih L (i + 1) h3
  have nowF : (∀ a b, Instr.sameNow d (κ a) (κ b) = some (decide (a = b))) → ∀ (es : List MapEntry) (L : List (α × Value)) (i : Nat), es.map (fun e => (e.key, e.val)) = L.map (fun p => (κ p.1, p.2)) → Instr.findNow d (κ a) es i = some (scan a L i) := by
    intro hn es
    induction es with
    | nil => intro L i h; cases L with
      | nil => rfl
      | cons p L => simp at h
    | cons e es ih =>
      intro L i h
      cases L with
      | nil => simp at h
      | cons p L =>
        simp only [List.map_cons, List.cons.injEq, Prod.mk.injEq] at h
        obtain ⟨⟨h1, h2⟩, h3⟩ := h
        unfold Instr.findNow scan
        rw [h1, hn]
        by_cases hp : a = p.1
        · simp [hp, h2]
        · simp only [hp, decide_false, if_false]; exact ih L (i + 1) h3
  intro es L h
  unfold Instr.findKey
  simp only [Sem.run_bind, run_underlying hd, Result.andThen_ok]
  rcases K.now d hd with hn | hn
  · rw [nowF hn es L 0 h]; rfl
  · cases es with
    | nil => cases L with
      | nil => rfl
      | cons p L => simp at h
    | cons e es =>
      cases L with
      | nil => simp at h
      | cons p L =>
        have h1 : e.key = κ p.1 := by simp only [List.map_cons, List.cons.injEq, Prod.mk.injEq] at h; exact h.1.1
        have : Instr.findNow d (κ a) (e :: es) 0 = none := by unfold Instr.findNow; rw [h1, hn]
        rw [this]
        exact asking (e :: es) (p :: L) 0 h
end

section
variable {P : Program} {T KT ET : TypeId} {κ : α → Value} {ρ : Operand → Value} {w : World} {d : Option Nat} {ty : TypeId} {ps : String} {af : Array Edge} {g : Option (Nat × Bool)} {x y z : Operand} {r : Nat} {L : List (α × Value)} {a : α} {zv : Value}
omit [DecidableEq α] in
theorem run_getMap {es : Array MapEntry} {ck : Nat} (h : w.heap[r]? = some (.map es ck)) : (getObj r).run P w = .ok (.map es ck) w := by simp [getObj, Sem.run, h]
omit [DecidableEq α] in
theorem run_setObj {o : Obj} {es : Array MapEntry} {ck : Nat} (h : w.heap[r]? = some (.map es ck)) : (setObj r o).run P w = .ok () (putObj w r o) := by simp [setObj, Sem.run, h, putObj]

theorem run_lookup {b : Bool} (hU : P.underlying T = some (.map KT ET)) (K : Keys P KT κ) (hZ : (P.info? ET).bind (·.zero) = some zv) (hM : MapF w r κ L) :
    (Instr.lookup T (.map (some r)) (κ a) b).run P w = .ok (if b then .tuple #[(lookL L a).getD zv, .bool (lookL L a).isSome] else (lookL L a).getD zv) w := by
  obtain ⟨es, ck, h, hes, -, -⟩ := hM
  have hf := run_findKey K a w es.toList L hes
  unfold Instr.lookup
  simp only [Sem.run_bind, run_underlying hU, Result.andThen_ok, run_getMap h, Sem.run_pure, K.check, hf]
  unfold lookL
  cases scan a L 0 with
  | none => simp [Sem.run_bind, run_zeroValue hZ]
  | some p => simp
theorem x_lookup (hU : P.underlying T = some (.map KT ET)) (K : Keys P KT κ) (hZ : (P.info? ET).bind (·.zero) = some zv) (hx : ρ x = .map (some r)) (hy : ρ y = κ a) (hM : MapF w r κ L) :
    (execOp ρ ⟨d, .lookup T x y false, ty, ps, af, g⟩).run P w = .ok (.value ((lookL L a).getD zv)) w := by
  simp only [execOp, hx, hy, Sem.run_bind, run_lookup hU K hZ hM, Result.andThen_ok, Sem.run_pure, Bool.false_eq_true, if_false]
theorem x_lookupOk (hU : P.underlying T = some (.map KT ET)) (K : Keys P KT κ) (hZ : (P.info? ET).bind (·.zero) = some zv) (hx : ρ x = .map (some r)) (hy : ρ y = κ a) (hM : MapF w r κ L) :
    (execOp ρ ⟨d, .lookup T x y true, ty, ps, af, g⟩).run P w = .ok (.value (.tuple #[(lookL L a).getD zv, .bool (lookL L a).isSome])) w := by
  simp only [execOp, hx, hy, Sem.run_bind, run_lookup hU K hZ hM, Result.andThen_ok, Sem.run_pure, if_true]
omit [DecidableEq α] in
theorem modify_map {es : List MapEntry} {l : List (α × Value)} (h : es.map (fun e => (e.key, e.val)) = l.map (fun p => (κ p.1, p.2))) (i : Nat) (a : α) (v : Value) :
    (es.modify i fun e => { e with key := κ a, val := v }).map (fun e => (e.key, e.val)) = (l.set i (a, v)).map (fun p => (κ p.1, p.2)) := by
  induction es generalizing l i with
  | nil => cases l with
    | nil => simp
    | cons p l => simp at h
  | cons e es ih =>
    cases l with
    | nil => simp at h
    | cons p l =>
      simp only [List.map_cons, List.cons.injEq] at h
      cases i with
      | zero => simp [h.2]
      | succ i => simp [h.1, ih h.2 i]
omit [DecidableEq α] in
theorem modify_born (es : List MapEntry) (i : Nat) (f : MapEntry → MapEntry) (hf : ∀ e, (f e).born = e.born) : (es.modify i f).map (·.born) = es.map (·.born) := by
  induction es generalizing i with
  | nil => simp
  | cons e es ih => cases i with
    | zero => simp [hf]
    | succ i => simp [ih i]
/-- An entry's key is what the list says. -/
theorem key_at {es : List MapEntry} {l : List (α × Value)} (h : es.map (fun e => (e.key, e.val)) = l.map (fun p => (κ p.1, p.2))) {i : Nat} {v : Value} (hs : scan a l 0 = some (i, v)) : ∃ e, es[i]? = some e ∧ e.key = κ a ∧ e.val = v := by
  have h1 := scan_spec hs
  have h2 : (es.map (fun e => (e.key, e.val)))[i]? = some (κ a, v) := by rw [h, List.getElem?_map, h1]; rfl
  rw [List.getElem?_map] at h2
  cases he : es[i]? with
  | none => rw [he] at h2; cases h2
  | some e => rw [he] at h2; simp at h2; exact ⟨e, rfl, h2.1, h2.2⟩
omit [DecidableEq α] in
theorem MapF.modify {es : Array MapEntry} {ck : Nat} (hes : es.toList.map (fun e => (e.key, e.val)) = L.map (fun p => (κ p.1, p.2))) (hn : (es.toList.map (·.born)).Nodup) (hl : ∀ e ∈ es.toList, e.born < ck) (hr : r < w.heap.size) (i : Nat) (a : α) (v : Value) :
    MapF (putObj w r (.map (es.modify i fun e => { e with key := κ a, val := v }) ck)) r κ (L.set i (a, v)) := by
  refine ⟨_, ck, putObj_self _ hr, by rw [Array.toList_modify]; exact modify_map hes i a v, by rw [Array.toList_modify, modify_born]; exact hn; exact fun _ => rfl, fun e he => ?_⟩
  rw [Array.toList_modify] at he
  have : e.born ∈ es.toList.map (·.born) := by rw [← modify_born es.toList i (fun e => { e with key := κ a, val := v }) (fun _ => rfl)]; exact List.mem_map_of_mem he
  obtain ⟨e', he', hb⟩ := List.mem_map.1 this
  rw [← hb]; exact hl e' he'
omit [DecidableEq α] in
theorem MapF.pushed {es : Array MapEntry} {ck : Nat} (hes : es.toList.map (fun e => (e.key, e.val)) = L.map (fun p => (κ p.1, p.2))) (hn : (es.toList.map (·.born)).Nodup) (hl : ∀ e ∈ es.toList, e.born < ck) (hr : r < w.heap.size) (a : α) (v : Value) :
    MapF (putObj w r (.map (es.push { key := κ a, val := v, born := ck }) (ck + 1))) r κ (L ++ [(a, v)]) := by
  refine ⟨_, _, putObj_self _ hr, by simp [hes], ?_, fun e he => ?_⟩
  · rw [Array.toList_push, List.map_append, List.nodup_append]
    refine ⟨hn, by simp, fun b hb c hc => ?_⟩
    simp at hc; subst hc
    obtain ⟨e', he', hb⟩ := List.mem_map.1 hb
    have := hl e' he'
    omega
  · simp at he
    rcases he with he | rfl
    · have := hl e (by simpa using he); omega
    · exact Nat.lt_succ_self _
theorem run_mapUpdate (hU : P.underlying T = some (.map KT ET)) (K : Keys P KT κ) (hM : MapF w r κ L) (v : Value) :
    ∃ o, (Instr.mapUpdate T (.map (some r)) (κ a) v).run P w = .ok () (putObj w r o) ∧ MapF (putObj w r o) r κ (putL L a v) := by
  have hr := hM.lt
  obtain ⟨es, ck, h, hes, hn, hl⟩ := hM
  have hf := run_findKey K a w es.toList L hes
  unfold Instr.mapUpdate
  simp only [Sem.run_bind, run_underlying hU, Result.andThen_ok, run_getMap h, K.check, hf]
  unfold putL
  cases hs : scan a L 0 with
  | none => exact ⟨_, run_setObj h, MapF.pushed hes hn hl hr a v⟩
  | some p =>
    obtain ⟨i, u⟩ := p
    obtain ⟨e, he, hk, -⟩ := key_at hes hs
    have hkey : ((es[i]?).map (·.key)).getD (κ a) = κ a := by rw [← Array.getElem?_toList, he]; simp [hk]
    simp only [hkey]
    have hst : (Instr.keyThatStays (κ a) (κ a)).run P w = .ok (κ a) w := by simp [Instr.keyThatStays, K.bits]
    simp only [Sem.run_bind, hst, Result.andThen_ok]
    exact ⟨_, run_setObj h, MapF.modify hes hn hl hr i a v⟩
/-- The list with a's entry there. -/
def entL (L : List (α × Value)) (a : α) (zv : Value) : List (α × Value) := match scan a L 0 with | some _ => L | none => L ++ [(a, zv)]
theorem lookL_ent (L : List (α × Value)) (a : α) (zv : Value) (b : α) : lookL (entL L a zv) b = if b = a then some ((lookL L a).getD zv) else lookL L b := by
  unfold entL
  cases hs : scan a L 0 with
  | some x =>
    have ha : lookL L a = some x.2 := by unfold lookL; rw [hs]; rfl
    by_cases hb : b = a
    · subst hb; simp [ha]
    · simp [hb]
  | none =>
    have ha : lookL L a = none := by unfold lookL; rw [hs]; rfl
    simp only
    rw [lookL_append, lookL_cons, lookL_nil]
    by_cases hb : b = a
    · subst hb; simp [ha]
    · simp [hb]
/-- Block r is a map that holds L, and a's entry bears the stamp t. -/
def MapB (w : World) (r : Nat) (κ : α → Value) (L : List (α × Value)) (a : α) (t : Nat) : Prop :=
  ∃ es ck i u, w.heap[r]? = some (.map es ck) ∧ es.toList.map (fun e => (e.key, e.val)) = L.map (fun p => (κ p.1, p.2)) ∧ (es.toList.map (·.born)).Nodup ∧ (∀ e ∈ es.toList, e.born < ck) ∧ scan a L 0 = some (i, u) ∧ (es.toList[i]?).map (·.born) = some t
theorem MapB.map {t : Nat} (h : MapB w r κ L a t) : MapF w r κ L := by obtain ⟨es, ck, i, u, h1, h2, h3, h4, -⟩ := h; exact ⟨es, ck, h1, h2, h3, h4⟩
theorem MapB.grown {t : Nat} {w' : World} {row : Option Nat} (h : MapB w r κ L a t) (hg : w.grownBy w' row) (hne : some r ≠ row) : MapB w' r κ L a t := by
  have := h.map.lt
  obtain ⟨es, ck, i, u, h1, hr⟩ := h
  exact ⟨es, ck, i, u, (hg.block r this hne).trans h1, hr⟩
theorem MapB.keep {t : Nat} {w' : World} (h : MapB w r κ L a t) (hb : Below w.heap.size w w') : MapB w' r κ L a t := h.grown (grownBy_of_below hb) (by simp)
theorem run_mapEntry (hU : P.underlying T = some (.map KT ET)) (K : Keys P KT κ) (hZ : (P.info? ET).bind (·.zero) = some zv) (hM : MapF w r κ L) :
    ∃ o, ∃ t : Nat, (Instr.mapEntry T (.map (some r)) (κ a)).run P w = .ok (.tuple #[(lookL L a).getD zv, .int .i64 (t : Int)]) (putObj w r o) ∧ MapB (putObj w r o) r κ (entL L a zv) a t := by
  have hr := hM.lt
  obtain ⟨es, ck, h, hes, hn, hl⟩ := hM
  have hf := run_findKey K a w es.toList L hes
  unfold Instr.mapEntry
  simp only [Sem.run_bind, run_underlying hU, Result.andThen_ok, run_getMap h, K.check, hf]
  cases hs : scan a L 0 with
  | none =>
    have ha : lookL L a = none := by unfold lookL; rw [hs]; rfl
    simp only [Sem.run_bind, run_zeroValue hZ, Result.andThen_ok, run_setObj h, Sem.run_pure, ha, Option.getD_none]
    refine ⟨_, ck, rfl, ?_⟩
    obtain ⟨es2, ck2, h1, h2, h3, h4⟩ := MapF.pushed (r := r) (w := w) hes hn hl hr a zv
    have hlen : es.toList.length = L.length := by have := congrArg List.length hes; simpa using this
    have hent : entL L a zv = L ++ [(a, zv)] := by unfold entL; rw [hs]
    rw [hent]
    have hsc : ∀ (M : List (α × Value)) (j : Nat), scan a M j = none → scan a (M ++ [(a, zv)]) j = some (j + M.length, zv) := by
      intro M
      induction M with
      | nil => intro j _; simp [scan]
      | cons q M ih =>
        intro j hj
        unfold scan at hj
        split at hj
        · cases hj
        · rename_i hq
          rw [List.cons_append]
          unfold scan
          rw [if_neg hq, ih (j + 1) hj]
          simp; omega
    refine ⟨_, _, L.length, zv, putObj_self _ hr, by simp [hes], ?_, ?_, by rw [hsc L 0 hs, Nat.zero_add], ?_⟩
    · rw [putObj_self _ hr] at h1; cases h1; exact h3
    · rw [putObj_self _ hr] at h1; cases h1; exact h4
    · rw [← hlen]; simp
  | some p =>
    obtain ⟨i, u⟩ := p
    obtain ⟨e, he, hk, hv⟩ := key_at hes hs
    have ha : lookL L a = some u := by unfold lookL; rw [hs]; rfl
    have he' : es[i]? = some e := by rw [← Array.getElem?_toList, he]
    have hkey : ((es[i]?).map (·.key)).getD (κ a) = κ a := by rw [he']; simp [hk]
    have hst : (Instr.keyThatStays (κ a) (κ a)).run P w = .ok (κ a) w := by simp [Instr.keyThatStays, K.bits]
    simp only [hkey, ha, Option.getD_some]
    simp only [Sem.run_bind, hst, Result.andThen_ok, run_setObj h, Sem.run_pure, he', Option.map_some, Option.getD_some, goInt]
    refine ⟨_, e.born, rfl, ?_⟩
    have hent : entL L a zv = L := by unfold entL; rw [hs]
    rw [hent]
    have hm : (es.modify i fun e => { e with key := κ a }).toList = es.toList := by
      rw [Array.toList_modify]
      apply List.ext_getElem?
      intro j
      rw [List.getElem?_modify]
      by_cases hij : i = j
      · subst hij; rw [he]; simp [← hk]
      · simp [hij]
    refine ⟨_, _, i, u, putObj_self _ hr, ?_, ?_, ?_, hs, ?_⟩
    · rw [hm]; exact hes
    · rw [hm]; exact hn
    · rw [hm]; exact hl
    · rw [hm, he]; rfl
theorem run_entryStore {t : Nat} (hM : MapB w r κ L a t) (v : Value) :
    ∃ o, (Instr.entryStore T (.map (some r)) (.int .i64 (t : Int)) v).run P w = .ok () (putObj w r o) ∧ MapF (putObj w r o) r κ (putL L a v) := by
  have hr := hM.map.lt
  obtain ⟨es, ck, i, u, h, hes, hn, hl, hs, hb⟩ := hM
  obtain ⟨e, he, hk, hv⟩ := key_at hes hs
  have he' : es[i]? = some e := by rw [← Array.getElem?_toList, he]
  obtain rfl : e.born = t := by rw [he] at hb; simpa using hb
  have hi : i < es.size := (Array.getElem?_eq_some_iff.1 he').1
  have hfi : es.findIdx? (fun x => (x.born : Int) == (e.born : Int)) = some i := by
    rw [Array.findIdx?_eq_some_iff_getElem]
    refine ⟨hi, ?_, fun j hj => ?_⟩
    · rw [(Array.getElem?_eq_some_iff.1 he').2]; simp
    · have hne : es[j].born ≠ e.born := by
        intro heq
        have h1 : (es.toList.map (·.born))[j]? = some e.born := by simp [show j < es.size by omega, heq]
        have h2 : (es.toList.map (·.born))[i]? = some e.born := by rw [List.getElem?_map, he]; rfl
        have := (List.getElem?_inj (by simp; omega) hn).1 (h1.trans h2.symm)
        omega
      simp; omega
  unfold Instr.entryStore
  have has : (asInt (Value.int .i64 (e.born : Int))).run P w = .ok (e.born : Int) w := by simp [asInt, asIntOf]
  simp only [Sem.run_bind, run_getMap h, Result.andThen_ok, has, hfi]
  refine ⟨_, run_setObj h, ?_⟩
  have hpl : putL L a v = L.set i (a, v) := by unfold putL; rw [hs]
  rw [hpl]
  have hmod : (es.modify i fun e => { e with val := v }) = (es.modify i fun e => { e with key := κ a, val := v }) := by
    apply Array.ext_getElem?
    intro j
    rw [Array.getElem?_modify, Array.getElem?_modify]
    by_cases hij : i = j
    · subst hij; rw [he']; simp [← hk]
    · simp [hij]
  rw [hmod]
  exact MapF.modify hes hn hl hr i a v
end

section
variable {P : Program} {T KT ET : TypeId} {κ : α → Value} {w : World} {d : Option Nat} {ty : TypeId} {ps : String} {af : Array Edge} {x y z : Operand} {r : Nat} {Lm : List (α × Value)} {a : α} {v zv : Value} {n : Nat} {ops : Array Oper} {Q : Exit → Env → World → Prop} {rest : List Oper} {e : Env}
theorem L.mput (hU : P.underlying T = some (.map KT ET)) (K : Keys P KT κ) (hx : ev e x = .map (some r)) (hy : ev e y = κ a) (hz : ev e z = v) (hM : MapF w r κ Lm)
    (k : ∀ o, MapF (putObj w r o) r κ (putL Lm a v) → L P n ops Q rest e (putObj w r o)) : L P n ops Q (⟨none, .mapUpdate T x y z, ty, ps, af, none⟩ :: rest) e w := by
  obtain ⟨o, h1, h2⟩ := run_mapUpdate (a := a) hU K hM v
  refine L.st ?_ (k o h2)
  simp only [execOp, hx, hy, hz, Sem.run_bind, h1, Result.andThen_ok, Sem.run_pure]
theorem L.mins (hU : P.underlying T = some (.map KT ET)) (K : Keys P KT κ) (hx : ev e x = .map (some r)) (hy : ev e y = κ a) (hz : ev e z = v) (hM : MapF w r κ Lm)
    (k : ∀ o, MapF (putObj w r o) r κ (putL Lm a v) → L P n ops Q rest e (putObj w r o)) : L P n ops Q (⟨none, .insert T x y z, ty, ps, af, none⟩ :: rest) e w := by
  obtain ⟨o, h1, h2⟩ := run_mapUpdate (a := a) hU K hM v
  refine L.st ?_ (k o h2)
  simp only [execOp, hx, hy, hz, Sem.run_bind, h1, Result.andThen_ok, Sem.run_pure]
theorem L.ment {d : Nat} (hU : P.underlying T = some (.map KT ET)) (K : Keys P KT κ) (hZ : (P.info? ET).bind (·.zero) = some zv) (hx : ev e x = .map (some r)) (hy : ev e y = κ a) (hM : MapF w r κ Lm)
    (k : ∀ o (t : Nat), MapB (putObj w r o) r κ (entL Lm a zv) a t → L P n ops Q rest (upd e d (.tuple #[(lookL Lm a).getD zv, .int .i64 (t : Int)])) (putObj w r o)) : L P n ops Q (⟨some d, .mapEntry T x y, ty, ps, af, none⟩ :: rest) e w := by
  obtain ⟨o, t, h1, h2⟩ := run_mapEntry (a := a) hU K hZ hM
  refine L.va ?_ (k o t h2)
  simp only [execOp, hx, hy, Sem.run_bind, h1, Result.andThen_ok, Sem.run_pure]
theorem L.mset {t : Nat} (hx : ev e x = .map (some r)) (hy : ev e y = .int .i64 (t : Int)) (hz : ev e z = v) (hM : MapB w r κ Lm a t)
    (k : ∀ o, MapF (putObj w r o) r κ (putL Lm a v) → L P n ops Q rest e (putObj w r o)) : L P n ops Q (⟨none, .entryStore T x y z, ty, ps, af, none⟩ :: rest) e w := by
  obtain ⟨o, h1, h2⟩ := run_entryStore (P := P) (T := T) hM v
  refine L.st ?_ (k o h2)
  simp only [execOp, hx, hy, hz, Sem.run_bind, h1, Result.andThen_ok, Sem.run_pure]
end

/-- Keys that are ints. -/
theorem sameBits_i64 (n : Nat) (a : Int) : Instr.sameBits n (.int .i64 a) (.int .i64 a) = true := by cases n <;> simp [Instr.sameBits]
theorem sameBits_pair (n : Nat) (a b : Int) : Instr.sameBits (n + 1) (.agg #[.int .i64 a, .int .i64 b]) (.agg #[.int .i64 a, .int .i64 b]) = true := by simp [Instr.sameBits, sameBits_i64]
theorem Keys.i64 {P : Program} {T : TypeId} (hT : P.underlying T = some (.int .i64)) : Keys P T (fun a : Int => .int .i64 a) where
  check b a w := by
    show (Instr.checkKey b (9999 + 1) T _).run P w = _
    unfold Instr.checkKey
    simp only [Sem.run_bind, run_underlying hT, Result.andThen_ok, Sem.run_pure]
  bits a := sameBits_i64 _ a
  eq a b w := by
    show (Op.equalIn (9999 + 1) T _ _).run P w = _
    rw [run_equalIn_int w 9999 T .i64 .i64 a b hT]
    by_cases h : a = b <;> simp [h]
  now d hd := by
    rw [hT] at hd; cases hd
    left
    intro a b
    by_cases h : a = b <;> simp [Instr.sameNow, h]
  und := ⟨_, hT⟩
def pairV (p : Int × Int) : Value := .agg #[.int .i64 p.1, .int .i64 p.2]
/-- Keys that are structs of two ints. -/
theorem Keys.pair {P : Program} {T It : TypeId} {f0 f1 : Field} (hT : P.underlying T = some (.struct #[f0, f1])) (h0 : f0.name ≠ "_" ∧ f0.type = It ∧ f0.offset = 0) (h1 : f1.name ≠ "_" ∧ f1.type = It ∧ f1.offset = 1)
    (hI : P.underlying It = some (.int .i64)) (hst : P.stoodInHeld T = false) : Keys P T pairV := by
  have hpl : P.plainKey It = true := by unfold Program.plainKey; simp [hI]
  have p0 : ∀ (a b : Int) (w : World), (part It #[Value.int .i64 a, .int .i64 b] 0).run P w = .ok (.int .i64 a) w := fun a b w => run_part_plain w hpl rfl
  have p1 : ∀ (a b : Int) (w : World), (part It #[Value.int .i64 a, .int .i64 b] 1).run P w = .ok (.int .i64 b) w := fun a b w => run_part_plain w hpl rfl
  have hF : P.fieldsOf T = #[f0, f1] := by unfold Program.fieldsOf; simp [hT]
  refine ⟨fun b a w => ?_, fun a => sameBits_pair 9999 _ _, fun a b w => ?_, fun d hd => ?_, ⟨_, hT⟩⟩
  · show (Instr.checkKey b (9999 + 1) T _).run P w = _
    have hc : ∀ (c : Int) (w : World), (Instr.checkKey b 9999 It (.int .i64 c)).run P w = .ok () w := fun c w => by
      show (Instr.checkKey b (9998 + 1) It _).run P w = _
      unfold Instr.checkKey
      simp only [Sem.run_bind, run_underlying hI, Result.andThen_ok, Sem.run_pure]
    generalize 9999 = m at hc ⊢
    unfold Instr.checkKey
    simp [run_underlying hT, pairV, h0, h1, p0, p1, hc, Sem.run_bind]
  · show (Op.equalIn (9999 + 1) T _ _).run P w = _
    have he : ∀ (c d : Int) (w : World), (Op.equalIn 9999 It (.int .i64 c) (.int .i64 d)).run P w = .ok (c == d) w := fun c d w => run_equalIn_int w 9998 It .i64 .i64 c d hI
    generalize 9999 = m at he ⊢
    unfold pairV
    rw [run_equalIn_struct w m T _ _ (by rw [hF]; exact hT) hst, hF]
    simp only [Op.eqFields, h0, h1, ne_eq, not_false_eq_true, if_true, Sem.run_bind, p0, p1, Result.andThen_ok, he, Sem.run_ite, Sem.run_pure]
    obtain ⟨a1, a2⟩ := a
    obtain ⟨b1, b2⟩ := b
    by_cases h1 : a1 = b1 <;> by_cases h2 : a2 = b2 <;> simp [h1, h2]
  · rw [hT] at hd; cases hd
    right
    intro a b
    simp [Instr.sameNow, pairV]
end Go.Vc
