/- Drawn regions with a chain of effects in their midst; make with room, copy, append in place. -/
import Derived.Test.YtahcjihhkmolpaaVc10
import Derived.Laws.CopyRow
namespace Go.Vc
open Go Go.RowKit

/-! ### A chain of effects -/
def Deps (l0 : List Oper) (V : (Nat → Bool) → Prop) : Prop := ∀ D, V D → ∀ i o, l0[i]? = some o → D i = true → depsOn o D
/-- Each of Es waits for those ahead of it. -/
def chainB (l0 : List Oper) (Es : List Nat) : Bool := (List.range Es.length).all fun b => (List.range b).all fun a => match Es[a]?, Es[b]? with | some x, some y => (befores l0 l0.length [y]).contains x && Nat.blt x y | _, _ => false
theorem chainB_at {l0 : List Oper} {Es : List Nat} (h : chainB l0 Es = true) {a b x y : Nat} (hab : a < b) (hx : Es[a]? = some x) (hy : Es[b]? = some y) : (befores l0 l0.length [y]).contains x = true ∧ x < y := by
  unfold chainB at h
  have hb : b < Es.length := (List.getElem?_eq_some_iff.1 hy).1
  have h1 := List.all_eq_true.1 (List.all_eq_true.1 h b (List.mem_range.2 hb)) a (List.mem_range.2 hab)
  rw [hx, hy] at h1
  simp only [Bool.and_eq_true, Nat.blt_eq] at h1
  exact h1
theorem count_pre : ∀ (Es : List Nat) (D : Nat → Bool) (s : Nat), s ≤ Es.length → (∀ a x, Es[a]? = some x → (D x = true ↔ a < s)) → Es.countP (fun x => D x) = s
  | [], D, s, hs, _ => by simp at hs; subst hs; rfl
  | x :: Es, D, s, hs, h => by
    have h0 := h 0 x rfl
    cases s with
    | zero =>
      have hx : D x = false := by cases hd : D x with | false => rfl | true => exact absurd (h0.1 hd) (by omega)
      rw [List.countP_cons_of_neg (by simp [hx])]
      exact count_pre Es D 0 (Nat.zero_le _) (fun a y hy => by have := h (a + 1) y (by simpa using hy); exact ⟨fun h9 => by have := this.1 h9; omega, fun h9 => by omega⟩)
    | succ s =>
      have hx : D x = true := h0.2 (by omega)
      rw [List.countP_cons_of_pos (by simp [hx])]
      rw [count_pre Es D s (by simp at hs; omega) (fun a y hy => by have := h (a + 1) y (by simpa using hy); exact ⟨fun h9 => by have := this.1 h9; omega, fun h9 => this.2 (by omega)⟩)]
section
variable {P : Program} {ops : Array Oper} {l0 : List Oper} {Es : List Nat} {ws : Nat → World} {Q : Env → Prop} {i : Nat} {e : Env} {rest : List Oper} {v : Value}
variable {d : Nat} {op : Op} {ty : TypeId} {ps : String} {af : Array Edge} {dst : Option Nat} {j : Nat} {want : Bool}
/-- The walk: the effects Es lead from world to world; all else is quiet in each of these. -/
def ML (P : Program) (ops : Array Oper) (l0 : List Oper) (Es : List Nat) (ws : Nat → World) (Q : Env → Prop) (i : Nat) (l : List Oper) (e : Env) : Prop :=
  ∀ V : (Nat → Bool) → Prop, Deps l0 V → JL P ops V (fun D w => w = ws (Es.countP (fun x => D x))) Q i l e
theorem count_set_no {Es : List Nat} {i : Nat} (h : Es.contains i = false) (D : Nat → Bool) : Es.countP (fun x => setD D i x) = Es.countP (fun x => D x) := by
  refine List.countP_congr fun x hx => ?_
  unfold setD
  have : x ≠ i := fun hh => by subst hh; simp [hx] at h
  rw [if_neg this]
theorem E.nil (h : Q e) : ML P ops l0 Es ws Q i [] e := fun _ _ => h
theorem E.va (hi : Es.contains i = false) (hr : ∀ s, s ≤ Es.length → (execOp (ev e) ⟨some d, op, ty, ps, af, none⟩).run P (ws s) = .ok (.value v) (ws s)) (k : ML P ops l0 Es ws Q (i + 1) rest (upd e d v)) : ML P ops l0 Es ws Q i (⟨some d, op, ty, ps, af, none⟩ :: rest) e :=
  fun V hV => ⟨v, .inl ⟨rfl, fun D w _ _ _ hw => by
    rw [hw, hr _ List.countP_le_length]
    exact ⟨rfl, by show _ = ws (Es.countP (fun x => setD D i x)); rw [count_set_no hi]⟩⟩, k V hV⟩
theorem E.on (hw : yieldE ops e j = some want) (k : ML P ops l0 Es ws Q i (⟨dst, op, ty, ps, af, none⟩ :: rest) e) : ML P ops l0 Es ws Q i (⟨dst, op, ty, ps, af, some (j, want)⟩ :: rest) e := by
  intro V hV
  obtain ⟨v, h, k⟩ := k V hV
  refine ⟨v, ?_, k⟩
  rcases h with ⟨_, h⟩ | ⟨h, _⟩
  · exact .inl ⟨by simp [Region.wanted, hw], h⟩
  · cases h
theorem E.off {o : Oper} (hi : Es.contains i = false) (hw : Region.wanted o (yieldE ops e) = false) (k : ML P ops l0 Es ws Q (i + 1) rest (updO e o.dst undef)) : ML P ops l0 Es ws Q i (o :: rest) e :=
  fun V hV => ⟨undef, .inr ⟨hw, rfl, fun D w _ _ _ hw => by show w = ws (Es.countP (fun x => setD D i x)); rw [count_set_no hi]; exact hw⟩, k V hV⟩
/-- Effect a. -/
theorem E.eff (a : Nat) (hc : chainB l0 Es = true) (hi : Es[a]? = some i) (hl : l0[i]? = some ⟨some d, op, ty, ps, af, none⟩) (hr : (execOp (ev e) ⟨some d, op, ty, ps, af, none⟩).run P (ws a) = .ok (.value v) (ws (a + 1))) (k : ML P ops l0 Es ws Q (i + 1) rest (upd e d v)) : ML P ops l0 Es ws Q i (⟨some d, op, ty, ps, af, none⟩ :: rest) e :=
  fun V hV => ⟨v, .inl ⟨rfl, fun D w hDi hVD _ hw => by
    have hal : a < Es.length := (List.getElem?_eq_some_iff.1 hi).1
    have key : ∀ b x, Es[b]? = some x → (D x = true ↔ b < a) := by
      intro b x hx
      constructor
      · intro hDx
        rcases Nat.lt_trichotomy b a with h1 | h1 | h1
        · exact h1
        · subst h1; rw [hi] at hx; cases hx; rw [hDi] at hDx; cases hDx
        · exfalso
          have h2 := (chainB_at hc h1 hi hx).1
          have := befores_done hV hVD.1 l0.length [x] (fun y hy => by simp at hy; rw [hy]; exact hDx) i (List.contains_iff_mem.1 h2)
          rw [hDi] at this; cases this
      · intro hba
        obtain ⟨h2, h3⟩ := chainB_at hc hba hx hi
        have := befores_done hV hVD.2 l0.length [i] (fun y hy => by simp at hy; rw [hy]; simp [setD]) x (List.contains_iff_mem.1 h2)
        unfold setD at this
        rw [if_neg (by omega)] at this; exact this
    have hs := count_pre Es D a (by omega) key
    rw [hw, hs, hr]
    refine ⟨rfl, ?_⟩
    show ws (a + 1) = ws (Es.countP (fun x => setD D i x))
    rw [count_pre Es (setD D i) (a + 1) (by omega) (fun b x hx => by
      unfold setD
      by_cases hxi : x = i
      · subst hxi
        rw [if_pos rfl]
        have hba : b = a := by
          rcases Nat.lt_trichotomy b a with h1 | h1 | h1
          · have := (chainB_at hc h1 hx hi).2; omega
          · exact h1
          · have := (chainB_at hc h1 hi hx).2; omega
        exact ⟨fun _ => by omega, fun _ => rfl⟩
      · rw [if_neg hxi]
        have h2 := key b x hx
        constructor
        · intro h9; have := h2.1 h9; omega
        · intro h9
          refine h2.2 ?_
          rcases Nat.lt_or_ge b a with h3 | h3
          · exact h3
          · exfalso
            have : b = a := by omega
            subst this
            rw [hi] at hx; cases hx; exact hxi rfl)]⟩, k V hV⟩
theorem W.mid {n : Nat} {id : Nat} {l : List Oper} {Q : Exit → Env → World → Prop} {e : Env} {w : World} (k : Nat) (Es : List Nat) (ws : Nat → World) (hm : P.follows .mixedOrders = true) (hB : ordB n l.toArray = true) (hA : sufB l k = true) (hk : Nat.blt k l.length = true) (hE : (Es.all fun i => Nat.blt i k) = true)
    (hC : ws 0 = w.drew) (h : ML P l.toArray l Es ws (fun e' => L P n l.toArray Q (l.drop k) e' (ws Es.length)) 0 (l.take k) e) : W P n (.region id l.toArray true) Q e w := by
  refine W.drawsL k hm hB hA hk fun V _ hV => ⟨fun D w => w = ws (Es.countP (fun x => D x)), ?_, ?_⟩
  · show w.drew = ws (Es.countP (fun _ => false))
    rw [show Es.countP (fun _ => false) = 0 by simp]; exact hC.symm
  · have mono : ∀ (l' : List Oper) (i : Nat) (e : Env), JL P l.toArray V (fun D w => w = ws (Es.countP (fun x => D x))) (fun e' => L P n l.toArray Q (l.drop k) e' (ws Es.length)) i l' e → JL P l.toArray V (fun D w => w = ws (Es.countP (fun x => D x))) (fun e' => ∀ (D : Nat → Bool) w', (∀ i, i < k → D i = true) → w' = ws (Es.countP (fun x => D x)) → L P n l.toArray Q (l.drop k) e' w') i l' e := by
      intro l'
      induction l' with
      | nil =>
        intro i e h D w' hD hw
        have : Es.countP (fun x => D x) = Es.length := by
          rw [List.countP_eq_length]
          intro x hx
          exact hD x (by have := List.all_eq_true.1 hE x hx; rw [Nat.blt_eq] at this; exact this)
        rw [hw, this]; exact h
      | cons o l' ih => exact fun i e ⟨v, h1, h2⟩ => ⟨v, h1, ih _ _ h2⟩
    exact mono _ 0 e (h V hV)
end

/-! ### Slices -/
section
variable {P : Program} {n : Nat} {Q : Exit → Env → World → Prop} {e : Env} {w : World} {ops : Array Oper} {rest : List Oper}
variable {d : Nat} {ty : TypeId} {ps : String} {af : Array Edge} {T E : TypeId} {x y z : Operand}
/-- make([]E, m, c), the zero's cells all alike. -/
theorem L.makeCap {m c s bytes : Nat} {zv z0 : Value} (hx : ev e x = .int .i64 (m : Int)) (hy : ev e y = .int .i64 (c : Int)) (hT : P.underlying T = some (.slice E)) (hi : (P.info? E).map (fun i => (i.zero, i.size, i.bytes)) = some (some zv, s, bytes)) (hz : zv.cells = Array.replicate s z0) (hs : 0 < s)
    (hmc : m ≤ c) (hm : c ≤ 9223372036854775807) (hb : c * bytes ≤ 281474976710656) (k : ∀ w1 b, Fresh w w1 b (Array.replicate (c * s) z0) E → L P n ops Q rest (upd e d (.slice (some ⟨b, 0, none⟩) m c)) w1) :
    L P n ops Q (⟨some d, .makeSlice T x y, ty, ps, af, none⟩ :: rest) e w := by
  refine L.va ?_ (k _ _ (fresh_alloc w _ E))
  obtain ⟨i, hi'⟩ : ∃ i, P.info? E = some i := by cases hh : P.info? E with | none => rw [hh] at hi; cases hi | some i => exact ⟨i, rfl⟩
  rw [hi'] at hi
  simp only [Option.map_some, Option.some.injEq, Prod.mk.injEq] at hi
  obtain ⟨h1, rfl, rfl⟩ := hi
  have hr := run_make (P := P) w T E i zv hT hi' h1 .i64 .i64 (m : Int) (c : Int) (by omega) (by omega) (by
    have : ((c * i.bytes : Nat) : Int) ≤ 281474976710656 := by omega
    rw [Int.natCast_mul, Int.mul_comm] at this; exact this) (by omega)
  rw [hz, madeCells_rep _ _ hs] at hr
  simp only [Int.toNat_natCast] at hr
  simp only [execOp, hx, hy, Sem.run_bind, hr, Result.andThen_ok, Sem.run_pure]
end
theorem Blk.setRow {w : World} {b : Nat} {cs : Array Value} {E : TypeId} (h : Blk w b cs E) (cs' : Array Value) : w.setRow b cs' = setBlk w b cs' E := by
  have hl := h.lt
  have hg : w.heap[b] = .cells cs E (0, 0) := by have := h; unfold Blk at this; rw [Array.getElem?_eq_getElem hl] at this; exact Option.some.inj this
  simp only [World.setRow, Vc.setBlk]
  congr 1
  apply Array.ext_getElem?
  intro i
  by_cases hi : i = b
  · subst hi
    rw [Array.getElem?_modify, if_pos rfl, Array.getElem?_eq_getElem hl, hg]
    simp [hl]
  · rw [Array.getElem?_modify, Array.getElem?_setIfInBounds_ne (Ne.symm hi), if_neg (Ne.symm hi)]
theorem arr_splice {N o m : Nat} {f g : Nat → Value} (h : o + m ≤ N) : ((arr N f).toList.take o ++ (arr m g).toList ++ (arr N f).toList.drop (o + m)).toArray = arr N (fun j => if o ≤ j ∧ j < o + m then g (j - o) else f j) := by
  apply Array.ext_getElem?
  intro j
  rw [List.getElem?_toArray]
  have hN : (arr N f).toList.length = N := arr_len N f
  have hm : (arr m g).toList.length = m := arr_len m g
  by_cases hj : j < N
  · rw [arr_get hj]
    by_cases h1 : j < o
    · rw [List.append_assoc, List.getElem?_append_left (by simp [hN]; omega), List.getElem?_take_of_lt h1, Array.getElem?_toList, arr_get hj, if_neg (by omega)]
    · by_cases h2 : j < o + m
      · rw [List.getElem?_append_left (by simp [hN, hm]; omega), List.getElem?_append_right (by simp [hN]; omega)]
        have : ((arr N f).toList.take o).length = o := by simp [hN]; omega
        rw [this, Array.getElem?_toList, arr_get (by omega), if_pos (by omega)]
      · rw [List.getElem?_append_right (by simp [hN, hm]; omega)]
        have : ((arr N f).toList.take o ++ (arr m g).toList).length = o + m := by simp [hN, hm]; omega
        rw [this, List.getElem?_drop, show o + m + (j - (o + m)) = j by omega, Array.getElem?_toList, arr_get hj, if_neg (by omega)]
  · rw [Array.getElem?_eq_none (by rw [arr_size]; omega), List.getElem?_eq_none (by simp [hN, hm]; omega)]
section
variable {P : Program} {n : Nat} {Q : Exit → Env → World → Prop} {e : Env} {w : World} {ops : Array Oper} {rest : List Oper}
variable {d : Nat} {ty : TypeId} {ps : String} {af : Array Edge} {T E : TypeId} {x y z : Operand}
/-- copy(dst, src): one-cell elements; dst the call's own, from its row's beginning. -/
theorem L.copy {b N m dl dc sc : Nat} {a : Option Addr} {f g : Nat → Value} (hx : ev e x = .slice (some ⟨b, 0, none⟩) dl dc) (hy : ev e y = .slice a m sc) (hT : P.underlying T = some (.slice E)) (hs : (P.info? E).map (·.size) = some 1) (hB : Blk w b (arr N f) E) (hm : m ≤ dl) (hN : m ≤ N)
    (hS : SL a m) (hnil : a = none → m = 0 ∧ sc = 0) (hc : ∀ j, j < m → w.cell? ⟨ab a, ao a + j * 1, none⟩ = some (g j)) (h1 : ∀ j, j < m → (g j).oneCell' = true)
    (k : ∀ w1, Blk w1 b (arr N (fun j => if j < m then g j else f j)) E → w.grownBy w1 (some b) → w1.heap.size = w.heap.size → L P n ops Q rest (upd e d (.int .i64 (m : Int))) w1) :
    L P n ops Q (⟨some d, .call ⟨.builtin .copy, #[x, y], #[T, T]⟩, ty, ps, af, none⟩ :: rest) e w := by
  have fin : ∀ {w1 : World}, (Builtin.copy_ #[T, T] ty #[.slice (some ⟨b, 0, none⟩) dl dc, .slice a m sc]).run P w = .ok (.int .i64 (m : Int)) w1 → Blk w1 b (arr N (fun j => if j < m then g j else f j)) E → w.grownBy w1 (some b) → w1.heap.size = w.heap.size → L P n ops Q (⟨some d, .call ⟨.builtin .copy, #[x, y], #[T, T]⟩, ty, ps, af, none⟩ :: rest) e w := by
    intro w1 hr h2 h3 h4
    refine L.va ?_ (k w1 h2 h3 h4)
    simp only [execOp, resolve, invoke, builtin, Sem.run_bind, Sem.run_pure, Result.andThen_ok, List.map_toArray, List.map_cons, List.map_nil, hx, hy, hr]
  cases a with
  | none =>
    obtain ⟨rfl, rfl⟩ := hnil rfl
    have hr := run_copy_nil (P := P) w T T ty E ⟨b, 0, none⟩ dl dc hT (by cases hh : P.info? E <;> simp [hh] at hs ⊢)
    exact fin hr (hB.congrA (fun j _ => by simp)) (gr_refl _ _) rfl
  | some ad =>
    have hcs : (arr m g).toList.length = Nat.min m dl := by rw [arr_len]; exact (Nat.min_eq_left hm).symm
    have hr := run_copy_row (P := P) w T T ty E b 0 dl dc ad m sc (arr N f) E (arr m g).toList hT hs hB hcs (fun j v hj => by
      rw [Array.getElem?_toList] at hj
      have hjm : j < m := by have := (Array.getElem?_eq_some_iff.1 hj).1; rw [arr_size] at this; exact this
      rw [arr_get hjm] at hj; cases hj
      have h5 := hS (by omega)
      have h6 := hc j hjm
      rw [Nat.mul_one] at h6
      simp only [Option.some.injEq] at h5
      rw [h5, Addr.add_lit]; exact h6) (by rw [arr_len, arr_size]; omega) (fun v hv => by
      obtain ⟨j, hj⟩ := List.mem_iff_getElem?.1 hv
      rw [Array.getElem?_toList] at hj
      have hjm : j < m := by have := (Array.getElem?_eq_some_iff.1 hj).1; rw [arr_size] at this; exact this
      rw [arr_get hjm] at hj; cases hj; exact h1 j hjm)
    rw [arr_len, Nat.zero_add, hB.setRow] at hr
    have hsp := arr_splice (N := N) (o := 0) (m := m) (f := f) (g := g) (by omega)
    rw [Nat.zero_add] at hsp
    rw [hsp] at hr
    have hfe : (fun j => if 0 ≤ j ∧ j < m then g (j - 0) else f j) = fun j => if j < m then g j else f j := by funext j; simp
    rw [hfe] at hr
    exact fin hr (setBlk_self _ _ _ hB) (gr_set (gr_refl _ _) (.inl rfl) _ _) (setBlk_size _ _ _ _)
end
section
variable {P : Program} {ρ : Operand → Value} {w : World} {d : Option Nat} {ty : TypeId} {ps : String} {af : Array Edge} {g : Option (Nat × Bool)} {x y : Operand} {T E : TypeId}
/-- append(s, v) where there is room: one-cell elements, s the call's own, from its row's beginning. -/
theorem x_appendRoom {b N k c c' b2 : Nat} {f : Nat → Value} {v : Value} (hx : ρ x = .slice (some ⟨b, 0, none⟩) k c) (hy : ρ y = .slice (some ⟨b2, 0, none⟩) 1 c') (hT : P.underlying T = some (.slice E)) (hs : (P.info? E).map (·.size) = some 1) (hB : Blk w b (arr N f) E) (hB2 : w.cell? ⟨b2, 0, none⟩ = some v) (h1 : v.oneCell' = true) (hk : k + 1 ≤ c) (hN : k + 1 ≤ N) :
    (execOp ρ ⟨d, .call ⟨.builtin .append, #[x, y], #[T, T]⟩, ty, ps, af, g⟩).run P w = .ok (.value (.slice (some ⟨b, 0, none⟩) (k + 1) c)) (setBlk w b (arr N (fun j => if j = k then v else f j)) E) := by
  obtain ⟨i, hi'⟩ : ∃ i, P.info? E = some i := by cases hh : P.info? E with | none => rw [hh] at hs; cases hs | some i => exact ⟨i, rfl⟩
  have hsz : i.size = 1 := by rw [hi'] at hs; simpa using hs
  have hr := run_append_room (P := P) w T ty E i hT hi' b k c (arr N f) hB ⟨b2, 0, none⟩ 1 c' [v] (by rw [hsz]; rfl) (fun j u hj => by
    rw [Addr.add_lit, Nat.zero_add]
    match j, hj with
    | 0, hj => cases hj; exact hB2) (fun u hu => by simp at hu; rw [hu]; exact h1) hk (by rw [hsz, arr_size]; simp; omega)
  rw [hsz, Nat.mul_one, hB.setRow] at hr
  have hsp := arr_splice (N := N) (o := k) (m := 1) (f := f) (g := fun _ => v) (by omega)
  have ha1 : (arr 1 (fun _ => v)).toList = [v] := rfl
  rw [ha1] at hsp
  rw [show ([v] : List Value).length = 1 from rfl, hsp] at hr
  have hfe : (fun j => if k ≤ j ∧ j < k + 1 then v else f j) = fun j => if j = k then v else f j := by
    funext j
    by_cases hj : j = k
    · rw [if_pos (by omega), if_pos hj]
    · rw [if_neg (by omega), if_neg hj]
  rw [hfe] at hr
  simp only [execOp, resolve, invoke, builtin, Sem.run_bind, Sem.run_pure, Result.andThen_ok, List.map_toArray, List.map_cons, List.map_nil, hx, hy, hr]
/-- []E{v}, one cell. -/
theorem x_build1 {v zv : Value} (hx : ρ x = v) (h1 : v.oneCell' = true) (hT : P.underlying T = some (.slice E)) (hs : (P.info? E).map (·.size) = some 1) (hz : (P.info? E).bind (·.zero) = some zv) (hzc : zv.cells.size = 1) :
    (execOp ρ ⟨d, .buildSlice T 1 #[(0, x)], ty, ps, af, g⟩).run P w = .ok (.value (.slice (some ⟨w.heap.size, 0, none⟩) 1 1)) (w.alloc (.cells #[v] E)) := by
  have hv : v.cells = #[v] := by cases v <;> first | rfl | (simp [Value.oneCell'] at h1)
  have h2 : ((Array.map (fun x => zv.cells[x % 1]!) (Array.range 1)).setIfInBounds 0 v) = #[v] := by
    apply Array.ext
    · simp
    · intro j h3 h4
      have : j = 0 := by simp at h4; omega
      subst this; simp
  simp [execOp, Instr.buildSlice, hx, run_underlying hT, run_sizeOf hs, run_zeroValue hz, Instr.fill, hv, newRow, hzc, h2]
end
end Go.Vc
namespace Go.Vc
open Go Go.RowKit
theorem W.cutE {P : Program} {n : Nat} {Q : Exit → Env → World → Prop} {e : Env} {w : World} {c : Code} {next : Env → World → Prop} (R : Env → Env → World → Prop) (h : W P n c (thenE (R e) Q) e w) (k : ∀ e' w', R e e' w' → next e' w') : W P n c (thenE next Q) e w := W.cut (R e) h k
theorem Blk.grownOwn {w w' : World} {b k c : Nat} {cs : Array Value} {T : TypeId} {a : Option Addr} (h : Blk w b cs T) (hg : w.grownBy w' (Value.ownBlock (.slice a k c))) (hne : a ≠ none → ab a ≠ b) : Blk w' b cs T := by
  refine h.grown hg ?_
  cases a with
  | none => simp [Value.ownBlock]
  | some q => have := hne (by simp); simp only [Value.ownBlock, ne_eq, Option.some.injEq]; exact fun e => this e.symm
theorem ModT.toBelow {w0 w : World} {B : Nat} {TS : List TypeId} (h : ModT w0 w B TS) (hB : B = w0.heap.size) : Below w0.heap.size w0 w := ⟨h.os, h.tape, h.output, h.size, fun k hk => h.low k (by omega)⟩
/-- append of the call's own slice, as an equation. -/
theorem run_append_ex {P : Program} {B s bytes m c' : Nat} {a : Option Addr} {k c : Nat} {xs news : List Value} {zv : Value} {ad : Addr} {T E : TypeId} {w : World} (ty : TypeId) (hT : P.underlying T = some (.slice E))
    (hi : (P.info? E).map (fun i => (i.zero, i.size, i.bytes)) = some (some zv, s, bytes)) (hz : zv.cells.size = s) (hs : 0 < s) (hown : Own w B E s a k c xs)
    (hl : news.length = m * s) (hnews : ∀ (j : Nat) u, news[j]? = some u → w.cell? (ad.add j) = some u) (h1 : ∀ u ∈ news, u.oneCell' = true) (hmax : k + m ≤ 9223372036854775807) (hb : (k + m) * bytes ≤ 140737488355328) (hB : B ≤ w.heap.size) :
    ∃ a' c2 w', Own w' B E s a' (k + m) c2 (xs ++ news) ∧ w.grownBy w' (Value.ownBlock (.slice a k c)) ∧ Below B w w' ∧ ∀ (ρ : Operand → Value) (d : Option Nat) (ps : String) (af : Array Edge) (g : Option (Nat × Bool)) (x y : Operand), ρ x = .slice a k c → ρ y = .slice (some ad) m c' →
      (execOp ρ ⟨d, .call ⟨.builtin .append, #[x, y], #[T, T]⟩, ty, ps, af, g⟩).run P w = .ok (.value (.slice a' (k + m) c2)) w' := by
  obtain ⟨i, hi'⟩ : ∃ i, P.info? E = some i := by cases hh : P.info? E with | none => rw [hh] at hi; cases hi | some i => exact ⟨i, rfl⟩
  rw [hi'] at hi
  simp only [Option.map_some, Option.some.injEq, Prod.mk.injEq] at hi
  obtain ⟨g1, g2, g3⟩ := hi
  obtain ⟨v', w', hr, h2, h3, h4⟩ := run_append_own (P := P) w B T ty E i zv s bytes hT hi' g1 g2 g3 hz hs (.slice a k c) k xs hown ad m c' news hl hnews h1 (by simpa [maxLen] using hmax) hb hB
  obtain ⟨a', c2, rfl⟩ : ∃ a' c2, v' = .slice a' (k + m) c2 := by
    rcases h2.2 with ⟨hv, h0⟩ | ⟨g, cap, cur, hv, _⟩
    · exact ⟨none, 0, by rw [hv, h0]⟩
    · exact ⟨_, _, hv⟩
  have hbel : Below B w w' := (Below.refl B w).grown h3 hB (fun r hr => by
    cases a with
    | none => cases hr
    | some q =>
      simp only [Value.ownBlock, Option.some.injEq] at hr
      subst hr
      exact (hown.row (by simp)).choose_spec.2.1)
  refine ⟨a', c2, w', h2, h3, hbel, fun ρ d ps af g x y hx hy => ?_⟩
  simp only [execOp, resolve, invoke, builtin, Sem.run_bind, Sem.run_pure, Result.andThen_ok, List.map_toArray, List.map_cons, List.map_nil, hx, hy, hr]
/-- []E{v}, whatever an element's size. -/
theorem x_buildOne {P : Program} {ρ : Operand → Value} {w : World} {d : Option Nat} {ty : TypeId} {ps : String} {af : Array Edge} {g : Option (Nat × Bool)} {x : Operand} {T E : TypeId} {s : Nat} {v : Value} {cs : Array Value} (hx : ρ x = v) (hcs : v.cells = cs) (hT : P.underlying T = some (.slice E)) (hs : (P.info? E).map (·.size) = some s) (hl : cs.size = s) (hz : ∃ zv, (P.info? E).bind (·.zero) = some zv) (hlt : 0 < s ∧ s ≤ 16777216) :
    (execOp ρ ⟨d, .buildSlice T 1 #[(0, x)], ty, ps, af, g⟩).run P w = .ok (.value (.slice (some ⟨w.heap.size, 0, none⟩) 1 1)) (w.alloc (.cells cs E)) := by
  obtain ⟨zv, hz⟩ := hz
  have hlt' : ¬ (1 * s > 2 ^ 24) := by omega
  have hsz : v.cells.size = s := by rw [hcs, hl]
  have hf := fun cs0 : Array Value => fun h : cs0.size = s => fill_one v.cells.toList 0 cs0 (by simp [h, hsz])
  simp only [execOp, Instr.buildSlice, List.map_toArray, List.map_cons, List.map_nil, hx, run_underlying hT, run_sizeOf hs, Sem.run_bind, Result.andThen_ok, hlt', if_false, Sem.run_pure]
  have h0 : ¬ 1 * s = 0 := by omega
  simp only [h0, if_false, Sem.run_bind, run_zeroValue hz, Result.andThen_ok, Sem.run_pure, Instr.fill, Nat.zero_mul, hsz, ne_eq, not_true_eq_false, decide_false, Bool.false_or]
  have h3 := hf ((Array.range (1 * s)).map (fun i => zv.cells[i % zv.cells.size]!)) (by simp)
  simp only [List.take_zero, List.nil_append] at h3
  rw [← Array.foldl_toList, Array.toList_zipIdx]
  rw [h3]
  simp [newRow, hcs]
end Go.Vc
namespace Go.Vc
open Go Go.RowKit
theorem Own.otherB {w w' : World} {B s n c b : Nat} {E : TypeId} {a : Option Addr} {xs : List Value} (h : Own w B E s a n c xs) (hg : w.grownBy w' (some b)) (hne : a ≠ none → ab a ≠ b) : Own w' B E s a n c xs := by
  cases a with
  | none => exact World.ownsRow.kept h hg (.inl rfl)
  | some q => exact h.grown hg (by have := hne (by simp); simpa using this)
end Go.Vc
