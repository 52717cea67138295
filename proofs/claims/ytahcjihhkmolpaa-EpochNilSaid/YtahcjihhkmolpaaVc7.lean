/- Rows that are functions of the index; drawn regions that end in one store; results that lie in a cell; whole arrays compared. -/
import Derived.Test.YtahcjihhkmolpaaVc6
import Derived.ChangeKeysEq
import Derived.Laws.Rows
namespace Go.Vc
open Go Go.RowKit

/-! ### Rows -/
theorem setRow_get (o : Nat) : ∀ (vs : List Value) (cs : Array Value) (j : Nat), o + vs.length ≤ cs.size → (setRow cs o vs)[j]? = if o ≤ j ∧ j < o + vs.length then vs[j - o]? else cs[j]? := by
  intro vs
  induction vs generalizing o with
  | nil => intro cs j h; rw [if_neg (by simp only [List.length_nil]; omega)]; rfl
  | cons v vs ih =>
    intro cs j h
    simp only [List.length_cons] at h
    show (setRow (cs.setIfInBounds o v) (o + 1) vs)[j]? = _
    rw [ih (o + 1) _ j (by simp; omega)]
    by_cases hj : j = o
    · subst hj
      rw [if_neg (by omega), if_pos (by simp only [List.length_cons]; omega), Nat.sub_self, Array.getElem?_setIfInBounds_self_of_lt (by omega)]
      rfl
    · by_cases hj2 : o + 1 ≤ j ∧ j < o + 1 + vs.length
      · rw [if_pos hj2, if_pos (by simp only [List.length_cons]; omega), show j - o = (j - (o + 1)) + 1 by omega, List.getElem?_cons_succ]
      · rw [if_neg hj2, if_neg (by simp only [List.length_cons]; omega), Array.getElem?_setIfInBounds_ne (by omega)]
theorem setRow_arr {N o m : Nat} {F g : Nat → Value} (h : o + m ≤ N) : setRow (arr N F) o (arr m g).toList = arr N (fun x => if o ≤ x ∧ x < o + m then g (x - o) else F x) := by
  have hm : (arr m g).toList.length = m := by simp [arr]
  apply Array.ext_getElem?
  intro j
  rw [setRow_get _ _ _ _ (by rw [hm, arr_size]; exact h), hm]
  by_cases hj : j < N
  · rw [arr_get hj]
    rw [arr_get hj]
    split
    · rename_i hc
      rw [Array.getElem?_toList, arr_get (by omega)]
    · rfl
  · rw [Array.getElem?_eq_none (by rw [arr_size]; omega), if_neg (by omega), Array.getElem?_eq_none (by rw [arr_size]; omega)]
theorem Blk.row {w : World} {b N o m : Nat} {F : Nat → Value} {T : TypeId} (h : Blk w b (arr N F) T) (ho : o + m ≤ N) : ∀ (j : Nat) (v : Value), (arr m fun k => F (o + k)).toList[j]? = some v → w.cell? ⟨b, o + j, none⟩ = some v := by
  intro j v hj
  rw [Array.getElem?_toList] at hj
  have hjm : j < m := by have := (Array.getElem?_eq_some_iff.1 hj).1; rw [arr_size] at this; exact this
  rw [arr_get hjm] at hj; cases hj
  exact h.cell (arr_get (by omega))
theorem arr_len (n : Nat) (f : Nat → Value) : (arr n f).toList.length = n := by simp [arr]
theorem arr_one {n : Nat} {f : Nat → Value} (h : ∀ k, (f k).oneCell' = true) : ∀ v ∈ (arr n f).toList, v.oneCell' = true := by
  intro v hv
  simp [arr] at hv
  obtain ⟨a, _, rfl⟩ := hv
  exact h a

section
variable {P : Program} {T : TypeId} {ρ : Operand → Value} {w : World} {d : Option Nat} {ty : TypeId} {ps : String} {af : Array Edge} {g : Option (Nat × Bool)} {x y : Operand}
theorem x_loadArr {b o N m : Nat} {F G : Nat → Value} {E : TypeId} {u : TypeDesc} (hx : ρ x = .pointer (some ⟨b, o, none⟩)) (hT : P.underlying T = some u) (hu : flatB u = false) (hs : (P.info? T).map (·.size) = some m) (hB : Blk w b (arr N F) E) (ho : o + m ≤ N) (hG : ∀ k, k < m → F (o + k) = G k) :
    (execOp ρ ⟨d, .load T x, ty, ps, af, g⟩).run P w = .ok (.value (.agg (arr m G))) w := by
  rw [← arr_congr hG]
  exact x_loadAgg hx hT hu hs (arr_len _ _) (hB.row ho)
theorem x_storeArr {b o N m : Nat} {F G : Nat → Value} {E : TypeId} (hx : ρ x = .pointer (some ⟨b, o, none⟩)) (hy : ρ y = .agg (arr m G)) (hs : (P.info? T).map (·.size) = some m) (h1 : ∀ k, (G k).oneCell' = true) (hB : Blk w b (arr N F) E) (ho : o + m ≤ N) :
    (execOp ρ ⟨none, .store T x y, ty, ps, af, g⟩).run P w = .ok .skip (setBlk w b (arr N (fun x => if o ≤ x ∧ x < o + m then G (x - o) else F x)) E) := by
  have := run_storeCells_blk (P := P) b E (arr m G).toList o 0 (arr N F) w hB (by rw [arr_len, arr_size]; omega) (arr_one h1)
  rw [Nat.add_zero, setRow_arr ho] at this
  have hc : (Value.agg (arr m G)).cells = arr m G := rfl
  have hsz := arr_size m G
  simp [execOp, Instr.storeAt, hx, hy, Instr.sureAddr, storeVar, run_sizeOf hs, hc, hsz, this]
theorem x_maxN {m k : Nat} {aT : Array TypeId} (hx : ρ x = .int .i64 (m : Int)) (hy : ρ y = .int .i64 (k : Int)) :
    (execOp ρ ⟨d, .call ⟨.builtin .max, #[x, y], aT⟩, ty, ps, af, g⟩).run P w = .ok (.value (.int .i64 ((max m k : Nat) : Int))) w := by
  rw [show ((max m k : Nat) : Int) = max (m : Int) (k : Int) by omega]
  exact x_max hx hy
/-- Arrays of ints compared. -/
theorem run_eqInts {It : TypeId} (hI : P.underlying It = some (.int .i64)) (hz : P.cellsOf It = 1) {m n : Nat} {F G : Nat → Int} (w : World) : ∀ (is : List Nat), (∀ i ∈ is, i < n) →
    (Op.eqItems (m + 1) It (P.cellsOf It) (arr n fun k => .int .i64 (F k)) (arr n fun k => .int .i64 (G k)) is).run P w = .ok (decide (∀ i ∈ is, F i = G i)) w
  | [], _ => by simp [Op.eqItems]
  | i :: is, h => by
    have hpl : P.plainKey It = true := by unfold Program.plainKey; simp [hI]
    have hi := h i List.mem_cons_self
    have ih := run_eqInts (m := m) (F := F) (G := G) (n := n) hI hz w is (fun j hj => h j (List.mem_cons_of_mem _ hj))
    have p1 : (part It (arr n fun k => .int .i64 (F k)) (i * P.cellsOf It)).run P w = .ok (.int .i64 (F i)) w := run_part_plain w hpl (by rw [hz, Nat.mul_one]; exact arr_get hi)
    have p2 : (part It (arr n fun k => .int .i64 (G k)) (i * P.cellsOf It)).run P w = .ok (.int .i64 (G i)) w := run_part_plain w hpl (by rw [hz, Nat.mul_one]; exact arr_get hi)
    simp only [Op.eqItems, Sem.run_bind, p1, p2, Result.andThen_ok, run_equalIn_int w m It .i64 .i64 _ _ hI, Sem.run_ite, ih, Sem.run_pure]
    by_cases hFG : F i = G i
    · simp [hFG]
    · simp [hFG]
theorem x_eqArr {It T' : TypeId} {n : Nat} {F G : Nat → Int} {i : TypeInfo} (hT : P.underlying T = some (.array n It)) (hI : P.underlying It = some (.int .i64)) (hi : P.info? It = some i) (hz : P.cellsOf It = 1) (hg : P.eqGuardType P.depth T = false)
    (hx : ρ x = .agg (arr n fun k => .int .i64 (F k))) (hy : ρ y = .agg (arr n fun k => .int .i64 (G k))) :
    (execOp ρ ⟨d, .binOp .eql T x y T', ty, ps, af, g⟩).run P w = .ok (.value (.bool (decide (∀ k, k < n → F k = G k)))) w := by
  have h1 : (eqGuard .eql T x y (.agg (arr n fun k => .int .i64 (F k))) (.agg (arr n fun k => .int .i64 (G k)))).run P w = .ok () w := run_eqGuard_agg w _ _ _ _ _ _ hg
  have h2 : (Op.equalIn 10000 T (.agg (arr n fun k => .int .i64 (F k))) (.agg (arr n fun k => .int .i64 (G k)))).run P w = .ok (decide (∀ i ∈ List.range n, F i = G i)) w := by
    show (Op.equalIn (9998 + 1 + 1) _ _ _).run P w = _
    rw [run_equalIn_array w (9998 + 1) _ _ hT hi]
    exact run_eqInts hI hz w _ (fun i hi => List.mem_range.1 hi)
  have h3 : (decide (∀ i ∈ List.range n, F i = G i)) = decide (∀ k, k < n → F k = G k) := by simp
  rw [h3] at h2
  simp only [execOp, hx, hy, Sem.run_bind, h1, Result.andThen_ok, run_eql_struct, h2, Sem.run_pure]
end

/-! ### Results that lie in a cell -/
theorem ends.cellArr {P : Program} {fn : Func} {R : Value → World → Prop} {x : Exit} {e : Env} {w : World} {t b : Nat} {cs : Array Value} {T E : TypeId} {u : TypeDesc} (hx : x = .normal ∨ x = .ret) (hr : fn.results = #[.cell t T])
    (he : e t = .pointer (some ⟨b, 0, Option.none⟩)) (hT : P.underlying T = some u) (hu : flatB u = false) (hs : (P.info? T).map (·.size) = some cs.size) (hB : Blk w b cs E) (h : R (.agg cs) w) : ends P fn R x e w :=
  ⟨hx, _, fun tmps ht => results_cell_row hr tmps w b E cs (0, 0) u (by rw [ht, he]) hB hT (by cases u <;> first | rfl | (simp [flatB] at hu)) hs, h⟩

/-! ### Drawn regions that end in one store -/
def befores (l : List Oper) : Nat → List Nat → List Nat
  | 0, S => S
  | k + 1, S => match l[k]? with
    | some o => if S.contains k then befores l k (S ++ (o.after.toList.filter (fun x => Region.binds .any x)).map (·.on)) else befores l k S
    | none => befores l k S
def allB (l : List Oper) (k : Nat) : Bool := (List.range l.length).all fun i => (befores l l.length [k]).contains i
theorem befores_done {l : List Oper} {V : (Nat → Bool) → Prop} (hV : ∀ D, V D → ∀ i o, l[i]? = some o → D i = true → depsOn o D) {D : Nat → Bool} (hD : V D) :
    ∀ k S, (∀ i ∈ S, D i = true) → ∀ i ∈ befores l k S, D i = true
  | 0, S, hS, i, hi => hS i hi
  | k + 1, S, hS, i, hi => by
    unfold befores at hi
    cases ho : l[k]? with
    | none => rw [ho] at hi; exact befores_done hV hD k S hS i hi
    | some o =>
      rw [ho] at hi
      simp only at hi
      split at hi
      · rename_i hk
        refine befores_done hV hD k _ (fun j hj => ?_) i hi
        rw [List.mem_append] at hj
        rcases hj with hj | hj
        · exact hS j hj
        · obtain ⟨x, hx, rfl⟩ := List.mem_map.1 hj
          rw [List.mem_filter] at hx
          exact hV D hD k o ho (hS k (by simpa using hk)) x (by simpa using hx.1) hx.2
      · exact befores_done hV hD k S hS i hi
theorem allB_all {l : List Oper} {k : Nat} (h : allB l k = true) {V : (Nat → Bool) → Prop} (hV : ∀ D, V D → ∀ i o, l[i]? = some o → D i = true → depsOn o D) {D : Nat → Bool} (hD : V D) (hk : D k = true) : ∀ i, i < l.length → D i = true := by
  intro i hi
  unfold allB at h
  rw [List.all_eq_true] at h
  exact befores_done hV hD l.length [k] (fun j hj => by simp at hj; rw [hj]; exact hk) i (by have := h i (List.mem_range.2 hi); exact List.contains_iff_mem.1 this)
theorem JL.out {P : Program} {ops : Array Oper} {V : (Nat → Bool) → Prop} {J : (Nat → Bool) → World → Prop} {Q : Env → Prop} : ∀ {l : List Oper} {i : Nat} {e : Env}, JL P ops V J Q i l e → ∃ e', Q e' ∧ JL P ops V J (fun x => x = e') i l e
  | [], _, e, h => ⟨e, h, rfl⟩
  | o :: l, i, e, ⟨v, h1, h2⟩ => by obtain ⟨e', h3, h4⟩ := JL.out h2; exact ⟨e', h3, v, h1, h4⟩
theorem W.last {P : Program} {n : Nat} {id : Nat} {l : List Oper} {Q : Exit → Env → World → Prop} {e : Env} {w : World} (k : Nat) (Cl : World → Prop) {T : TypeId} {x y : Operand} {ty : TypeId} {ps : String} {af : Array Edge}
    (hm : P.follows .mixedOrders = true) (hB : ordB n l.toArray = true) (hA : allB l k = true) (hk : l.drop k = [⟨none, .store T x y, ty, ps, af, none⟩])
    (hC : Cl w.drew) (h : QL P l.toArray Cl (fun e' => ∀ w', Cl w' → ∃ w'', (execOp (ev e') ⟨none, .store T x y, ty, ps, af, none⟩).run P w' = .ok .skip w'' ∧ Q .normal e' w'') 0 (l.take k) e) : W P n (.region id l.toArray true) Q e w := by
  refine W.draws hm hB fun V hch hV => ?_
  obtain ⟨e', he', hJ⟩ := JL.out (h V)
  have hlen : l.length = k + 1 := by
    have := congrArg List.length hk
    simp at this; omega
  refine ⟨fun D w => if D k = true then Q .normal e' w else Cl w, by simpa using hC, ?_⟩
  have hl : l = l.take k ++ [⟨none, .store T x y, ty, ps, af, none⟩] := by rw [← hk, List.take_append_drop]
  have key : ∀ (m : List Oper) (i : Nat) (e : Env), i + m.length = k → JL P l.toArray V (fun _ => Cl) (fun x => x = e') i m e →
      JL P l.toArray V (fun D w => if D k = true then Q .normal e' w else Cl w) (fun e2 => ∀ (D : Nat → Bool) w', (∀ i, i < l.length → D i = true) → (if D k = true then Q .normal e' w' else Cl w') → Q .normal e2 w') i (m ++ [⟨none, .store T x y, ty, ps, af, none⟩]) e := by
    intro m
    induction m with
    | nil =>
      intro i e2 hi hm2
      obtain rfl : i = k := by simpa using hi
      have hm2' : e2 = e' := hm2
      subst hm2'
      refine ⟨undef, .inl ⟨rfl, fun D w hDi _ _ hJw => ?_⟩, fun D w' hD hw' => ?_⟩
      · have hJw' : Cl w := by have h9 := hJw; simp only [hDi, Bool.false_eq_true, if_false] at h9; exact h9
        obtain ⟨w'', h1, h2⟩ := he' w hJw'
        rw [h1]
        exact ⟨rfl, by simp only [setD, if_true]; exact h2⟩
      · rw [if_pos (hD i (by omega))] at hw'; exact hw'
    | cons o m ih =>
      rintro i e2 hi ⟨v, h1, h2⟩
      simp only [List.length_cons] at hi
      have hnot : ∀ D, D i = false → V D → D k = false := fun D hDi hVD => by
        cases hDk : D k with
        | false => rfl
        | true => have := allB_all hA hV hVD hDk i (by omega); rw [hDi] at this; cases this
      have hset : ∀ D, D i = false → V D → setD D i k = false := fun D hDi hVD => by
        unfold setD; rw [if_neg (by omega)]; exact hnot D hDi hVD
      refine ⟨v, ?_, ih (i + 1) _ (by omega) h2⟩
      rcases h1 with ⟨hw, hr⟩ | ⟨hw, hv, hr⟩
      · refine .inl ⟨hw, fun D w hDi hVD2 hdep hJw => ?_⟩
        have hVD := hVD2.1
        have hc : Cl w := by have h9 := hJw; simp only [hnot D hDi hVD, Bool.false_eq_true, if_false] at h9; exact h9
        have h3 := hr D w hDi hVD2 hdep hc
        have hs := hset D hDi hVD
        generalize (execOp (ev e2) o).run P w = r at h3 ⊢
        cases r with
        | ok u w' =>
          cases u with
          | value u => exact ⟨h3.1, by simp only [hs, Bool.false_eq_true, if_false]; exact h3.2⟩
          | skip => exact ⟨h3.1, by simp only [hs, Bool.false_eq_true, if_false]; exact h3.2⟩
          | enter f args => exact C.mono h3 fun v' w'' h4 => ⟨h4.1, by simp only [hs, Bool.false_eq_true, if_false]; exact h4.2⟩
          | _ => exact h3.elim
        | halt => exact h3.elim
      · refine .inr ⟨hw, hv, fun D w hDi hVD2 hdep hJw => ?_⟩
        have hVD := hVD2.1
        have hc : Cl w := by have h9 := hJw; simp only [hnot D hDi hVD, Bool.false_eq_true, if_false] at h9; exact h9
        simp only [hset D hDi hVD, Bool.false_eq_true, if_false]
        exact hc
  have := key (l.take k) 0 e (by simp; omega) hJ
  rw [← hl] at this
  exact this

/-! ### One block of the caller's may turn -/
section
variable {w0 w w' : World} {h : Nat}
theorem gr_refl (w : World) (r : Option Nat) : w.grownBy w r := ⟨rfl, rfl, rfl, Nat.le_refl _, fun _ _ _ => rfl⟩
theorem gr_step {r : Option Nat} (hg : w0.grownBy w r) (hb : Below w.heap.size w w') : w0.grownBy w' r :=
  ⟨hb.os.trans hg.os, hb.tape.trans hg.tape, hb.output.trans hg.output, Nat.le_trans hg.size hb.size, fun k hk hr => (hb.block k (Nat.lt_of_lt_of_le hk hg.size)).trans (hg.block k hk hr)⟩
theorem gr_set {r : Option Nat} (hg : w0.grownBy w r) {b : Nat} (hb : some b = r ∨ w0.heap.size ≤ b) (cs : Array Value) (T : TypeId) : w0.grownBy (setBlk w b cs T) r :=
  ⟨hg.os, hg.tape, hg.output, by rw [setBlk_size]; exact hg.size, fun k hk hr => by
    rw [setBlk_other _ _ (by rintro rfl; rcases hb with hb | hb; exact hr hb; omega)]
    exact hg.block k hk hr⟩
theorem gr_cell {r : Option Nat} (hg : w0.grownBy w r) {p : Addr} (hb : some p.block = r ∨ w0.heap.size ≤ p.block) (v : Value) : w0.grownBy (w.setCell p v) r :=
  ⟨hg.os, hg.tape, hg.output, by rw [setCell_size]; exact hg.size, fun k hk hr => by
    rw [Below.heap_setCell _ _ _ _ (by intro hkp; rcases hb with hb | hb; exact hr (hkp ▸ hb); omega)]
    exact hg.block k hk hr⟩
theorem gr_obj {r : Option Nat} (hg : w0.grownBy w r) {b : Nat} (hb : some b = r ∨ w0.heap.size ≤ b) (o : Obj) : w0.grownBy (putObj w b o) r :=
  ⟨hg.os, hg.tape, hg.output, by rw [putObj_size]; exact hg.size, fun k hk hr => by
    rw [putObj_other _ _ (by rintro rfl; rcases hb with hb | hb; exact hr hb; omega)]
    exact hg.block k hk hr⟩
theorem gr_trans {r : Option Nat} (hg : w0.grownBy w r) (hb : w.grownBy w' r) : w0.grownBy w' r :=
  ⟨hb.os.trans hg.os, hb.tape.trans hg.tape, hb.output.trans hg.output, Nat.le_trans hg.size hb.size, fun k hk hr => (hb.block k (Nat.lt_of_lt_of_le hk hg.size) hr).trans (hg.block k hk hr)⟩
/-- A step whose turned block is the call's own. -/
theorem below_gr {B b : Nat} (hg : Below B w0 w) (hs : B ≤ w.heap.size) (hb : w.grownBy w' (some b)) (hB : B ≤ b) : Below B w0 w' :=
  ⟨hb.os.trans hg.os, hb.tape.trans hg.tape, hb.output.trans hg.output, Nat.le_trans hg.size hb.size, fun k hk => (hb.block k (by omega) (by simp; omega)).trans (hg.block k hk)⟩
end
section
variable {P : Program} {T : TypeId} {ρ : Operand → Value} {w : World} {d : Option Nat} {ty : TypeId} {ps : String} {af : Array Edge} {g : Option (Nat × Bool)} {x y : Operand}
theorem x_nilCheck {p : Addr} (hx : ρ x = .pointer (some p)) : (execOp ρ ⟨d, .nilCheck x, ty, ps, af, g⟩).run P w = .ok (.value (.pointer (some p))) w := by
  simp [execOp, hx]
theorem x_idxArr {E T : TypeId} {b o n s i : Nat} (hx : ρ x = .pointer (some ⟨b, o, none⟩)) (hy : ρ y = .int .i64 (i : Int)) (hT : P.underlying T = some (.array n E)) (hs : (P.info? E).map (·.size) = some s) (h : i < n) :
    (execOp ρ ⟨d, .indexAddr T x y, ty, ps, af, g⟩).run P w = .ok (.value (.pointer (some ⟨b, o + i * s, none⟩))) w :=
  x_indexArr hx hy hT hs (by omega) (by omega)
theorem x_eqPtrNil {q : Option Addr} {E T' : TypeId} (hx : ρ x = .pointer q) (hy : ρ y = .pointer none) (hT : P.underlying T = some (.pointer E)) :
    (execOp ρ ⟨d, .binOp .eql T x y T', ty, ps, af, g⟩).run P w = .ok (.value (.bool q.isNone)) w := by
  have h1 : (Op.equalIn 10000 T (.pointer q) (.pointer none)).run P w = .ok q.isNone w := by
    rw [show (10000 : Nat) = 9999 + 1 from rfl, Op.equalIn]
    cases q <;> simp [run_underlying hT]
  have h2 : (eqGuard .eql T x y (.pointer q) (.pointer none)).run P w = .ok () w := by cases q <;> simp [eqGuard]
  have h3 : (binOp .eql T (.pointer q) (.pointer none)).run P w = .ok (.bool q.isNone) w := by
    simp only [binOp, Op.equal, Op.maxDepth, Sem.run_bind, h1, Result.andThen_ok, Sem.run_pure]
  simp only [execOp, hx, hy, Sem.run_bind, h2, h3, Result.andThen_ok, Sem.run_pure]
end

/-! ### Drawn regions that end in a call and the store of what it returns -/
theorem W.last2 {P : Program} {n : Nat} {id : Nat} {l : List Oper} {Q : Exit → Env → World → Prop} {e : Env} {w : World} (k : Nat) (Cl R1 : World → Prop) (v : Value) {d : Nat} {op : Op} {ty0 : TypeId} {ps0 : String} {af0 : Array Edge} {T : TypeId} {x y : Operand} {ty : TypeId} {ps : String} {af : Array Edge}
    (hm : P.follows .mixedOrders = true) (hB : ordB n l.toArray = true) (hA : allB l (k + 1) = true) (hA0 : ((List.range k).all fun i => (befores l l.length [k]).contains i) = true) (hk : l.drop k = [⟨some d, op, ty0, ps0, af0, none⟩, ⟨none, .store T x y, ty, ps, af, none⟩])
    (hC : Cl w.drew) (h : QL P l.toArray Cl (fun e' => (∀ w', Cl w' → ∃ f args, (execOp (ev e') ⟨some d, op, ty0, ps0, af0, none⟩).run P w' = .ok (.enter f args) w' ∧ C P f args w' (fun r w'' => r = v ∧ R1 w'')) ∧
      ∀ w', R1 w' → ∃ w'', (execOp (ev (upd e' d v)) ⟨none, .store T x y, ty, ps, af, none⟩).run P w' = .ok .skip w'' ∧ Q .normal (upd e' d v) w'') 0 (l.take k) e) : W P n (.region id l.toArray true) Q e w := by
  refine W.draws hm hB fun V hch hV => ?_
  obtain ⟨e', ⟨hcall, hstore⟩, hJ⟩ := JL.out (h V)
  have hlen : l.length = k + 2 := by
    have := congrArg List.length hk
    simp at this; omega
  have hl : l = l.take k ++ [⟨some d, op, ty0, ps0, af0, none⟩, ⟨none, .store T x y, ty, ps, af, none⟩] := by rw [← hk, List.take_append_drop]
  have hall0 : ∀ {D : Nat → Bool}, V D → D k = true → ∀ i, i < k → D i = true := fun {D} hD hDk i hi => by
    rw [List.all_eq_true] at hA0
    exact befores_done hV hD l.length [k] (fun j hj => by simp at hj; rw [hj]; exact hDk) i (List.contains_iff_mem.1 (hA0 i (List.mem_range.2 hi)))
  refine ⟨fun D w => if D (k + 1) = true then Q .normal (upd e' d v) w else if D k = true then R1 w else Cl w, by simpa using hC, ?_⟩
  have hnot1 : ∀ (D : Nat → Bool) (i : Nat), i < k + 1 → D i = false → V D → D (k + 1) = false := fun D i hi hDi hVD => by
    cases hDk : D (k + 1) with
    | false => rfl
    | true => have := allB_all hA hV hVD hDk i (by omega); rw [hDi] at this; cases this
  have hnot0 : ∀ (D : Nat → Bool) (i : Nat), i < k → D i = false → V D → D k = false := fun D i hi hDi hVD => by
    cases hDk : D k with
    | false => rfl
    | true => have := hall0 hVD hDk i hi; rw [hDi] at this; cases this
  have key : ∀ (m : List Oper) (i : Nat) (e : Env), i + m.length = k → JL P l.toArray V (fun _ => Cl) (fun x => x = e') i m e →
      JL P l.toArray V (fun D w => if D (k + 1) = true then Q .normal (upd e' d v) w else if D k = true then R1 w else Cl w) (fun e2 => ∀ (D : Nat → Bool) w', (∀ i, i < l.length → D i = true) → (if D (k + 1) = true then Q .normal (upd e' d v) w' else if D k = true then R1 w' else Cl w') → Q .normal e2 w') i
        (m ++ [⟨some d, op, ty0, ps0, af0, none⟩, ⟨none, .store T x y, ty, ps, af, none⟩]) e := by
    intro m
    induction m with
    | nil =>
      intro i e2 hi hm2
      obtain rfl : i = k := by simpa using hi
      have hm2' : e2 = e' := hm2
      subst hm2'
      refine ⟨v, .inl ⟨rfl, fun D w hDi hVD2 _ hJw => ?_⟩, undef, .inl ⟨rfl, fun D w hDi hVD2 hdep hJw => ?_⟩, fun D w' hD hw' => ?_⟩
      · have hVD := hVD2.1
        have hJw' : Cl w := by have h9 := hJw; simp only [hDi, hnot1 D i (by omega) hDi hVD, Bool.false_eq_true, if_false] at h9; exact h9
        have hs1 : setD D i (i + 1) = false := by unfold setD; rw [if_neg (by omega)]; exact hnot1 D i (by omega) hDi hVD
        have hs0 : setD D i i = true := by simp [setD]
        obtain ⟨f, args, h1, h2⟩ := hcall w hJw'
        rw [h1]
        exact C.mono h2 fun r w'' h3 => ⟨h3.1, by simp only [hs1, hs0, Bool.false_eq_true, if_false, if_true]; exact h3.2⟩
      · have hVD := hVD2.1
        have hDk : D i = true := by
          have := allB_all hA (V := fun D' => V D' ∨ (D' = setD D (i + 1))) (by
            rintro D' (hD' | rfl) j o hj hDj
            · exact hV D' hD' j o hj hDj
            · intro x hx hb
              by_cases hji : j = i + 1
              · subst hji
                rw [hl] at hj
                have hlt : (List.take i l).length = i := by simp; omega
                rw [List.getElem?_append_right (by omega), hlt, show i + 1 - i = 1 by omega] at hj
                simp at hj; subst hj
                have := hdep x hx hb
                unfold setD; split
                · rfl
                · exact this
              · have h5 : D j = true := by unfold setD at hDj; rw [if_neg hji] at hDj; exact hDj
                have := hV D hVD j o hj h5 x hx hb
                unfold setD; split
                · rfl
                · exact this) (.inr rfl) (by simp [setD]) i (by omega)
          unfold setD at this; rw [if_neg (by omega)] at this; exact this
        have hJw' : R1 w := by have h9 := hJw; simp only [hDi, hDk, Bool.false_eq_true, if_false, if_true] at h9; exact h9
        obtain ⟨w'', h1, h2⟩ := hstore w hJw'
        show LocRun P _ _ _ _ ((execOp (ev (upd e2 d v)) _).run P w)
        rw [h1]
        exact ⟨rfl, by simp only [setD, if_true]; exact h2⟩
      · rw [if_pos (hD (i + 1) (by omega))] at hw'; exact hw'
    | cons o m ih =>
      rintro i e2 hi ⟨v, h1, h2⟩
      simp only [List.length_cons] at hi
      have hs1 : ∀ D : Nat → Bool, D i = false → V D → setD D i (k + 1) = false := fun D hDi hVD => by
        unfold setD; rw [if_neg (by omega)]; exact hnot1 D i (by omega) hDi hVD
      have hs0 : ∀ D : Nat → Bool, D i = false → V D → setD D i k = false := fun D hDi hVD => by
        unfold setD; rw [if_neg (by omega)]; exact hnot0 D i (by omega) hDi hVD
      refine ⟨v, ?_, ih (i + 1) _ (by omega) h2⟩
      rcases h1 with ⟨hw, hr⟩ | ⟨hw, hv, hr⟩
      · refine .inl ⟨hw, fun D w hDi hVD2 hdep hJw => ?_⟩
        have hVD := hVD2.1
        have hc : Cl w := by have h9 := hJw; simp only [hnot1 D i (by omega) hDi hVD, hnot0 D i (by omega) hDi hVD, Bool.false_eq_true, if_false] at h9; exact h9
        have h3 := hr D w hDi hVD2 hdep hc
        have hs1 := hs1 D hDi hVD
        have hs0 := hs0 D hDi hVD
        generalize (execOp (ev e2) o).run P w = r at h3 ⊢
        cases r with
        | ok u w' =>
          cases u with
          | value u => exact ⟨h3.1, by simp only [hs1, hs0, Bool.false_eq_true, if_false]; exact h3.2⟩
          | skip => exact ⟨h3.1, by simp only [hs1, hs0, Bool.false_eq_true, if_false]; exact h3.2⟩
          | enter f args => exact C.mono h3 fun v' w'' h4 => ⟨h4.1, by simp only [hs1, hs0, Bool.false_eq_true, if_false]; exact h4.2⟩
          | _ => exact h3.elim
        | halt => exact h3.elim
      · refine .inr ⟨hw, hv, fun D w hDi hVD2 hdep hJw => ?_⟩
        have hVD := hVD2.1
        have hc : Cl w := by have h9 := hJw; simp only [hnot1 D i (by omega) hDi hVD, hnot0 D i (by omega) hDi hVD, Bool.false_eq_true, if_false] at h9; exact h9
        simp only [hs1 D hDi hVD, hs0 D hDi hVD, Bool.false_eq_true, if_false]
        exact hc
  have := key (l.take k) 0 e (by simp; omega) hJ
  rw [← hl] at this
  exact this
/-- A call of a function that is a value. -/
theorem x_callV2 {P : Program} {ρ : Operand → Value} {w : World} {d : Option Nat} {ty : TypeId} {ps : String} {af : Array Edge} {g : Option (Nat × Bool)} {x : Operand} {f : FuncId} {fn : Func} {aT : Array TypeId} {x0 x1 : Operand} {v0 v1 : Value} (hx : ρ x = .func (.func f) #[] #[]) (h0 : ρ x0 = v0) (h1 : ρ x1 = v1) (hf : P.funcs[f]? = some fn) (hb : fn.body.isSome = true) (hn : (fn.name == "runtime.NumGoroutine") = false) :
    (execOp ρ ⟨d, .call ⟨.value x, #[x0, x1], aT⟩, ty, ps, af, g⟩).run P w = .ok (.enter f #[v0, v1]) w := by
  rw [x_call hx rfl hf hb hn]
  simp [h0, h1]

/-! ### Whole rows -/
theorem setRow_all {cs : Array Value} {vs : List Value} (h : cs.size = vs.length) : setRow cs 0 vs = vs.toArray := by
  apply Array.ext_getElem?
  intro j
  rw [setRow_get _ _ _ _ (by omega)]
  by_cases hj : j < vs.length
  · rw [if_pos (by omega)]; simp
  · rw [if_neg (by omega), Array.getElem?_eq_none (by omega)]; simp; omega
theorem Blk.all {w : World} {b : Nat} {cs : List Value} {T : TypeId} (h : Blk w b cs.toArray T) : ∀ (j : Nat) (v : Value), cs[j]? = some v → w.cell? ⟨b, 0 + j, none⟩ = some v := by
  intro j v hj
  rw [Nat.zero_add]
  exact h.cell (by simpa using hj)
theorem Blk.putObj {α : Type} {w : World} {b r : Nat} {cs : Array Value} {T : TypeId} {κ : α → Value} {Lm : List (α × Value)} (h : Blk w b cs T) (hM : MapF w r κ Lm) (o : Obj) : Blk (Vc.putObj w r o) b cs T := by
  unfold Blk; rw [putObj_other _ _ (Ne.symm (hM.ne h))]; exact h
section
variable {P : Program} {n : Nat} {ops : Array Oper} {Q : Exit → Env → World → Prop} {rest : List Oper} {e : Env} {w : World} {ty : TypeId} {ps : String} {af : Array Edge} {x y : Operand} {T : TypeId}
/-- A whole row is written. -/
theorem L.storeAll {b s : Nat} {cs : Array Value} {vs : List Value} {E : TypeId} {v : Value} (hx : ev e x = .pointer (some ⟨b, 0, none⟩)) (hy : ev e y = v) (hvs : v.cells = vs.toArray) (hs : (P.info? T).map (·.size) = some s) (hl : vs.length = s) (hc : cs.size = s) (h1 : ∀ u ∈ vs, u.oneCell' = true) (hB : Blk w b cs E)
    (k : ∀ w1, Blk w1 b vs.toArray E → w.grownBy w1 (some b) → w1.heap.size = w.heap.size → L P n ops Q rest e w1) : L P n ops Q (⟨none, .store T x y, ty, ps, af, none⟩ :: rest) e w := by
  refine L.storeAgg hx hy hvs hs (by simpa using hl) (by simpa using h1) hB (by omega) ?_
  have h2 : setRow cs 0 vs.toArray.toList = vs.toArray := by rw [List.toList_toArray]; exact setRow_all (by omega)
  rw [h2]
  exact k _ (setBlk_self _ _ _ hB) (gr_set (gr_refl _ _) (.inl rfl) _ _) (setBlk_size _ _ _ _)
theorem W.cutA {c : Code} {next : Env → World → Prop} (G : List Nat) (R : World → Prop) (h : W P n c (thenE (fun e' w' => Agree G e' e ∧ R w') Q) e w) (k : ∀ f w', R w' → next (hav G f e) w') : W P n c (thenE next Q) e w := by
  refine W.cut _ h ?_
  rintro e' w' ⟨hA, hR⟩
  obtain ⟨f, hf⟩ := hA.out
  rw [hf]; exact k f w' hR
end

/-! ### Two blocks may turn -/
structure Gr2 (w w' : World) (a b : Nat) : Prop where
  os : w'.os = w.os
  tape : w'.tape = w.tape
  output : w'.output = w.output
  size : w.heap.size ≤ w'.heap.size
  block : ∀ k, k < w.heap.size → k ≠ a → k ≠ b → w'.heap[k]? = w.heap[k]?
theorem gr2_refl (w : World) (a b : Nat) : Gr2 w w.drew a b := ⟨rfl, rfl, rfl, Nat.le_refl _, fun _ _ _ _ => rfl⟩
theorem gr2_set {w w' : World} {a b c : Nat} (h : Gr2 w w' a b) (hc : c = a ∨ c = b) (cs : Array Value) (T : TypeId) : Gr2 w (setBlk w' c cs T) a b :=
  ⟨h.os, h.tape, h.output, by rw [setBlk_size]; exact h.size, fun k hk ha hb => by rw [setBlk_other _ _ (by rintro rfl; rcases hc with hc | hc <;> contradiction)]; exact h.block k hk ha hb⟩
theorem Blk.gr2 {w w' : World} {a b c : Nat} {cs : Array Value} {T : TypeId} (h : Blk w c cs T) (hg : Gr2 w w' a b) (ha : c ≠ a) (hb : c ≠ b) : Blk w' c cs T := (hg.block c h.lt ha hb).trans h
theorem MapF.gr2 {α : Type} {κ : α → Value} {w w' : World} {a b r : Nat} {L : List (α × Value)} (h : MapF w r κ L) (hg : Gr2 w w' a b) (ha : r ≠ a) (hb : r ≠ b) : MapF w' r κ L := by
  have := h.lt
  obtain ⟨es, ck, h1, h2⟩ := h
  exact ⟨es, ck, (hg.block r this ha hb).trans h1, h2⟩
theorem below_gr2 {w0 w w' : World} {B a b : Nat} (h : Below B w0 w) (hs : B ≤ w.heap.size) (hg : Gr2 w w' a b) (ha : B ≤ a) (hb : B ≤ b) : Below B w0 w' :=
  ⟨hg.os.trans h.os, hg.tape.trans h.tape, hg.output.trans h.output, Nat.le_trans h.size hg.size, fun k hk => (hg.block k (by omega) (by omega) (by omega)).trans (h.block k hk)⟩

/-- '&&' and '||' whose second part may turn the world. -/
theorem L.meetW {P : Program} {n : Nat} {ops : Array Oper} {Q : Exit → Env → World → Prop} {e : Env} {w : World} (k : Nat) (G : List Nat) (d : Nat) (v : Value) {tj : Nat} {b : Bool} {l : List Oper} (Cl : World → Prop) (hb : e tj = .bool b)
    (ht : b = true → L P n ops (thenE (fun e' w' => Cl w' ∧ e' d = v ∧ Agree G e' e) Q) (l.take k) (upd e tj (.bool true)) w)
    (hf : b = false → L P n ops (thenE (fun e' w' => Cl w' ∧ e' d = v ∧ Agree G e' e) Q) (l.take k) (upd e tj (.bool false)) w)
    (h2 : ∀ f w', Cl w' → L P n ops Q (l.drop k) (upd (hav G f e) d v) w') : L P n ops Q l e w := by
  have h1 : L P n ops (thenE (fun e' w' => Cl w' ∧ e' d = v ∧ Agree G e' e) Q) (l.take k) e w := by
    cases b
    · have := hf rfl; rw [← upd_id hb] at this; exact this
    · have := ht rfl; rw [← upd_id hb] at this; exact this
  refine L.cut k _ h1 ?_
  rintro e' w' ⟨hw, hd, hA⟩
  obtain ⟨f, hf⟩ := hA.out
  rw [upd_id hd, hf]
  exact h2 f w' hw
theorem Own.some_eq {w : World} {B : Nat} {E : TypeId} {s : Nat} {a : Option Addr} {n c : Nat} {xs : List Value} (h : Own w B E s a n c xs) (ha : a ≠ none) : ∃ r, a = some ⟨r, 0, none⟩ := by
  rcases h.2 with ⟨hv, h0⟩ | ⟨g, cap, cur, hv, _⟩
  · cases hv; exact absurd rfl ha
  · cases hv; exact ⟨g, rfl⟩

/-! ### Rows made by append -/
/-- n rows of m cells each, the call's own from B on; row i reads as V i. -/
structure PRows (w : World) (B : Nat) (E T : TypeId) (oa : Option Addr) (n oc m : Nat) (R CC : Nat → Nat) (V : Nat → Nat → Value) : Prop where
  own : Own w B E 1 oa n oc (rowsL R CC m n)
  row : ∀ i, i < n → Own w B T 1 (some ⟨R i, 0, none⟩) m (CC i) (arr m (V i)).toList
theorem PRows.nil (w : World) (B : Nat) (E T : TypeId) (m : Nat) (R CC : Nat → Nat) (V : Nat → Nat → Value) : PRows w B E T none 0 0 m R CC V := ⟨Own.nil w B E 1, fun i hi => by omega⟩
theorem PRows.keep {w w' : World} {B : Nat} {E T : TypeId} {oa : Option Addr} {n oc m : Nat} {R CC : Nat → Nat} {V : Nat → Nat → Value} (h : PRows w B E T oa n oc m R CC V) (hb : Below w.heap.size w w') : PRows w' B E T oa n oc m R CC V :=
  ⟨h.own.keep hb, fun i hi => (h.row i hi).keep hb⟩
theorem PRows.snoc {w w' : World} {B : Nat} {E T : TypeId} {oa oa' : Option Addr} {n oc oc' m r rc : Nat} {R CC : Nat → Nat} {V : Nat → Nat → Value} (h : PRows w B E T oa n oc m R CC V) (hET : E ≠ T) (hx : Own w B T 1 (some ⟨r, 0, none⟩) m rc (arr m (V n)).toList)
    (hg : w.grownBy w' (Value.ownBlock (.slice oa n oc))) (ho : Own w' B E 1 oa' (n + 1) oc' (rowsL R CC m n ++ [.slice (some ⟨r, 0, none⟩) m rc])) :
    PRows w' B E T oa' (n + 1) oc' m (upf R n r) (upf CC n rc) V := by
  rw [rowsL_snoc] at ho
  have hne : ∀ {b c : Nat} {xs : List Value}, Own w B T 1 (some ⟨b, 0, none⟩) m c xs → some (ab (some ⟨b, 0, none⟩)) ≠ Value.ownBlock (.slice oa n oc) := by
    intro b c xs hB hh
    cases oa with
    | none => cases hh
    | some q =>
      simp only [Value.ownBlock, Option.some.injEq] at hh
      obtain ⟨cur, hc, _⟩ := h.own.row (by simp)
      obtain ⟨cur2, hc2, _⟩ := hB.row (by simp)
      exact (hc2.ne hc (Ne.symm hET)) hh
  refine ⟨ho, fun i hi => ?_⟩
  by_cases him : i = n
  · subst him
    simp only [upf, if_true]
    exact hx.grown hg (hne hx)
  · have hb := h.row i (by omega)
    simp only [upf, him, if_false]
    exact hb.grown hg (hne hb)
theorem PRows.rows {w : World} {B : Nat} {E T : TypeId} {oa : Option Addr} {n oc m : Nat} {R CC : Nat → Nat} {V : Nat → Nat → Value} (h : PRows w B E T oa n oc m R CC V) : RowsAt w oa n m V :=
  ⟨h.own.sl, fun {i} hi => ⟨some ⟨R i, 0, none⟩, CC i, by
    have := h.own.cell (rowsL_get (R := R) (C := CC) (len := m) hi)
    rw [h.own.off, Nat.zero_add, Nat.mul_one]; exact this, SL.mk _ _ _, fun {k} hk => by
    show w.cell? ⟨R i, 0 + k * 1, none⟩ = _
    rw [Nat.zero_add, Nat.mul_one]
    exact (h.row i hi).cell (by rw [Array.getElem?_toList]; exact arr_get hk)⟩⟩

/-- Two rows made in a drawn region: one of them is the first. -/
theorem two_allocs {V : (Nat → Bool) → Prop} (hch : ∀ D D', V D → V D' → (∀ k, D k = true → D' k = true) ∨ (∀ k, D' k = true → D k = true)) {i j : Nat} (hij : i ≠ j) (b0 : Nat) :
    ∃ bi bj, bi ≠ bj ∧ b0 ≤ bi ∧ b0 ≤ bj ∧ (∀ D, (V D ∧ V (setD D i)) → D i = false → b0 + (if D j = true then 1 else 0) = bi) ∧ (∀ D, (V D ∧ V (setD D j)) → D j = false → b0 + (if D i = true then 1 else 0) = bj) := by
  by_cases h : ∃ D, V D ∧ D i = true ∧ D j = false
  · obtain ⟨D0, hV0, hi0, hj0⟩ := h
    refine ⟨b0, b0 + 1, by omega, by omega, by omega, fun D hV hi => ?_, fun D hV hj => ?_⟩
    · have : D j = false := by
        rcases hch D D0 hV.1 hV0 with h1 | h1
        · cases hDj : D j with
          | false => rfl
          | true => have := h1 j hDj; rw [hj0] at this; cases this
        · have := h1 i hi0; rw [hi] at this; cases this
      rw [this]; rfl
    · have : D i = true := by
        rcases hch _ D0 hV.2 hV0 with h1 | h1
        · have := h1 j (by simp [setD]); rw [hj0] at this; cases this
        · have := h1 i hi0; unfold setD at this; rw [if_neg hij] at this; exact this
      rw [this]; rfl
  · have hno : ∀ D, V D → D i = true → D j = true := fun D hV hi => by
      cases hDj : D j with
      | true => rfl
      | false => exact absurd ⟨D, hV, hi, hDj⟩ h
    refine ⟨b0 + 1, b0, by omega, by omega, by omega, fun D hV hi => ?_, fun D hV hj => ?_⟩
    · have : D j = true := by
        have := hno _ hV.2 (by simp [setD])
        unfold setD at this; rw [if_neg (Ne.symm hij)] at this; exact this
      rw [this]; rfl
    · have : D i = false := by
        cases hDi : D i with
        | false => rfl
        | true => have := hno D hV.1 hDi; rw [hj] at this; cases this
      rw [this]; rfl
theorem x_storeAll {P : Program} {ρ : Operand → Value} {w : World} {ty : TypeId} {ps : String} {af : Array Edge} {g : Option (Nat × Bool)} {x y : Operand} {T E : TypeId} {b s : Nat} {cs : Array Value} {vs : List Value} {v : Value} (hx : ρ x = .pointer (some ⟨b, 0, none⟩)) (hy : ρ y = v) (hvs : v.cells = vs.toArray) (hs : (P.info? T).map (·.size) = some s) (hl : vs.length = s) (hc : cs.size = s) (h1 : ∀ u ∈ vs, u.oneCell' = true) (hB : Blk w b cs E) :
    (execOp ρ ⟨none, .store T x y, ty, ps, af, g⟩).run P w = .ok .skip (setBlk w b vs.toArray E) := by
  have := run_storeCells_blk (P := P) b E vs 0 0 cs w hB (by omega) h1
  rw [Nat.add_zero, setRow_all (by omega)] at this
  simp [execOp, Instr.storeAt, hx, hy, Instr.sureAddr, storeVar, run_sizeOf hs, hvs, hl, this]
end Go.Vc
