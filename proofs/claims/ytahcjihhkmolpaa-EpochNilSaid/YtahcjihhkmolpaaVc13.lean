/- 'x = append(x, v)' beside others of its kind: one such chain as a part of a drawn region. -/
import Derived.Test.YtahcjihhkmolpaaVc12
namespace Go.Vc
open Go Go.RowKit

/-- A chain: the slice a n c (element type E of s cells, its cells xs) is moved to slot ss (operation i1), a slice of one element is made in slot sb (i2), the append lies in slot sa (i3), and goes back to slot sf (i4). pre: quiet operations of the chain, with slot and value. xb: a block of the type that the quiet ones read. -/
structure Chn where
  E : TypeId
  s : Nat
  a : Option Addr
  n : Nat
  c : Nat
  xs : List Value
  news : List Value
  i1 : Nat
  i2 : Nat
  i3 : Nat
  i4 : Nat
  ss : Nat
  sb : Nat
  sa : Nat
  sf : Nat
  pre : List (Nat × Nat × Value)
  xb : Option (Nat × Array Value)
def Chn.inv (h : Chn) (B : Nat) (D : Nat → Bool) (e : Env) (w : World) : Prop :=
  (D h.i4 = false → e h.sf = .slice h.a h.n h.c) ∧ (D h.i1 = true → e h.ss = .slice h.a h.n h.c) ∧ (∀ q ∈ h.pre, D q.1 = true → e q.2.1 = q.2.2) ∧
  (D h.i3 = false → Own w B h.E h.s h.a h.n h.c h.xs) ∧
  (D h.i2 = true → D h.i3 = false → ∃ b, e h.sb = .slice (some ⟨b, 0, none⟩) 1 1 ∧ Blk w b h.news.toArray h.E) ∧
  (D h.i3 = true → ∃ a' c', e h.sa = .slice a' (h.n + 1) c' ∧ Own w B h.E h.s a' (h.n + 1) c' (h.xs ++ h.news) ∧ (D h.i4 = true → e h.sf = .slice a' (h.n + 1) c')) ∧
  (∀ b cs, h.xb = some (b, cs) → D h.i2 = false → Blk w b cs h.E)
def Chn.part (h : Chn) (B : Nat) : Part B where
  idx := [h.i1, h.i2, h.i3, h.i4] ++ h.pre.map (·.1)
  slots := [h.ss, h.sb, h.sa, h.sf] ++ h.pre.map (·.2.1)
  types := [h.E]
  inv := h.inv B
  frame := by
    intro D D' e e' w w' TS hD he hm hT _ ⟨h1, h2, h3, h4, h5, h6, h7⟩
    have hE : TS.contains h.E = false := by
      have := List.all_eq_true.1 hT h.E (by simp)
      simpa using this
    have d1 : D' h.i1 = D h.i1 := hD _ (by simp)
    have d2 : D' h.i2 = D h.i2 := hD _ (by simp)
    have d3 : D' h.i3 = D h.i3 := hD _ (by simp)
    have d4 : D' h.i4 = D h.i4 := hD _ (by simp)
    have t1 : e' h.ss = e h.ss := he _ (by simp)
    have t2 : e' h.sb = e h.sb := he _ (by simp)
    have t3 : e' h.sa = e h.sa := he _ (by simp)
    have t4 : e' h.sf = e h.sf := he _ (by simp)
    unfold Chn.inv
    rw [d1, d2, d3, d4, t1, t2, t3, t4]
    refine ⟨h1, h2, fun q hq => ?_, fun h9 => (h4 h9).mod hm hE, fun h9 h10 => ?_, fun h9 => ?_, fun b cs hx h9 => (h7 b cs hx h9).mod hm hE⟩
    · rw [hD q.1 (by simp only [List.mem_append, List.mem_map]; exact .inr ⟨q, hq, rfl⟩), he q.2.1 (by simp only [List.mem_append, List.mem_map]; exact .inr ⟨q, hq, rfl⟩)]
      exact h3 q hq
    · obtain ⟨b, h11, h12⟩ := h5 h9 h10
      exact ⟨b, h11, h12.mod hm hE⟩
    · obtain ⟨a', c', h11, h12, h13⟩ := h6 h9
      exact ⟨a', c', h11, h12.mod hm hE, h13⟩
/-- The chain's operations and slots are all unlike. -/
def Chn.ok (h : Chn) : Bool :=
  (h.i1 != h.i2 && h.i1 != h.i3 && h.i1 != h.i4 && h.i2 != h.i3 && h.i2 != h.i4 && h.i3 != h.i4) && (h.ss != h.sb && h.ss != h.sa && h.ss != h.sf && h.sb != h.sa && h.sb != h.sf && h.sa != h.sf) &&
  (h.pre.all fun q => ([h.i1, h.i2, h.i3, h.i4].all fun i => q.1 != i) && ([h.ss, h.sb, h.sa, h.sf].all fun t => q.2.1 != t)) && (h.pre.all fun q => h.pre.all fun q' => q.1 == q'.1 || q.2.1 != q'.2.1) && (h.pre.all fun q => h.pre.all fun q' => q.1 != q'.1 || q.2.1 == q'.2.1)
section
variable {P : Program} {ops : Array Oper} {B : Nat} {h : Chn} {D : Nat → Bool} {e : Env} {w : World} {ty T : TypeId} {ps : String} {af : Array Edge} {x : Operand}
theorem Chn.oks (hok : h.ok = true) : (h.i1 ≠ h.i2 ∧ h.i1 ≠ h.i3 ∧ h.i1 ≠ h.i4 ∧ h.i2 ≠ h.i3 ∧ h.i2 ≠ h.i4 ∧ h.i3 ≠ h.i4) ∧ (h.ss ≠ h.sb ∧ h.ss ≠ h.sa ∧ h.ss ≠ h.sf ∧ h.sb ≠ h.sa ∧ h.sb ≠ h.sf ∧ h.sa ≠ h.sf) ∧
    (∀ q ∈ h.pre, (q.1 ≠ h.i1 ∧ q.1 ≠ h.i2 ∧ q.1 ≠ h.i3 ∧ q.1 ≠ h.i4) ∧ (q.2.1 ≠ h.ss ∧ q.2.1 ≠ h.sb ∧ q.2.1 ≠ h.sa ∧ q.2.1 ≠ h.sf)) ∧ (∀ q ∈ h.pre, ∀ q' ∈ h.pre, q.1 = q'.1 ∨ q.2.1 ≠ q'.2.1) := by
  unfold Chn.ok at hok
  simp only [Bool.and_eq_true, bne_iff_ne, ne_eq, List.all_eq_true, List.all_cons, List.all_nil, Bool.and_true, Bool.or_eq_true, beq_iff_eq] at hok
  obtain ⟨⟨⟨⟨⟨⟨⟨⟨⟨a1, a2⟩, a3⟩, a4⟩, a5⟩, a6⟩, ⟨⟨⟨⟨b1, b2⟩, b3⟩, b4⟩, b5⟩, b6⟩, c1⟩, c2⟩, c3⟩ := hok
  exact ⟨⟨a1, a2, a3, a4, a5, a6⟩, ⟨b1, b2, b3, b4, b5, b6⟩, fun q hq => ⟨(c1 q hq).1, (c1 q hq).2⟩, c2⟩
theorem setD_ne {D : Nat → Bool} {i j : Nat} (h : j ≠ i) : setD D i j = D j := by unfold setD; rw [if_neg h]
theorem setD_eq' {D : Nat → Bool} {i : Nat} : setD D i i = true := by simp [setD]
/-- The slice is moved. -/
theorem Chn.step1 (hok : h.ok = true) (hI : (h.part B).inv D e w) (h4 : D h.i4 = false) : StepP P ops (h.part B) h.i1 ⟨some h.ss, .move (.tmp h.sf), ty, ps, af, none⟩ D e w := by
  obtain ⟨⟨a1, a2, a3, a4, a5, a6⟩, ⟨b1, b2, b3, b4, b5, b6⟩, c1, c2⟩ := Chn.oks hok
  obtain ⟨g1, g2, g3, g4, g5, g6, g7⟩ := hI
  have hs := g1 h4
  refine ⟨rfl, h.ss, _, w, rfl, by rw [x_mvS (ρ := ev e) (x := .tmp h.sf) hs], by simp [Chn.part], ModT.refl _ _ _, ?_⟩
  show h.inv B _ _ _
  unfold Chn.inv
  rw [setD_ne (Ne.symm a3), setD_eq', setD_ne (Ne.symm a2), setD_ne (Ne.symm a1), upd_ne _ _ (Ne.symm b3), upd_same, upd_ne _ _ (Ne.symm b1), upd_ne _ _ (Ne.symm b2)]
  exact ⟨g1, fun _ => rfl, fun q hq => by rw [setD_ne (c1 q hq).1.1, upd_ne _ _ (c1 q hq).2.1]; exact g3 q hq, g4, g5, g6, g7⟩
/-- A quiet one of the chain's. -/
theorem Chn.stepQ (hok : h.ok = true) (hI : (h.part B).inv D e w) {q : Nat × Nat × Value} (hq : q ∈ h.pre) {op : Op} (hr : (execOp (ev e) ⟨some q.2.1, op, ty, ps, af, none⟩).run P w = .ok (.value q.2.2) w) (hu : ∀ q' ∈ h.pre, q'.1 = q.1 → q' = q) : StepP P ops (h.part B) q.1 ⟨some q.2.1, op, ty, ps, af, none⟩ D e w := by
  obtain ⟨⟨a1, a2, a3, a4, a5, a6⟩, ⟨b1, b2, b3, b4, b5, b6⟩, c1, c2⟩ := Chn.oks hok
  obtain ⟨g1, g2, g3, g4, g5, g6, g7⟩ := hI
  obtain ⟨⟨e1, e2, e3, e4⟩, f1, f2, f3, f4⟩ := c1 q hq
  refine ⟨rfl, q.2.1, q.2.2, w, rfl, hr, by simp only [Chn.part, List.contains_iff_mem, List.mem_append, List.mem_map]; exact .inr ⟨q, hq, rfl⟩, ModT.refl _ _ _, ?_⟩
  show h.inv B _ _ _
  unfold Chn.inv
  rw [setD_ne (Ne.symm e4), setD_ne (Ne.symm e1), setD_ne (Ne.symm e3), setD_ne (Ne.symm e2), upd_ne _ _ (Ne.symm f4), upd_ne _ _ (Ne.symm f1), upd_ne _ _ (Ne.symm f2), upd_ne _ _ (Ne.symm f3)]
  refine ⟨g1, g2, fun q' hq' hD => ?_, g4, g5, g6, g7⟩
  by_cases hqq : q'.1 = q.1
  · rw [hu q' hq' hqq, upd_same]
  · rw [upd_ne _ _ ((c2 q' hq' q hq).resolve_left hqq)]
    exact g3 q' hq' (by rw [setD_ne hqq] at hD; exact hD)
/-- The slice of one element. -/
theorem Chn.step2 (hok : h.ok = true) (hI : (h.part B).inv D e w) {v : Value} (hB : B ≤ w.heap.size) (hx : ev e x = v) (hcs : v.cells.toList = h.news) (hT : P.underlying T = some (.slice h.E)) (hs : (P.info? h.E).map (·.size) = some h.s) (hl : h.news.length = h.s) (hz : ∃ zv, (P.info? h.E).bind (·.zero) = some zv) (hlt : 0 < h.s ∧ h.s ≤ 16777216) (h3 : D h.i3 = false) :
    StepP P ops (h.part B) h.i2 ⟨some h.sb, .buildSlice T 1 #[(0, x)], ty, ps, af, none⟩ D e w := by
  obtain ⟨⟨a1, a2, a3, a4, a5, a6⟩, ⟨b1, b2, b3, b4, b5, b6⟩, c1, c2⟩ := Chn.oks hok
  obtain ⟨g1, g2, g3, g4, g5, g6, g7⟩ := hI
  have hcs' : v.cells = h.news.toArray := by rw [← hcs]
  have hb := (fresh_alloc w h.news.toArray h.E).below
  refine ⟨rfl, h.sb, _, _, rfl, x_buildOne hx hcs' hT hs (by simpa using hl) hz hlt, by simp [Chn.part], ModT.below hb hB _, ?_⟩
  show h.inv B _ _ _
  unfold Chn.inv
  rw [setD_ne (Ne.symm a5), setD_ne a1, setD_ne (Ne.symm a4), setD_eq', upd_ne _ _ (Ne.symm b5), upd_ne _ _ b1, upd_same, upd_ne _ _ (Ne.symm b4)]
  exact ⟨g1, g2, fun q hq => by rw [setD_ne (c1 q hq).1.2.1, upd_ne _ _ (c1 q hq).2.2.1]; exact g3 q hq, fun h9 => (g4 h9).keep hb, fun _ _ => ⟨_, rfl, (fresh_alloc w h.news.toArray h.E).blk⟩, (fun h9 => by rw [h3] at h9; cases h9), (fun _ _ _ h9 => by cases h9)⟩
/-- The append. -/
theorem Chn.step3 (hok : h.ok = true) (hI : (h.part B).inv D e w) {bytes : Nat} {zv : Value} (hB : B ≤ w.heap.size) (hT : P.underlying T = some (.slice h.E)) (hi : (P.info? h.E).map (fun i => (i.zero, i.size, i.bytes)) = some (some zv, h.s, bytes)) (hz : zv.cells.size = h.s) (hs : 0 < h.s) (hl : h.news.length = 1 * h.s) (h1 : ∀ u ∈ h.news, u.oneCell' = true) (hmax : h.n + 1 ≤ 9223372036854775807) (hb : (h.n + 1) * bytes ≤ 140737488355328)
    (d1 : D h.i1 = true) (d2 : D h.i2 = true) (d3 : D h.i3 = false) (d4 : D h.i4 = false) : StepP P ops (h.part B) h.i3 ⟨some h.sa, .call ⟨.builtin .append, #[.tmp h.ss, .tmp h.sb], #[T, T]⟩, ty, ps, af, none⟩ D e w := by
  obtain ⟨⟨a1, a2, a3, a4, a5, a6⟩, ⟨b1, b2, b3, b4, b5, b6⟩, c1, c2⟩ := Chn.oks hok
  obtain ⟨g1, g2, g3, g4, g5, g6, g7⟩ := hI
  obtain ⟨b, hsb, hBb⟩ := g5 d2 d3
  have hO := g4 d3
  obtain ⟨a', c', w', hO2, hg, hbel, hr⟩ := run_append_ex (P := P) (m := 1) (c' := 1) (news := h.news) (ad := ⟨b, 0, none⟩) ty hT hi hz hs hO hl (fun j u hj => by
    rw [Addr.add_lit, Nat.zero_add]; exact hBb.cell (by simpa using hj)) h1 hmax hb hB
  refine ⟨rfl, h.sa, _, w', rfl, hr (ev e) _ _ _ _ (.tmp h.ss) (.tmp h.sb) (g2 d1) hsb, by simp [Chn.part], ModT.app hO hg hbel (by simp [Chn.part]) hO2, ?_⟩
  show h.inv B _ _ _
  unfold Chn.inv
  rw [setD_ne (Ne.symm a6), setD_ne a2, setD_eq', setD_ne a4, upd_ne _ _ (Ne.symm b6), upd_ne _ _ b2, upd_ne _ _ b4, upd_same]
  exact ⟨g1, g2, fun q hq => by rw [setD_ne (c1 q hq).1.2.2.1, upd_ne _ _ (c1 q hq).2.2.2.1]; exact g3 q hq, (fun h9 => by cases h9), (fun _ h9 => by cases h9), (fun _ => ⟨a', c', rfl, hO2, fun h9 => by rw [d4] at h9; cases h9⟩), (fun _ _ _ h9 => by rw [d2] at h9; cases h9)⟩
/-- The append goes back. -/
theorem Chn.step4 (hok : h.ok = true) (hI : (h.part B).inv D e w) (d3 : D h.i3 = true) : StepP P ops (h.part B) h.i4 ⟨some h.sf, .assign (.tmp h.sa), ty, ps, af, none⟩ D e w := by
  obtain ⟨⟨a1, a2, a3, a4, a5, a6⟩, ⟨b1, b2, b3, b4, b5, b6⟩, c1, c2⟩ := Chn.oks hok
  obtain ⟨g1, g2, g3, g4, g5, g6, g7⟩ := hI
  obtain ⟨a', c', hsa, hO, _⟩ := g6 d3
  refine ⟨rfl, h.sf, _, w, rfl, by rw [x_asS (ρ := ev e) (x := .tmp h.sa) hsa], by simp [Chn.part], ModT.refl _ _ _, ?_⟩
  show h.inv B _ _ _
  unfold Chn.inv
  rw [setD_eq', setD_ne a3, setD_ne a6, setD_ne a5, upd_same, upd_ne _ _ b3, upd_ne _ _ b5, upd_ne _ _ b6]
  exact ⟨(fun h9 => by cases h9), g2, fun q hq => by rw [setD_ne (c1 q hq).1.2.2.2, upd_ne _ _ (c1 q hq).2.2.2.2]; exact g3 q hq, g4, g5, fun _ => ⟨a', c', hsa, hO, fun _ => rfl⟩, g7⟩
/-- What is held at the beginning. -/
theorem Chn.init (hsf : e h.sf = .slice h.a h.n h.c) (hO : Own w B h.E h.s h.a h.n h.c h.xs) (hx : ∀ b cs, h.xb = some (b, cs) → Blk w b cs h.E) : (h.part B).inv (fun _ => false) e w :=
  ⟨fun _ => hsf, (fun h9 => by cases h9), (fun q _ h9 => by cases h9), fun _ => hO, (fun h9 => by cases h9), (fun h9 => by cases h9), fun b cs h9 _ => hx b cs h9⟩
/-- And at the end. -/
theorem Chn.fin (hI : (h.part B).inv D e w) (d3 : D h.i3 = true) (d4 : D h.i4 = true) : ∃ a' c', e h.sf = .slice a' (h.n + 1) c' ∧ Own w B h.E h.s a' (h.n + 1) c' (h.xs ++ h.news) := by
  obtain ⟨a', c', _, h2, h3⟩ := hI.2.2.2.2.2.1 d3
  exact ⟨a', c', h3 d4, h2⟩
/-- What an edge tells. -/
theorem dep_of {o : Oper} {D : Nat → Bool} (hd : depsOn o D) {j : Nat} (h : (o.after.toList.any fun x => Region.binds .any x && Nat.beq x.on j) = true) : D j = true := by
  obtain ⟨x, hx, hb⟩ := List.any_eq_true.1 h
  simp only [Bool.and_eq_true] at hb
  rw [← Nat.eq_of_beq_eq_true hb.2]; exact hd x (by simpa using hx) hb.1
theorem not_done {o : Oper} {D : Nat → Bool} {i j : Nat} (hcl : D i = true → depsOn o D) (h : (o.after.toList.any fun x => Region.binds .any x && Nat.beq x.on j) = true) (hj : D j = false) : D i = false := by
  cases h9 : D i with
  | false => rfl
  | true => have := dep_of (hcl h9) h; rw [hj] at this; cases this
end
end Go.Vc
namespace Go.Vc
open Go Go.RowKit
/-- The first n values of a function. -/
def lst (f : Nat → Value) (n : Nat) : List Value := (List.range n).map f
theorem lst_get {f : Nat → Value} {n i : Nat} (h : i < n) : (lst f n)[i]? = some (f i) := by simp [lst, h]
theorem lst_len (f : Nat → Value) (n : Nat) : (lst f n).length = n := by simp [lst]
theorem lst_congr {f g : Nat → Value} {n : Nat} (h : ∀ i, i < n → f i = g i) : lst f n = lst g n := List.map_congr_left fun i hi => h i (List.mem_range.1 hi)
theorem lst_put (f : Nat → Value) (n : Nat) (v : Value) : lst f n ++ [v] = lst (upf f n v) (n + 1) := by
  unfold lst
  rw [lst_snoc, List.map_congr_left (g := upf f n v) fun i hi => by
    have := List.mem_range.1 hi
    simp [upf, show i ≠ n by omega]]
  simp [upf]
theorem lst_set {f : Nat → Value} {n i : Nat} {v : Value} (h : i < n) : (lst f n).set i v = lst (upf f i v) n := by
  apply List.ext_getElem?
  intro j
  rw [List.getElem?_set]
  by_cases hj : j < n
  · rw [lst_get hj, lst_get hj]
    by_cases hij : i = j
    · subst hij; rw [if_pos rfl, if_pos (by rw [lst_len]; exact h)]; simp [upf]
    · rw [if_neg hij]; simp [upf, Ne.symm hij]
  · rw [List.getElem?_eq_none (by rw [lst_len]; omega), List.getElem?_eq_none (by rw [lst_len]; omega)]
    have : i ≠ j := by omega
    simp [this]
theorem Own.at1 {w : World} {B : Nat} {E : TypeId} {a : Option Addr} {n c : Nat} {f : Nat → Value} (h : Own w B E 1 a n c (lst f n)) {j : Nat} (hj : j < n) : w.cell? ⟨ab a, ao a + j * 1, none⟩ = some (f j) := by
  rw [h.off, Nat.zero_add, Nat.mul_one]; exact h.cell (lst_get hj)
section
variable {P : Program} {n : Nat} {ops : Array Oper} {Q : Exit → Env → World → Prop} {rest : List Oper} {e : Env} {w : World} {ty : TypeId} {ps : String} {af : Array Edge} {x y : Operand} {T : TypeId}
/-- A store of one cell into the call's own slice. -/
theorem L.storeOwn {B m c i : Nat} {E : TypeId} {a : Option Addr} {f : Nat → Value} {v : Value} (hx : ev e x = .pointer (some ⟨ab a, ao a + i * 1, none⟩)) (hy : ev e y = v) (hs : (P.info? T).map (·.size) = some 1) (h1 : v.oneCell' = true) (hO : Own w B E 1 a m c (lst f m)) (hi : i < m)
    (k : ∀ w1, Own w1 B E 1 a m c (lst (upf f i v) m) → ModT w w1 B [E] → L P n ops Q rest e w1) : L P n ops Q (⟨none, .store T x y, ty, ps, af, none⟩ :: rest) e w := by
  have ha := hO.some_of (by omega)
  obtain ⟨r, rfl⟩ := hO.some_eq ha
  obtain ⟨cur, hB, hb, hnc, hcm, hcs, ht⟩ := hO.row ha
  simp only [ab, ao, Option.map_some, Option.getD_some, Nat.zero_add, Nat.mul_one] at *
  refine L.store hx hy hs h1 hB (by omega) ?_
  have hB' := hB.set (o := i) v
  refine k _ ⟨by rw [lst_len]; omega, .inr ⟨r, c, _, rfl, hb, hB', hnc, hcm, by rw [Array.size_setIfInBounds]; omega, ?_⟩⟩ (ModT.put hB (grown_setCell w ⟨r, i, none⟩ v) hb (by simp))
  rw [Nat.mul_one, Array.toList_setIfInBounds, List.take_set, ht, lst_set hi]
end
end Go.Vc
