/- What the claim leans on, part 6. Bodies and scripts that come in, read; what their bulk bounds. -/
import Derived.Test.YtfmoeemolgjodaaK5
set_option linter.unusedVariables false
section
namespace Go.Vy.Sc
open Go Go.Conc Go.Yc Go.RowKit Go.Proofs Go.Proofs.Ytfmoeemolgjodaa
open Go.Vc Go.Wg Go.ChangeShapes Go.WideShapes Go.ChangeAt Go.Deep
/-! ### Bulk -/
theorem bulk_one {H : Type} (d : DataW H) : 1 ≤ Rows.uptoBulk d := by
  cases d with
  | lit l => cases l <;> simp [Rows.uptoBulk]
  | _ => simp [Rows.uptoBulk]
theorem bulk_part {H : Type} {d : DataW H} : ∀ {l : List (DataW H)}, d ∈ l → Rows.uptoBulk d ≤ Rows.uptoBulkAll l
  | x :: r, h => by
    simp only [Rows.uptoBulkAll]
    rcases List.mem_cons.1 h with rfl | h
    · omega
    · have := bulk_part h; omega
theorem bulk_len {H : Type} : ∀ (l : List (DataW H)), l.length ≤ Rows.uptoBulkAll l
  | [] => Nat.zero_le _
  | x :: r => by
    have := bulk_one x
    have := bulk_len r
    simp only [Rows.uptoBulkAll, List.length_cons]; omega
theorem bulk_small {H : Type} {l : List (DataW H)} (h : Rows.uptoSmall H l = true) : Rows.uptoBulkAll l ≤ 1048576 := of_decide_eq_true h
section
variable {H : Type} {enc : TypeId × Value → H} {W : World} {base : Nat} {spare : Nat → Bool} {held : Bool} {P : Program}
/-- A slice, element by element, with its reading. -/
theorem open_slD {t e : TypeId} {s : Nat} {a : Option Addr} {len cap fuel : Nat} {x : DataW H × List MemPlace} (ht : P.underlying t = some (.slice e)) (hs : P.cellsOf e = s) (h0 : 0 < s) (h : DataW.trod enc P W base spare held fuel t [.slice a len cap] = some x) :
    SL a len ∧ (a = none → len = 0 ∧ cap = 0) ∧ (len ≤ cap ∧ len ≤ Rows.uptoBulk x.1) ∧ ∃ n, ∀ i, i < len → ∃ cs y, Rows.uptoBulk y.1 ≤ Rows.uptoBulk x.1 ∧ cs.length = s ∧ (∀ (j : Nat) v, cs[j]? = some v → W.cell? ⟨ab a, ao a + i * s + j, none⟩ = some v) ∧ DataW.trod enc P W base spare held n e cs = some y := by
  rcases open_slice ht h with ⟨hcs, _⟩ | ⟨ad, l, c, m, n, D, Pl, hcs, hb, hl, hm, hmm, hx, hi⟩
  · simp at hcs
    obtain ⟨rfl, rfl, rfl⟩ := hcs
    exact ⟨SL.zero _, fun _ => ⟨rfl, rfl⟩, ⟨Nat.le_refl _, Nat.zero_le _⟩, 0, fun i hi => absurd hi (Nat.not_lt_zero _)⟩
  · simp at hcs
    obtain ⟨rfl, rfl, rfl⟩ := hcs
    have hlm : len ≤ m := by rw [hmm]; split <;> omega
    have hbk : Rows.uptoBulkAll ((List.range len).map D) ≤ Rows.uptoBulk x.1 := by
      rw [hx]
      simp only [Rows.uptoBulk]; omega
    have hE : ∀ i, i < len → ∃ cs y, Rows.uptoBulk y.1 ≤ Rows.uptoBulk x.1 ∧ cs.length = s ∧ (∀ (j : Nat) v, cs[j]? = some v → W.cell? ((ad.add (i * s)).add j) = some v) ∧ DataW.trod enc P W base spare held n e cs = some y := fun i hil => by
      obtain ⟨cs, h1, h2⟩ := hi i (by omega)
      rw [hs] at h1
      obtain ⟨_, h4, h3⟩ := World.cells?_some h1
      refine ⟨cs, _, Nat.le_trans (bulk_part (List.mem_map.2 ⟨i, by simpa using hil, rfl⟩)) hbk, h4, fun j v hj => ?_, h2⟩
      have : j < s := by rw [← h4]; exact (List.getElem?_eq_some_iff.1 hj).1
      rw [h3 j this]; exact hj
    have hsp : 0 < len → ad = ⟨ad.block, ad.off, none⟩ := fun hl0 => by
      obtain ⟨cs, y, _, h1, h2, _⟩ := hE 0 hl0
      obtain ⟨v, hv⟩ : ∃ v, cs[0]? = some v := ⟨_, List.getElem?_eq_getElem (by omega)⟩
      have := h2 0 v hv
      rw [Nat.zero_mul] at this
      have e1 : (ad.add 0).add 0 = ad := by simp [Addr.add]
      rw [e1] at this
      obtain ⟨b, o, sp⟩ := ad
      cases sp with
      | none => rfl
      | some sp => unfold World.cell? at this; simp at this; split at this <;> simp at this
    refine ⟨fun hl0 => by rw [hsp hl0]; rfl, (fun h => by cases h), ⟨hl, ?_⟩, n, fun i hil => ?_⟩
    · have := bulk_len ((List.range len).map D)
      rw [List.length_map, List.length_range] at this
      omega
    · obtain ⟨cs, y, h5, h1, h2, h3⟩ := hE i hil
      refine ⟨cs, y, h5, h1, fun j v hj => ?_, h3⟩
      have := h2 j v hj
      rw [hsp (by omega), Addr.add_lit, Addr.add_lit] at this
      exact this
end
section
variable {H : Type} {enc : TypeId × Value → H} {W : World} {base : Nat} {spare : Nat → Bool} {held : Bool}
theorem cellsOp : Try.prog.cellsOf 63 = 10 := by kernel_rfl
theorem cellsBool : Try.prog.cellsOf 4 = 1 := by kernel_rfl
theorem cellsI64 : Try.prog.cellsOf 2 = 1 := by kernel_rfl
theorem cellsStr : Try.prog.cellsOf 9 = 1 := by kernel_rfl
theorem cellsOps : Try.prog.cellsOf 64 = 1 := by kernel_rfl
theorem len10 {α : Type} : ∀ {cs : List α}, cs.length = 10 → ∃ a b c d e f g h i j, cs = [a, b, c, d, e, f, g, h, i, j]
  | [a, b, c, d, e, f, g, h, i, j], _ => ⟨a, b, c, d, e, f, g, h, i, j, rfl⟩
instance : Inhabited OpD := ⟨⟨0, ⟨0, 0, 0⟩, false, 0, 0, 0, 0, ByteArray.empty⟩⟩
set_option maxRecDepth 100000 in
theorem op_cells {n : Nat} {cs : List Value} {x : DataW H × List MemPlace} (h : DataW.trod enc Try.prog W base spare held n 63 cs = some x) : ∃ o : OpD, cs = opC o ∧ o.text.size ≤ Rows.uptoBulk x.1 := by
  obtain ⟨xs, m, _, hx0, hl, hxl, hf⟩ := DataW.trod_struct Try.underlying63 h
  rw [cellsOp] at hl
  obtain ⟨v0, v1, v2, v3, v4, v5, v6, v7, v8, v9, rfl⟩ := len10 hl
  have hln : xs.length = 8 := hxl
  have get : ∀ j, j < 8 → ∃ y, xs[j]? = some y ∧ y ∈ xs := fun j hj => ⟨xs[j]'(by omega), List.getElem?_eq_getElem (by omega), List.getElem_mem _⟩
  obtain ⟨y0, e0, _⟩ := get 0 (by decide)
  obtain ⟨y1, e1, _⟩ := get 1 (by decide)
  obtain ⟨y2, e2, _⟩ := get 2 (by decide)
  obtain ⟨y3, e3, _⟩ := get 3 (by decide)
  obtain ⟨y4, e4, _⟩ := get 4 (by decide)
  obtain ⟨y5, e5, _⟩ := get 5 (by decide)
  obtain ⟨y6, e6, _⟩ := get 6 (by decide)
  obtain ⟨y7, e7, m7⟩ := get 7 (by decide)
  have h0 : DataW.trod enc Try.prog W base spare held m 3 ([v0, v1, v2, v3, v4, v5, v6, v7, v8, v9].drop 0 |>.take (Try.prog.cellsOf 3)) = some y0 := (hf 0 _ rfl).trans e0
  have h1 : DataW.trod enc Try.prog W base spare held m 43 ([v0, v1, v2, v3, v4, v5, v6, v7, v8, v9].drop 1 |>.take (Try.prog.cellsOf 43)) = some y1 := (hf 1 _ rfl).trans e1
  have h2 : DataW.trod enc Try.prog W base spare held m 4 ([v0, v1, v2, v3, v4, v5, v6, v7, v8, v9].drop 4 |>.take (Try.prog.cellsOf 4)) = some y2 := (hf 2 _ rfl).trans e2
  have h3 : DataW.trod enc Try.prog W base spare held m 3 ([v0, v1, v2, v3, v4, v5, v6, v7, v8, v9].drop 5 |>.take (Try.prog.cellsOf 3)) = some y3 := (hf 3 _ rfl).trans e3
  have h4 : DataW.trod enc Try.prog W base spare held m 2 ([v0, v1, v2, v3, v4, v5, v6, v7, v8, v9].drop 6 |>.take (Try.prog.cellsOf 2)) = some y4 := (hf 4 _ rfl).trans e4
  have h5 : DataW.trod enc Try.prog W base spare held m 3 ([v0, v1, v2, v3, v4, v5, v6, v7, v8, v9].drop 7 |>.take (Try.prog.cellsOf 3)) = some y5 := (hf 5 _ rfl).trans e5
  have h6 : DataW.trod enc Try.prog W base spare held m 2 ([v0, v1, v2, v3, v4, v5, v6, v7, v8, v9].drop 8 |>.take (Try.prog.cellsOf 2)) = some y6 := (hf 6 _ rfl).trans e6
  have h7 : DataW.trod enc Try.prog W base spare held m 9 ([v0, v1, v2, v3, v4, v5, v6, v7, v8, v9].drop 9 |>.take (Try.prog.cellsOf 9)) = some y7 := (hf 7 _ rfl).trans e7
  rw [cellsInt] at h0 h3 h5
  rw [cellsStep] at h1
  rw [cellsBool] at h2
  rw [cellsI64] at h4 h6
  rw [cellsStr] at h7
  obtain ⟨z0, g0, _⟩ := DataW.trod_int Try.underlying3 h0
  obtain ⟨z1, g1⟩ := step_cells h1
  obtain ⟨z2, g2, _⟩ := DataW.trod_bool Try.underlying4 h2
  obtain ⟨z3, g3, _⟩ := DataW.trod_int Try.underlying3 h3
  obtain ⟨z4, g4, _⟩ := DataW.trod_int Try.underlying2 h4
  obtain ⟨z5, g5, _⟩ := DataW.trod_int Try.underlying3 h5
  obtain ⟨z6, g6, _⟩ := DataW.trod_int Try.underlying2 h6
  obtain ⟨z7, g7, q7, _⟩ := DataW.trod_string Try.underlying9 h7
  refine ⟨⟨z0, z1, z2, z3, z4, z5, z6, z7⟩, ?_, ?_⟩
  · have g1 : [v1, v2, v3] = [.int .i64 z1.kind, .int .i64 z1.obj, .int .i64 z1.num] := g1
    simp at g0 g1 g2 g3 g4 g5 g6 g7
    obtain ⟨g1, g1', g1''⟩ := g1
    rw [g0, g1, g1', g1'', g2, g3, g4, g5, g6, g7]; rfl
  · show z7.size ≤ _
    have h8 : Rows.uptoBulk y7.1 = z7.size + 1 := by
      rw [q7]
      simp [Rows.uptoBulk]
    have h9 : Rows.uptoBulk y7.1 ≤ Rows.uptoBulk x.1 := by
      rw [hx0]
      simp only [Rows.uptoBulk]
      have := bulk_part (List.mem_map.2 ⟨y7, m7, rfl⟩ : y7.1 ∈ xs.map (·.1))
      omega
    omega
theorem ops_at {n len cap : Nat} {a : Option Addr} {x : DataW H × List MemPlace} (h : DataW.trod enc Try.prog W base spare held n 64 [.slice a len cap] = some x) (hx : Rows.uptoBulk x.1 ≤ 1048576) : ∃ l : List OpD, l.length = len ∧ SL a len ∧ len ≤ 1048576 ∧ (∀ (k : Nat) (o : OpD), l[k]? = some o → o.text.size ≤ 1048576 ∧ ∀ (j : Nat) (v : Value), (opC o)[j]? = some v → W.cell? ⟨ab a, ao a + k * 10 + j, none⟩ = some v) := by
  obtain ⟨h1, _, ⟨_, h2⟩, m, h3⟩ := open_slD Try.underlying64 cellsOp (by decide) h
  obtain ⟨f, hf⟩ := chooseLt (α := OpD) (n := len) (p := fun i o => o.text.size ≤ 1048576 ∧ ∀ (j : Nat) (v : Value), (opC o)[j]? = some v → W.cell? ⟨ab a, ao a + i * 10 + j, none⟩ = some v) fun i hi => by
    obtain ⟨cs, y, g0, _, g2, g3⟩ := h3 i hi
    obtain ⟨o, rfl, ho⟩ := op_cells g3
    exact ⟨o, by omega, g2⟩
  refine ⟨(List.range len).map f, by simp, h1, by omega, fun k o hk => ?_⟩
  have hkl : k < len := by
    have := (List.getElem?_eq_some_iff.1 hk).1
    simpa using this
  simp [hkl] at hk
  rw [← hk]
  exact hf k hkl
/-- A script. -/
theorem open_scriptU {a : Option Addr} {len cap : Nat} {d : DataW H} {p : List MemPlace} (h : DataW.Trod enc Try.prog W base spare held 26 (.slice a len cap) d p) (hd : Rows.uptoBulk d ≤ 1048576) : ∃ sc, ScAt (veil W) a len cap sc ∧ len ≤ 1048576 := by
  obtain ⟨fuel, hf⟩ := h
  obtain ⟨h1, h2, h4, n, h3⟩ := open_slD Try.underlying26 cellsInt Nat.one_pos (show DataW.trod enc Try.prog W base spare held fuel 26 [.slice a len cap] = _ from hf)
  have h4c := h4.1
  have h4 : len ≤ Rows.uptoBulk d := h4.2
  obtain ⟨sc, hsc⟩ := chooseLt (α := Int) (n := len) (p := fun i z => W.cell? ⟨ab a, ao a + i * 1, none⟩ = some (.int .i64 z)) fun i hi => by
    obtain ⟨cs, y, _, _, g2, g3⟩ := h3 i hi
    obtain ⟨z, rfl, _⟩ := DataW.trod_int Try.underlying3 g3
    exact ⟨z, g2 0 _ rfl⟩
  exact ⟨sc, ⟨h1, h2, h4c, fun j hj => veil_cell (hsc j hj)⟩, by omega⟩
/-- Bodies. -/
theorem open_bodies {a : Option Addr} {len cap : Nat} {d : DataW H} {p : List MemPlace} (h : DataW.Trod enc Try.prog W base spare held 25 (.slice a len cap) d p) (hd : Rows.uptoBulk d ≤ 1048576) : ∃ bo aa cc, BodsAt (veil W) a len bo aa cc ∧ len ≤ 1048576 ∧ (a = none → len = 0 ∧ cap = 0) := by
  obtain ⟨fuel, hf⟩ := h
  obtain ⟨h1, h2, h4, n, h3⟩ := open_slD Try.underlying25 cellsOps Nat.one_pos (show DataW.trod enc Try.prog W base spare held fuel 25 [.slice a len cap] = _ from hf)
  have h4c := h4.1
  have h4 : len ≤ Rows.uptoBulk d := h4.2
  obtain ⟨F, hF⟩ := chooseLt (α := List OpD × Option Addr × Nat) (n := len) (p := fun i z => W.cell? ⟨ab a, ao a + i * 1, none⟩ = some (.slice z.2.1 z.1.length z.2.2) ∧ SL z.2.1 z.1.length ∧ z.1.length ≤ 1048576 ∧ ∀ (k : Nat) (o : OpD), z.1[k]? = some o → o.text.size ≤ 1048576 ∧ ∀ (j : Nat) (v : Value), (opC o)[j]? = some v → W.cell? ⟨ab z.2.1, ao z.2.1 + k * 10 + j, none⟩ = some v) fun i hi => by
    obtain ⟨cs, y, g0, g1, g2, g3⟩ := h3 i hi
    have g0 : Rows.uptoBulk y.1 ≤ Rows.uptoBulk d := g0
    have hcs : ∃ a' len' cap', cs = [.slice a' len' cap'] := by
      rcases DataW.trod_slice Try.underlying64 g3 with ⟨h0, _⟩ | ⟨a', len', cap', _, _, _, _, h0, _⟩
      · exact ⟨_, _, _, h0⟩
      · exact ⟨_, _, _, h0⟩
    obtain ⟨a', len', cap', rfl⟩ := hcs
    obtain ⟨l, rfl, q1, q2, q3⟩ := ops_at g3 (by omega)
    exact ⟨(l, a', cap'), g2 0 _ rfl, q1, q2, q3⟩
  refine ⟨fun i => (F i).1, fun i => (F i).2.1, fun i => (F i).2.2, ⟨h1, fun i hi => veil_cell (hF i hi).1, fun i hi => (hF i hi).2.1, fun i hi k o ho j v hv => veil_cell (((hF i hi).2.2.2 k o ho).2 j v hv), fun i hi => (hF i hi).2.2.1, fun i hi k o ho => ?_⟩, by omega, h2⟩
  have := ((hF i hi).2.2.2 k o ho).1
  omega
end
end Go.Vy.Sc
end
/- A play, whatever comes in: what it answers. -/
section
namespace Go.Vy.Sc
open Go Go.Conc Go.Yc Go.RowKit Go.Proofs Go.Proofs.Ytfmoeemolgjodaa
open Go.Vc Go.Wg
section
variable {P : Program} [Ctx P] {n : Nat} {Q : Exit → Env → World → Prop} {e : Env} {w : World} {ops : Array Oper} {rest : List Oper} {d : Nat} {ty : TypeId} {ps : String} {af : Array Edge} {T E : TypeId} {x y : Operand}
theorem setRow_size' : ∀ (vs : List Value) (o : Nat) (cs : Array Value), (setRow cs o vs).size = cs.size
  | [], _, _ => rfl
  | v :: vs, o, cs => by
    show (setRow (cs.setIfInBounds o v) (o + 1) vs).size = cs.size
    rw [setRow_size' vs (o + 1)]; simp
/-- A row of an own slice is written over. -/
theorem L.putOwn {B s n' c i : Nat} {a : Option Addr} {xs : List Value} {cs : Array Value} (hx : ev e x = .pointer (some ⟨ab a, ao a + i * s, none⟩)) (hy : ev e y = .agg cs) (hs : (P.info? T).map (·.size) = some s) (hl : cs.size = s) (h1 : cs.toList.all Value.oneCell' = true) (hO : Own w B E s a n' c xs) (hi : i < n')
    (k : ∀ w1, (∃ xs', Own w1 B E s a n' c xs') → w.grownBy w1 (some (ab a)) → B ≤ ab a → L P n ops Q rest e w1) : L P n ops Q (⟨none, .store T x y, ty, ps, af, none⟩ :: rest) e w := by
  have ha : a ≠ none := hO.some_of (by omega)
  obtain ⟨cur, hcur, hle, hnc, hmx, hcs, _⟩ := hO.row ha
  have hae : a = some ⟨ab a, 0, none⟩ := by
    obtain ⟨r, hr⟩ := Own.some_eq hO ha
    rw [hr]; rfl
  have hroom : i * s + s ≤ cur.size := by
    rw [hcs]
    have : (i + 1) * s ≤ c * s := Nat.mul_le_mul_right s (by omega)
    rw [Nat.add_mul, Nat.one_mul] at this
    exact this
  refine L.put (b := ab a) (o := ao a + i * s) (vs := cs.toList) (setRow cur (ao a + i * s) cs.toList) hx hy rfl hs (by simpa using hl) h1 hcur (by rw [hO.off, Nat.zero_add]; exact hroom) rfl (fun w1 hnew hg _ => k w1 ?_ hg hle)
  have h2 := Own.ofBlk (c := c) (n := n') hnew (by rw [setRow_size', hcs]) hle hnc hmx
  rw [← hae] at h2
  exact ⟨_, h2⟩
end
/-- What a play answers. -/
structure PD where
  e : Int
  mm : Nat
  evs : List (Nat × Stp)
  nts : List (Nat × Nat × Nte)
  ens : List Int
  wts : List Stp
  st : Bool
  us : Int
noncomputable def pd (m : Nat) (bo : Nat → List OpD) (sn : Nat) (sc : Nat → Int) : PD :=
  if 16 < m then ⟨90, 0, [], [], [], [], false, 0⟩ else if 262144 < sn then ⟨1, 0, [], [], [], [], false, 0⟩ else
    ⟨0, m, (PB m bo sc sn).evs, (PB m bo sc sn).nts, (List.range m).map fun j => endOf (PB m bo sc sn).ft[j]?, (List.range m).map fun j => wtOf (pSys m bo) j (PB m bo sc sn).ft[j]?, (PB m bo sc sn).ft.any (·.isLeft) && ((pSys m bo).rds (PB m bo sc sn)).isEmpty, ((PB m bo sc sn).used : Int)⟩
/-- Where a run does not lie. -/
structure Off (b : Nat) (ea na za wa : Option Addr) (d : PD) : Prop where
  ev : d.evs ≠ [] → ab ea ≠ b
  nt : d.nts ≠ [] → ab na ≠ b
  en : 0 < d.mm → ab za ≠ b
  wt : 0 < d.mm → ab wa ≠ b
/-- A run that lies behind B. -/
structure Lo (B : Nat) (ea na za wa : Option Addr) (d : PD) : Prop where
  ev : d.evs ≠ [] → B ≤ ab ea
  nt : d.nts ≠ [] → B ≤ ab na
  en : 0 < d.mm → B ≤ ab za
  wt : 0 < d.mm → B ≤ ab wa
theorem Lo.off {B b : Nat} {ea na za wa : Option Addr} {d : PD} (h : Lo B ea na za wa d) (hb : b < B) : Off b ea na za wa d :=
  ⟨fun z => by have := h.ev z; omega, fun z => by have := h.nt z; omega, fun z => by have := h.en z; omega, fun z => by have := h.wt z; omega⟩
abbrev RunD (w : World) (ea na za wa : Option Addr) (d : PD) : Prop := RunAt w ea na za wa d.mm d.evs d.nts d.ens d.wts
section
variable {w w' : World} {ea na za wa : Option Addr} {d : PD} {b : Nat}
theorem ne_nil_of_get {α : Type} {l : List α} {i : Nat} {x : α} (h : l[i]? = some x) : l ≠ [] := fun e => by rw [e] at h; cases h
theorem RunD.lt (h : RunD w ea na za wa d) : (d.evs ≠ [] → ab ea < w.heap.size) ∧ (d.nts ≠ [] → ab na < w.heap.size) ∧ (0 < d.mm → ab za < w.heap.size) ∧ (0 < d.mm → ab wa < w.heap.size) := by
  refine ⟨fun hn => ?_, fun hn => ?_, fun hn => ?_, fun hn => ?_⟩
  · obtain ⟨x, l, hx⟩ := List.exists_cons_of_ne_nil hn
    exact cell_lt (h.ev 0 x 0 _ (by rw [hx]; rfl) rfl)
  · obtain ⟨x, l, hx⟩ := List.exists_cons_of_ne_nil hn
    exact cell_lt (h.nt 0 x 0 _ (by rw [hx]; rfl) rfl)
  · obtain ⟨x, hx⟩ : ∃ x, d.ens[0]? = some x := ⟨_, List.getElem?_eq_getElem (by rw [h.hz]; exact hn)⟩
    exact cell_lt (h.en 0 x hx)
  · obtain ⟨x, hx⟩ : ∃ x, d.wts[0]? = some x := ⟨_, List.getElem?_eq_getElem (by rw [h.hw]; exact hn)⟩
    exact cell_lt (h.wt 0 x 0 _ hx rfl)
theorem RunD.off (h : RunD w ea na za wa d) (hb : w.heap.size ≤ b) : Off b ea na za wa d := by
  obtain ⟨h1, h2, h3, h4⟩ := RunD.lt h
  exact ⟨fun z => by have := h1 z; omega, fun z => by have := h2 z; omega, fun z => by have := h3 z; omega, fun z => by have := h4 z; omega⟩
theorem cell_other {a : Addr} {v : Value} (h : w.cell? a = some v) (hg : w.grownBy w' (some b)) (hn : a.block ≠ b) : w'.cell? a = some v := by
  rw [(cell_of_heap (u := w) (u' := w') (a := a) (hg.block _ (cell_lt h) (by simpa using hn))).1]; exact h
theorem RunD.otherB (h : RunD w ea na za wa d) (hg : w.grownBy w' (some b)) (ho : Off b ea na za wa d) : RunD w' ea na za wa d :=
  ⟨h.esl, h.nsl, h.zsl, h.wsl, h.hz, h.hw, fun i x k v h1 h2 => cell_other (h.ev i x k v h1 h2) hg (ho.ev (ne_nil_of_get h1)), fun i x k v h1 h2 => cell_other (h.nt i x k v h1 h2) hg (ho.nt (ne_nil_of_get h1)),
    fun i x h1 => cell_other (h.en i x h1) hg (ho.en (by have := (List.getElem?_eq_some_iff.1 h1).1; rw [h.hz] at this; omega)), fun i x k v h1 h2 => cell_other (h.wt i x k v h1 h2) hg (ho.wt (by have := (List.getElem?_eq_some_iff.1 h1).1; rw [h.hw] at this; omega))⟩
end
theorem RunAt.otherB {w w' : World} {ea na za wa : Option Addr} {d : PD} {b : Nat} (h : RunAt w ea na za wa d.mm d.evs d.nts d.ens d.wts) (hg : w.grownBy w' (some b)) (ho : Off b ea na za wa d) : RunAt w' ea na za wa d.mm d.evs d.nts d.ens d.wts := RunD.otherB h hg ho
theorem PlayM.lists {B m sn : Nat} {bo : Nat → List OpD} {sc : Nat → Int} {w : World} {R : Rn} (h : PlayM B m bo sn sc w R) : R.ends = (List.range m).map (fun j => endOf (PB m bo sc sn).ft[j]?) ∧ R.wts = (List.range m).map (fun j => wtOf (pSys m bo) j (PB m bo sc sn).ft[j]?) := by
  have h1 := h.mem.lend
  have h2 := h.mem.lwts
  rw [h.hm] at h1 h2
  constructor
  · apply List.ext_getElem?
    intro j
    rcases Nat.lt_or_ge j m with hj | hj
    · rw [h.ends j hj]; simp [hj]
    · rw [List.getElem?_eq_none (by omega), List.getElem?_eq_none (by simpa using hj)]
  · apply List.ext_getElem?
    intro j
    rcases Nat.lt_or_ge j m with hj | hj
    · rw [h.wts j hj]; simp [hj]
    · rw [List.getElem?_eq_none (by omega), List.getElem?_eq_none (by simpa using hj)]
theorem runAt_nil (w : World) : RunAt w none none none none 0 [] [] [] [] :=
  ⟨SL.zero _, SL.zero _, SL.zero _, SL.zero _, rfl, rfl, fun i x k v h => by simp at h, fun i x k v h => by simp at h, fun i x h => by simp at h, fun i x k v h => by simp at h⟩
/-- A play. -/
theorem playd_c {lb : Nat} {pl : Nat → Plug} {m bc sn scp : Nat} {bo : Nat → List OpD} {sc : Nat → Int} {ba sa : Option Addr} {aa : Nat → Option Addr} {cc : Nat → Nat} (w0 : World) (hBo : BodsAt w0 ba m bo aa cc) (hSc : ScAt w0 sa sn scp sc) (hm : m ≤ 1048576) (hsn : sn ≤ 1048576) :
    @C Try.prog (loneCtx lb pl) 14 #[.slice ba m bc, .slice sa sn scp] w0 fun v w => ∃ ea na za wa ec nc zc wc sb, v = .tuple #[.agg #[.slice ea (pd m bo sn sc).evs.length ec, .slice na (pd m bo sn sc).nts.length nc, .slice za (pd m bo sn sc).mm zc, .slice wa (pd m bo sn sc).mm wc, .bool (pd m bo sn sc).st, .int .i64 (pd m bo sn sc).us], .pointer (some ⟨sb, 0, none⟩), .int .i64 (pd m bo sn sc).e] ∧
      RunD w ea na za wa (pd m bo sn sc) ∧ Lo w0.heap.size ea na za wa (pd m bo sn sc) ∧ Own w w0.heap.size 45 4 ea (pd m bo sn sc).evs.length ec ((pd m bo sn sc).evs.flatMap evC) ∧ Own w w0.heap.size 47 4 na (pd m bo sn sc).nts.length nc ((pd m bo sn sc).nts.flatMap ntC) ∧ Below w0.heap.size w0 w ∧
      w0.heap.size ≤ sb ∧ Off sb ea na za wa (pd m bo sn sc) ∧ ∃ ov, BlkF w sb #[.int .i64 (if 16 < m ∨ 262144 < sn then 0 else (PB m bo sc sn).s 0), .int .i64 (if 16 < m ∨ 262144 < sn then 0 else (PB m bo sc sn).s 1), .int .i64 (if 16 < m ∨ 262144 < sn then 0 else (PB m bo sc sn).s 2), .int .i64 (if 16 < m ∨ 262144 < sn then 0 else (PB m bo sc sn).s 3), .bool false, .bool ov] 39 (0, 0) := by
  by_cases h1 : 16 < m
  · have hp : pd m bo sn sc = ⟨90, 0, [], [], [], [], false, 0⟩ := if_pos h1
    rw [hp]
    refine @Calls.mono _ (loneCtx lb pl) _ _ _ _ _ (play_big_c w0 hBo hSc (by omega) (by omega) h1) fun e w he => ?_
    cases e with
    | panicked ch => exact he.elim
    | outgrown => exact he.elim
    | returned v =>
      obtain ⟨sb, rfl, hS, hle, hb⟩ := he
      refine ⟨none, none, none, none, 0, 0, 0, 0, sb, rfl, runAt_nil w, ⟨fun z => absurd rfl z, fun z => absurd rfl z, fun z => absurd z (Nat.not_lt_zero _), fun z => absurd z (Nat.not_lt_zero _)⟩, Own.nil _ _ _ _, Own.nil _ _ _ _, hb, hle, ⟨fun z => absurd rfl z, fun z => absurd rfl z, fun z => absurd z (Nat.not_lt_zero _), fun z => absurd z (Nat.not_lt_zero _)⟩, true, ?_⟩
      rw [if_pos (.inl h1), if_pos (.inl h1), if_pos (.inl h1), if_pos (.inl h1)]; exact hS
  by_cases h2 : 262144 < sn
  · have hp : pd m bo sn sc = ⟨1, 0, [], [], [], [], false, 0⟩ := (if_neg h1).trans (if_pos h2)
    rw [hp]
    refine @Calls.mono _ (loneCtx lb pl) _ _ _ _ _ (play_long_c w0 hBo hSc (by omega) (by omega) h2) fun e w he => ?_
    cases e with
    | panicked ch => exact he.elim
    | outgrown => exact he.elim
    | returned v =>
      obtain ⟨sb, rfl, hS, hle, hb⟩ := he
      refine ⟨none, none, none, none, 0, 0, 0, 0, sb, rfl, runAt_nil w, ⟨fun z => absurd rfl z, fun z => absurd rfl z, fun z => absurd z (Nat.not_lt_zero _), fun z => absurd z (Nat.not_lt_zero _)⟩, Own.nil _ _ _ _, Own.nil _ _ _ _, hb, hle, ⟨fun z => absurd rfl z, fun z => absurd rfl z, fun z => absurd z (Nat.not_lt_zero _), fun z => absurd z (Nat.not_lt_zero _)⟩, true, ?_⟩
      rw [if_pos (.inr h2), if_pos (.inr h2), if_pos (.inr h2), if_pos (.inr h2)]; exact hS
  have hno : ¬ (16 < m ∨ 262144 < sn) := fun z => z.elim h1 h2
  have hp : pd m bo sn sc = ⟨0, m, (PB m bo sc sn).evs, (PB m bo sc sn).nts, (List.range m).map fun j => endOf (PB m bo sc sn).ft[j]?, (List.range m).map fun j => wtOf (pSys m bo) j (PB m bo sc sn).ft[j]?, (PB m bo sc sn).ft.any (·.isLeft) && ((pSys m bo).rds (PB m bo sc sn)).isEmpty, ((PB m bo sc sn).used : Int)⟩ := (if_neg h1).trans (if_neg h2)
  rw [hp, if_neg hno, if_neg hno, if_neg hno, if_neg hno]
  refine @Calls.mono _ (loneCtx lb pl) _ _ _ _ _ (play_c w0 hBo hSc (by omega) (by omega)) fun e w he => ?_
  cases e with
  | panicked ch => exact he.elim
  | outgrown => exact he.elim
  | returned v =>
    obtain ⟨R, sb, rfl, hP, hns, hS, hle, hb⟩ := he
    obtain ⟨l1, l2⟩ := hP.lists
    have hr := hP.mem.runAt
    rw [l1, l2, hP.evs, hP.nts, hP.hm] at hr
    have hE := hP.mem.evs
    have hN := hP.mem.nts
    rw [hP.evs] at hE
    rw [hP.nts] at hN
    have fE : (PB m bo sc sn).evs ≠ [] → R.fp (ab R.ea) := fun z => by
      have := hE.some_of (List.length_pos_iff.2 z)
      exact .inr (.inr (.inr (.inr (.inl ⟨this, rfl⟩))))
    have fN : (PB m bo sc sn).nts ≠ [] → R.fp (ab R.na) := fun z => by
      have := hN.some_of (List.length_pos_iff.2 z)
      exact .inr (.inr (.inr (.inr (.inr (.inl ⟨this, rfl⟩)))))
    refine ⟨R.ea, R.na, some ⟨R.eb, 0, none⟩, some ⟨R.wb, 0, none⟩, R.ec, R.nc, m, m, sb, ?_, hr, ⟨fun z => hP.fp _ (fE z), fun z => hP.fp _ (fN z), fun _ => hP.fp _ (.inr (.inl rfl)), fun _ => hP.fp _ (.inr (.inr (.inl rfl)))⟩, hE, hN, hb, hle,
      ⟨fun z e => hns (e ▸ fE z), fun z e => hns (e ▸ fN z), fun _ e => hns (e ▸ (.inr (.inl rfl) : R.fp R.eb)), fun _ e => hns (e ▸ (.inr (.inr (.inl rfl)) : R.fp R.wb))⟩, true, hS⟩
    show Value.tuple #[.agg #[.slice R.ea R.evs.length R.ec, .slice R.na R.nts.length R.nc, .slice (some ⟨R.eb, 0, none⟩) R.m R.m, .slice (some ⟨R.wb, 0, none⟩) R.m R.m, .bool R.stuck, .int .i64 (R.used : Int)], .pointer (some ⟨sb, 0, none⟩), .int .i64 0] = _
    rw [hP.hm, hP.evs, hP.nts, hP.stuck, hP.used]
end Go.Vy.Sc
end
/- Laws of plays under one script, and under several. -/
section
namespace Go.Vy.Sc
open Go Go.Conc Go.Yc Go.RowKit Go.Proofs Go.Proofs.Ytfmoeemolgjodaa
open Go.Vc Go.Wg
theorem evs_len16 (m : Nat) (bo : Nat → List OpD) (sc : Nat → Int) (n : Nat) : (PB m bo sc n).evs.length ≤ n := (Sys.evs_pn (Y := pSys m bo) sc n).1
theorem pd_len {m sn : Nat} {bo : Nat → List OpD} (hl : ∀ i, i < m → (bo i).length ≤ 1048576) (hm : m ≤ 1048576) (hsn : sn ≤ 1048576) (sc : Nat → Int) : (pd m bo sn sc).evs.length ≤ 1000000000000 ∧ (pd m bo sn sc).nts.length ≤ 1000000000000 ∧ (pd m bo sn sc).mm ≤ 1000000000000 := by
  unfold pd
  split
  · exact ⟨Nat.zero_le _, Nat.zero_le _, Nat.zero_le _⟩
  split
  · exact ⟨Nat.zero_le _, Nat.zero_le _, Nat.zero_le _⟩
  · have h1 := evs_len16 m bo sc sn
    have h2 := nts_len (m := m) (bo := bo) (by omega) hl sc sn
    exact ⟨Nat.le_trans h1 (by omega), Nat.le_trans h2 (by omega), by show m ≤ _; omega⟩

theorem buAG_0 (x0 : Int) : Try.prog.built 45 [(0, .int .i64 x0)] = some #[.int .i64 x0, .int .i64 0, .int .i64 0, .int .i64 0] := by kernel_rfl
theorem buAG_1 (x0 : Int) : Try.prog.built 47 [(0, .int .i64 x0)] = some #[.int .i64 x0, .int .i64 0, .int .i64 0, .string ByteArray.empty] := by kernel_rfl
set_option maxHeartbeats 2000000 in
theorem again_l {lb : Nat} {pl : Nat → Plug} {m bc sn scp : Nat} {bo : Nat → List OpD} {sc : Nat → Int} {ba sa : Option Addr} {aa : Nat → Option Addr} {cc : Nat → Nat} (w0 : World) (hBo : BodsAt w0 ba m bo aa cc) (hSc : ScAt w0 sa sn scp sc) (hm : m ≤ 1048576) (hsn : sn ≤ 1048576) : @C Try.prog (loneCtx lb pl) 5 #[.slice ba m bc, .slice sa sn scp] w0 fun v w => v = .bool true ∧ Below w0.heap.size w0 w := by
  letI : Ctx Try.prog := loneCtx lb pl
  refine C.enter (n := 79) Try.func5 rfl rfl ?_
  have hb : Below w0.heap.size w0 w0 := Below.refl _ _
  have hlen := pd_len (bo := bo) hBo.len hm hsn sc
  skip
  refine W.seq ?_
  refine W.region rfl ?_
  refine L.va (x_asB rfl) ?_
  refine L.nil ?_
  show W _ _ _ _ _ _
  refine W.seq ?_
  refine W.region rfl ?_
  refine L.va (x_mvS rfl) ?_
  refine L.va (x_mvS rfl) ?_
  refine L.call (x_call2 rfl rfl Try.func14 rfl nm14 rfl) (playd_c _ (hBo.keep hb) (hSc.keep hb) hm hsn) ?_
  rintro _ w1 ⟨ea1, na1, za1, wa1, ec1, nc1, zc1, wc1, sb1, rfl, hR1, hL1, hE1, hN1, hbw, hsb1, hso1, ov1, hS1⟩
  have hs0 := hb.size
  have hb := cl_step hb hbw
  have hE1 := hE1.down hs0
  have hN1 := hN1.down hs0
  clear hbw hs0
  rename World => w
  refine L.va (x_mvT rfl) ?_
  refine L.va (x_extract rfl rfl) ?_
  refine L.va (x_extract rfl rfl) ?_
  refine L.va (x_extract rfl rfl) ?_
  refine L.alloc (cs := #[.slice none 0 0, .slice none 0 0, .slice none 0 0, .slice none 0 0, .bool false, .int .i64 0]) zr31 rfl (fun w b5 F5 => ?_)
  have lt5 : w0.heap.size ≤ b5 := by have h9 := F5.here; have h8 := hb.size; omega
  have ho5 := RunD.off hR1 (b := b5) (by have := F5.here; omega)
  have hb := cl_step hb F5.below
  have hR1 := hR1.keep F5.below
  have hE1 := hE1.keep F5.below
  have hN1 := hN1.keep F5.below
  have hB5 := F5.blk
  refine L.put (b := b5) (o := 0) (vs := [.slice ea1 ((pd m bo sn sc).evs.length) ec1, .slice na1 ((pd m bo sn sc).nts.length) nc1, .slice za1 ((pd m bo sn sc).mm) zc1, .slice wa1 ((pd m bo sn sc).mm) wc1, .bool ((pd m bo sn sc).st), .int .i64 ((pd m bo sn sc).us)]) #[.slice ea1 ((pd m bo sn sc).evs.length) ec1, .slice na1 ((pd m bo sn sc).nts.length) nc1, .slice za1 ((pd m bo sn sc).mm) zc1, .slice wa1 ((pd m bo sn sc).mm) wc1, .bool ((pd m bo sn sc).st), .int .i64 ((pd m bo sn sc).us)] rfl rfl rfl sz31 rfl rfl hB5 (Nat.le_of_ble_eq_true rfl) rfl (fun w hnew hg hsz => ?_)
  have hm0 := ModT.put0 hB5 hg
  have hb := below_gr hb hb.size hg lt5
  have hR1 := hR1.otherB hg ho5
  have hE1 := hE1.mod hm0 rfl
  have hN1 := hN1.mod hm0 rfl
  have hB5 := hnew
  clear hm0
  refine L.va (x_asP rfl) ?_
  refine L.va (x_asI rfl) ?_
  refine L.nil ?_
  show W _ _ _ _ _ _
  refine W.seq ?_
  refine W.region rfl ?_
  refine L.va (x_mvS rfl) ?_
  refine L.va (x_mvS rfl) ?_
  refine L.call (x_call2 rfl rfl Try.func14 rfl nm14 rfl) (playd_c _ (hBo.keep hb) (hSc.keep hb) hm hsn) ?_
  rintro _ w1 ⟨ea2, na2, za2, wa2, ec2, nc2, zc2, wc2, sb2, rfl, hR2, hL2, hE2, hN2, hbw, hsb2, hso2, ov2, hS2⟩
  have hlE := fun z : ea1 ≠ none => hE1.lt z
  have hlN := fun z : na1 ≠ none => hN1.lt z
  have hs0 := hb.size
  have hb := cl_step hb hbw
  have hR1 := hR1.keep hbw
  have hE1 := hE1.keep hbw
  have hN1 := hN1.keep hbw
  have hB5 := hB5.keep hbw
  have hE2 := hE2.down hs0
  have hN2 := hN2.down hs0
  clear hbw hs0
  rename World => w
  refine L.va (x_mvT rfl) ?_
  refine L.va (x_extract rfl rfl) ?_
  refine L.va (x_extract rfl rfl) ?_
  refine L.va (x_extract rfl rfl) ?_
  refine L.alloc (cs := #[.slice none 0 0, .slice none 0 0, .slice none 0 0, .slice none 0 0, .bool false, .int .i64 0]) zr31 rfl (fun w b8 F8 => ?_)
  have lt8 : w0.heap.size ≤ b8 := by have h9 := F8.here; have h8 := hb.size; omega
  have ne8hB5 := F8.ne hB5
  have ho81 := RunD.off hR1 (b := b8) (by have := F8.here; omega)
  have ho82 := RunD.off hR2 (b := b8) (by have := F8.here; omega)
  have hb := cl_step hb F8.below
  have hR1 := hR1.keep F8.below
  have hE1 := hE1.keep F8.below
  have hN1 := hN1.keep F8.below
  have hB5 := hB5.keep F8.below
  have hR2 := hR2.keep F8.below
  have hB8 := F8.blk
  refine L.put (b := b8) (o := 0) (vs := [.slice ea2 ((pd m bo sn sc).evs.length) ec2, .slice na2 ((pd m bo sn sc).nts.length) nc2, .slice za2 ((pd m bo sn sc).mm) zc2, .slice wa2 ((pd m bo sn sc).mm) wc2, .bool ((pd m bo sn sc).st), .int .i64 ((pd m bo sn sc).us)]) #[.slice ea2 ((pd m bo sn sc).evs.length) ec2, .slice na2 ((pd m bo sn sc).nts.length) nc2, .slice za2 ((pd m bo sn sc).mm) zc2, .slice wa2 ((pd m bo sn sc).mm) wc2, .bool ((pd m bo sn sc).st), .int .i64 ((pd m bo sn sc).us)] rfl rfl rfl sz31 rfl rfl hB8 (Nat.le_of_ble_eq_true rfl) rfl (fun w hnew hg hsz => ?_)
  have hm0 := ModT.put0 hB8 hg
  have hb := below_gr hb hb.size hg lt8
  have hR1 := hR1.otherB hg ho81
  have hE1 := hE1.mod hm0 rfl
  have hN1 := hN1.mod hm0 rfl
  have hB5 := hB5.other hg ne8hB5
  have hR2 := hR2.otherB hg ho82
  have hB8 := hnew
  clear hm0
  refine L.va (x_asP rfl) ?_
  refine L.va (x_asI rfl) ?_
  refine L.nil ?_
  show W _ _ _ _ _ _
  refine W.seq ?_
  refine W.seq ?_
  refine W.region rfl ?_
  refine L.va (x_mvI rfl) ?_
  refine L.call (x_call1 rfl Try.func12 rfl nm12 rfl) (errno_c ((pd m bo sn sc).e) _) ?_
  rintro _ w1 ⟨rfl, hw1⟩
  rw [hw1]
  clear hw1 w1
  refine L.va (x_mvI rfl) ?_
  refine L.call (x_call1 rfl Try.func12 rfl nm12 rfl) (errno_c ((pd m bo sn sc).e) _) ?_
  rintro _ w1 ⟨rfl, hw1⟩
  rw [hw1]
  clear hw1 w1
  refine L.va (d_bool (r := false) (decide_eq_false (fun h => h rfl)) (x_neq (m := (pd m bo sn sc).e) (k := (pd m bo sn sc).e) rfl rfl)) ?_
  refine L.va (x_mvB rfl) ?_
  refine L.on rfl ?_
  refine L.va (x_loadAgg (cs := [.slice ea1 ((pd m bo sn sc).evs.length) ec1, .slice na1 ((pd m bo sn sc).nts.length) nc1, .slice za1 ((pd m bo sn sc).mm) zc1, .slice wa1 ((pd m bo sn sc).mm) wc1, .bool ((pd m bo sn sc).st), .int .i64 ((pd m bo sn sc).us)]) rfl Try.underlying31 rfl sz31 rfl (hB5.aggAt rfl)) ?_
  refine L.on rfl ?_
  refine L.va (x_loadAgg (cs := [.slice ea2 ((pd m bo sn sc).evs.length) ec2, .slice na2 ((pd m bo sn sc).nts.length) nc2, .slice za2 ((pd m bo sn sc).mm) zc2, .slice wa2 ((pd m bo sn sc).mm) wc2, .bool ((pd m bo sn sc).st), .int .i64 ((pd m bo sn sc).us)]) rfl Try.underlying31 rfl sz31 rfl (hB8.aggAt rfl)) ?_
  refine L.on rfl ?_
  refine L.call (x_call2 rfl rfl Try.func16 rfl nm16 rfl) (same_c _ hlen hR1 hR2) ?_
  rintro _ w1 ⟨rfl, hbw⟩
  have hb := cl_step hb hbw
  have hR1 := hR1.keep hbw
  have hE1 := hE1.keep hbw
  have hN1 := hN1.keep hbw
  have hB5 := hB5.keep hbw
  have hR2 := hR2.keep hbw
  have hB8 := hB8.keep hbw
  clear hbw
  rename World => w
  refine L.on rfl ?_
  refine L.va (x_not rfl) ?_
  refine L.va (x_pickF rfl) ?_
  refine L.va (x_mvB rfl) ?_
  refine L.on rfl ?_
  refine L.call (x_call0 Try.func13 rfl nm13 rfl) (live_c _) ?_
  rintro _ w1 ⟨rfl, hbw⟩
  have hb := cl_step hb hbw
  have hR1 := hR1.keep hbw
  have hE1 := hE1.keep hbw
  have hN1 := hN1.keep hbw
  have hB5 := hB5.keep hbw
  have hR2 := hR2.keep hbw
  have hB8 := hB8.keep hbw
  clear hbw
  rename World => w
  refine L.on rfl ?_
  refine L.va (x_not rfl) ?_
  refine L.va (x_pickF rfl) ?_
  refine L.nil ?_
  show W _ _ _ _ _ _
  refine W.condF rfl ?_
  refine W.skip ?_
  show W _ _ _ _ _ _
  refine W.seq ?_
  refine W.seq ?_
  refine W.region rfl ?_
  refine L.va (x_asI rfl) ?_
  refine L.nil ?_
  show W _ _ _ _ _ _
  refine W.block ?_
  refine W.loop (fun k e w => ∃ (i : Nat), k = (pd m bo sn sc).evs.length - i ∧ e 0 = .slice ba m bc ∧ e 1 = .slice sa sn scp ∧ e 5 = .pointer (some ⟨b5, 0, none⟩) ∧ e 8 = .pointer (some ⟨b8, 0, none⟩) ∧ e 11 = .int .i64 (i : Int) ∧ i ≤ (pd m bo sn sc).evs.length ∧ (∃ xs, Own w w0.heap.size 45 4 ea1 (pd m bo sn sc).evs.length ec1 xs) ∧ Own w w0.heap.size 47 4 na1 (pd m bo sn sc).nts.length nc1 ((pd m bo sn sc).nts.flatMap ntC) ∧ RunD w ea2 na2 za2 wa2 (pd m bo sn sc) ∧ Blk w b5 #[.slice ea1 (pd m bo sn sc).evs.length ec1, .slice na1 (pd m bo sn sc).nts.length nc1, .slice za1 (pd m bo sn sc).mm zc1, .slice wa1 (pd m bo sn sc).mm wc1, .bool (pd m bo sn sc).st, .int .i64 (pd m bo sn sc).us] 31 ∧ Blk w b8 #[.slice ea2 (pd m bo sn sc).evs.length ec2, .slice na2 (pd m bo sn sc).nts.length nc2, .slice za2 (pd m bo sn sc).mm zc2, .slice wa2 (pd m bo sn sc).mm wc2, .bool (pd m bo sn sc).st, .int .i64 (pd m bo sn sc).us] 31 ∧ Below w0.heap.size w0 w) _ ⟨0, rfl, rfl, rfl, rfl, rfl, rfl, Nat.zero_le _, ⟨_, hE1⟩, hN1, hR2, hB5, hB8, hb⟩ ?_
  rintro k e w ⟨i, hk, s0, s1, s5, s8, s11, hi, hE1, hN1, hR2, hB5, hB8, hb⟩
  rw [upd_id s0, upd_id s1, upd_id s5, upd_id s8, upd_id s11]
  clear s0 s1 s5 s8 s11
  refine W.seq ?_
  refine W.seq ?_
  refine W.region rfl ?_
  refine L.va (x_mvI rfl) ?_
  refine L.va (x_field rfl Try.underlying31 rfl sz27 (by decide)) ?_
  refine L.va (x_load rfl Try.underlying27 rfl (hB5.cellAt 0 (v := .slice ea1 ((pd m bo sn sc).evs.length) ec1) rfl)) ?_
  refine L.va (x_len rfl Try.underlying27 rfl) ?_
  refine L.va (x_lss rfl rfl) ?_
  refine L.nil ?_
  show W _ _ _ _ _ _
  refine W.condP rfl (fun h49 => ?_) (fun h49 => ?_)
  · have hlt : i < (pd m bo sn sc).evs.length := by omega
    refine W.skip ?_
    show W _ _ _ _ _ _
    refine W.seq ?_
    refine W.block ?_
    refine W.region rfl ?_
    refine L.va (x_field rfl Try.underlying31 rfl sz27 (by decide)) ?_
    refine L.va (x_load rfl Try.underlying27 rfl (hB5.cellAt 0 (v := .slice ea1 ((pd m bo sn sc).evs.length) ec1) rfl)) ?_
    refine L.va (x_mvI rfl) ?_
    refine L.va (x_build (parts := [(0, .const (.int .i64 (-1)))]) rfl (buAG_0 (-1))) ?_
    refine L.va (x_idx (i := i) rfl rfl Try.underlying27 sz45 (hE1.choose_spec.sl) hlt) ?_
    obtain ⟨xs, hX⟩ := hE1
    refine L.putOwn rfl rfl sz45 rfl rfl hX hlt (fun w1 hX2 hg hle => ?_)
    have hm0 : ModT w w1 0 [45] := by obtain ⟨cur, hc, _⟩ := hX.row (hX.some_of (by omega)); exact ModT.put0 hc hg
    have hb := below_gr hb hb.size hg hle
    have hR2 := hR2.otherB hg (hL2.off (hlE (hX.some_of (by omega))))
    have hE1 := hX2
    have hN1 := hN1.mod hm0 rfl
    have hB5 := hB5.mod hm0 rfl
    have hB8 := hB8.mod hm0 rfl
    clear hX hX2 hm0
    rename World => w
    refine L.nil ?_
    refine B.nrm ?_
    show W _ _ _ _ _ _
    refine W.region rfl ?_
    refine L.va (x_mvI rfl) ?_
    refine L.va (x_inc rfl rfl (by omega)) ?_
    refine L.va (x_asI rfl) ?_
    refine L.nil ?_
    refine T.nrm ?_
    exact ⟨_, by omega, ⟨i + 1, rfl, rfl, rfl, rfl, rfl, rfl, (by omega), hE1, hN1, hR2, hB5, hB8, hb⟩⟩
  · refine W.exit ?_
    repeat (first | refine T.exit ?_ | refine N.exit ?_ | refine B.exitNe (by decide) ?_)
    refine B.exitEq ?_
    show W _ _ _ _ _ _
    refine W.seq ?_
    refine W.seq ?_
    refine W.region rfl ?_
    refine L.va (x_asI rfl) ?_
    refine L.nil ?_
    show W _ _ _ _ _ _
    refine W.block ?_
    refine W.loop (fun k e w => ∃ (i : Nat), k = (pd m bo sn sc).nts.length - i ∧ e 0 = .slice ba m bc ∧ e 1 = .slice sa sn scp ∧ e 5 = .pointer (some ⟨b5, 0, none⟩) ∧ e 8 = .pointer (some ⟨b8, 0, none⟩) ∧ e 12 = .int .i64 (i : Int) ∧ i ≤ (pd m bo sn sc).nts.length ∧ (∃ xs, Own w w0.heap.size 47 4 na1 (pd m bo sn sc).nts.length nc1 xs) ∧ RunD w ea2 na2 za2 wa2 (pd m bo sn sc) ∧ Blk w b5 #[.slice ea1 (pd m bo sn sc).evs.length ec1, .slice na1 (pd m bo sn sc).nts.length nc1, .slice za1 (pd m bo sn sc).mm zc1, .slice wa1 (pd m bo sn sc).mm wc1, .bool (pd m bo sn sc).st, .int .i64 (pd m bo sn sc).us] 31 ∧ Blk w b8 #[.slice ea2 (pd m bo sn sc).evs.length ec2, .slice na2 (pd m bo sn sc).nts.length nc2, .slice za2 (pd m bo sn sc).mm zc2, .slice wa2 (pd m bo sn sc).mm wc2, .bool (pd m bo sn sc).st, .int .i64 (pd m bo sn sc).us] 31 ∧ Below w0.heap.size w0 w) _ ⟨0, rfl, rfl, rfl, rfl, rfl, rfl, Nat.zero_le _, ⟨_, hN1⟩, hR2, hB5, hB8, hb⟩ ?_
    rintro k e w ⟨i, hk, s0, s1, s5, s8, s12, hi, hN1, hR2, hB5, hB8, hb⟩
    rw [upd_id s0, upd_id s1, upd_id s5, upd_id s8, upd_id s12]
    clear s0 s1 s5 s8 s12
    refine W.seq ?_
    refine W.seq ?_
    refine W.region rfl ?_
    refine L.va (x_mvI rfl) ?_
    refine L.va (x_field rfl Try.underlying31 rfl sz28 (by decide)) ?_
    refine L.va (x_load rfl Try.underlying28 rfl (hB5.cellAt 1 (v := .slice na1 ((pd m bo sn sc).nts.length) nc1) rfl)) ?_
    refine L.va (x_len rfl Try.underlying28 rfl) ?_
    refine L.va (x_lss rfl rfl) ?_
    refine L.nil ?_
    show W _ _ _ _ _ _
    refine W.condP rfl (fun h61 => ?_) (fun h61 => ?_)
    · have hlt : i < (pd m bo sn sc).nts.length := by omega
      refine W.skip ?_
      show W _ _ _ _ _ _
      refine W.seq ?_
      refine W.block ?_
      refine W.region rfl ?_
      refine L.va (x_field rfl Try.underlying31 rfl sz28 (by decide)) ?_
      refine L.va (x_load rfl Try.underlying28 rfl (hB5.cellAt 1 (v := .slice na1 ((pd m bo sn sc).nts.length) nc1) rfl)) ?_
      refine L.va (x_mvI rfl) ?_
      refine L.va (x_build (parts := [(0, .const (.int .i64 (-1)))]) rfl (buAG_1 (-1))) ?_
      refine L.va (x_idx (i := i) rfl rfl Try.underlying28 sz47 (hN1.choose_spec.sl) hlt) ?_
      obtain ⟨xs, hX⟩ := hN1
      refine L.putOwn rfl rfl sz47 rfl rfl hX hlt (fun w1 hX2 hg hle => ?_)
      have hm0 : ModT w w1 0 [47] := by obtain ⟨cur, hc, _⟩ := hX.row (hX.some_of (by omega)); exact ModT.put0 hc hg
      have hb := below_gr hb hb.size hg hle
      have hR2 := hR2.otherB hg (hL2.off (hlN (hX.some_of (by omega))))
      have hN1 := hX2
      have hB5 := hB5.mod hm0 rfl
      have hB8 := hB8.mod hm0 rfl
      clear hX hX2 hm0
      rename World => w
      refine L.nil ?_
      refine B.nrm ?_
      show W _ _ _ _ _ _
      refine W.region rfl ?_
      refine L.va (x_mvI rfl) ?_
      refine L.va (x_inc rfl rfl (by omega)) ?_
      refine L.va (x_asI rfl) ?_
      refine L.nil ?_
      refine T.nrm ?_
      exact ⟨_, by omega, ⟨i + 1, rfl, rfl, rfl, rfl, rfl, rfl, (by omega), hN1, hR2, hB5, hB8, hb⟩⟩
    · refine W.exit ?_
      repeat (first | refine T.exit ?_ | refine N.exit ?_ | refine B.exitNe (by decide) ?_)
      refine B.exitEq ?_
      show W _ _ _ _ _ _
      refine W.seq ?_
      refine W.region rfl ?_
      refine L.va (x_mvS rfl) ?_
      refine L.va (x_mvS rfl) ?_
      refine L.call (x_call2 rfl rfl Try.func14 rfl nm14 rfl) (playd_c _ (hBo.keep hb) (hSc.keep hb) hm hsn) ?_
      rintro _ w1 ⟨ea3, na3, za3, wa3, ec3, nc3, zc3, wc3, sb3, rfl, hR3, hL3, hE3, hN3, hbw, hsb3, hso3, ov3, hS3⟩
      have hs0 := hb.size
      have hb := cl_step hb hbw
      have hR2 := hR2.keep hbw
      have hB5 := hB5.keep hbw
      have hB8 := hB8.keep hbw
      have hE3 := hE3.down hs0
      have hN3 := hN3.down hs0
      clear hbw hs0
      rename World => w
      refine L.va (x_mvT rfl) ?_
      refine L.va (x_extract rfl rfl) ?_
      refine L.va (x_extract rfl rfl) ?_
      refine L.va (x_extract rfl rfl) ?_
      refine L.alloc (cs := #[.slice none 0 0, .slice none 0 0, .slice none 0 0, .slice none 0 0, .bool false, .int .i64 0]) zr31 rfl (fun w b13 F13 => ?_)
      have lt13 : w0.heap.size ≤ b13 := by have h9 := F13.here; have h8 := hb.size; omega
      have ne13hB5 := F13.ne hB5
      have ne13hB8 := F13.ne hB8
      have ho132 := RunD.off hR2 (b := b13) (by have := F13.here; omega)
      have ho133 := RunD.off hR3 (b := b13) (by have := F13.here; omega)
      have hb := cl_step hb F13.below
      have hR2 := hR2.keep F13.below
      have hB5 := hB5.keep F13.below
      have hB8 := hB8.keep F13.below
      have hR3 := hR3.keep F13.below
      have hB13 := F13.blk
      refine L.put (b := b13) (o := 0) (vs := [.slice ea3 ((pd m bo sn sc).evs.length) ec3, .slice na3 ((pd m bo sn sc).nts.length) nc3, .slice za3 ((pd m bo sn sc).mm) zc3, .slice wa3 ((pd m bo sn sc).mm) wc3, .bool ((pd m bo sn sc).st), .int .i64 ((pd m bo sn sc).us)]) #[.slice ea3 ((pd m bo sn sc).evs.length) ec3, .slice na3 ((pd m bo sn sc).nts.length) nc3, .slice za3 ((pd m bo sn sc).mm) zc3, .slice wa3 ((pd m bo sn sc).mm) wc3, .bool ((pd m bo sn sc).st), .int .i64 ((pd m bo sn sc).us)] rfl rfl rfl sz31 rfl rfl hB13 (Nat.le_of_ble_eq_true rfl) rfl (fun w hnew hg hsz => ?_)
      have hm0 := ModT.put0 hB13 hg
      have hb := below_gr hb hb.size hg lt13
      have hR2 := hR2.otherB hg ho132
      have hB5 := hB5.other hg ne13hB5
      have hB8 := hB8.other hg ne13hB8
      have hR3 := hR3.otherB hg ho133
      have hB13 := hnew
      clear hm0
      refine L.va (x_asP rfl) ?_
      refine L.va (x_asI rfl) ?_
      refine L.nil ?_
      show W _ _ _ _ _ _
      refine W.seq ?_
      refine W.region rfl ?_
      refine L.va (x_loadAgg (cs := [.slice ea2 ((pd m bo sn sc).evs.length) ec2, .slice na2 ((pd m bo sn sc).nts.length) nc2, .slice za2 ((pd m bo sn sc).mm) zc2, .slice wa2 ((pd m bo sn sc).mm) wc2, .bool ((pd m bo sn sc).st), .int .i64 ((pd m bo sn sc).us)]) rfl Try.underlying31 rfl sz31 rfl (hB8.aggAt rfl)) ?_
      refine L.va (x_loadAgg (cs := [.slice ea3 ((pd m bo sn sc).evs.length) ec3, .slice na3 ((pd m bo sn sc).nts.length) nc3, .slice za3 ((pd m bo sn sc).mm) zc3, .slice wa3 ((pd m bo sn sc).mm) wc3, .bool ((pd m bo sn sc).st), .int .i64 ((pd m bo sn sc).us)]) rfl Try.underlying31 rfl sz31 rfl (hB13.aggAt rfl)) ?_
      refine L.call (x_call2 rfl rfl Try.func16 rfl nm16 rfl) (same_c _ hlen hR2 hR3) ?_
      rintro _ w1 ⟨rfl, hbw⟩
      have hb := cl_step hb hbw
      have hR2 := hR2.keep hbw
      have hB5 := hB5.keep hbw
      have hB8 := hB8.keep hbw
      have hR3 := hR3.keep hbw
      have hB13 := hB13.keep hbw
      clear hbw
      rename World => w
      refine L.va (x_asB rfl) ?_
      refine L.nil ?_
      show W _ _ _ _ _ _
      refine W.ret ?_
      repeat (first | refine T.ret ?_ | refine B.ret ?_ | refine N.ret ?_)
      refine ends.one (.inr rfl) rfl ?_
      exact ⟨rfl, hb⟩

end Go.Vy.Sc
end
