/- The state of the program's clocks. -/
import Derived.Test.YtlopdjbehhdmpaaC7
namespace Go.Proofs.Ytlopdjbehhdmpaa
open Go.Vc Go.RowKit

/-! ### What a kind takes -/
def tkV (k : Int) (f u sh sd : Nat → Nat) : Nat → Nat :=
  if k = 1 then jn (jn f u) sh else if k = 3 then jn f u else if k = 5 ∨ k = 7 then jn f sd else f
def tkU (k : Int) (f u sh sd : Nat → Nat) : Nat → Nat := if k = 2 then jn u (tkV k f u sh sd) else u
def tkS (k : Int) (f u sh sd : Nat → Nat) : Nat → Nat := if k = 4 then jn sh (tkV k f u sh sd) else sh
def tkD (k : Int) (f u sh sd : Nat → Nat) : Nat → Nat := if k = 6 ∨ k = 7 then tkV k f u sh sd else sd
theorem take_c (k : Int) (hk : 1 ≤ k ∧ k ≤ 11) : ∃ f fn, fk k = some f ∧ Try.prog.funcs[f]? = some fn ∧ fn.body.isSome = true ∧ (fn.name == "runtime.NumGoroutine") = false ∧
    ∀ (h : Nat) (u s d g : Nat → Nat) (w0 : World), Blk w0 h (arr 48 (ints (hndN u s d))) 80 →
    C Try.prog f #[.pointer (some ⟨h, 0, none⟩), clkV g] w0 fun v w' => v = clkV (tkV k g u s d) ∧ Blk w' h (arr 48 (ints (hndN (tkU k g u s d) (tkS k g u s d) (tkD k g u s d)))) 80 ∧ w0.grownBy w' (some h) := by
  have hc : k = 1 ∨ k = 2 ∨ k = 3 ∨ k = 4 ∨ k = 5 ∨ k = 6 ∨ k = 7 ∨ k = 8 ∨ k = 9 ∨ k = 10 ∨ k = 11 := by omega
  rcases hc with rfl | rfl | rfl | rfl | rfl | rfl | rfl | rfl | rfl | rfl | rfl
  · exact ⟨37, _, rfl, Try.func37, rfl, nm37, fun h u s d g w0 hH => take_lock h u s d g w0 hH⟩
  · exact ⟨40, _, rfl, Try.func40, rfl, nm40, fun h u s d g w0 hH => take_unlock h u s d g w0 hH⟩
  · exact ⟨39, _, rfl, Try.func39, rfl, nm39, fun h u s d g w0 hH => take_rlock h u s d g w0 hH⟩
  · exact ⟨41, _, rfl, Try.func41, rfl, nm41, fun h u s d g w0 hH => take_runlock h u s d g w0 hH⟩
  · exact ⟨42, _, rfl, Try.func42, rfl, nm42, fun h u s d g w0 hH => take_load h u s d g w0 hH⟩
  · exact ⟨43, _, rfl, Try.func43, rfl, nm43, fun h u s d g w0 hH => take_store h u s d g w0 hH⟩
  · exact ⟨44, _, rfl, Try.func44, rfl, nm44, fun h u s d g w0 hH => take_add h u s d g w0 hH⟩
  all_goals exact ⟨36, _, rfl, Try.func36, rfl, nm36, fun h u s d g w0 hH => take_none h u s d g w0 hH⟩
theorem fk_known (k : Int) : (fk k).isSome = decide (1 ≤ k ∧ k ≤ 11) := by
  by_cases h : 1 ≤ k ∧ k ≤ 11
  · obtain ⟨f, _, hf, _⟩ := take_c k h
    rw [hf, decide_eq_true h]; rfl
  · rw [decide_eq_false h]
    unfold fk fkL
    simp only [fkT]
    repeat' split
    all_goals first | rfl | (exfalso; omega)
theorem clkOf_tk (s : St) (e : Ev) : clkOf s e = tkV e.k (tick s e) (s.un e.o e.n) (s.sh e.o e.n) (s.sd e.o e.n) := rfl
theorem next_un (s : St) (e : Ev) (o n : Int) : (next s e).un o n = if o = e.o ∧ n = e.n then tkU e.k (tick s e) (s.un e.o e.n) (s.sh e.o e.n) (s.sd e.o e.n) else s.un o n := by
  simp only [next, tkU, ← clkOf_tk]
  by_cases hk : e.k = 2
  · simp only [hk, if_true, up2]
  · simp only [hk, if_false]
    split
    · rename_i h; rw [h.1, h.2]
    · rfl
theorem next_sh (s : St) (e : Ev) (o n : Int) : (next s e).sh o n = if o = e.o ∧ n = e.n then tkS e.k (tick s e) (s.un e.o e.n) (s.sh e.o e.n) (s.sd e.o e.n) else s.sh o n := by
  simp only [next, tkS, ← clkOf_tk]
  by_cases hk : e.k = 4
  · simp only [hk, if_true, up2]
  · simp only [hk, if_false]
    split
    · rename_i h; rw [h.1, h.2]
    · rfl
theorem next_sd (s : St) (e : Ev) (o n : Int) : (next s e).sd o n = if o = e.o ∧ n = e.n then tkD e.k (tick s e) (s.un e.o e.n) (s.sh e.o e.n) (s.sd e.o e.n) else s.sd o n := by
  simp only [next, tkD, ← clkOf_tk]
  by_cases hk : e.k = 6 ∨ e.k = 7
  · simp only [hk, if_true, up2]
  · simp only [hk, if_false]
    split
    · rename_i h; rw [h.1, h.2]
    · rfl
theorem now_le (E : Nat → Ev) (j : Nat) (h : ∀ i, i < j → 0 ≤ (E i).c) (c k : Nat) : (stAt E j).now c k ≤ j :=
  Nat.le_trans ((inv_at E j h).now c k).1 (tot_le E k j)

/-! ### The block of the clients' clocks -/
def nowF (f : Nat → Nat → Nat) : Nat → Nat := fun x => f (x / 16) (x % 16)
theorem now_get (f : Nat → Nat → Nat) {c k : Nat} (hk : k < 16) : ints (nowF f) (0 + c * 16 + k) = ints (f c) k := by
  refine ints_congr (f := fun k => nowF f (0 + c * 16 + k)) ?_
  simp only [nowF]
  rw [show (0 + c * 16 + k) / 16 = c by omega, show (0 + c * 16 + k) % 16 = k by omega]
theorem now_set (f : Nat → Nat → Nat) (g : Nat → Nat) {c x : Nat} : (if 0 + c * 16 ≤ x ∧ x < 0 + c * 16 + 16 then ints g (x - (0 + c * 16)) else ints (nowF f) x) = ints (nowF (up f c g)) x := by
  unfold ints nowF up
  by_cases h : x / 16 = c
  · rw [if_pos (by omega), if_pos h, show x - (0 + c * 16) = x % 16 by omega]
  · rw [if_neg (by omega), if_neg h]
theorem zero256 : Array.replicate 256 (Value.int .i64 0) = arr 256 (ints (nowF st0.now)) := arr_rep 256 _
def rowF (j : Nat) (f : Nat → Nat → Nat) : Nat → Nat := fun x => if x / 16 < j then f (x / 16) (x % 16) else 0
theorem row_set (f : Nat → Nat → Nat) {j x : Nat} : (if 0 + j * 16 ≤ x ∧ x < 0 + j * 16 + 16 then ints (f j) (x - (0 + j * 16)) else ints (rowF j f) x) = ints (rowF (j + 1) f) x := by
  unfold ints rowF
  by_cases h : x / 16 = j
  · rw [if_pos (by omega), if_pos (by omega), h, show x - (0 + j * 16) = x % 16 by omega]
  · rw [if_neg (by omega)]
    by_cases h2 : x / 16 < j
    · rw [if_pos h2, if_pos (by omega)]
    · rw [if_neg h2, if_neg (by omega)]
theorem zeroRows (n : Nat) (f : Nat → Nat → Nat) : Array.replicate (n * 16) (Value.int .i64 0) = arr (n * 16) (ints (rowF 0 f)) := by
  rw [arr_rep]
  exact arr_congr fun i _ => by unfold ints rowF; rw [if_neg (by omega)]; rfl
/-- The program's clocks: rows of 16 cells. -/
structure LAt (w : World) (a : Option Addr) (n : Nat) (f : Nat → Nat → Nat) : Prop where
  sl : SL a n
  cell : ∀ {i k}, i < n → k < 16 → w.cell? ⟨ab a, ao a + i * 16 + k, none⟩ = some (ints (f i) k)
theorem LAt.keep {w w' : World} {a : Option Addr} {n : Nat} {f : Nat → Nat → Nat} (h : LAt w a n f) (hb : Below w.heap.size w w') : LAt w' a n f := ⟨h.sl, fun hi hk => bl0 hb (h.cell hi hk)⟩
theorem LAt.of_blk {w : World} {b n : Nat} {f : Nat → Nat → Nat} (h : Blk w b (arr (n * 16) (ints (rowF n f))) 62) : LAt w (some ⟨b, 0, none⟩) n f :=
  ⟨SL.mk _ _ _, fun {i k} hi hk => by
    show w.cell? ⟨b, 0 + i * 16 + k, none⟩ = _
    rw [h.cell (arr_get (show 0 + i * 16 + k < n * 16 by omega))]
    congr 1
    refine ints_congr (f := fun k => rowF n f (0 + i * 16 + k)) ?_
    simp only [rowF]
    rw [show (0 + i * 16 + k) / 16 = i by omega, show (0 + i * 16 + k) % 16 = k by omega, if_pos hi]⟩

/-! ### The things -/
def ptrV (b : Nat) : Value := .pointer (some ⟨b, 0, none⟩)
structure Hnd (w : World) (B r : Nat) (H : Int × Int → Option Nat) (s : St) : Prop where
  map : ∃ Lt : List ((Int × Int) × Value), MapF w r pairV Lt ∧ ∀ p, lookL Lt p = (H p).map ptrV
  blk : ∀ {p b}, H p = some b → B ≤ b ∧ Blk w b (arr 48 (ints (hndN (s.un p.1 p.2) (s.sh p.1 p.2) (s.sd p.1 p.2)))) 80
  inj : ∀ {p q b}, H p = some b → H q = some b → p = q
  zero : ∀ {p}, H p = none → s.un p.1 p.2 = (fun _ => 0) ∧ s.sh p.1 p.2 = (fun _ => 0) ∧ s.sd p.1 p.2 = (fun _ => 0)
section
variable {w w' : World} {B r : Nat} {H : Int × Int → Option Nat} {s : St}
theorem Hnd.keep (h : Hnd w B r H s) (hb : Below w.heap.size w w') : Hnd w' B r H s :=
  ⟨let ⟨Lt, h1, h2⟩ := h.map; ⟨Lt, h1.keep hb, h2⟩, fun hp => ⟨(h.blk hp).1, (h.blk hp).2.keep hb⟩, h.inj, h.zero⟩
/-- Blocks of other types turn. -/
theorem Hnd.other (h : Hnd w B r H s) {b : Nat} {cs : Array Value} {T : TypeId} (hB : Blk w b cs T) (hT : T ≠ 80) (hk : ∀ k, k < w.heap.size → k ≠ b → w'.heap[k]? = w.heap[k]?) (hs : w.heap.size ≤ w'.heap.size) : Hnd w' B r H s := by
  refine ⟨?_, fun hp => ⟨(h.blk hp).1, ?_⟩, h.inj, h.zero⟩
  · obtain ⟨Lt, h1, h2⟩ := h.map
    have hlt := h1.lt
    have hne := h1.ne hB
    obtain ⟨es, ck, h3, h4⟩ := h1
    exact ⟨Lt, ⟨es, ck, (hk r hlt hne).trans h3, h4⟩, h2⟩
  · have h3 := (h.blk hp).2
    exact (hk _ h3.lt (h3.ne hB (Ne.symm hT))).trans h3
theorem Hnd.start (w : World) (B : Nat) : Hnd (w.alloc (.map #[] 0)) B w.heap.size (fun _ => none) st0 :=
  ⟨⟨[], MapF.made w pairV, fun _ => rfl⟩, fun h => (by cases h), fun h => (by cases h), fun _ => ⟨rfl, rfl, rfl⟩⟩
/-- A thing's hands are laid. -/
theorem Hnd.new (h : Hnd w B r H s) {p : Int × Int} {b : Nat} (hp : H p = none) (hb : Blk w b (arr 48 (ints fun _ => 0)) 80) (hB : B ≤ b) (hne : ∀ {q c}, H q = some c → c ≠ b) {o : Obj} {Lt : List ((Int × Int) × Value)}
    (hL : ∀ p, lookL Lt p = (H p).map ptrV) (hM : MapF (putObj w r o) r pairV (putL Lt p (ptrV b))) (hr : ∃ L', MapF w r pairV L') : Hnd (putObj w r o) B r (fun q => if q = p then some b else H q) s := by
  obtain ⟨L', hr⟩ := hr
  have hz := h.zero hp
  have hbr : ∀ {c : Nat} {cs : Array Value} {T : TypeId}, Blk w c cs T → Blk (putObj w r o) c cs T := fun {c cs T} hc => by
    unfold Blk; rw [putObj_other _ _ (Ne.symm (hr.ne hc))]; exact hc
  refine ⟨⟨_, hM, fun q => ?_⟩, fun {q c} hq => ?_, fun {q1 q2 c} h1 h2 => ?_, fun {q} hq => ?_⟩
  · rw [lookL_put, hL q]
    split <;> rfl
  · by_cases hqp : q = p
    · subst hqp
      simp only [if_true, Option.some.injEq] at hq; subst hq
      refine ⟨hB, hbr (hb.congrA fun k _ => ints_congr (f := fun _ => 0) ?_)⟩
      rw [hz.1, hz.2.1, hz.2.2]; unfold hndN; split <;> (try split) <;> rfl
    · simp only [hqp, if_false] at hq
      exact ⟨(h.blk hq).1, hbr (h.blk hq).2⟩
  · by_cases hq1 : q1 = p <;> by_cases hq2 : q2 = p
    · rw [hq1, hq2]
    · simp only [hq1, hq2, if_true, if_false, Option.some.injEq] at h1 h2
      subst h1; exact absurd rfl (hne h2)
    · simp only [hq1, hq2, if_true, if_false, Option.some.injEq] at h1 h2
      subst h2; exact absurd rfl (hne h1)
    · simp only [hq1, hq2, if_false] at h1 h2; exact h.inj h1 h2
  · by_cases hqp : q = p
    · simp only [hqp, if_true] at hq; cases hq
    · simp only [hqp, if_false] at hq; exact h.zero hq
/-- A thing's hands turn. -/
theorem Hnd.turn (h : Hnd w B r H s) {e : Ev} {b : Nat} (hp : H (e.o, e.n) = some b) (hg : w.grownBy w' (some b))
    (hb : Blk w' b (arr 48 (ints (hndN (tkU e.k (tick s e) (s.un e.o e.n) (s.sh e.o e.n) (s.sd e.o e.n)) (tkS e.k (tick s e) (s.un e.o e.n) (s.sh e.o e.n) (s.sd e.o e.n)) (tkD e.k (tick s e) (s.un e.o e.n) (s.sh e.o e.n) (s.sd e.o e.n))))) 80) : Hnd w' B r H (next s e) := by
  refine ⟨?_, fun {q c} hq => ⟨(h.blk hq).1, ?_⟩, h.inj, fun {q} hq => ?_⟩
  · obtain ⟨Lt, h1, h2⟩ := h.map
    exact ⟨Lt, h1.grown hg (by simpa using h1.ne (h.blk hp).2), h2⟩
  · rw [next_un, next_sh, next_sd]
    by_cases hqe : q = (e.o, e.n)
    · subst hqe
      rw [hp] at hq; cases hq
      simpa using hb
    · have hne : ¬ (q.1 = e.o ∧ q.2 = e.n) := fun hh => hqe (Prod.ext hh.1 hh.2)
      rw [if_neg hne, if_neg hne, if_neg hne]
      exact (h.blk hq).2.grown hg (by
        intro hcb
        cases hcb
        exact hqe (h.inj hq hp))
  · have hne : ¬ (q.1 = e.o ∧ q.2 = e.n) := fun hh => by rw [show q = (e.o, e.n) from Prod.ext hh.1 hh.2, hp] at hq; cases hq
    rw [next_un, next_sh, next_sd, if_neg hne, if_neg hne, if_neg hne]
    exact h.zero hq
end
theorem bad_iff (cl : Int) (e : Ev) : (((!(fk e.k).isSome || decide (e.c < 0)) || decide (e.c ≥ cl)) = true) ↔ badE cl e := by
  rw [fk_known]
  unfold badE
  simp only [Bool.or_eq_true, Bool.not_eq_true', decide_eq_false_iff_not, decide_eq_true_eq]
  omega
theorem check_bad {E : Nat → Ev} {n i : Nat} {cl : Int} (h1 : ¬ (cl < 0 ∨ 16 < cl)) (h2 : ¬ 1048576 < n) (hi : i < n) (hb : badE cl (E i)) : check E n cl = 110 := by
  unfold check; rw [if_neg h1, if_neg h2, if_neg (fun h => h i hi hb)]
theorem check_good {E : Nat → Ev} {n : Nat} {cl : Int} (h1 : ¬ (cl < 0 ∨ 16 < cl)) (h2 : ¬ 1048576 < n) (h : okE E cl n) : check E n cl = 0 := by
  unfold check; rw [if_neg h1, if_neg h2, if_pos h]
section
variable {ρ : Operand → Value} {w : World} {d : Option Nat} {ty : TypeId} {ps : String} {af : Array Edge} {g : Option (Nat × Bool)} {x y : Operand} {r : Nat}
theorem zr74 : (Try.prog.info? 74).bind (·.zero) = some .nilFunc := by kernel_rfl
theorem x_kindOk {k : Int} (hK : KindsAt w r) (hx : ρ x = .map (some r)) (hy : ρ y = .int .i64 k) : (execOp ρ ⟨d, .lookup 71 x y true, ty, ps, af, g⟩).run Try.prog w = .ok (.value (.tuple #[((fk k).map fnV).getD .nilFunc, .bool (fk k).isSome])) w := by
  obtain ⟨Lk, h1, h2⟩ := hK
  rw [x_lookupOk (a := k) Try.underlying71 key3 zr74 hx hy h1, h2, Option.isSome_map]
theorem x_kind {k : Int} {f : Nat} (hK : KindsAt w r) (hf : fk k = some f) (hx : ρ x = .map (some r)) (hy : ρ y = .int .i64 k) : (execOp ρ ⟨d, .lookup 71 x y false, ty, ps, af, g⟩).run Try.prog w = .ok (.value (fnV f)) w := by
  obtain ⟨Lk, h1, h2⟩ := hK
  rw [x_lookup (a := k) Try.underlying71 key3 zr74 hx hy h1, h2, hf]; rfl
theorem x_thing {p : Int × Int} {B : Nat} {H : Int × Int → Option Nat} {s : St} (hH : Hnd w B r H s) (hx : ρ x = .map (some r)) (hy : ρ y = pairV p) : (execOp ρ ⟨d, .lookup 77 x y false, ty, ps, af, g⟩).run Try.prog w = .ok (.value (.pointer ((H p).map fun b => ⟨b, 0, none⟩))) w := by
  obtain ⟨Lt, h1, h2⟩ := hH.map
  rw [x_lookup (a := p) Try.underlying77 key68 zr78 hx hy h1, h2]
  cases H p <;> rfl
theorem x_thing' {p : Int × Int} {B b : Nat} {H : Int × Int → Option Nat} {s : St} (hH : Hnd w B r H s) (hp : H p = some b) (hx : ρ x = .map (some r)) (hy : ρ y = pairV p) : (execOp ρ ⟨d, .lookup 77 x y false, ty, ps, af, g⟩).run Try.prog w = .ok (.value (.pointer (some ⟨b, 0, none⟩))) w := by
  rw [x_thing hH hx hy, hp]; rfl
end
theorem KindsAt.gr2 {w w' : World} {r a b : Nat} {cs cs' : Array Value} {T T' : TypeId} (h : KindsAt w r) (hg : Gr2 w w' a b) (ha : Blk w a cs T) (hb : Blk w b cs' T') : KindsAt w' r := let ⟨Lk, h1, h2⟩ := h; ⟨Lk, h1.gr2 hg (h1.ne ha) (h1.ne hb), h2⟩
theorem Hnd.gr2 {w w' : World} {B r a b : Nat} {H : Int × Int → Option Nat} {s : St} {cs cs' : Array Value} (h : Hnd w B r H s) (hg : Gr2 w w' a b) (ha : Blk w a cs 76) (hb : Blk w b cs' 62) : Hnd w' B r H s :=
  ⟨let ⟨Lt, h1, h2⟩ := h.map; ⟨Lt, h1.gr2 hg (h1.ne ha) (h1.ne hb), h2⟩, fun hp => ⟨(h.blk hp).1, (h.blk hp).2.gr2 hg ((h.blk hp).2.ne ha (by decide)) ((h.blk hp).2.ne hb (by decide))⟩, h.inj, h.zero⟩
theorem bu68 (a b : Int) : Try.prog.built 68 [(0, .int .i64 a), (1, .int .i64 b)] = some #[.int .i64 a, .int .i64 b] := by kernel_rfl
theorem bu80 : Try.prog.built 80 [] = some (Array.replicate 48 (.int .i64 0)) := by kernel_rfl
theorem in62 : (Try.prog.info? 62).map (fun i => (i.zero, i.size, i.bytes)) = some (some (.agg (Array.replicate 16 (.int .i64 0))), 16, 128) := by kernel_rfl
theorem zero48 : Array.replicate 48 (Value.int .i64 0) = arr 48 (ints fun _ => 0) := arr_rep 48 _
theorem tick_arr (s : St) (e : Ev) : arr 16 (fun x => if x = 0 + e.c.toNat * 1 then Value.int .i64 ((s.now e.c.toNat (0 + e.c.toNat * 1) + 1 : Nat) : Int) else ints (s.now e.c.toNat) x) = arr 16 (ints (tick s e)) := by
  refine arr_congr fun x _ => ?_
  unfold ints tick up
  rw [show 0 + e.c.toNat * 1 = e.c.toNat by omega]
  split <;> rfl
end Go.Proofs.Ytlopdjbehhdmpaa
