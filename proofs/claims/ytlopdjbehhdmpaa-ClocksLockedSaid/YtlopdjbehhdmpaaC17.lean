/- The law on what the clocks tell: the document's clocks with their blocks. -/
import Derived.Test.YtlopdjbehhdmpaaC16
import Derived.Test.YtlopdjbehhdmpaaVc8
namespace Go.Proofs.Ytlopdjbehhdmpaa
open Go.Vc Go.RowKit
/-- Below hi all blocks are as they were, but for those from lo up to hi'. -/
structure Keep (w w' : World) (lo hi : Nat) : Prop where
  os : w'.os = w.os
  tape : w'.tape = w.tape
  output : w'.output = w.output
  size : w.heap.size ≤ w'.heap.size
  block : ∀ k, k < w.heap.size → ¬ (lo ≤ k ∧ k < hi) → w'.heap[k]? = w.heap[k]?
theorem Keep.refl (w : World) (lo hi : Nat) : Keep w w lo hi := ⟨rfl, rfl, rfl, Nat.le_refl _, fun _ _ _ => rfl⟩
theorem Keep.below {w w1 w2 : World} {lo hi : Nat} (h : Keep w w1 lo hi) (hb : Below w1.heap.size w1 w2) : Keep w w2 lo hi :=
  ⟨hb.os.trans h.os, hb.tape.trans h.tape, hb.output.trans h.output, Nat.le_trans h.size hb.size, fun k hk hn => (hb.block k (Nat.lt_of_lt_of_le hk h.size)).trans (h.block k hk hn)⟩
theorem Keep.grown {w w1 w2 : World} {lo hi b : Nat} (h : Keep w w1 lo hi) (hg : w1.grownBy w2 (some b)) (hb : (lo ≤ b ∧ b < hi) ∨ w.heap.size ≤ b) : Keep w w2 lo hi :=
  ⟨hg.os.trans h.os, hg.tape.trans h.tape, hg.output.trans h.output, Nat.le_trans h.size hg.size, fun k hk hn => (hg.block k (Nat.lt_of_lt_of_le hk h.size) (by
    intro hkb
    cases hkb
    rcases hb with hb | hb
    · exact hn hb
    · omega)).trans (h.block k hk hn)⟩
theorem Blk.kept {w w' : World} {lo hi b : Nat} {cs : Array Value} {T : TypeId} (h : Blk w b cs T) (hk : Keep w w' lo hi) (hb : hi ≤ b) : Blk w' b cs T := (hk.block b h.lt (by omega)).trans h
theorem own_kept {w w' : World} {lo hi B : Nat} {E : TypeId} {s : Nat} {a : Option Addr} {n c : Nat} {xs : List Value} (h : Own w B E s a n c xs) (hk : Keep w w' lo hi) (hb : hi ≤ B) : Own w' B E s a n c xs := by
  refine ⟨h.1, ?_⟩
  rcases h.2 with h1 | ⟨g, cap, cur, hv, hbg, hg, hr⟩
  · exact .inl h1
  · exact .inr ⟨g, cap, cur, hv, hbg, (hk.block g (Array.getElem?_eq_some_iff.1 hg).1 (by omega)).trans hg, hr⟩
theorem PRows.kept {w w' : World} {lo hi B : Nat} {E T : TypeId} {oa : Option Addr} {n oc m : Nat} {R CC : Nat → Nat} {V : Nat → Nat → Value} (h : PRows w B E T oa n oc m R CC V) (hk : Keep w w' lo hi) (hb : hi ≤ B) : PRows w' B E T oa n oc m R CC V :=
  ⟨own_kept h.own hk hb, fun i hi => own_kept (h.row i hi) hk hb⟩
theorem Made.kept {w w' : World} {lo hi B : Nat} {E T : TypeId} {oa : Option Addr} {n oc m : Nat} {R CC : Nat → Nat} {A : Nat → Array Value} (h : Made w B E T oa n oc m R CC A) (hk : Keep w w' lo hi) (hb : hi ≤ B) : Made w' B E T oa n oc m R CC A :=
  ⟨own_kept h.own hk hb, fun i hi => ⟨(h.blk i hi).1, Blk.kept (h.blk i hi).2 hk (Nat.le_trans hb (h.blk i hi).1)⟩⟩

set_option maxHeartbeats 400000 in
theorem rclocks_okm (a : Option Addr) (n c : Nat) (E : Nat → Ev) (m : Nat) (w0 : World) (hE : EvAt w0 a n E) (hc : check E n (m : Int) = 0) :
    C Try.prog 16 #[.slice a n c, .int .i64 (m : Int)] w0 fun v w' => ∃ oa oc R CC B, w0.heap.size ≤ B ∧ v = .tuple #[.slice oa n oc, .int .i64 0] ∧ Made w' B 34 3 oa n oc m R CC (fun i => arr m (fun k => .int .i64 (rclk E i k : Int))) ∧ Below w0.heap.size w0 w' := by
  refine C.enter (n := 62) Try.func16 rfl rfl ?_
  obtain ⟨-, hm16, hn, hok⟩ := check_zero hc
  have hm : m ≤ 16 := by omega
  refine W.seq ?_
  refine W.region rfl ?_
  refine L.va (x_asS rfl) ?_
  refine L.va (x_asI rfl) ?_
  refine L.nil ?_
  show W _ _ _ _ _ _
  refine W.seq ?_
  refine W.region rfl ?_
  refine L.va (x_mvS rfl) ?_
  refine L.va (x_mvI rfl) ?_
  refine L.call (x_call2 rfl rfl Try.func20 rfl nm20 rfl) (check_c a n c E m w0 hE (by omega)) ?_
  rintro _ w ⟨rfl, rfl⟩
  refine L.va (x_asI rfl) ?_
  refine L.nil ?_
  show W _ _ _ _ _ _
  refine W.seq ?_
  refine W.seq ?_
  refine W.region rfl ?_
  refine L.va (x_mvI rfl) ?_
  refine L.va (x_neq rfl rfl) ?_
  refine L.nil ?_
  show W _ _ _ _ _ _
  refine W.condF (rb (decide_eq_false (by rw [hc]; simp))) ?_
  refine W.skip ?_
  show W _ _ _ _ _ _
  refine W.seq ?_
  refine W.region rfl ?_
  refine L.va (x_mvS rfl) ?_
  refine L.call (x_call1 rfl Try.func21 rfl nm21 rfl) (ahead_c a n c E w hE hn) ?_
  rintro _ w1 ⟨xa, xc, rfl, hA, hbA⟩
  have hE := hE.below hbA
  have hb := Below.refl w1.heap.size w1
  refine L.va (x_asS rfl) ?_
  refine L.nil ?_
  show W _ _ _ _ _ _
  refine W.seq ?_
  refine W.region rfl ?_
  refine L.va (x_asS rfl) ?_
  refine L.nil ?_
  show W _ _ _ _ _ _
  refine W.seq ?_
  refine W.seq ?_
  refine W.region rfl ?_
  refine L.va (x_asI rfl) ?_
  refine L.nil ?_
  show W _ _ _ _ _ _
  refine W.block ?_
  refine W.loop (fun k e w => ∃ j : Nat, ∃ oa : Option Addr, ∃ oc : Nat, ∃ R : Nat → Nat, ∃ CC : Nat → Nat, k = n - j ∧ e 0 = .slice a n c ∧ e 1 = .int .i64 (m : Int) ∧ e 7 = .slice xa n xc ∧ e 8 = .slice oa j oc ∧ e 9 = .int .i64 (j : Int) ∧ Below w1.heap.size w1 w ∧ j ≤ n ∧ Made w w1.heap.size 34 3 oa j oc m R CC (fun i => arr m (fun k => .int .i64 (rclk E i k : Int)))) _ ⟨0, none, 0, fun _ => 0, fun _ => 0, rfl, rfl, rfl, rfl, rfl, rfl, hb, Nat.zero_le _, Made.nil _ _ _ _ _ _ _ _⟩ ?_
  rintro k e w ⟨j, oa, oc, R, CC, hk, s0, s1, s7, s8, s9, hb, hjn, hM⟩
  rw [upd_id s0, upd_id s1, upd_id s7, upd_id s8, upd_id s9]
  clear s0 s1 s7 s8 s9
  refine W.seq ?_
  refine W.seq ?_
  refine W.region rfl ?_
  refine L.va (x_mvI rfl) ?_
  refine L.va (x_mvS rfl) ?_
  refine L.va (x_len rfl Try.underlying25 rfl) ?_
  refine L.va (x_lss rfl rfl) ?_
  refine L.nil ?_
  show W _ _ _ _ _ _
  refine W.condP rfl (fun h23 => ?_) (fun h23 => ?_)
  · refine W.skip ?_
    show W _ _ _ _ _ _
    refine W.seq ?_
    refine W.block ?_
    refine W.seq ?_
    refine W.region rfl ?_
    refine L.va (x_mvI rfl) ?_
    refine L.make rfl rfl Try.underlying34 in3 rfl (by decide) (by omega) (by omega) (fun w b F16 => ?_)
    have hRb : ∀ i, i < j → R i ≠ b := fun i hi => by have := (hM.blk i hi).2.lt; have := F16.here; omega
    have hab : oa ≠ none → ab oa ≠ b := fun ha => by have := hM.own.lt ha; have := F16.here; omega
    have hB0 : w1.heap.size ≤ b := by have := F16.here; have := hb.size; omega
    have hM := hM.keep F16.below
    have hb := cl_step hb F16.below
    have hR := F16.blk
    rw [Nat.mul_one, arr_rep] at hR
    refine L.va (x_asS rfl) ?_
    refine L.nil ?_
    show W _ _ _ _ _ _
    refine W.seq ?_
    obtain ⟨hc0, hc1, -, -⟩ := hok.at (show j < n by omega)
    have hct : (E j).c.toNat < m := by omega
    refine W.region rfl ?_
    refine L.va (x_mvS rfl) ?_
    refine L.va (x_mvS rfl) ?_
    refine L.va (x_mvI rfl) ?_
    refine L.va (x_idx rfl rfl Try.underlying25 sz53 (hE.sl) (by omega)) ?_
    refine L.va (x_field rfl Try.underlying53 rfl sz3 (by decide)) ?_
    refine L.va (x_load rfl Try.underlying3 rfl (bl0 hb (hE.c (by omega)))) ?_
    refine L.va (x_indexI rfl rfl Try.underlying34 sz3 (by omega) (by omega)) ?_
    refine L.store rfl rfl sz3 rfl hR (by rw [arr_size]; omega) ?_
    have hM := hM.grown (grown_setCell w ⟨b, 0 + (E j).c.toNat * 1, none⟩ (.int .i64 1)) hab hRb
    have hb := hb.setCell (p := ⟨b, 0 + (E j).c.toNat * 1, none⟩) hB0 (.int .i64 1)
    have hR : Blk (w.setCell ⟨b, 0 + (E j).c.toNat * 1, none⟩ (.int .i64 1)) b (arr m (fun k => .int .i64 (rcN E j 0 k : Int))) 3 := by
      have := hR.set (o := 0 + (E j).c.toNat * 1) (.int .i64 1)
      rw [arr_set] at this
      exact this.congrA (fun k _ => by rw [← rcN_start hc0, show 0 + (E j).c.toNat * 1 = (E j).c.toNat by omega]; split <;> rfl)
    refine L.nil ?_
    show W _ _ _ _ _ _
    refine W.seq ?_
    refine W.seq ?_
    refine W.region rfl ?_
    refine L.va (x_asI rfl) ?_
    refine L.nil ?_
    show W _ _ _ _ _ _
    refine W.block ?_
    refine W.loop (fun k e w => ∃ i : Nat, k = j - i ∧ e 0 = .slice a n c ∧ e 1 = .int .i64 (m : Int) ∧ e 7 = .slice xa n xc ∧ e 8 = .slice oa j oc ∧ e 9 = .int .i64 (j : Int) ∧ e 10 = .slice (some ⟨b, 0, none⟩) m m ∧ e 11 = .int .i64 (i : Int) ∧ Below w1.heap.size w1 w ∧ i ≤ j ∧ Made w w1.heap.size 34 3 oa j oc m R CC (fun i => arr m (fun k => .int .i64 (rclk E i k : Int))) ∧ Blk w b (arr m (fun k => .int .i64 (rcN E j i k : Int))) 3) _ ⟨0, rfl, rfl, rfl, rfl, rfl, rfl, rfl, rfl, hb, Nat.zero_le _, hM, hR⟩ ?_
    rintro k e w ⟨i, hk, s0, s1, s7, s8, s9, s10, s11, hb, hij, hM, hR⟩
    rw [upd_id s0, upd_id s1, upd_id s7, upd_id s8, upd_id s9, upd_id s10, upd_id s11]
    clear s0 s1 s7 s8 s9 s10 s11
    refine W.seq ?_
    refine W.seq ?_
    refine W.region rfl ?_
    refine L.va (x_mvI rfl) ?_
    refine L.va (x_mvI rfl) ?_
    refine L.va (x_lss rfl rfl) ?_
    refine L.nil ?_
    show W _ _ _ _ _ _
    refine W.condP rfl (fun h37 => ?_) (fun h37 => ?_)
    · refine W.skip ?_
      show W _ _ _ _ _ _
      refine W.seq ?_
      refine W.block ?_
      refine W.seq ?_
      obtain ⟨r, cr, hr, hrs, hrc⟩ := hA.row (show j < n by omega)
      refine W.region rfl ?_
      refine L.va (x_mvS rfl) ?_
      refine L.va (x_mvI rfl) ?_
      refine L.va (x_idx rfl rfl Try.underlying39 sz38 (hA.sl) (by omega)) ?_
      refine L.va (x_load rfl Try.underlying38 rfl (bl0 hb hr)) ?_
      refine L.va (x_mvI rfl) ?_
      refine L.va (x_idx rfl rfl Try.underlying38 sz4 (hrs) (by omega)) ?_
      refine L.va (x_load rfl Try.underlying4 rfl (bl0 hb (hrc (by omega)))) ?_
      refine L.nil ?_
      show W _ _ _ _ _ _
      refine W.cond rfl (fun h46 => ?_) (fun h46 => ?_)
      · obtain ⟨hi0, hi1, -, -⟩ := hok.at (show i < n by omega)
        have hit : (E i).c.toNat < m := by omega
        have hle := rcN_le E j i (E i).c.toNat
        have hget : (arr m (fun k => Value.int .i64 (rcN E j i k : Int)))[0 + (E i).c.toNat * 1]? = some (.int .i64 (rcN E j i (E i).c.toNat : Int)) := by
          rw [Nat.zero_add, Nat.mul_one]; exact arr_get hit
        refine W.region rfl ?_
        refine L.va (x_mvS rfl) ?_
        refine L.va (x_mvS rfl) ?_
        refine L.va (x_mvI rfl) ?_
        refine L.va (x_idx rfl rfl Try.underlying25 sz53 (hE.sl) (by omega)) ?_
        refine L.va (x_field rfl Try.underlying53 rfl sz3 (by decide)) ?_
        refine L.va (x_load rfl Try.underlying3 rfl (bl0 hb (hE.c (by omega)))) ?_
        refine L.va (x_indexI rfl rfl Try.underlying34 sz3 (by omega) (by omega)) ?_
        refine L.va (x_load rfl Try.underlying3 rfl (hR.cell hget)) ?_
        refine L.va (x_addI rfl rfl (by omega)) ?_
        refine L.va (x_indexI rfl rfl Try.underlying34 sz3 (by omega) (by omega)) ?_
        refine L.store rfl rfl sz3 rfl hR (by rw [arr_size]; omega) ?_
        have hM := hM.grown (grown_setCell w ⟨b, 0 + (E i).c.toNat * 1, none⟩ (.int .i64 ((rcN E j i (E i).c.toNat : Int) + 1))) hab hRb
        have hb := hb.setCell (p := ⟨b, 0 + (E i).c.toNat * 1, none⟩) hB0 (.int .i64 ((rcN E j i (E i).c.toNat : Int) + 1))
        have hR : Blk (w.setCell ⟨b, 0 + (E i).c.toNat * 1, none⟩ (.int .i64 ((rcN E j i (E i).c.toNat : Int) + 1))) b (arr m (fun k => .int .i64 (rcN E j (i + 1) k : Int))) 3 := by
          have := hR.set (o := 0 + (E i).c.toNat * 1) (.int .i64 ((rcN E j i (E i).c.toNat : Int) + 1))
          rw [arr_set] at this
          exact this.congrA (fun k _ => by rw [← rcN_hit hi0 (by simpa using h46), show 0 + (E i).c.toNat * 1 = (E i).c.toNat by omega]; split <;> rfl)
        refine L.nil ?_
        refine B.nrm ?_
        show W _ _ _ _ _ _
        refine W.region rfl ?_
        refine L.va (x_mvI rfl) ?_
        refine L.va (x_inc rfl rfl (by omega)) ?_
        refine L.va (x_asI rfl) ?_
        refine L.nil ?_
        refine T.nrm ?_
        exact ⟨_, by omega, ⟨i + 1, rfl, rfl, rfl, rfl, rfl, rfl, rfl, rfl, hb, by omega, hM, hR⟩⟩
      · refine W.skip ?_
        refine B.nrm ?_
        show W _ _ _ _ _ _
        refine W.region rfl ?_
        refine L.va (x_mvI rfl) ?_
        refine L.va (x_inc rfl rfl (by omega)) ?_
        refine L.va (x_asI rfl) ?_
        refine L.nil ?_
        refine T.nrm ?_
        exact ⟨_, by omega, ⟨i + 1, rfl, rfl, rfl, rfl, rfl, rfl, rfl, rfl, hb, by omega, hM, hR.congrA (fun k _ => by rw [rcN_miss (by simpa using h46)])⟩⟩
    · refine W.exit ?_
      repeat (first | refine T.exit ?_ | refine B.exitNe (by decide) ?_)
      refine B.exitEq ?_
      show W _ _ _ _ _ _
      refine W.region rfl ?_
      refine L.va (x_mvS rfl) ?_
      refine L.va (x_mvS rfl) ?_
      refine L.build1 rfl rfl Try.underlying27 sz34 rfl ⟨_, zr34⟩ (by decide) (fun w b53 F53 => ?_)
      have hM := hM.keep F53.below
      have hR := hR.keep F53.below
      have hb := cl_step hb F53.below
      refine L.append (B := w1.heap.size) rfl rfl Try.underlying27 in34 rfl (by decide) hM.own (news := [.slice (some ⟨b, 0, none⟩) m m]) rfl (fun q u hq => ?_) (fun u hu => by simp at hu; subst hu; rfl) (by omega) (by omega) hb.size (fun oa2 oc2 w2 ho hg hbel _ => ?_)
      · rw [Addr.add_lit]
        match q, hq with
        | 0, hq => cases hq; exact F53.blk.cell rfl
      have hM2 := hM.snoc (by decide) hB0 hR hg ho (arr_congr (fun k _ => by rw [← rcN_end, show i = j by omega]))
      have hb := hb.trans hbel
      refine L.va (x_asS rfl) ?_
      refine L.nil ?_
      refine B.nrm ?_
      show W _ _ _ _ _ _
      refine W.region rfl ?_
      refine L.va (x_mvI rfl) ?_
      refine L.va (x_inc rfl rfl (by omega)) ?_
      refine L.va (x_asI rfl) ?_
      refine L.nil ?_
      refine T.nrm ?_
      exact ⟨_, by omega, ⟨j + 1, oa2, oc2, _, _, rfl, rfl, rfl, rfl, rfl, rfl, hb, by omega, hM2⟩⟩
  · refine W.exit ?_
    repeat (first | refine T.exit ?_ | refine B.exitNe (by decide) ?_)
    refine B.exitEq ?_
    show W _ _ _ _ _ _
    refine W.seq ?_
    refine W.region rfl ?_
    refine L.va (x_mvS rfl) ?_
    refine L.va (x_asS rfl) ?_
    refine L.va (x_asI rfl) ?_
    refine L.nil ?_
    show W _ _ _ _ _ _
    refine W.ret ?_
    repeat (first | refine T.ret ?_ | refine B.ret ?_)
    refine ends.two (.inr rfl) rfl ?_
    have hjn : j = n := by omega
    subst hjn
    exact ⟨oa, oc, R, CC, w1.heap.size, hbA.size, rfl, hM, cl_step hbA hb⟩

end Go.Proofs.Ytlopdjbehhdmpaa
