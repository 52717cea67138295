/- Contracts: the program's Clocks and Before. -/
import Derived.Test.YtlopdjbehhdmpaaBase6
namespace Go.Proofs.Ytlopdjbehhdmpaa
open Go.Vc Go.RowKit

theorem races_c (a b : Option Addr) (c1 c2 : Nat) (Lp : List (Nat × Nat)) (w0 : World) (hA : PairsAt w0 a Lp) (hB : PairsAt w0 b Lp) (hn : Lp.length ≤ 4611686018427387904) :
    C Try.prog 24 #[.slice a Lp.length c1, .slice b Lp.length c2] w0 fun v w' => v = .bool true ∧ Below w0.heap.size w0 w' := by
  refine C.enter (n := 26) Try.func24 rfl rfl ?_
  have hb := Below.refl w0.heap.size w0
  refine W.seq ?_
  refine W.region rfl ?_
  refine L.va (x_asB rfl) ?_
  refine L.nil ?_
  show W _ _ _ _ _ _
  refine W.seq ?_
  refine W.seq ?_
  refine W.region rfl ?_
  refine L.va (x_mvS rfl) ?_
  refine L.va (x_len rfl Try.underlying41 rfl) ?_
  refine L.va (x_mvS rfl) ?_
  refine L.va (x_len rfl Try.underlying41 rfl) ?_
  refine L.va (x_neq rfl rfl) ?_
  refine L.nil ?_
  show W _ _ _ _ _ _
  refine W.condF (rb (decide_eq_false (by simp))) ?_
  refine W.skip ?_
  show W _ _ _ _ _ _
  refine W.seq ?_
  refine W.seq ?_
  refine W.region rfl ?_
  refine L.va (x_asI rfl) ?_
  refine L.nil ?_
  show W _ _ _ _ _ _
  refine W.block ?_
  refine W.loop (fun k e w => ∃ t : Nat, k = Lp.length - t ∧ e 0 = .slice a Lp.length c1 ∧ e 1 = .slice b Lp.length c2 ∧ e 5 = .int .i64 (t : Int) ∧ Below w0.heap.size w0 w ∧ t ≤ Lp.length) _ ⟨0, rfl, rfl, rfl, rfl, hb, Nat.zero_le _⟩ ?_
  rintro k e w ⟨t, hk, s0, s1, s5, hb, ht⟩
  rw [upd_id s0, upd_id s1, upd_id s5]
  clear s0 s1 s5
  refine W.seq ?_
  refine W.seq ?_
  refine W.region rfl ?_
  refine L.va (x_mvI rfl) ?_
  refine L.va (x_mvS rfl) ?_
  refine L.va (x_len rfl Try.underlying41 rfl) ?_
  refine L.va (x_lss rfl rfl) ?_
  refine L.nil ?_
  show W _ _ _ _ _ _
  refine W.condP rfl (fun h14 => ?_) (fun h14 => ?_)
  · refine W.skip ?_
    show W _ _ _ _ _ _
    refine W.seq ?_
    refine W.block ?_
    refine W.seq ?_
    obtain ⟨p, hp⟩ : ∃ p, Lp[t]? = some p := ⟨Lp[t]'(by omega), List.getElem?_eq_getElem (by omega)⟩
    refine W.quiet (fun w' => Below w0.heap.size w0 w') (by kernel_rfl) (by kernel_rfl) (hb.drew) ?_
    refine D.va (fun w' hw' => (x_mvS rfl)) ?_
    refine D.va (fun w' hw' => (x_mvI rfl)) ?_
    refine D.va (fun w' hw' => (x_idx rfl rfl Try.underlying41 sz56 (hA.sl) (by omega))) ?_
    refine D.va (fun w' hw' => (x_loadAgg rfl Try.underlying56 rfl sz56 rfl (bagg hw' (hA.two hp)))) ?_
    refine D.va (fun w' hw' => (x_mvS rfl)) ?_
    refine D.va (fun w' hw' => (x_mvI rfl)) ?_
    refine D.va (fun w' hw' => (x_idx rfl rfl Try.underlying41 sz56 (hB.sl) (by omega))) ?_
    refine D.va (fun w' hw' => (x_loadAgg rfl Try.underlying56 rfl sz56 rfl (bagg hw' (hB.two hp)))) ?_
    refine D.va (fun w' hw' => x_ne56 (i := p.1) (j := p.2) rfl rfl) ?_
    refine D.nil ?_
    intro w hb
    show W _ _ _ _ _ _
    refine W.condF rfl ?_
    refine W.skip ?_
    refine B.nrm ?_
    show W _ _ _ _ _ _
    refine W.region rfl ?_
    refine L.va (x_mvI rfl) ?_
    refine L.va (x_inc rfl rfl (by omega)) ?_
    refine L.va (x_asI rfl) ?_
    refine L.nil ?_
    refine T.nrm ?_
    exact ⟨_, by omega, ⟨t + 1, rfl, rfl, rfl, rfl, hb, by omega⟩⟩
  · refine W.exit ?_
    repeat (first | refine T.exit ?_ | refine B.exitNe (by decide) ?_)
    refine B.exitEq ?_
    show W _ _ _ _ _ _
    refine W.seq ?_
    refine W.region rfl ?_
    refine L.va (x_asB rfl) ?_
    refine L.nil ?_
    show W _ _ _ _ _ _
    refine W.ret ?_
    repeat (first | refine T.ret ?_ | refine B.ret ?_)
    refine ends.one (.inr rfl) rfl ?_
    exact ⟨rfl, hb⟩

theorem ahead29_c (a : Option Addr) (n c : Nat) (E : Nat → Ev) (bl i j : Nat) (w0 : World) (hE : EvAt w0 a n E) (hL : Blk w0 bl (arr (n * 16) (ints (rowF n (clk E)))) 62) (hi : i < n) (hj : j < n) (h0 : 0 ≤ (E i).c) (h1 : (E i).c < 16) :
    C Try.prog 29 #[.slice a n c, .slice (some ⟨bl, 0, none⟩) n n, .int .i64 (i : Int), .int .i64 (j : Int)] w0 fun v w' => v = .bool (decide ((clk E i (E i).c.toNat : Int) ≤ (clk E j (E i).c.toNat : Int))) ∧ Below w0.heap.size w0 w' := by
  refine C.enter (n := 28) Try.func29 rfl rfl ?_
  have hb := Below.refl w0.heap.size w0
  refine W.seq ?_
  refine W.region rfl ?_
  refine L.va (x_asB rfl) ?_
  refine L.nil ?_
  show W _ _ _ _ _ _
  refine W.seq ?_
  refine W.region rfl ?_
  refine L.va (x_mvS rfl) ?_
  refine L.va (x_mvI rfl) ?_
  refine L.va (x_idx rfl rfl Try.underlying25 sz53 (hE.sl) (by omega)) ?_
  refine L.va (x_field rfl Try.underlying53 rfl sz3 (by decide)) ?_
  refine L.va (x_load rfl Try.underlying3 rfl (bl0 hb (hE.c hi))) ?_
  refine L.va (x_asI rfl) ?_
  refine L.nil ?_
  show W _ _ _ _ _ _
  refine W.seq ?_
  refine W.quiet (fun w' => Below w0.heap.size w0 w') (by kernel_rfl) (by kernel_rfl) (hb.drew) ?_
  refine D.va (fun w' hw' => (x_mvS rfl)) ?_
  refine D.va (fun w' hw' => (x_mvI rfl)) ?_
  refine D.va (fun w' hw' => (x_mvI rfl)) ?_
  refine D.va (fun w' hw' => (x_idx rfl rfl Try.underlying58 sz62 ((SL.mk _ _ _)) (by omega))) ?_
  refine D.va (fun w' hw' => (x_indexArr rfl rfl Try.underlying62 sz3 (by omega) (by omega))) ?_
  refine D.va (fun w' hw' => (x_load rfl Try.underlying3 rfl (bl0 hw' (row_cell hL hj (by omega))))) ?_
  refine D.va (fun w' hw' => (x_mvS rfl)) ?_
  refine D.va (fun w' hw' => (x_mvI rfl)) ?_
  refine D.va (fun w' hw' => (x_mvI rfl)) ?_
  refine D.va (fun w' hw' => (x_idx rfl rfl Try.underlying58 sz62 ((SL.mk _ _ _)) (by omega))) ?_
  refine D.va (fun w' hw' => (x_indexArr rfl rfl Try.underlying62 sz3 (by omega) (by omega))) ?_
  refine D.va (fun w' hw' => (x_load rfl Try.underlying3 rfl (bl0 hw' (row_cell hL hi (by omega))))) ?_
  refine D.va (fun w' hw' => (x_geq rfl rfl)) ?_
  refine D.va (fun w' hw' => (x_asB rfl)) ?_
  refine D.nil ?_
  intro w hb
  show W _ _ _ _ _ _
  refine W.ret ?_
  repeat (first | refine T.ret ?_ | refine B.ret ?_)
  refine ends.one (.inr rfl) rfl ?_
  exact ⟨rfl, hb⟩

theorem clone_c (ad : Addr) (m c : Nat) (xs : List Value) (w0 : World) (hl : xs.length = m) (hx : ∀ (j : Nat) u, xs[j]? = some u → w0.cell? (ad.add j) = some u) (h1 : ∀ u ∈ xs, u.oneCell' = true) (hm : m ≤ 1048576) :
    C Try.prog 28 #[.slice (some ad) m c] w0 fun v w' => ∃ r rc, v = .slice (some ⟨r, 0, none⟩) m rc ∧ Own w' w0.heap.size 3 1 (some ⟨r, 0, none⟩) m rc xs ∧ Below w0.heap.size w0 w' := by
  refine C.enter (n := 8) Try.func28 rfl rfl ?_
  have hb := Below.refl w0.heap.size w0
  refine W.seq ?_
  refine W.region rfl ?_
  refine L.va (x_asS rfl) ?_
  refine L.nil ?_
  show W _ _ _ _ _ _
  refine W.seq ?_
  refine W.seq ?_
  refine W.region rfl ?_
  refine L.va (x_mvS rfl) ?_
  refine L.va (x_eqNil rfl rfl Try.underlying34) ?_
  refine L.nil ?_
  show W _ _ _ _ _ _
  refine W.condF rfl ?_
  refine W.skip ?_
  show W _ _ _ _ _ _
  refine W.seq ?_
  refine W.region rfl ?_
  refine L.build0 Try.underlying34 sz3 (fun w b5 F5 => ?_)
  have hb := cl_step hb F5.below
  have hO : Own w w0.heap.size 3 1 (some ⟨b5, 0, none⟩) 0 0 [] := ⟨rfl, .inr ⟨b5, 0, #[], rfl, by have := F5.here; omega, F5.blk, Nat.le_refl _, by simp [maxLen], rfl, rfl⟩⟩
  refine L.va (x_mvS rfl) ?_
  refine L.append (B := w0.heap.size) rfl rfl Try.underlying34 in3 rfl (by decide) hO (news := xs) (by rw [hl, Nat.mul_one]) (fun j u hj => bl0 hb (hx j u hj)) h1 (by omega) (by omega) hb.size (fun fa fc w hO hg hbel hnone => ?_)
  have hb := hb.trans hbel
  rw [Nat.zero_add] at hO ⊢
  rw [List.nil_append] at hO
  refine L.va (x_asS rfl) ?_
  refine L.nil ?_
  show W _ _ _ _ _ _
  refine W.ret ?_
  repeat (first | refine T.ret ?_ | refine B.ret ?_)
  refine ends.one (.inr rfl) rfl ?_
  obtain ⟨r, rfl⟩ := hO.some_eq (fun h => by have := (hnone.1 h).1; cases this)
  exact ⟨r, fc, rfl, hO, hb⟩

theorem pclocks_no (a : Option Addr) (n c : Nat) (E : Nat → Ev) (cl : Int) (w0 : World) (hE : EvAt w0 a n E) (hn : n ≤ 9223372036854775807) (hc : check E n cl ≠ 0) :
    C Try.prog 15 #[.slice a n c, .int .i64 cl] w0 fun v w' => v = .tuple #[.slice none 0 0, .int .i64 (check E n cl)] ∧ Below w0.heap.size w0 w' := by
  refine C.enter (n := 34) Try.func15 rfl rfl ?_
  refine W.seq ?_
  refine W.region rfl ?_
  refine L.va (x_asS rfl) ?_
  refine L.va (x_asI rfl) ?_
  refine L.nil ?_
  show W _ _ _ _ _ _
  refine W.seq ?_
  refine W.region rfl ?_
  refine L.va (x_mvS rfl) ?_
  refine L.va (x_mvI rfl) ?_
  refine L.call (x_call2 rfl rfl Try.func27 rfl nm27 rfl) (clocked_no a n c E cl w0 hE hn hc) ?_
  rintro _ w ⟨rfl, hb⟩
  refine L.va (x_mvT rfl) ?_
  refine L.va (x_extract rfl rfl) ?_
  refine L.va (x_extract rfl rfl) ?_
  refine L.va (x_asS rfl) ?_
  refine L.va (x_asI rfl) ?_
  refine L.nil ?_
  show W _ _ _ _ _ _
  refine W.seq ?_
  refine W.seq ?_
  refine W.region rfl ?_
  refine L.va (x_mvI rfl) ?_
  refine L.va (x_neq rfl rfl) ?_
  refine L.nil ?_
  show W _ _ _ _ _ _
  refine W.condT (rb (decide_eq_true hc)) ?_
  refine W.seq ?_
  refine W.region rfl ?_
  refine L.va (x_mvI rfl) ?_
  refine L.va (x_asS rfl) ?_
  refine L.va (x_asI rfl) ?_
  refine L.nil ?_
  show W _ _ _ _ _ _
  refine W.ret ?_
  repeat (first | refine T.ret ?_ | refine B.ret ?_)
  refine ends.two (.inr rfl) rfl ?_
  exact ⟨rfl, hb⟩

theorem pclocks_ok (a : Option Addr) (n c : Nat) (E : Nat → Ev) (m : Nat) (w0 : World) (hE : EvAt w0 a n E) (hc : check E n (m : Int) = 0) :
    C Try.prog 15 #[.slice a n c, .int .i64 (m : Int)] w0 fun v w' => ∃ oa oc R CC, v = .tuple #[.slice oa n oc, .int .i64 0] ∧ PRows w' w0.heap.size 34 3 oa n oc m R CC (fun i => ints (clk E i)) ∧ Below w0.heap.size w0 w' := by
  refine C.enter (n := 34) Try.func15 rfl rfl ?_
  obtain ⟨-, hm16, hn, hok⟩ := check_zero hc
  have hm : m ≤ 16 := by omega
  refine W.seq ?_
  refine W.region rfl ?_
  refine L.va (x_asS rfl) ?_
  refine L.va (x_asI rfl) ?_
  refine L.nil ?_
  show W _ _ _ _ _ _
  refine W.seq ?_
  refine W.region rfl ?_
  refine L.va (x_mvS rfl) ?_
  refine L.va (x_mvI rfl) ?_
  refine L.call (x_call2 rfl rfl Try.func27 rfl nm27 rfl) (clocked_ok a n c E m w0 hE (by omega) hc) ?_
  rintro _ w ⟨bl, rfl, hL, hb⟩
  refine L.va (x_mvT rfl) ?_
  refine L.va (x_extract rfl rfl) ?_
  refine L.va (x_extract rfl rfl) ?_
  refine L.va (x_asS rfl) ?_
  refine L.va (x_asI rfl) ?_
  refine L.nil ?_
  show W _ _ _ _ _ _
  refine W.seq ?_
  refine W.seq ?_
  refine W.region rfl ?_
  refine L.va (x_mvI rfl) ?_
  refine L.va (x_neq rfl rfl) ?_
  refine L.nil ?_
  show W _ _ _ _ _ _
  refine W.condF (rb (decide_eq_false (by simp))) ?_
  refine W.skip ?_
  show W _ _ _ _ _ _
  refine W.seq ?_
  refine W.region rfl ?_
  refine L.va (x_asS rfl) ?_
  refine L.nil ?_
  show W _ _ _ _ _ _
  refine W.seq ?_
  refine W.seq ?_
  refine W.region rfl ?_
  refine L.va (x_mvS rfl) ?_
  refine L.va (x_len rfl Try.underlying58 rfl) ?_
  refine L.va (x_mvI rfl) ?_
  refine L.nil ?_
  show W _ _ _ _ _ _
  refine W.block ?_
  refine W.loop (fun k e w => ∃ i : Nat, ∃ oa : Option Addr, ∃ oc : Nat, ∃ R : Nat → Nat, ∃ CC : Nat → Nat, k = n - i ∧ e 1 = .int .i64 (m : Int) ∧ e 6 = .slice (some ⟨bl, 0, none⟩) n n ∧ e 8 = .slice oa i oc ∧ e 20 = .slice (some ⟨bl, 0, none⟩) n n ∧ e 21 = .int .i64 (n : Int) ∧ e 22 = .int .i64 (i : Int) ∧ Below w0.heap.size w0 w ∧ i ≤ n ∧ Blk w bl (arr (n * 16) (ints (rowF n (clk E)))) 62 ∧ PRows w w0.heap.size 34 3 oa i oc m R CC (fun i => ints (clk E i))) _ ⟨0, none, 0, fun _ => 0, fun _ => 0, rfl, rfl, rfl, rfl, rfl, rfl, rfl, hb, Nat.zero_le _, hL, PRows.nil _ _ _ _ _ _ _ _⟩ ?_
  rintro k e w ⟨i, oa, oc, R, CC, hk, s1, s6, s8, s20, s21, s22, hb, hi, hL, hP⟩
  rw [upd_id s1, upd_id s6, upd_id s8, upd_id s20, upd_id s21, upd_id s22]
  clear s1 s6 s8 s20 s21 s22
  refine W.seq ?_
  refine W.region rfl ?_
  refine L.va (x_lss rfl rfl) ?_
  refine L.nil ?_
  show W _ _ _ _ _ _
  refine W.seq ?_
  refine W.condP rfl (fun h23 => ?_) (fun h23 => ?_)
  · refine W.skip ?_
    show W _ _ _ _ _ _
    refine W.seq ?_
    refine W.block ?_
    refine W.seq ?_
    have hin : i < n := by omega
    refine W.region rfl ?_
    refine L.va (x_idx rfl rfl Try.underlying58 sz62 ((SL.mk _ _ _)) (by omega)) ?_
    refine L.va (x_loadArr rfl Try.underlying62 rfl sz62 hL (by show 0 + i * 16 + 16 ≤ n * 16; omega) (fun k hk => row_get n (clk E) hin hk)) ?_
    refine L.alloc zr62 rfl (fun w b10 F10 => ?_)
    have hnl : bl ≠ b10 := by have := F10.here; have := hL.lt; omega
    have h10 : w0.heap.size ≤ b10 := by have := F10.here; have := hb.size; omega
    have hL := hL.keep F10.below
    have hP := hP.keep F10.below
    have hb := cl_step hb F10.below
    refine L.storeAll (vs := (arr 16 (ints (clk E i))).toList) rfl rfl rfl sz62 (arr_len _ _) rfl (arr_one (fun _ => rfl)) F10.blk (fun w hB10 hg hsz => ?_)
    have hL := hL.grown hg (by simpa using hnl)
    have hP := hP.grown hg F10.blk (by decide) (by decide)
    have hb := below_gr hb hb.size hg h10
    have hB10 : Blk w b10 (arr 16 (ints (clk E i))) 62 := hB10
    refine L.nil ?_
    show W _ _ _ _ _ _
    refine W.region rfl ?_
    refine L.va (x_mvS rfl) ?_
    refine L.va (x_mvI rfl) ?_
    refine L.va (x_sliceArr rfl rfl Try.underlying62 sz3 hm) ?_
    refine L.call (x_call1 rfl Try.func28 rfl nm28 rfl) (clone_c ⟨b10, 0, none⟩ m 16 (arr m (ints (clk E i))).toList w (arr_len _ _) (head_cells hB10 hm) (arr_one fun _ => rfl) (by omega)) ?_
    rintro _ w ⟨r, rc, rfl, hX, hbw⟩
    have hX := own_mono hX hb.size
    have hL := hL.keep hbw
    have hP := hP.keep hbw
    have hb := cl_step hb hbw
    refine L.build1 rfl rfl Try.underlying27 sz34 rfl ⟨_, zr34⟩ (by decide) (fun w b30 F30 => ?_)
    have hL := hL.keep F30.below
    have hP := hP.keep F30.below
    have hX := hX.keep F30.below
    have hb := cl_step hb F30.below
    refine L.append (B := w0.heap.size) rfl rfl Try.underlying27 in34 rfl (by decide) hP.own (news := [.slice (some ⟨r, 0, none⟩) m rc]) rfl (fun q u hq => ?_) (fun u hu => by simp at hu; subst hu; rfl) (by omega) (by omega) hb.size (fun oa2 oc2 w2 ho hg hbel _ => ?_)
    · rw [Addr.add_lit]
      match q, hq with
      | 0, hq => cases hq; exact F30.blk.cell rfl
    have hP2 := hP.snoc (by decide) hX hg ho
    have hL := hL.grown hg (neBlk hP.own hL (by decide))
    have hb := hb.trans hbel
    refine L.va (x_asS rfl) ?_
    refine L.nil ?_
    refine B.nrm ?_
    show W _ _ _ _ _ _
    refine W.region rfl ?_
    refine L.va (x_inc rfl rfl (by omega)) ?_
    refine L.va (x_mvI rfl) ?_
    refine L.nil ?_
    refine T.nrm ?_
    exact ⟨_, by omega, ⟨i + 1, oa2, oc2, _, _, rfl, rfl, rfl, rfl, rfl, rfl, rfl, hb, by omega, hL, hP2⟩⟩
  · refine W.exit ?_
    repeat (first | refine T.exit ?_ | refine B.exitNe (by decide) ?_)
    refine B.exitEq ?_
    show W _ _ _ _ _ _
    refine W.seq ?_
    refine W.region rfl ?_
    refine L.va (x_mvS rfl) ?_
    refine L.va (x_asS rfl) ?_
    refine L.va (x_asI rfl) ?_
    refine L.nil ?_
    show W _ _ _ _ _ _
    refine W.ret ?_
    repeat (first | refine T.ret ?_ | refine B.ret ?_)
    refine ends.two (.inr rfl) rfl ?_
    obtain rfl : i = n := by omega
    exact ⟨oa, oc, R, CC, rfl, hP, hb⟩

theorem before_no (a : Option Addr) (n c : Nat) (E : Nat → Ev) (cl i j : Int) (w0 : World) (hE : EvAt w0 a n E) (hn : n ≤ 9223372036854775807) (hc : check E n cl ≠ 0) :
    C Try.prog 19 #[.slice a n c, .int .i64 cl, .int .i64 i, .int .i64 j] w0 fun v w' => v = .bool false ∧ Below w0.heap.size w0 w' := by
  refine C.enter (n := 49) Try.func19 rfl rfl ?_
  refine W.seq ?_
  refine W.region rfl ?_
  refine L.va (x_asB rfl) ?_
  refine L.nil ?_
  show W _ _ _ _ _ _
  refine W.seq ?_
  refine W.region rfl ?_
  refine L.va (x_mvS rfl) ?_
  refine L.va (x_mvI rfl) ?_
  refine L.call (x_call2 rfl rfl Try.func27 rfl nm27 rfl) (clocked_no a n c E cl w0 hE hn hc) ?_
  rintro _ w ⟨rfl, hb⟩
  refine L.va (x_mvT rfl) ?_
  refine L.va (x_extract rfl rfl) ?_
  refine L.va (x_extract rfl rfl) ?_
  refine L.va (x_asS rfl) ?_
  refine L.va (x_asI rfl) ?_
  refine L.nil ?_
  show W _ _ _ _ _ _
  refine W.seq ?_
  refine W.seq ?_
  refine W.region rfl ?_
  refine L.va (x_mvI rfl) ?_
  refine L.va (x_neq rfl rfl) ?_
  refine L.va (x_mvB rfl) ?_
  refine L.meetB 3 [19,20,21,22] 22 (.bool true) (tj := 19) rfl (fun hb19 => ?_) (fun hb19 => ?_) (fun f => ?_)
  · refine L.off rfl ?_
    refine L.off rfl ?_
    refine L.va (x_pickT rfl) ?_
    refine L.nil ?_
    refine ⟨rfl, congrArg Value.bool (rfl), ?_⟩
    exact Agree.upd rfl (Agree.upd rfl (Agree.upd rfl (Agree.upd rfl (Agree.refl _ _))))
  · refine L.on rfl ?_
    refine L.va (x_mvI rfl) ?_
    refine L.on rfl ?_
    refine L.va (x_lss rfl rfl) ?_
    refine L.va (x_pickF rfl) ?_
    refine L.nil ?_
    refine ⟨rfl, congrArg Value.bool (absurd hc (of_decide_eq_false hb19)), ?_⟩
    exact Agree.upd rfl (Agree.upd rfl (Agree.upd rfl (Agree.upd rfl (Agree.refl _ _))))
  refine L.va (x_mvB rfl) ?_
  refine L.meetB 3 [23,24,25,26] 26 (.bool true) (tj := 23) rfl (fun hb23 => ?_) (fun hb23 => ?_) (fun f => ?_)
  · refine L.off rfl ?_
    refine L.off rfl ?_
    refine L.va (x_pickT rfl) ?_
    refine L.nil ?_
    refine ⟨rfl, congrArg Value.bool (rfl), ?_⟩
    exact Agree.upd rfl (Agree.upd rfl (Agree.upd rfl (Agree.upd rfl (Agree.refl _ _))))
  · refine L.on rfl ?_
    refine L.va (x_mvI rfl) ?_
    refine L.on rfl ?_
    refine L.va (x_lss rfl rfl) ?_
    refine L.va (x_pickF rfl) ?_
    refine L.nil ?_
    refine ⟨rfl, congrArg Value.bool (by cases hb23), ?_⟩
    exact Agree.upd rfl (Agree.upd rfl (Agree.upd rfl (Agree.upd rfl (Agree.refl _ _))))
  refine L.va (x_mvB rfl) ?_
  refine L.meetB 5 [27,28,29,30,31,32] 32 (.bool true) (tj := 27) rfl (fun hb27 => ?_) (fun hb27 => ?_) (fun f => ?_)
  · refine L.off rfl ?_
    refine L.off rfl ?_
    refine L.off rfl ?_
    refine L.off rfl ?_
    refine L.va (x_pickT rfl) ?_
    refine L.nil ?_
    refine ⟨rfl, congrArg Value.bool (rfl), ?_⟩
    exact Agree.upd rfl (Agree.upd rfl (Agree.upd rfl (Agree.upd rfl (Agree.upd rfl (Agree.upd rfl (Agree.refl _ _))))))
  · refine L.on rfl ?_
    refine L.va (x_mvI rfl) ?_
    refine L.on rfl ?_
    refine L.va (x_mvS rfl) ?_
    refine L.on rfl ?_
    refine L.va (x_len rfl Try.underlying58 rfl) ?_
    refine L.on rfl ?_
    refine L.va (x_geq rfl rfl) ?_
    refine L.va (x_pickF rfl) ?_
    refine L.nil ?_
    refine ⟨rfl, congrArg Value.bool (by cases hb27), ?_⟩
    exact Agree.upd rfl (Agree.upd rfl (Agree.upd rfl (Agree.upd rfl (Agree.upd rfl (Agree.upd rfl (Agree.refl _ _))))))
  refine L.va (x_mvB rfl) ?_
  refine L.meetB 5 [33,34,35,36,37,38] 38 (.bool true) (tj := 33) rfl (fun hb33 => ?_) (fun hb33 => ?_) (fun f => ?_)
  · refine L.off rfl ?_
    refine L.off rfl ?_
    refine L.off rfl ?_
    refine L.off rfl ?_
    refine L.va (x_pickT rfl) ?_
    refine L.nil ?_
    refine ⟨rfl, congrArg Value.bool (rfl), ?_⟩
    exact Agree.upd rfl (Agree.upd rfl (Agree.upd rfl (Agree.upd rfl (Agree.upd rfl (Agree.upd rfl (Agree.refl _ _))))))
  · refine L.on rfl ?_
    refine L.va (x_mvI rfl) ?_
    refine L.on rfl ?_
    refine L.va (x_mvS rfl) ?_
    refine L.on rfl ?_
    refine L.va (x_len rfl Try.underlying58 rfl) ?_
    refine L.on rfl ?_
    refine L.va (x_geq rfl rfl) ?_
    refine L.va (x_pickF rfl) ?_
    refine L.nil ?_
    refine ⟨rfl, congrArg Value.bool (by cases hb33), ?_⟩
    exact Agree.upd rfl (Agree.upd rfl (Agree.upd rfl (Agree.upd rfl (Agree.upd rfl (Agree.upd rfl (Agree.refl _ _))))))
  refine L.nil ?_
  show W _ _ _ _ _ _
  refine W.condT rfl ?_
  refine W.seq ?_
  refine W.region rfl ?_
  refine L.va (x_asB rfl) ?_
  refine L.nil ?_
  show W _ _ _ _ _ _
  refine W.ret ?_
  repeat (first | refine T.ret ?_ | refine B.ret ?_)
  refine ends.one (.inr rfl) rfl ?_
  exact ⟨rfl, hb⟩

theorem before_ok (a : Option Addr) (n c : Nat) (E : Nat → Ev) (cl i j : Int) (w0 : World) (hE : EvAt w0 a n E) (hn : n ≤ 9223372036854775807) (hc : check E n cl = 0) :
    C Try.prog 19 #[.slice a n c, .int .i64 cl, .int .i64 i, .int .i64 j] w0 fun v w' => v = .bool (befR E n i j) ∧ Below w0.heap.size w0 w' := by
  refine C.enter (n := 49) Try.func19 rfl rfl ?_
  obtain ⟨-, hm16, -, hok⟩ := check_zero hc
  refine W.seq ?_
  refine W.region rfl ?_
  refine L.va (x_asB rfl) ?_
  refine L.nil ?_
  show W _ _ _ _ _ _
  refine W.seq ?_
  refine W.region rfl ?_
  refine L.va (x_mvS rfl) ?_
  refine L.va (x_mvI rfl) ?_
  refine L.call (x_call2 rfl rfl Try.func27 rfl nm27 rfl) (clocked_ok a n c E cl w0 hE hn hc) ?_
  rintro _ w ⟨bl, rfl, hL, hb⟩
  have hE := hE.below hb
  refine L.va (x_mvT rfl) ?_
  refine L.va (x_extract rfl rfl) ?_
  refine L.va (x_extract rfl rfl) ?_
  refine L.va (x_asS rfl) ?_
  refine L.va (x_asI rfl) ?_
  refine L.nil ?_
  show W _ _ _ _ _ _
  refine W.seq ?_
  refine W.seq ?_
  refine W.region rfl ?_
  refine L.va (x_mvI rfl) ?_
  refine L.va (x_neq rfl rfl) ?_
  refine L.va (x_mvB rfl) ?_
  refine L.meetB 3 [19,20,21,22] 22 (.bool (decide (i < 0))) (tj := 19) rfl (fun hb19 => ?_) (fun hb19 => ?_) (fun f => ?_)
  · refine L.off rfl ?_
    refine L.off rfl ?_
    refine L.va (x_pickT rfl) ?_
    refine L.nil ?_
    refine ⟨rfl, congrArg Value.bool (by simp at hb19), ?_⟩
    exact Agree.upd rfl (Agree.upd rfl (Agree.upd rfl (Agree.upd rfl (Agree.refl _ _))))
  · refine L.on rfl ?_
    refine L.va (x_mvI rfl) ?_
    refine L.on rfl ?_
    refine L.va (x_lss rfl rfl) ?_
    refine L.va (x_pickF rfl) ?_
    refine L.nil ?_
    refine ⟨rfl, congrArg Value.bool (rfl), ?_⟩
    exact Agree.upd rfl (Agree.upd rfl (Agree.upd rfl (Agree.upd rfl (Agree.refl _ _))))
  refine L.va (x_mvB rfl) ?_
  refine L.meetB 3 [23,24,25,26] 26 (.bool (decide (i < 0 ∨ j < 0))) (tj := 23) rfl (fun hb23 => ?_) (fun hb23 => ?_) (fun f => ?_)
  · refine L.off rfl ?_
    refine L.off rfl ?_
    refine L.va (x_pickT rfl) ?_
    refine L.nil ?_
    refine ⟨rfl, congrArg Value.bool (by first | exact or_t hb23 | (simp_all; done) | (rw [Bool.eq_iff_iff]; simp_all; omega)), ?_⟩
    exact Agree.upd rfl (Agree.upd rfl (Agree.upd rfl (Agree.upd rfl (Agree.refl _ _))))
  · refine L.on rfl ?_
    refine L.va (x_mvI rfl) ?_
    refine L.on rfl ?_
    refine L.va (x_lss rfl rfl) ?_
    refine L.va (x_pickF rfl) ?_
    refine L.nil ?_
    refine ⟨rfl, congrArg Value.bool (by first | exact or_f hb23 | (simp_all; done) | (rw [Bool.eq_iff_iff]; simp_all; omega)), ?_⟩
    exact Agree.upd rfl (Agree.upd rfl (Agree.upd rfl (Agree.upd rfl (Agree.refl _ _))))
  refine L.va (x_mvB rfl) ?_
  refine L.meetB 5 [27,28,29,30,31,32] 32 (.bool (decide ((i < 0 ∨ j < 0) ∨ (n : Int) ≤ i))) (tj := 27) rfl (fun hb27 => ?_) (fun hb27 => ?_) (fun f => ?_)
  · refine L.off rfl ?_
    refine L.off rfl ?_
    refine L.off rfl ?_
    refine L.off rfl ?_
    refine L.va (x_pickT rfl) ?_
    refine L.nil ?_
    refine ⟨rfl, congrArg Value.bool (by first | exact or_t hb27 | (simp_all; done) | (rw [Bool.eq_iff_iff]; simp_all; omega)), ?_⟩
    exact Agree.upd rfl (Agree.upd rfl (Agree.upd rfl (Agree.upd rfl (Agree.upd rfl (Agree.upd rfl (Agree.refl _ _))))))
  · refine L.on rfl ?_
    refine L.va (x_mvI rfl) ?_
    refine L.on rfl ?_
    refine L.va (x_mvS rfl) ?_
    refine L.on rfl ?_
    refine L.va (x_len rfl Try.underlying58 rfl) ?_
    refine L.on rfl ?_
    refine L.va (x_geq rfl rfl) ?_
    refine L.va (x_pickF rfl) ?_
    refine L.nil ?_
    refine ⟨rfl, congrArg Value.bool (by first | exact or_f hb27 | (simp_all; done) | (rw [Bool.eq_iff_iff]; simp_all; omega)), ?_⟩
    exact Agree.upd rfl (Agree.upd rfl (Agree.upd rfl (Agree.upd rfl (Agree.upd rfl (Agree.upd rfl (Agree.refl _ _))))))
  refine L.va (x_mvB rfl) ?_
  refine L.meetB 5 [33,34,35,36,37,38] 38 (.bool (decide (((i < 0 ∨ j < 0) ∨ (n : Int) ≤ i) ∨ (n : Int) ≤ j))) (tj := 33) rfl (fun hb33 => ?_) (fun hb33 => ?_) (fun f => ?_)
  · refine L.off rfl ?_
    refine L.off rfl ?_
    refine L.off rfl ?_
    refine L.off rfl ?_
    refine L.va (x_pickT rfl) ?_
    refine L.nil ?_
    refine ⟨rfl, congrArg Value.bool (by first | exact or_t hb33 | (simp_all; done) | (rw [Bool.eq_iff_iff]; simp_all; omega)), ?_⟩
    exact Agree.upd rfl (Agree.upd rfl (Agree.upd rfl (Agree.upd rfl (Agree.upd rfl (Agree.upd rfl (Agree.refl _ _))))))
  · refine L.on rfl ?_
    refine L.va (x_mvI rfl) ?_
    refine L.on rfl ?_
    refine L.va (x_mvS rfl) ?_
    refine L.on rfl ?_
    refine L.va (x_len rfl Try.underlying58 rfl) ?_
    refine L.on rfl ?_
    refine L.va (x_geq rfl rfl) ?_
    refine L.va (x_pickF rfl) ?_
    refine L.nil ?_
    refine ⟨rfl, congrArg Value.bool (by first | exact or_f hb33 | (simp_all; done) | (rw [Bool.eq_iff_iff]; simp_all; omega)), ?_⟩
    exact Agree.upd rfl (Agree.upd rfl (Agree.upd rfl (Agree.upd rfl (Agree.upd rfl (Agree.upd rfl (Agree.refl _ _))))))
  refine L.nil ?_
  show W _ _ _ _ _ _
  refine W.condP rfl (fun h38 => ?_) (fun h38 => ?_)
  · refine W.seq ?_
    refine W.region rfl ?_
    refine L.va (x_asB rfl) ?_
    refine L.nil ?_
    show W _ _ _ _ _ _
    refine W.ret ?_
    repeat (first | refine T.ret ?_ | refine B.ret ?_)
    refine ends.one (.inr rfl) rfl ?_
    exact ⟨by unfold befR; rw [if_pos h38]; rfl, hb⟩
  · refine W.skip ?_
    show W _ _ _ _ _ _
    refine W.seq ?_
    have hne := h38
    obtain ⟨i, rfl⟩ := Int.eq_ofNat_of_zero_le (show 0 ≤ i by omega)
    obtain ⟨j, rfl⟩ := Int.eq_ofNat_of_zero_le (show 0 ≤ j by omega)
    obtain ⟨hi0, hi1, -, -⟩ := hok.at (show i < n by omega)
    refine W.region rfl ?_
    refine L.va (x_mvI rfl) ?_
    refine L.va (x_mvI rfl) ?_
    refine L.va (x_lss rfl rfl) ?_
    refine L.va (x_mvB rfl) ?_
    refine L.meetW 6 [42,43,44,45,46,47,48] 48 (.bool (ahB E i j)) (tj := 42) (fun w' => Below w.heap.size w w') rfl (fun hb42 => ?_) (fun hb42 => ?_) (fun f w hm => ?_)
    · have hm := Below.refl w.heap.size w
      refine L.on rfl ?_
      refine L.va (x_mvS rfl) ?_
      refine L.on rfl ?_
      refine L.va (x_mvS rfl) ?_
      refine L.on rfl ?_
      refine L.va (x_mvI rfl) ?_
      refine L.on rfl ?_
      refine L.va (x_mvI rfl) ?_
      refine L.on rfl ?_
      refine L.call (x_call4 rfl rfl rfl rfl Try.func29 rfl nm29 rfl) (ahead29_c a n c E bl i j w hE hL (by omega) (by omega) hi0 (by omega)) ?_
      rintro _ w ⟨rfl, hbw⟩
      have hm := cl_step hm hbw
      refine L.va (x_pickT rfl) ?_
      refine L.nil ?_
      refine ⟨hm, congrArg Value.bool (by rw [← ahB_clk E hok (by omega) (by omega)]; rw [show decide (i < j) = true by simpa using hb42]; rfl), ?_⟩
      exact Agree.upd rfl (Agree.upd rfl (Agree.upd rfl (Agree.upd rfl (Agree.upd rfl (Agree.upd rfl (Agree.upd rfl (Agree.refl _ _)))))))
    · have hm := Below.refl w.heap.size w
      refine L.off rfl ?_
      refine L.off rfl ?_
      refine L.off rfl ?_
      refine L.off rfl ?_
      refine L.off rfl ?_
      refine L.va (x_pickF rfl) ?_
      refine L.nil ?_
      refine ⟨hm, congrArg Value.bool (by rw [← ahB_clk E hok (by omega) (by omega)]; rw [show decide (i < j) = false by simpa using hb42]; rfl), ?_⟩
      exact Agree.upd rfl (Agree.upd rfl (Agree.upd rfl (Agree.upd rfl (Agree.upd rfl (Agree.upd rfl (Agree.upd rfl (Agree.refl _ _)))))))
    have hb := cl_step hb hm
    refine L.va (x_asB rfl) ?_
    refine L.nil ?_
    show W _ _ _ _ _ _
    refine W.ret ?_
    repeat (first | refine T.ret ?_ | refine B.ret ?_)
    refine ends.one (.inr rfl) rfl ?_
    exact ⟨by unfold befR; rw [if_neg hne]; rfl, hb⟩

end Go.Proofs.Ytlopdjbehhdmpaa
