/- Contracts: the program's races. -/
import Derived.Test.YtlopdjbehhdmpaaBase7
namespace Go.Proofs.Ytlopdjbehhdmpaa
open Go.Vc Go.RowKit

theorem praces_no (a : Option Addr) (n c : Nat) (E : Nat → Ev) (cl : Int) (w0 : World) (hE : EvAt w0 a n E) (hn : n ≤ 9223372036854775807) (hc : check E n cl ≠ 0) :
    C Try.prog 22 #[.slice a n c, .int .i64 cl] w0 fun v w' => v = .tuple #[.slice none 0 0, .int .i64 (check E n cl)] ∧ Below w0.heap.size w0 w' := by
  refine C.enter (n := 101) Try.func22 rfl rfl ?_
  refine W.seq ?_
  refine W.region rfl ?_
  refine L.va (x_asS rfl) ?_
  refine L.va (x_asI rfl) ?_
  refine L.nil ?_
  show W _ _ _ _ _ _
  refine W.seq ?_
  refine W.region rfl ?_
  refine L.va (x_mvS rfl) ?_
  refine L.va (x_mvI rfl) ?_
  refine L.call (x_call2 rfl rfl Try.func27 rfl nm27 rfl) (clocked_no a n c E cl w0 hE hn hc) ?_
  rintro _ w ⟨rfl, hb⟩
  refine L.va (x_mvT rfl) ?_
  refine L.va (x_extract rfl rfl) ?_
  refine L.va (x_extract rfl rfl) ?_
  refine L.va (x_asS rfl) ?_
  refine L.va (x_asI rfl) ?_
  refine L.nil ?_
  show W _ _ _ _ _ _
  refine W.seq ?_
  refine W.seq ?_
  refine W.region rfl ?_
  refine L.va (x_mvI rfl) ?_
  refine L.va (x_neq rfl rfl) ?_
  refine L.nil ?_
  show W _ _ _ _ _ _
  refine W.condT (rb (decide_eq_true hc)) ?_
  refine W.seq ?_
  refine W.region rfl ?_
  refine L.va (x_mvI rfl) ?_
  refine L.va (x_asS rfl) ?_
  refine L.va (x_asI rfl) ?_
  refine L.nil ?_
  show W _ _ _ _ _ _
  refine W.ret ?_
  repeat (first | refine T.ret ?_ | refine B.ret ?_)
  refine ends.two (.inr rfl) rfl ?_
  exact ⟨rfl, hb⟩

set_option maxHeartbeats 1000000 in
theorem praces_ok (a : Option Addr) (n c : Nat) (E : Nat → Ev) (cl : Int) (w0 : World) (hE : EvAt w0 a n E) (hc : check E n cl = 0) :
    C Try.prog 22 #[.slice a n c, .int .i64 cl] w0 fun v w' => ∃ oa oc, v = .tuple #[.slice oa (racesL E n).length oc, .int .i64 0] ∧ PairsAt w' oa (racesL E n) ∧ Below w0.heap.size w0 w' := by
  refine C.enter (n := 101) Try.func22 rfl rfl ?_
  obtain ⟨-, hm16, hn, hok⟩ := check_zero hc
  refine W.seq ?_
  refine W.region rfl ?_
  refine L.va (x_asS rfl) ?_
  refine L.va (x_asI rfl) ?_
  refine L.nil ?_
  show W _ _ _ _ _ _
  refine W.seq ?_
  refine W.region rfl ?_
  refine L.va (x_mvS rfl) ?_
  refine L.va (x_mvI rfl) ?_
  refine L.call (x_call2 rfl rfl Try.func27 rfl nm27 rfl) (clocked_ok a n c E cl w0 hE (by omega) hc) ?_
  rintro _ w ⟨bl, rfl, hL, hb⟩
  refine L.va (x_mvT rfl) ?_
  refine L.va (x_extract rfl rfl) ?_
  refine L.va (x_extract rfl rfl) ?_
  refine L.va (x_asS rfl) ?_
  refine L.va (x_asI rfl) ?_
  refine L.nil ?_
  show W _ _ _ _ _ _
  refine W.seq ?_
  refine W.seq ?_
  refine W.region rfl ?_
  refine L.va (x_mvI rfl) ?_
  refine L.va (x_neq rfl rfl) ?_
  refine L.nil ?_
  show W _ _ _ _ _ _
  refine W.condF (rb (decide_eq_false (by simp))) ?_
  refine W.skip ?_
  show W _ _ _ _ _ _
  refine W.seq ?_
  refine W.region rfl ?_
  refine L.va x_makeMap ?_
  have hOf := OfAt.start w w0.heap.size E
  have hr : w0.heap.size ≤ w.heap.size := hb.size
  have hba := below_alloc w (.map #[] 0)
  have hL := hL.keep hba
  have hb := cl_step hb hba
  clear hba
  generalize w.alloc (.map #[] 0) = w2 at hb hL hOf ⊢
  generalize w.heap.size = r at hr hOf ⊢
  generalize w2 = w at hb hL hOf ⊢
  refine L.va (x_asM rfl) ?_
  refine L.nil ?_
  show W _ _ _ _ _ _
  refine W.seq ?_
  refine W.region rfl ?_
  refine L.va (x_asS rfl) ?_
  refine L.nil ?_
  show W _ _ _ _ _ _
  refine W.seq ?_
  refine W.seq ?_
  refine W.region rfl ?_
  refine L.va (x_mvS rfl) ?_
  refine L.va (x_len rfl Try.underlying25 rfl) ?_
  refine L.va (x_mvI rfl) ?_
  refine L.nil ?_
  show W _ _ _ _ _ _
  refine W.block ?_
  refine W.loop (fun k e w => ∃ j : Nat, ∃ oa : Option Addr, ∃ oc : Nat, ∃ A : Int × Int → Option Addr, ∃ Cc : Int × Int → Nat, k = n - j ∧ e 0 = .slice a n c ∧ e 6 = .slice (some ⟨bl, 0, none⟩) n n ∧ e 8 = .map (some r) ∧ e 9 = .slice oa (racesL E j).length oc ∧ e 27 = .slice a n c ∧ e 28 = .int .i64 (n : Int) ∧ e 29 = .int .i64 (j : Int) ∧ Below w0.heap.size w0 w ∧ j ≤ n ∧ Blk w bl (arr (n * 16) (ints (rowF n (clk E)))) 62 ∧ Own w w0.heap.size 56 2 oa (racesL E j).length oc (prC (racesL E j)) ∧ OfAt w w0.heap.size r E j A Cc) _ ⟨0, none, 0, _, _, rfl, rfl, rfl, rfl, rfl, rfl, rfl, rfl, hb, Nat.zero_le _, hL, Own.nil _ _ _ _, hOf⟩ ?_
  rintro k e w ⟨j, oa, oc, A, Cc, hk, s0, s6, s8, s9, s27, s28, s29, hb, hjn, hL, hO, hOf⟩
  rw [upd_id s0, upd_id s6, upd_id s8, upd_id s9, upd_id s27, upd_id s28, upd_id s29]
  clear s0 s6 s8 s9 s27 s28 s29
  refine W.seq ?_
  refine W.region rfl ?_
  refine L.va (x_lss rfl rfl) ?_
  refine L.nil ?_
  show W _ _ _ _ _ _
  refine W.seq ?_
  refine W.condP rfl (fun h30 => ?_) (fun h30 => ?_)
  · refine W.skip ?_
    show W _ _ _ _ _ _
    refine W.seq ?_
    refine W.block ?_
    refine W.seq ?_
    have hj : j < n := by omega
    refine W.region rfl ?_
    refine L.va (x_mvI rfl) ?_
    refine L.va (x_idx rfl rfl Try.underlying25 sz53 (hE.sl) (by omega)) ?_
    refine L.va (x_loadAgg rfl Try.underlying53 rfl sz53 rfl (bagg hb (hE.all hj))) ?_
    refine L.alloc zr53 rfl (fun w b11 F11 => ?_)
    have h11 : w0.heap.size ≤ b11 := by have := F11.here; have := hb.size; omega
    have hL := hL.keep F11.below
    have hO := hO.keep F11.below
    have hOf := hOf.keep F11.below
    have hb := cl_step hb F11.below
    refine L.va (x_asI rfl) ?_
    refine L.storeAll (vs := [Value.int .i64 (E j).c, .int .i64 (E j).k, .int .i64 (E j).o, .int .i64 (E j).n]) rfl rfl rfl sz53 rfl rfl (by simp [Value.oneCell']) F11.blk (fun w hB11 hg hsz => ?_)
    have hL := hL.grown hg (by have := hL.ne F11.blk (by decide); simpa using this)
    have hO := own_other hO hg F11.blk (by decide)
    have hOf := hOf.other hg F11.blk (by decide)
    have hb := below_gr hb hb.size hg h11
    refine L.nil ?_
    show W _ _ _ _ _ _
    refine W.seq ?_
    refine W.seq ?_
    refine W.region rfl ?_
    refine L.va (x_field rfl Try.underlying53 rfl sz51 (by decide)) ?_
    refine L.va (x_field rfl Try.underlying51 rfl sz3 (by decide)) ?_
    refine L.va (x_load rfl Try.underlying3 rfl (hB11.cell (v := .int .i64 (E j).k) rfl)) ?_
    refine L.call (x_call1 rfl Try.func31 rfl nm31 rfl) (accesses_c _ _) ?_
    rintro _ w ⟨rfl, hw⟩
    rw [hw]
    clear hw w
    refine L.va (x_not rfl) ?_
    refine L.nil ?_
    show W _ _ _ _ _ _
    refine W.cond rfl (fun h38 => ?_) (fun h38 => ?_)
    · refine W.exit ?_
      repeat (first | refine T.exit ?_ | refine B.exitNe (by decide) ?_)
      refine B.exitEq ?_
      show W _ _ _ _ _ _
      refine W.region rfl ?_
      refine L.va (x_inc rfl rfl (by omega)) ?_
      refine L.va (x_mvI rfl) ?_
      refine L.nil ?_
      refine T.nrm ?_
      have hacc : ¬ acc (E j) := by unfold acc; simpa using h38
      have hR : racesL E (j + 1) = racesL E j := racesL_none (noacc_none hacc)
      rw [show (racesL E j).length = (racesL E (j + 1)).length by rw [hR]]
      exact ⟨_, by omega, ⟨j + 1, oa, oc, A, Cc, rfl, rfl, rfl, rfl, rfl, rfl, rfl, rfl, hb, by omega, hL, by rw [hR]; exact hO, hOf.skip hacc⟩⟩
    · have hacc : acc (E j) := by unfold acc; by_cases h8 : (E j).k = 8; exact .inl h8; exact .inr (by simpa [h8] using h38)
      refine W.skip ?_
      show W _ _ _ _ _ _
      refine W.seq ?_
      refine W.region rfl ?_
      refine L.va (x_field rfl Try.underlying53 rfl sz51 (by decide)) ?_
      refine L.va (x_field rfl Try.underlying51 rfl sz3 (by decide)) ?_
      refine L.va (x_load rfl Try.underlying3 rfl (hB11.cell (v := .int .i64 (E j).o) rfl)) ?_
      refine L.va (x_field rfl Try.underlying53 rfl sz51 (by decide)) ?_
      refine L.va (x_field rfl Try.underlying51 rfl sz3 (by decide)) ?_
      refine L.va (x_load rfl Try.underlying3 rfl (hB11.cell (v := .int .i64 (E j).n) rfl)) ?_
      refine L.va (x_build (parts := [(0, .tmp 41), (1, .tmp 44)]) rfl (bu68 _ _)) ?_
      refine L.alloc zr68 rfl (fun w b12 F12 => ?_)
      have h12 : w0.heap.size ≤ b12 := by have := F12.here; have := hb.size; omega
      have hL := hL.keep F12.below
      have hO := hO.keep F12.below
      have hOf := hOf.keep F12.below
      have hB11 := hB11.keep F12.below
      have hb := cl_step hb F12.below
      refine L.storeAll (vs := [.int .i64 (E j).o, .int .i64 (E j).n]) rfl rfl rfl sz68 rfl rfl (by simp [Value.oneCell']) F12.blk (fun w hB12 hg hsz => ?_)
      have hL := hL.grown hg (by have := hL.ne F12.blk (by decide); simpa using this)
      have hO := own_other hO hg F12.blk (by decide)
      have hOf := hOf.other hg F12.blk (by decide)
      have hB11 := hB11.grown hg (by have := hB11.ne F12.blk (by decide); simpa using this)
      have hb := below_gr hb hb.size hg h12
      refine L.nil ?_
      show W _ _ _ _ _ _
      refine W.seq ?_
      refine W.seq ?_
      refine W.region rfl ?_
      refine L.va (x_mvM rfl) ?_
      refine L.va (x_loadAgg rfl Try.underlying68 rfl sz68 rfl (hB12.all)) ?_
      obtain ⟨Lm, sa, sc, hM, hv, hS, -, -⟩ := hOf.at ((E j).o, (E j).n)
      refine L.va ((x_lookup (a := ((E j).o, (E j).n)) Try.underlying65 key68 zr34 rfl rfl hM).trans (by rw [hv])) ?_
      refine L.va (x_len rfl Try.underlying34 rfl) ?_
      refine L.va (x_mvI rfl) ?_
      refine L.nil ?_
      show W _ _ _ _ _ _
      refine W.block ?_
      have hixl := idxL_len E ((E j).o, (E j).n) j
      clear hM
      refine W.loop (fun k e w => ∃ s : Nat, k = (idxL E j ((E j).o, (E j).n)).length - s ∧ e 0 = .slice a n c ∧ e 6 = .slice (some ⟨bl, 0, none⟩) n n ∧ e 8 = .map (some r) ∧ e 9 = .slice oa (racesL E j).length oc ∧ e 10 = .int .i64 (j : Int) ∧ e 11 = .pointer (some ⟨b11, 0, none⟩) ∧ e 12 = .pointer (some ⟨b12, 0, none⟩) ∧ e 27 = .slice a n c ∧ e 28 = .int .i64 (n : Int) ∧ e 29 = .int .i64 (j : Int) ∧ e 48 = .slice sa (idxL E j ((E j).o, (E j).n)).length sc ∧ e 49 = .int .i64 ((idxL E j ((E j).o, (E j).n)).length : Int) ∧ e 50 = .int .i64 (s : Int) ∧ Below w0.heap.size w0 w ∧ s ≤ (idxL E j ((E j).o, (E j).n)).length ∧ Blk w bl (arr (n * 16) (ints (rowF n (clk E)))) 62 ∧ Own w w0.heap.size 56 2 oa (racesL E j).length oc (prC (racesL E j)) ∧ OfAt w w0.heap.size r E j A Cc ∧ Blk w b11 (List.toArray [Value.int .i64 (E j).c, .int .i64 (E j).k, .int .i64 (E j).o, .int .i64 (E j).n]) 53 ∧ Blk w b12 (List.toArray [Value.int .i64 (E j).o, .int .i64 (E j).n]) 68 ∧ Own w w0.heap.size 3 1 sa (idxL E j ((E j).o, (E j).n)).length sc (intV (idxL E j ((E j).o, (E j).n))) ∧ ∀ t x, t < s → (idxL E j ((E j).o, (E j).n))[t]? = some x → raceB E x j = false) _ ⟨0, rfl, rfl, rfl, rfl, rfl, rfl, rfl, rfl, rfl, rfl, rfl, rfl, rfl, rfl, hb, Nat.zero_le _, hL, hO, hOf, hB11, hB12, hS, fun t x ht => absurd ht (Nat.not_lt_zero t)⟩ ?_
      rintro k e w ⟨s, hk, s0, s6, s8, s9, s10, s11, s12, s27, s28, s29, s48, s49, s50, hb, hs, hL, hO, hOf, hB11, hB12, hS, hno⟩
      rw [upd_id s0, upd_id s6, upd_id s8, upd_id s9, upd_id s10, upd_id s11, upd_id s12, upd_id s27, upd_id s28, upd_id s29, upd_id s48, upd_id s49, upd_id s50]
      clear s0 s6 s8 s9 s10 s11 s12 s27 s28 s29 s48 s49 s50
      refine W.seq ?_
      refine W.region rfl ?_
      refine L.va (x_lss rfl rfl) ?_
      refine L.nil ?_
      show W _ _ _ _ _ _
      refine W.seq ?_
      refine W.condP rfl (fun h51 => ?_) (fun h51 => ?_)
      · refine W.skip ?_
        show W _ _ _ _ _ _
        refine W.seq ?_
        refine W.block ?_
        refine W.seq ?_
        obtain ⟨i, hi⟩ : ∃ i, (idxL E j ((E j).o, (E j).n))[s]? = some i := ⟨(idxL E j ((E j).o, (E j).n))[s]'(by omega), List.getElem?_eq_getElem (by omega)⟩
        have him := List.mem_of_getElem? hi
        have hij : i < j := (idxL_mem.1 him).1
        obtain ⟨hci0, hci1, -, -⟩ := hok.at (show i < n by omega)
        refine W.region rfl ?_
        refine L.va (x_idx rfl rfl Try.underlying34 sz3 (hS.sl) (by omega)) ?_
        refine L.va (x_load rfl Try.underlying3 rfl (by rw [hS.off, Nat.zero_add, Nat.mul_one]; exact hS.cell (intV_get hi))) ?_
        refine L.va (x_asI rfl) ?_
        refine L.nil ?_
        show W _ _ _ _ _ _
        refine W.seq ?_
        refine W.region rfl ?_
        refine L.va (x_mvS rfl) ?_
        refine L.va (x_mvI rfl) ?_
        refine L.va (x_idx rfl rfl Try.underlying25 sz53 (hE.sl) (by omega)) ?_
        refine L.va (x_loadAgg rfl Try.underlying53 rfl sz53 rfl (bagg hb (hE.all (by omega)))) ?_
        refine L.alloc zr53 rfl (fun w b15 F15 => ?_)
        have hn15 : b11 ≠ b15 := by have := F15.here; have := hB11.lt; omega
        have h15 : w0.heap.size ≤ b15 := by have := F15.here; have := hb.size; omega
        have hL := hL.keep F15.below
        have hO := hO.keep F15.below
        have hOf := hOf.keep F15.below
        have hB11 := hB11.keep F15.below
        have hB12 := hB12.keep F15.below
        have hS := hS.keep F15.below
        have hb := cl_step hb F15.below
        refine L.storeAll (vs := [Value.int .i64 (E i).c, .int .i64 (E i).k, .int .i64 (E i).o, .int .i64 (E i).n]) rfl rfl rfl sz53 rfl rfl (by simp [Value.oneCell']) F15.blk (fun w hB15 hg hsz => ?_)
        have hL := hL.grown hg (by have := hL.ne F15.blk (by decide); simpa using this)
        have hO := own_other hO hg F15.blk (by decide)
        have hOf := hOf.other hg F15.blk (by decide)
        have hB12 := hB12.grown hg (by have := hB12.ne F15.blk (by decide); simpa using this)
        have hB11 := hB11.grown hg (by simpa using hn15)
        have hS := own_other hS hg F15.blk (by decide)
        have hb := below_gr hb hb.size hg h15
        refine L.nil ?_
        show W _ _ _ _ _ _
        refine W.seq ?_
        refine W.region rfl ?_
        refine L.va (x_field rfl Try.underlying53 rfl sz51 (by decide)) ?_
        refine L.va (x_field rfl Try.underlying51 rfl sz3 (by decide)) ?_
        refine L.va (x_load rfl Try.underlying3 rfl (hB15.cell (v := .int .i64 (E i).k) rfl)) ?_
        refine L.va (x_eql rfl rfl) ?_
        refine L.va (x_mvB rfl) ?_
        refine L.meetB 5 [62,63,64,65,66,67] 67 (.bool (decide ((E i).k = 9 ∨ (E j).k = 9))) (tj := 62) rfl (fun hb62 => ?_) (fun hb62 => ?_) (fun f => ?_)
        · refine L.off rfl ?_
          refine L.off rfl ?_
          refine L.off rfl ?_
          refine L.off rfl ?_
          refine L.va (x_pickT rfl) ?_
          refine L.nil ?_
          refine ⟨rfl, congrArg Value.bool (by first | exact or_t hb62 | (simp_all; done) | (rw [Bool.eq_iff_iff]; simp_all; omega)), ?_⟩
          exact Agree.upd rfl (Agree.upd rfl (Agree.upd rfl (Agree.upd rfl (Agree.upd rfl (Agree.upd rfl (Agree.refl _ _))))))
        · refine L.on rfl ?_
          refine L.va (x_field rfl Try.underlying53 rfl sz51 (by decide)) ?_
          refine L.on rfl ?_
          refine L.va (x_field rfl Try.underlying51 rfl sz3 (by decide)) ?_
          refine L.on rfl ?_
          refine L.va (x_load rfl Try.underlying3 rfl (hB11.cell (v := .int .i64 (E j).k) rfl)) ?_
          refine L.on rfl ?_
          refine L.va (x_eql rfl rfl) ?_
          refine L.va (x_pickF rfl) ?_
          refine L.nil ?_
          refine ⟨rfl, congrArg Value.bool (by first | exact or_f hb62 | (simp_all; done) | (rw [Bool.eq_iff_iff]; simp_all; omega)), ?_⟩
          exact Agree.upd rfl (Agree.upd rfl (Agree.upd rfl (Agree.upd rfl (Agree.upd rfl (Agree.upd rfl (Agree.refl _ _))))))
        refine L.va (x_asB rfl) ?_
        refine L.nil ?_
        show W _ _ _ _ _ _
        refine W.seq ?_
        refine W.region rfl ?_
        refine L.va (x_field rfl Try.underlying53 rfl sz3 (by decide)) ?_
        refine L.va (x_load rfl Try.underlying3 rfl (hB15.cell (v := .int .i64 (E i).c) rfl)) ?_
        refine L.va (x_field rfl Try.underlying53 rfl sz3 (by decide)) ?_
        refine L.va (x_load rfl Try.underlying3 rfl (hB11.cell (v := .int .i64 (E j).c) rfl)) ?_
        refine L.va (x_neq rfl rfl) ?_
        refine L.va (x_mvB rfl) ?_
        refine L.meetB 2 [73,74,75] 75 (.bool (decide ((E i).c ≠ (E j).c ∧ ((E i).k = 9 ∨ (E j).k = 9)))) (tj := 73) rfl (fun hb73 => ?_) (fun hb73 => ?_) (fun f => ?_)
        · refine L.on rfl ?_
          refine L.va (x_mvB rfl) ?_
          refine L.va (x_pickT rfl) ?_
          refine L.nil ?_
          refine ⟨rfl, congrArg Value.bool (by first | exact and_t hb73 | (simp_all; done) | (rw [Bool.eq_iff_iff]; simp_all; omega)), ?_⟩
          exact Agree.upd rfl (Agree.upd rfl (Agree.upd rfl (Agree.refl _ _)))
        · refine L.off rfl ?_
          refine L.va (x_pickF rfl) ?_
          refine L.nil ?_
          refine ⟨rfl, congrArg Value.bool (by first | exact and_f hb73 | (simp_all; done) | (rw [Bool.eq_iff_iff]; simp_all; omega)), ?_⟩
          exact Agree.upd rfl (Agree.upd rfl (Agree.upd rfl (Agree.refl _ _)))
        refine L.va (x_mvB rfl) ?_
        refine L.meetW 7 [76,77,78,79,80,81,82,83] 83 (.bool (raceB E i j)) (tj := 76) (fun w' => Below w.heap.size w w') rfl (fun hb76 => ?_) (fun hb76 => ?_) (fun f w hm => ?_)
        · have hm := Below.refl w.heap.size w
          refine L.on rfl ?_
          refine L.va (x_mvS rfl) ?_
          refine L.on rfl ?_
          refine L.va (x_mvS rfl) ?_
          refine L.on rfl ?_
          refine L.va (x_mvI rfl) ?_
          refine L.on rfl ?_
          refine L.va (x_mvI rfl) ?_
          refine L.on rfl ?_
          refine L.call (x_call4 rfl rfl rfl rfl Try.func29 rfl nm29 rfl) (ahead29_c a n c E bl i j w (hE.below hb) hL (by omega) (by omega) hci0 (by omega)) ?_
          rintro _ w ⟨rfl, hbw⟩
          have hm := cl_step hm hbw
          refine L.on rfl ?_
          refine L.va (x_not rfl) ?_
          refine L.va (x_pickT rfl) ?_
          refine L.nil ?_
          refine ⟨hm, congrArg Value.bool (by rw [raceB_at rfl hacc him, hb76, ← ahB_clk E hok (by omega) (by omega), decide_eq_true hij]; rfl), ?_⟩
          exact Agree.upd rfl (Agree.upd rfl (Agree.upd rfl (Agree.upd rfl (Agree.upd rfl (Agree.upd rfl (Agree.upd rfl (Agree.upd rfl (Agree.refl _ _))))))))
        · have hm := Below.refl w.heap.size w
          refine L.off rfl ?_
          refine L.off rfl ?_
          refine L.off rfl ?_
          refine L.off rfl ?_
          refine L.off rfl ?_
          refine L.off rfl ?_
          refine L.va (x_pickF rfl) ?_
          refine L.nil ?_
          refine ⟨hm, congrArg Value.bool (by rw [raceB_at rfl hacc him, hb76]; rfl), ?_⟩
          exact Agree.upd rfl (Agree.upd rfl (Agree.upd rfl (Agree.upd rfl (Agree.upd rfl (Agree.upd rfl (Agree.upd rfl (Agree.upd rfl (Agree.refl _ _))))))))
        have hL := hL.keep hm
        have hO := hO.keep hm
        have hOf := hOf.keep hm
        have hB11 := hB11.keep hm
        have hB12 := hB12.keep hm
        have hS := hS.keep hm
        have hb := cl_step hb hm
        refine L.nil ?_
        show W _ _ _ _ _ _
        refine W.cond rfl (fun h83 => ?_) (fun h83 => ?_)
        · refine W.seq ?_
          refine W.region rfl ?_
          refine L.va (x_mvS rfl) ?_
          refine L.va (x_mvI rfl) ?_
          refine L.va (x_mvI rfl) ?_
          refine L.va (x_build (parts := [(0, .tmp 85), (1, .tmp 86)]) rfl (bu56 _ _)) ?_
          refine L.build1 rfl rfl Try.underlying41 sz56 rfl ⟨_, zr56⟩ (by decide) (fun w b88 F88 => ?_)
          have hL := hL.keep F88.below
          have hO := hO.keep F88.below
          have hOf := hOf.keep F88.below
          have hB12 := hB12.keep F88.below
          have hb := cl_step hb F88.below
          have hlen := racesL_len E j
          refine L.append (B := w0.heap.size) rfl rfl Try.underlying41 in56 rfl (by decide) hO (news := [.int .i64 (i : Int), .int .i64 (j : Int)]) rfl (fun q u hq => ?_) (fun u hu => by simp at hu; rcases hu with rfl | rfl <;> rfl) (by omega) (by omega) hb.size (fun oa2 oc2 w hO2 hg hbel _ => ?_)
          · rw [Addr.add_lit]
            match q, hq with
            | 0, hq => cases hq; exact F88.blk.cell rfl
            | 1, hq => cases hq; exact F88.blk.cell rfl
          have hOf := hOf.app hO hg (by decide)
          have hL := hL.grown hg (neBlk hO hL (by decide))
          have hB12 := hB12.grown hg (neBlk hO hB12 (by decide))
          have hb := hb.trans hbel
          have hO := hO2
          refine L.va (x_asS rfl) ?_
          refine L.nil ?_
          show W _ _ _ _ _ _
          refine W.exit ?_
          repeat (first | refine T.exit ?_ | refine B.exitNe (by decide) ?_)
          refine B.exitEq ?_
          show W _ _ _ _ _ _
          refine W.region rfl ?_
          refine L.va (x_mvM rfl) ?_
          refine L.va (x_loadAgg rfl Try.underlying68 rfl sz68 rfl (hB12.all)) ?_
          refine L.va (x_mvI rfl) ?_
          refine L.build1 rfl rfl Try.underlying34 sz3 rfl ⟨_, zr3⟩ (by decide) (fun w b95 F95 => ?_)
          have hL := hL.keep F95.below
          have hO := hO.keep F95.below
          have hOf := hOf.keep F95.below
          have hb := cl_step hb F95.below
          have hixl := idxL_len E ((E j).o, (E j).n) j
          obtain ⟨Lm, sa, sc, hM, hv, hS, hLk, hnil⟩ := hOf.at ((E j).o, (E j).n)
          refine L.ment (κ := pairV) (a := ((E j).o, (E j).n)) (zv := .slice none 0 0) Try.underlying65 key68 zr34 rfl rfl hM (fun o t hMB => ?_)
          rw [hv]
          have hS1 := own_put hS hM o
          have hb1 := putObj_below hb hr o
          have hL1 := hL.putObj hM o
          have hO1 := own_put hO hM o
          have hF := F95.blk.putObj hM o
          refine L.va (x_extract rfl rfl) ?_
          refine L.append (B := w0.heap.size) rfl rfl Try.underlying34 in3 rfl (by decide) hS1 (news := [.int .i64 (j : Int)]) rfl (fun q u hq => ?_) (fun u hu => by simp at hu; subst hu; rfl) (by omega) (by omega) hb1.size (fun a2 c2 w2 hO2 hg hbel _ => ?_)
          · rw [Addr.add_lit]
            match q, hq with
            | 0, hq => cases hq; exact hF.cell rfl
          have hMB2 := hMB.grown hg (own_map hS1 hMB.map)
          have hb2 := hb1.trans hbel
          have hL2 := hL1.grown hg (neBlk hS1 hL1 (by decide))
          have hO3 := own_ty hO1 hS1 hg (by decide)
          refine L.va (x_extract rfl rfl) ?_
          refine L.mset (κ := pairV) rfl rfl rfl hMB2 (fun o2 hM4 => ?_)
          have hOf := hOf.snoc rfl hacc hM hLk hS hnil hg hMB2 hO2 hM4
          have hb := putObj_below hb2 hr o2
          have hL := hL2.putObj hMB2.map o2
          have hO := own_put hO3 hMB2.map o2
          refine L.nil ?_
          refine B.nrm ?_
          show W _ _ _ _ _ _
          refine W.region rfl ?_
          refine L.va (x_inc rfl rfl (by omega)) ?_
          refine L.va (x_mvI rfl) ?_
          refine L.nil ?_
          refine T.nrm ?_
          have hR : racesL E (j + 1) = racesL E j ++ [(i, j)] := racesL_some (first_of rfl hno hi) h83 hij
          rw [show (racesL E j).length + 1 = (racesL E (j + 1)).length by rw [hR]; simp]
          rw [show (racesL E j).length + 1 = (racesL E (j + 1)).length by rw [hR]; simp, ← prC_snoc, ← hR] at hO
          exact ⟨_, by omega, ⟨j + 1, oa2, oc2, _, _, rfl, rfl, rfl, rfl, rfl, rfl, rfl, rfl, hb, by omega, hL, hO, hOf⟩⟩
        · refine W.skip ?_
          refine B.nrm ?_
          show W _ _ _ _ _ _
          refine W.region rfl ?_
          refine L.va (x_inc rfl rfl (by omega)) ?_
          refine L.va (x_mvI rfl) ?_
          refine L.nil ?_
          refine T.nrm ?_
          exact ⟨_, by omega, ⟨s + 1, rfl, rfl, rfl, rfl, rfl, rfl, rfl, rfl, rfl, rfl, rfl, rfl, rfl, rfl, hb, by omega, hL, hO, hOf, hB11, hB12, hS, fun t x ht hx => by
              by_cases hts : t = s
              · subst hts; rw [hi] at hx; cases hx; exact h83
              · exact hno t x (by omega) hx⟩⟩
      · refine W.exit ?_
        repeat (first | refine T.exit ?_ | refine B.exitNe (by decide) ?_)
        refine B.exitEq ?_
        show W _ _ _ _ _ _
        refine W.region rfl ?_
        refine L.va (x_mvM rfl) ?_
        refine L.va (x_loadAgg rfl Try.underlying68 rfl sz68 rfl (hB12.all)) ?_
        refine L.va (x_mvI rfl) ?_
        refine L.build1 rfl rfl Try.underlying34 sz3 rfl ⟨_, zr3⟩ (by decide) (fun w b95 F95 => ?_)
        have hL := hL.keep F95.below
        have hO := hO.keep F95.below
        have hOf := hOf.keep F95.below
        have hb := cl_step hb F95.below
        have hixl := idxL_len E ((E j).o, (E j).n) j
        obtain ⟨Lm, sa, sc, hM, hv, hS, hLk, hnil⟩ := hOf.at ((E j).o, (E j).n)
        refine L.ment (κ := pairV) (a := ((E j).o, (E j).n)) (zv := .slice none 0 0) Try.underlying65 key68 zr34 rfl rfl hM (fun o t hMB => ?_)
        rw [hv]
        have hS1 := own_put hS hM o
        have hb1 := putObj_below hb hr o
        have hL1 := hL.putObj hM o
        have hO1 := own_put hO hM o
        have hF := F95.blk.putObj hM o
        refine L.va (x_extract rfl rfl) ?_
        refine L.append (B := w0.heap.size) rfl rfl Try.underlying34 in3 rfl (by decide) hS1 (news := [.int .i64 (j : Int)]) rfl (fun q u hq => ?_) (fun u hu => by simp at hu; subst hu; rfl) (by omega) (by omega) hb1.size (fun a2 c2 w2 hO2 hg hbel _ => ?_)
        · rw [Addr.add_lit]
          match q, hq with
          | 0, hq => cases hq; exact hF.cell rfl
        have hMB2 := hMB.grown hg (own_map hS1 hMB.map)
        have hb2 := hb1.trans hbel
        have hL2 := hL1.grown hg (neBlk hS1 hL1 (by decide))
        have hO3 := own_ty hO1 hS1 hg (by decide)
        refine L.va (x_extract rfl rfl) ?_
        refine L.mset (κ := pairV) rfl rfl rfl hMB2 (fun o2 hM4 => ?_)
        have hOf := hOf.snoc rfl hacc hM hLk hS hnil hg hMB2 hO2 hM4
        have hb := putObj_below hb2 hr o2
        have hL := hL2.putObj hMB2.map o2
        have hO := own_put hO3 hMB2.map o2
        refine L.nil ?_
        refine B.nrm ?_
        show W _ _ _ _ _ _
        refine W.region rfl ?_
        refine L.va (x_inc rfl rfl (by omega)) ?_
        refine L.va (x_mvI rfl) ?_
        refine L.nil ?_
        refine T.nrm ?_
        have hR : racesL E (j + 1) = racesL E j := racesL_none (none_of rfl (fun t x ht hx => hno t x (by omega) hx))
        rw [show (racesL E j).length = (racesL E (j + 1)).length by rw [hR]]
        exact ⟨_, by omega, ⟨j + 1, oa, oc, _, _, rfl, rfl, rfl, rfl, rfl, rfl, rfl, rfl, hb, by omega, hL, by rw [hR]; exact hO, hOf⟩⟩
  · refine W.exit ?_
    repeat (first | refine T.exit ?_ | refine B.exitNe (by decide) ?_)
    refine B.exitEq ?_
    show W _ _ _ _ _ _
    refine W.seq ?_
    refine W.region rfl ?_
    refine L.va (x_mvS rfl) ?_
    refine L.va (x_asS rfl) ?_
    refine L.va (x_asI rfl) ?_
    refine L.nil ?_
    show W _ _ _ _ _ _
    refine W.ret ?_
    repeat (first | refine T.ret ?_ | refine B.ret ?_)
    refine ends.two (.inr rfl) rfl ?_
    obtain rfl : j = n := by omega
    exact ⟨oa, oc, rfl, PairsAt.of_own hO, hb⟩

end Go.Proofs.Ytlopdjbehhdmpaa
