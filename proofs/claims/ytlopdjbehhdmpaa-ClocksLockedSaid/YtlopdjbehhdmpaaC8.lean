/- Contracts: the program's clocks. -/
import Derived.Test.YtlopdjbehhdmpaaBase5
namespace Go.Proofs.Ytlopdjbehhdmpaa
open Go.Vc Go.RowKit

set_option maxHeartbeats 1000000 in
theorem clocked_c (a : Option Addr) (n c : Nat) (E : Nat → Ev) (cl : Int) (w0 : World) (hE : EvAt w0 a n E) (hn : n ≤ 9223372036854775807) :
    C Try.prog 27 #[.slice a n c, .int .i64 cl] w0 fun v w' => ((check E n cl ≠ 0 ∧ v = .tuple #[.slice none 0 0, .int .i64 (check E n cl)]) ∨ (check E n cl = 0 ∧ ∃ bl, v = .tuple #[.slice (some ⟨bl, 0, none⟩) n n, .int .i64 0] ∧ Blk w' bl (arr (n * 16) (ints (rowF n (clk E)))) 62)) ∧ Below w0.heap.size w0 w'  := by
  refine C.enter (n := 112) Try.func27 rfl rfl ?_
  have hb : Below w0.heap.size w0 w0 := Below.refl _ _
  refine W.seq ?_
  refine W.region rfl ?_
  refine L.va (x_asS rfl) ?_
  refine L.va (x_asI rfl) ?_
  refine L.nil ?_
  show W _ _ _ _ _ _
  refine W.seq ?_
  refine W.seq ?_
  refine W.region rfl ?_
  refine L.va (x_mvI rfl) ?_
  refine L.va (x_lss rfl rfl) ?_
  refine L.va (x_mvB rfl) ?_
  refine L.meetB 3 [20,21,22,23] 23 (.bool (decide (cl < 0 ∨ 16 < cl))) (tj := 20) rfl (fun hb20 => ?_) (fun hb20 => ?_) (fun f => ?_)
  · refine L.off rfl ?_
    refine L.off rfl ?_
    refine L.va (x_pickT rfl) ?_
    refine L.nil ?_
    refine ⟨rfl, congrArg Value.bool (by first | exact or_t hb20 | (simp_all; done) | (rw [Bool.eq_iff_iff]; simp_all; omega)), ?_⟩
    exact Agree.upd rfl (Agree.upd rfl (Agree.upd rfl (Agree.upd rfl (Agree.refl _ _))))
  · refine L.on rfl ?_
    refine L.va (x_mvI rfl) ?_
    refine L.on rfl ?_
    refine L.va (x_gtr rfl rfl) ?_
    refine L.va (x_pickF rfl) ?_
    refine L.nil ?_
    refine ⟨rfl, congrArg Value.bool (by first | exact or_f hb20 | (simp_all; done) | (rw [Bool.eq_iff_iff]; simp_all; omega)), ?_⟩
    exact Agree.upd rfl (Agree.upd rfl (Agree.upd rfl (Agree.upd rfl (Agree.refl _ _))))
  refine L.nil ?_
  show W _ _ _ _ _ _
  refine W.condP rfl (fun h23 => ?_) (fun h23 => ?_)
  · refine W.seq ?_
    refine W.region rfl ?_
    refine L.va (x_asS rfl) ?_
    refine L.va (x_asI rfl) ?_
    refine L.nil ?_
    show W _ _ _ _ _ _
    refine W.ret ?_
    repeat (first | refine T.ret ?_ | refine B.ret ?_)
    refine ends.two (.inr rfl) rfl ?_
    have hch : check E n cl = 2 := by unfold check; rw [if_pos h23]
    exact ⟨.inl ⟨by rw [hch]; decide, by rw [hch]; rfl⟩, hb⟩
  · refine W.skip ?_
    show W _ _ _ _ _ _
    refine W.seq ?_
    refine W.seq ?_
    refine W.region rfl ?_
    refine L.va (x_mvS rfl) ?_
    refine L.va (x_len rfl Try.underlying25 rfl) ?_
    refine L.va (x_gtr rfl rfl) ?_
    refine L.nil ?_
    show W _ _ _ _ _ _
    refine W.condP rfl (fun h26 => ?_) (fun h26 => ?_)
    · refine W.seq ?_
      refine W.region rfl ?_
      refine L.va (x_asS rfl) ?_
      refine L.va (x_asI rfl) ?_
      refine L.nil ?_
      show W _ _ _ _ _ _
      refine W.ret ?_
      repeat (first | refine T.ret ?_ | refine B.ret ?_)
      refine ends.two (.inr rfl) rfl ?_
      have hch : check E n cl = 1 := by unfold check; rw [if_neg h23, if_pos (by omega)]
      exact ⟨.inl ⟨by rw [hch]; decide, by rw [hch]; rfl⟩, hb⟩
    · refine W.skip ?_
      show W _ _ _ _ _ _
      refine W.seq ?_
      refine W.region rfl ?_
      refine L.call (x_call0  Try.func34 rfl nm34 rfl) (takes_c _) ?_
      rintro _ w ⟨rk, rfl, hrk0, hK, hbw⟩
      have hb := cl_step hb hbw
      refine L.va (x_asM rfl) ?_
      refine L.nil ?_
      show W _ _ _ _ _ _
      refine W.seq ?_
      refine W.seq ?_
      refine W.region rfl ?_
      refine L.va (x_mvS rfl) ?_
      refine L.va (x_len rfl Try.underlying25 rfl) ?_
      refine L.va (x_mvI rfl) ?_
      refine L.nil ?_
      show W _ _ _ _ _ _
      refine W.block ?_
      refine W.loop (fun k e w => ∃ i : Nat, k = n - i ∧ e 0 = .slice a n c ∧ e 1 = .int .i64 cl ∧ e 6 = .map (some rk) ∧ e 28 = .slice a n c ∧ e 29 = .int .i64 (n : Int) ∧ e 30 = .int .i64 (i : Int) ∧ Below w0.heap.size w0 w ∧ i ≤ n ∧ KindsAt w rk ∧ okE E cl i) _ ⟨0, rfl, rfl, rfl, rfl, rfl, rfl, rfl, hb, Nat.zero_le _, hK, fun x hx => absurd hx (Nat.not_lt_zero x)⟩ ?_
      rintro k e w ⟨i, hk, s0, s1, s6, s28, s29, s30, hb, hi, hK, hok⟩
      rw [upd_id s0, upd_id s1, upd_id s6, upd_id s28, upd_id s29, upd_id s30]
      clear s0 s1 s6 s28 s29 s30
      refine W.seq ?_
      refine W.region rfl ?_
      refine L.va (x_lss rfl rfl) ?_
      refine L.nil ?_
      show W _ _ _ _ _ _
      refine W.seq ?_
      refine W.condP rfl (fun h31 => ?_) (fun h31 => ?_)
      · refine W.skip ?_
        show W _ _ _ _ _ _
        refine W.seq ?_
        refine W.block ?_
        refine W.seq ?_
        refine W.region rfl ?_
        refine L.va (x_idx rfl rfl Try.underlying25 sz53 (hE.sl) (by omega)) ?_
        refine L.va (x_loadAgg rfl Try.underlying53 rfl sz53 rfl (bagg hb (hE.all (by omega)))) ?_
        refine L.alloc zr53 rfl (fun w b8 F8 => ?_)
        have hi : i < n := by omega
        have h8 : w0.heap.size ≤ b8 := by have := F8.here; have := hb.size; omega
        have hb := cl_step hb F8.below
        have hK := hK.keep F8.below
        refine L.storeAll (vs := [Value.int .i64 (E i).c, .int .i64 (E i).k, .int .i64 (E i).o, .int .i64 (E i).n]) rfl rfl rfl sz53 rfl rfl (by simp [Value.oneCell']) F8.blk (fun w hB8 hg hsz => ?_)
        have hKne : some rk ≠ some b8 := by obtain ⟨Lk, hMk, _⟩ := hK; simpa using hMk.ne F8.blk
        have hK := hK.grown hg hKne
        have hb := below_gr hb hb.size hg h8
        refine L.nil ?_
        show W _ _ _ _ _ _
        refine W.seq ?_
        refine W.region rfl ?_
        refine L.va (x_mvM rfl) ?_
        refine L.va (x_field rfl Try.underlying53 rfl sz51 (by decide)) ?_
        refine L.va (x_field rfl Try.underlying51 rfl sz3 (by decide)) ?_
        refine L.va (x_load rfl Try.underlying3 rfl (hB8.cell (v := .int .i64 (E i).k) rfl)) ?_
        refine L.va (x_kindOk hK rfl rfl) ?_
        refine L.va (x_mvT rfl) ?_
        refine L.va (x_extract rfl rfl) ?_
        refine L.va (x_extract rfl rfl) ?_
        refine L.va x_assign ?_
        refine L.va (x_asB rfl) ?_
        refine L.nil ?_
        show W _ _ _ _ _ _
        refine W.seq ?_
        refine W.region rfl ?_
        refine L.va (x_mvB rfl) ?_
        refine L.va (x_not rfl) ?_
        refine L.va (x_mvB rfl) ?_
        refine L.meetB 4 [44,45,46,47,48] 48 (.bool (!(fk (E i).k).isSome || decide ((E i).c < 0))) (tj := 44) rfl (fun hb44 => ?_) (fun hb44 => ?_) (fun f => ?_)
        · refine L.off rfl ?_
          refine L.off rfl ?_
          refine L.off rfl ?_
          refine L.va (x_pickT rfl) ?_
          refine L.nil ?_
          refine ⟨rfl, congrArg Value.bool (by rw [hb44]; rfl), ?_⟩
          exact Agree.upd rfl (Agree.upd rfl (Agree.upd rfl (Agree.upd rfl (Agree.upd rfl (Agree.refl _ _)))))
        · refine L.on rfl ?_
          refine L.va (x_field rfl Try.underlying53 rfl sz3 (by decide)) ?_
          refine L.on rfl ?_
          refine L.va (x_load rfl Try.underlying3 rfl (hB8.cell (v := .int .i64 (E i).c) rfl)) ?_
          refine L.on rfl ?_
          refine L.va (x_lss rfl rfl) ?_
          refine L.va (x_pickF rfl) ?_
          refine L.nil ?_
          refine ⟨rfl, congrArg Value.bool (by rw [hb44]; rfl), ?_⟩
          exact Agree.upd rfl (Agree.upd rfl (Agree.upd rfl (Agree.upd rfl (Agree.upd rfl (Agree.refl _ _)))))
        refine L.va (x_mvB rfl) ?_
        refine L.meetB 5 [49,50,51,52,53,54] 54 (.bool ((!(fk (E i).k).isSome || decide ((E i).c < 0)) || decide ((E i).c ≥ cl))) (tj := 49) rfl (fun hb49 => ?_) (fun hb49 => ?_) (fun f => ?_)
        · refine L.off rfl ?_
          refine L.off rfl ?_
          refine L.off rfl ?_
          refine L.off rfl ?_
          refine L.va (x_pickT rfl) ?_
          refine L.nil ?_
          refine ⟨rfl, congrArg Value.bool (by rw [hb49]; rfl), ?_⟩
          exact Agree.upd rfl (Agree.upd rfl (Agree.upd rfl (Agree.upd rfl (Agree.upd rfl (Agree.upd rfl (Agree.refl _ _))))))
        · refine L.on rfl ?_
          refine L.va (x_field rfl Try.underlying53 rfl sz3 (by decide)) ?_
          refine L.on rfl ?_
          refine L.va (x_load rfl Try.underlying3 rfl (hB8.cell (v := .int .i64 (E i).c) rfl)) ?_
          refine L.on rfl ?_
          refine L.va (x_mvI rfl) ?_
          refine L.on rfl ?_
          refine L.va (x_geq rfl rfl) ?_
          refine L.va (x_pickF rfl) ?_
          refine L.nil ?_
          refine ⟨rfl, congrArg Value.bool (by rw [hb49]; rfl), ?_⟩
          exact Agree.upd rfl (Agree.upd rfl (Agree.upd rfl (Agree.upd rfl (Agree.upd rfl (Agree.upd rfl (Agree.refl _ _))))))
        refine L.nil ?_
        show W _ _ _ _ _ _
        refine W.cond rfl (fun h54 => ?_) (fun h54 => ?_)
        · refine W.seq ?_
          refine W.region rfl ?_
          refine L.va (x_asS rfl) ?_
          refine L.va (x_asI rfl) ?_
          refine L.nil ?_
          show W _ _ _ _ _ _
          refine W.ret ?_
          repeat (first | refine T.ret ?_ | refine B.ret ?_)
          refine ends.two (.inr rfl) rfl ?_
          have hch : check E n cl = 110 := check_bad h23 (by omega) hi ((bad_iff cl (E i)).1 h54)
          exact ⟨.inl ⟨by rw [hch]; decide, by rw [hch]; rfl⟩, hb⟩
        · refine W.skip ?_
          refine B.nrm ?_
          show W _ _ _ _ _ _
          refine W.region rfl ?_
          refine L.va (x_inc rfl rfl (by omega)) ?_
          refine L.va (x_mvI rfl) ?_
          refine L.nil ?_
          refine T.nrm ?_
          exact ⟨_, by omega, ⟨i + 1, rfl, rfl, rfl, rfl, rfl, rfl, rfl, hb, by omega, hK, fun x hx => by
              by_cases hxi : x = i
              · subst hxi; intro hbad; rw [(bad_iff cl (E x)).2 hbad] at h54; cases h54
              · exact hok x (by omega)⟩⟩
      · refine W.exit ?_
        repeat (first | refine T.exit ?_ | refine B.exitNe (by decide) ?_)
        refine B.exitEq ?_
        show W _ _ _ _ _ _
        refine W.seq ?_
        refine W.region rfl ?_
        refine L.alloc zr76 rfl (fun w b11 F11 => ?_)
        have hbn : w0.heap.size ≤ b11 := by have := F11.here; have := hb.size; omega
        have hb := cl_step hb F11.below
        have hK := hK.keep F11.below
        have hN : Blk w b11 (Array.replicate 256 (Value.int .i64 0)) 76 := F11.blk
        rw [zero256] at hN
        refine L.nil ?_
        show W _ _ _ _ _ _
        refine W.seq ?_
        refine W.region rfl ?_
        refine L.va x_makeMap ?_
        have hH : Hnd _ w0.heap.size _ _ st0 := Hnd.start w w0.heap.size
        have hba := below_alloc w (.map #[] 0)
        have hrt : w0.heap.size ≤ w.heap.size := hb.size
        have hrk : rk < w.heap.size := by obtain ⟨Lk, hMk, _⟩ := hK; exact hMk.lt
        have hb := cl_step hb hba
        have hK := hK.keep hba
        have hN := hN.keep hba
        clear hba
        generalize w.alloc (.map #[] 0) = w2 at hb hK hN hH ⊢
        generalize w.heap.size = rt at hrt hrk hH ⊢
        generalize w2 = w at hb hK hN hH ⊢
        refine L.va (x_asM rfl) ?_
        refine L.nil ?_
        show W _ _ _ _ _ _
        refine W.seq ?_
        refine W.region rfl ?_
        refine L.va (x_mvS rfl) ?_
        refine L.va (x_len rfl Try.underlying25 rfl) ?_
        refine L.make rfl rfl Try.underlying58 in62 rfl (by decide) (by omega) (by omega) (fun w bl F59 => ?_)
        have hbl : w0.heap.size ≤ bl := by have := F59.here; have := hb.size; omega
        have hb := cl_step hb F59.below
        have hK := hK.keep F59.below
        have hN := hN.keep F59.below
        have hH := hH.keep F59.below
        have hLb := F59.blk
        rw [zeroRows n (clk E)] at hLb
        refine L.va (x_asS rfl) ?_
        refine L.nil ?_
        show W _ _ _ _ _ _
        refine W.seq ?_
        refine W.seq ?_
        refine W.region rfl ?_
        refine L.va (x_mvS rfl) ?_
        refine L.va (x_len rfl Try.underlying25 rfl) ?_
        refine L.va (x_mvI rfl) ?_
        refine L.nil ?_
        show W _ _ _ _ _ _
        refine W.block ?_
        have hok : okE E cl n := (show i = n by omega) ▸ hok
        have hcl : cl ≤ 16 := by omega
        clear hi
        refine W.loop (fun k e w => ∃ j : Nat, ∃ H : Int × Int → Option Nat, k = n - j ∧ e 0 = .slice a n c ∧ e 1 = .int .i64 cl ∧ e 6 = .map (some rk) ∧ e 11 = .pointer (some ⟨b11, 0, none⟩) ∧ e 12 = .map (some rt) ∧ e 13 = .slice (some ⟨bl, 0, none⟩) n n ∧ e 60 = .slice a n c ∧ e 61 = .int .i64 (n : Int) ∧ e 62 = .int .i64 (j : Int) ∧ Below w0.heap.size w0 w ∧ j ≤ n ∧ KindsAt w rk ∧ Blk w b11 (arr 256 (ints (nowF (stAt E j).now))) 76 ∧ Blk w bl (arr (n * 16) (ints (rowF j (clk E)))) 62 ∧ Hnd w w0.heap.size rt H (stAt E j)) _ ⟨0, _, rfl, rfl, rfl, rfl, rfl, rfl, rfl, rfl, rfl, rfl, hb, Nat.zero_le _, hK, hN, hLb, hH⟩ ?_
        rintro k e w ⟨j, H, hk, s0, s1, s6, s11, s12, s13, s60, s61, s62, hb, hjn, hK, hN, hLb, hH⟩
        rw [upd_id s0, upd_id s1, upd_id s6, upd_id s11, upd_id s12, upd_id s13, upd_id s60, upd_id s61, upd_id s62]
        clear s0 s1 s6 s11 s12 s13 s60 s61 s62
        refine W.seq ?_
        refine W.region rfl ?_
        refine L.va (x_lss rfl rfl) ?_
        refine L.nil ?_
        show W _ _ _ _ _ _
        refine W.seq ?_
        refine W.condP rfl (fun h63 => ?_) (fun h63 => ?_)
        · refine W.skip ?_
          show W _ _ _ _ _ _
          refine W.seq ?_
          refine W.block ?_
          refine W.seq ?_
          have hj : j < n := by omega
          obtain ⟨hc0, hc1, hk0, hk1⟩ := hok.at hj
          have hc16 : (E j).c.toNat < 16 := by omega
          refine W.region rfl ?_
          refine L.va (x_mvI rfl) ?_
          refine L.va (x_idx rfl rfl Try.underlying25 sz53 (hE.sl) (by omega)) ?_
          refine L.va (x_loadAgg rfl Try.underlying53 rfl sz53 rfl (bagg hb (hE.all (by omega)))) ?_
          refine L.alloc zr53 rfl (fun w b15 F15 => ?_)
          have h15 : w0.heap.size ≤ b15 := by have := F15.here; have := hb.size; omega
          have hb := cl_step hb F15.below
          have hK := hK.keep F15.below
          have hN := hN.keep F15.below
          have hLb := hLb.keep F15.below
          have hH := hH.keep F15.below
          refine L.va (x_asI rfl) ?_
          refine L.storeAll (vs := [Value.int .i64 (E j).c, .int .i64 (E j).k, .int .i64 (E j).o, .int .i64 (E j).n]) rfl rfl rfl sz53 rfl rfl (by simp [Value.oneCell']) F15.blk (fun w hB15 hg hsz => ?_)
          have hKne : some rk ≠ some b15 := by obtain ⟨Lk, hMk, _⟩ := hK; simpa using hMk.ne F15.blk
          have hK := hK.grown hg hKne
          have hN := hN.grown hg (by have := hN.ne F15.blk (by decide); simpa using this)
          have hH := hH.other F15.blk (by decide) (fun k hk hne => hg.block k hk (by simpa using hne)) hg.size
          have hb := below_gr hb hb.size hg h15
          have hLb := hLb.grown hg (by have := hLb.ne F15.blk (by decide); simpa using this)
          refine L.nil ?_
          show W _ _ _ _ _ _
          refine W.seq ?_
          refine W.region rfl ?_
          refine L.va (x_field rfl Try.underlying53 rfl sz51 (by decide)) ?_
          refine L.va (x_field rfl Try.underlying51 rfl sz3 (by decide)) ?_
          refine L.va (x_load rfl Try.underlying3 rfl (hB15.cell (v := .int .i64 (E j).o) rfl)) ?_
          refine L.va (x_field rfl Try.underlying53 rfl sz51 (by decide)) ?_
          refine L.va (x_field rfl Try.underlying51 rfl sz3 (by decide)) ?_
          refine L.va (x_load rfl Try.underlying3 rfl (hB15.cell (v := .int .i64 (E j).n) rfl)) ?_
          refine L.va (x_build (parts := [(0, .tmp 69), (1, .tmp 72)]) rfl (bu68 _ _)) ?_
          refine L.alloc zr68 rfl (fun w b16 F16 => ?_)
          have h16 : w0.heap.size ≤ b16 := by have := F16.here; have := hb.size; omega
          have hb := cl_step hb F16.below
          have hK := hK.keep F16.below
          have hN := hN.keep F16.below
          have hLb := hLb.keep F16.below
          have hH := hH.keep F16.below
          have hB15 := hB15.keep F16.below
          refine L.storeAll (vs := [.int .i64 (E j).o, .int .i64 (E j).n]) rfl rfl rfl sz68 rfl rfl (by simp [Value.oneCell']) F16.blk (fun w hB16 hg hsz => ?_)
          have hKne : some rk ≠ some b16 := by obtain ⟨Lk, hMk, _⟩ := hK; simpa using hMk.ne F16.blk
          have hK := hK.grown hg hKne
          have hN := hN.grown hg (by have := hN.ne F16.blk (by decide); simpa using this)
          have hH := hH.other F16.blk (by decide) (fun k hk hne => hg.block k hk (by simpa using hne)) hg.size
          have hb := below_gr hb hb.size hg h16
          have hLb := hLb.grown hg (by have := hLb.ne F16.blk (by decide); simpa using this)
          have hB15 := hB15.grown hg (by have := hB15.ne F16.blk (by decide); simpa using this)
          refine L.nil ?_
          show W _ _ _ _ _ _
          refine W.seq ?_
          refine W.seq ?_
          refine W.region rfl ?_
          refine L.va (x_mvM rfl) ?_
          refine L.va (x_loadAgg rfl Try.underlying68 rfl sz68 rfl (hB16.all)) ?_
          refine L.va (x_thing (p := ((E j).o, (E j).n)) hH rfl rfl) ?_
          refine L.va (x_eqPtrNil rfl rfl Try.underlying78) ?_
          refine L.nil ?_
          show W _ _ _ _ _ _
          refine W.cutA [78,79,80,81] (fun w' => ∃ (H : Int × Int → Option Nat) (hb : Nat), H ((E j).o, (E j).n) = some hb ∧ Hnd w' w0.heap.size rt H (stAt E j) ∧ Below w0.heap.size w0 w' ∧ w.heap.size ≤ w'.heap.size ∧ KindsAt w' rk ∧ Blk w' b11 (arr 256 (ints (nowF (stAt E j).now))) 76 ∧ Blk w' bl (arr (n * 16) (ints (rowF j (clk E)))) 62 ∧ Blk w' b15 (List.toArray [Value.int .i64 (E j).c, .int .i64 (E j).k, .int .i64 (E j).o, .int .i64 (E j).n]) 53 ∧ Blk w' b16 (List.toArray [Value.int .i64 (E j).o, .int .i64 (E j).n]) 68) ?_ (fun f77 w hR => ?_)
          · refine W.cond rfl (fun h77 => ?_) (fun h77 => ?_)
            · refine W.region rfl ?_
              refine L.va (x_mvM rfl) ?_
              refine L.va (x_loadAgg rfl Try.underlying68 rfl sz68 rfl (hB16.all)) ?_
              refine L.va (x_build (parts := []) rfl bu80) ?_
              refine L.box rfl rfl (fun w b81 F81 => ?_)
              have hB81 : Blk w b81 (Array.replicate 48 (Value.int .i64 0)) 80 := F81.blk
              rw [zero48] at hB81
              obtain ⟨Lt, hMt, hLt⟩ := hH.map
              have hH1 := hH.keep F81.below
              have hMt1 := hMt.keep F81.below
              refine L.mput (κ := pairV) (a := ((E j).o, (E j).n)) (v := ptrV b81) Try.underlying77 key68 rfl rfl rfl hMt1 (fun o hM2 => ?_)
              have hp : H ((E j).o, (E j).n) = none := by cases hh : H ((E j).o, (E j).n) with | none => rfl | some x => rw [hh] at h77; cases h77
              have hH2 := hH1.new hp hB81 (by have := F81.here; have := hb.size; omega) (fun {q c} hq => by have := (hH.blk hq).2.lt; have := F81.here; omega) hLt hM2 ⟨Lt, hMt1⟩
              have hb2 := putObj_below (cl_step hb F81.below) hrt o
              have hK2 := (hK.keep F81.below).grown (grown_putObj w rt o) (by simp; omega)
              refine L.nil ?_
              refine T.nrm ⟨Agree.upd rfl (Agree.upd rfl (Agree.upd rfl (Agree.upd rfl (Agree.refl _ _)))), _, b81, if_pos rfl, hH2, hb2, ?_, hK2, (hN.keep F81.below).putObj hMt1 o, (hLb.keep F81.below).putObj hMt1 o, (hB15.keep F81.below).putObj hMt1 o, (hB16.keep F81.below).putObj hMt1 o⟩
              rw [putObj_size]; exact F81.below.size
            · refine W.skip ?_
              refine T.nrm ⟨Agree.refl _ _, ?_⟩
              cases hp : H ((E j).o, (E j).n) with
              | none => rw [hp] at h77; cases h77
              | some hb1 => exact ⟨H, hb1, hp, hH, hb, Nat.le_refl _, hK, hN, hLb, hB15, hB16⟩
          · clear hH hb hK hN hLb hB15 hB16
            obtain ⟨H, hbk, hp, hH, hb, hsz, hK, hN, hLb, hB15, hB16⟩ := hR
            show W _ _ _ _ _ _
            refine W.seq ?_
            refine W.region rfl ?_
            refine L.va (x_field rfl Try.underlying53 rfl sz3 (by decide)) ?_
            refine L.va (x_load rfl Try.underlying3 rfl (hB15.cell (v := .int .i64 (E j).c) rfl)) ?_
            refine L.va (x_indexArr rfl rfl Try.underlying76 sz62 (by omega) (by omega)) ?_
            refine L.va (x_loadArr rfl Try.underlying62 rfl sz62 hN (by omega) (fun k hk => now_get _ hk)) ?_
            refine L.alloc zr62 rfl (fun w b17 F17 => ?_)
            have h17 : w0.heap.size ≤ b17 := by have := F17.here; have := hb.size; omega
            have hnl : b17 ≠ bl := by have := F17.here; have := hLb.lt; omega
            have hb := cl_step hb F17.below
            have hK := hK.keep F17.below
            have hN := hN.keep F17.below
            have hLb := hLb.keep F17.below
            have hH := hH.keep F17.below
            have hB15 := hB15.keep F17.below
            have hB16 := hB16.keep F17.below
            refine L.storeAll (vs := (arr 16 (ints ((stAt E j).now (E j).c.toNat))).toList) rfl rfl rfl sz62 (arr_len _ _) rfl (arr_one (fun _ => rfl)) F17.blk (fun w hB17 hg hsz => ?_)
            have hKne : some rk ≠ some b17 := by obtain ⟨Lk, hMk, _⟩ := hK; simpa using hMk.ne F17.blk
            have hK := hK.grown hg hKne
            have hN := hN.grown hg (by have := hN.ne F17.blk (by decide); simpa using this)
            have hH := hH.other F17.blk (by decide) (fun k hk hne => hg.block k hk (by simpa using hne)) hg.size
            have hb := below_gr hb hb.size hg h17
            have hLb := hLb.grown hg (by simpa using Ne.symm hnl)
            have hB15 := hB15.grown hg (by have := hB15.ne F17.blk (by decide); simpa using this)
            have hB16 := hB16.grown hg (by have := hB16.ne F17.blk (by decide); simpa using this)
            have hB17 : Blk w b17 (arr 16 (ints ((stAt E j).now (E j).c.toNat))) 62 := hB17
            refine L.nil ?_
            show W _ _ _ _ _ _
            refine W.seq ?_
            refine W.region rfl ?_
            refine L.va (x_field rfl Try.underlying53 rfl sz3 (by decide)) ?_
            refine L.va (x_load rfl Try.underlying3 rfl (hB15.cell (v := .int .i64 (E j).c) rfl)) ?_
            refine L.va (x_indexArr rfl rfl Try.underlying62 sz3 (by omega) (by omega)) ?_
            refine L.va (x_load rfl Try.underlying3 rfl (hB17.cell (arr_get (by omega)))) ?_
            have hle := now_le E j (fun i hi => (hok.at (by omega)).1) (E j).c.toNat (0 + (E j).c.toNat * 1)
            refine L.va (x_inc rfl rfl (by omega)) ?_
            refine L.va (x_indexArr rfl rfl Try.underlying62 sz3 (by omega) (by omega)) ?_
            refine L.store (b := b17) (o := 0 + (E j).c.toNat * 1) (v := .int .i64 (((stAt E j).now (E j).c.toNat (0 + (E j).c.toNat * 1) + 1 : Nat) : Int)) rfl rfl sz3 rfl hB17 (by rw [arr_size]; omega) ?_
            have hg := grown_setCell w ⟨b17, 0 + (E j).c.toNat * 1, none⟩ (.int .i64 (((stAt E j).now (E j).c.toNat (0 + (E j).c.toNat * 1) + 1 : Nat) : Int))
            have hB17' := hB17.set (o := 0 + (E j).c.toNat * 1) (.int .i64 (((stAt E j).now (E j).c.toNat (0 + (E j).c.toNat * 1) + 1 : Nat) : Int))
            rw [arr_set, tick_arr] at hB17'
            generalize w.setCell ⟨b17, 0 + (E j).c.toNat * 1, none⟩ (.int .i64 (((stAt E j).now (E j).c.toNat (0 + (E j).c.toNat * 1) + 1 : Nat) : Int)) = w1 at hg hB17' ⊢
            have hKne : some rk ≠ some b17 := by obtain ⟨Lk, hMk, _⟩ := hK; simpa using hMk.ne hB17
            have hK := hK.grown hg hKne
            have hN := hN.grown hg (by have := hN.ne hB17 (by decide); simpa using this)
            have hH := hH.other hB17 (by decide) (fun k hk hne => hg.block k hk (by simpa using hne)) hg.size
            have hb := below_gr hb hb.size hg h17
            have hLb := hLb.grown hg (by simpa using Ne.symm hnl)
            have hB15 := hB15.grown hg (by have := hB15.ne hB17 (by decide); simpa using this)
            have hB16 := hB16.grown hg (by have := hB16.ne hB17 (by decide); simpa using this)
            have hB17 := hB17'
            clear hB17' hg
            generalize w1 = w at hb hK hN hLb hH hB15 hB16 hB17 ⊢
            refine L.nil ?_
            show W _ _ _ _ _ _
            refine W.seq ?_
            obtain ⟨f, fn, hf, hfn, hbd, hnm, htk⟩ := take_c (E j).k ⟨hk0, hk1⟩
            refine W.last2 9 (fun w' => Below w.heap.size w w') (fun w' => Blk w' hbk (arr 48 (ints (hndN (tkU (E j).k (tick (stAt E j) (E j)) ((stAt E j).un (E j).o (E j).n) ((stAt E j).sh (E j).o (E j).n) ((stAt E j).sd (E j).o (E j).n)) (tkS (E j).k (tick (stAt E j) (E j)) ((stAt E j).un (E j).o (E j).n) ((stAt E j).sh (E j).o (E j).n) ((stAt E j).sd (E j).o (E j).n)) (tkD (E j).k (tick (stAt E j) (E j)) ((stAt E j).un (E j).o (E j).n) ((stAt E j).sh (E j).o (E j).n) ((stAt E j).sd (E j).o (E j).n))))) 80 ∧ w.grownBy w' (some hbk)) (clkV (clk E j)) (by kernel_rfl) (by kernel_rfl) (by kernel_rfl) (by kernel_rfl) rfl ((Below.refl w.heap.size w).drew) ?_
            refine D.va (fun w' hw' => (x_mvM rfl)) ?_
            refine D.va (fun w' hw' => (x_field rfl Try.underlying53 rfl sz51 (by decide))) ?_
            refine D.va (fun w' hw' => (x_field rfl Try.underlying51 rfl sz3 (by decide))) ?_
            refine D.va (fun w' hw' => (x_load rfl Try.underlying3 rfl ((hB15.keep hw').cell (v := .int .i64 (E j).k) rfl))) ?_
            refine D.va (fun w' hw' => x_kind (hK.keep hw') hf rfl rfl) ?_
            refine D.va (fun w' hw' => (x_mvM rfl)) ?_
            refine D.va (fun w' hw' => (x_loadAgg rfl Try.underlying68 rfl sz68 rfl ((hB16.keep hw').all))) ?_
            refine D.va (fun w' hw' => x_thing' (p := ((E j).o, (E j).n)) (hH.keep hw') hp rfl rfl) ?_
            refine D.va (fun w' hw' => (x_loadArr rfl Try.underlying62 rfl sz62 (hB17.keep hw') (by decide) (fun k _ => by rw [Nat.zero_add]))) ?_
            refine D.nil ⟨?_, ?_⟩
            · intro w' hw'
              refine ⟨f, _, x_callV2 rfl rfl rfl hfn hbd hnm, (htk hbk _ _ _ _ w' ((hH.keep hw').blk hp).2).mono (fun v w'' h => ⟨h.1, h.2.1, gr_trans (gr_step (gr_refl w _) hw') h.2.2⟩)⟩
            · rintro w' ⟨hBh, hg⟩
              have hold := (hH.blk hp).2
              have hKne : some rk ≠ some hbk := by obtain ⟨Lk, hMk, _⟩ := hK; simpa using hMk.ne hold
              have hB17 := hB17.grown hg (by have := hB17.ne hold (by decide); simpa using this)
              refine ⟨_, x_storeArr rfl rfl sz62 (fun k => rfl) hB17 (by decide), ?_⟩
              have hb := below_gr hb hb.size hg (hH.blk hp).1
              have hH := hH.turn hp hg hBh
              have hK := hK.grown hg hKne
              have hN := hN.grown hg (by have := hN.ne hold (by decide); simpa using this)
              have hLb := hLb.grown hg (by have := hLb.ne hold (by decide); simpa using this)
              have hB15 := hB15.grown hg (by have := hB15.ne hold (by decide); simpa using this)
              have hB17' := (setBlk_self _ (arr 16 (fun x => if 0 ≤ x ∧ x < 0 + 16 then ints (clk E j) (x - 0) else ints (tick (stAt E j) (E j)) x)) 62 hB17).congrA (fun x hx => set16 _ (clk E j) hx)
              have hg := gr_set (gr_refl w' (some b17)) (.inl rfl) (arr 16 (fun x => if 0 ≤ x ∧ x < 0 + 16 then ints (clk E j) (x - 0) else ints (tick (stAt E j) (E j)) x)) 62
              generalize setBlk w' b17 (arr 16 (fun x => if 0 ≤ x ∧ x < 0 + 16 then ints (clk E j) (x - 0) else ints (tick (stAt E j) (E j)) x)) 62 = w1 at hg hB17' ⊢
              have hKne : some rk ≠ some b17 := by obtain ⟨Lk, hMk, _⟩ := hK; simpa using hMk.ne hB17
              have hK := hK.grown hg hKne
              have hN := hN.grown hg (by have := hN.ne hB17 (by decide); simpa using this)
              have hH := hH.other hB17 (by decide) (fun k hk hne => hg.block k hk (by simpa using hne)) hg.size
              have hb := below_gr hb hb.size hg h17
              have hLb := hLb.grown hg (by simpa using Ne.symm hnl)
              have hB15 := hB15.grown hg (by have := hB15.ne hB17 (by decide); simpa using this)
              have hB17 := hB17'
              clear hB17' hg hBh
              generalize w1 = w at hb hK hN hLb hH hB15 hB17 ⊢
              show W _ _ _ _ _ _
              refine W.draws (by kernel_rfl) (by kernel_rfl) fun V _ _ => ⟨fun D w' => Gr2 w w' b11 bl ∧ Blk w' b11 (if D 7 = true then arr 256 (ints (nowF (up (stAt E j).now (E j).c.toNat (clk E j)))) else arr 256 (ints (nowF (stAt E j).now))) 76 ∧ Blk w' bl (if D 9 = true then arr (n * 16) (ints (rowF (j + 1) (clk E))) else arr (n * 16) (ints (rowF j (clk E)))) 62, ⟨gr2_refl w b11 bl, hN, hLb⟩, ?_⟩
              have hn15 : b15 ≠ b11 ∧ b15 ≠ bl := ⟨hB15.ne hN (by decide), hB15.ne hLb (by decide)⟩
              have hn17 : b17 ≠ b11 ∧ b17 ≠ bl := ⟨hB17.ne hN (by decide), hnl⟩
              have hnb : b11 ≠ bl := hN.ne hLb (by decide)
              refine J.va (fun D w' _ _ _ hJ => x_field rfl Try.underlying53 rfl sz3 (by decide)) (fun D w' hJ => hJ) ?_
              refine J.va (fun D w' _ _ _ hJ => x_load rfl Try.underlying3 rfl ((hB15.gr2 hJ.1 hn15.1 hn15.2).cell (v := .int .i64 (E j).c) rfl)) (fun D w' hJ => hJ) ?_
              refine J.va (fun D w' _ _ _ hJ => x_mvS rfl) (fun D w' hJ => hJ) ?_
              refine J.va (fun D w' _ _ _ hJ => x_mvI rfl) (fun D w' hJ => hJ) ?_
              refine J.va (fun D w' _ _ _ hJ => x_loadArr rfl Try.underlying62 rfl sz62 (hB17.gr2 hJ.1 hn17.1 hn17.2) (by decide) (fun k _ => by rw [Nat.zero_add])) (fun D w' hJ => hJ) ?_
              refine J.va (fun D w' _ _ _ hJ => x_loadArr rfl Try.underlying62 rfl sz62 (hB17.gr2 hJ.1 hn17.1 hn17.2) (by decide) (fun k _ => by rw [Nat.zero_add])) (fun D w' hJ => hJ) ?_
              refine J.va (fun D w' _ _ _ hJ => x_indexArr rfl rfl Try.underlying76 sz62 (by omega) (by omega)) (fun D w' hJ => hJ) ?_
              refine J.st (fun D w' hD _ _ hJ => ?_) ?_
              · obtain ⟨hJ1, hJ2, hJ3⟩ := hJ
                simp only [hD, Bool.false_eq_true, if_false] at hJ2
                refine ⟨_, x_storeArr rfl rfl sz62 (fun k => rfl) hJ2 (by omega), gr2_set hJ1 (.inl rfl) _ _, ?_, ?_⟩
                · rw [if_pos (by rfl)]
                  exact (setBlk_self _ _ _ hJ2).congrA (fun x _ => now_set _ _)
                · exact hJ3.setBlkOther (Ne.symm hnb) _ _
              refine J.va (fun D w' _ _ _ hJ => x_idx rfl rfl Try.underlying58 sz62 (SL.mk _ _ _) (by omega)) (fun D w' hJ => hJ) ?_
              refine J.st (fun D w' hD _ _ hJ => ?_) ?_
              · obtain ⟨hJ1, hJ2, hJ3⟩ := hJ
                simp only [hD, Bool.false_eq_true, if_false] at hJ3
                refine ⟨_, x_storeArr rfl rfl sz62 (fun k => rfl) hJ3 (by show 0 + j * 16 + 16 ≤ n * 16; omega), gr2_set hJ1 (.inr rfl) _ _, ?_, ?_⟩
                · exact hJ2.setBlkOther hnb _ _
                · rw [if_pos (by rfl)]
                  exact (setBlk_self _ _ _ hJ3).congrA (fun x _ => row_set (clk E))
              refine J.nil ?_
              rintro D w' hD ⟨hJ1, hJ2, hJ3⟩
              rw [if_pos (hD 7 (by decide))] at hJ2
              rw [if_pos (hD 9 (by decide))] at hJ3
              have hH := hH.gr2 hJ1 hN hLb
              have hK := hK.gr2 hJ1 hN hLb
              have hb := below_gr2 hb hb.size hJ1 hbn hbl
              have hN := hJ2
              have hLb := hJ3
              refine B.nrm ?_
              show W _ _ _ _ _ _
              refine W.region rfl ?_
              refine L.va (x_inc rfl rfl (by omega)) ?_
              refine L.va (x_mvI rfl) ?_
              refine L.nil ?_
              refine T.nrm ?_
              exact ⟨_, by omega, ⟨j + 1, H, rfl, rfl, rfl, rfl, rfl, rfl, rfl, rfl, rfl, rfl, hb, by omega, hK, hN, hLb, hH⟩⟩
        · refine W.exit ?_
          repeat (first | refine T.exit ?_ | refine B.exitNe (by decide) ?_)
          refine B.exitEq ?_
          show W _ _ _ _ _ _
          refine W.seq ?_
          refine W.region rfl ?_
          refine L.va (x_mvS rfl) ?_
          refine L.va (x_asS rfl) ?_
          refine L.va (x_asI rfl) ?_
          refine L.nil ?_
          show W _ _ _ _ _ _
          refine W.ret ?_
          repeat (first | refine T.ret ?_ | refine B.ret ?_)
          refine ends.two (.inr rfl) rfl ?_
          obtain rfl : j = n := by omega
          exact ⟨.inr ⟨check_good h23 (by omega) hok, _, rfl, hLb⟩, hb⟩

end Go.Proofs.Ytlopdjbehhdmpaa
