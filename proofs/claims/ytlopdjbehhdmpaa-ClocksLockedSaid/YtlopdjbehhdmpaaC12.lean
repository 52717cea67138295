/- Contract: the trace that must be told rightly. -/
import Derived.Test.YtlopdjbehhdmpaaBase8
namespace Go.Proofs.Ytlopdjbehhdmpaa
open Go.Vc Go.RowKit
theorem bu51 (a b : Int) : Try.prog.built 51 [(0, .int .i64 a), (1, .int .i64 b)] = some #[.int .i64 a, .int .i64 b, .int .i64 0] := by kernel_rfl
theorem bu53s (c a b : Int) : Try.prog.built 53 [(0, .int .i64 c), (1, .agg #[.int .i64 a, .int .i64 b, .int .i64 0])] = some #[.int .i64 c, .int .i64 a, .int .i64 b, .int .i64 0] := by kernel_rfl
theorem fill4 : Instr.fill (fun i => some (i * 4, 4)) ((Array.range (4 * 4)).map ((Value.agg #[.int .i64 0, .int .i64 0, .int .i64 0, .int .i64 0]).cells[· % (Value.agg #[.int .i64 0, .int .i64 0, .int .i64 0, .int .i64 0]).cells.size]!))
    [(0, .agg #[.int .i64 0, .int .i64 9, .int .i64 1, .int .i64 0]), (1, .agg #[.int .i64 0, .int .i64 2, .int .i64 2, .int .i64 0]), (2, .agg #[.int .i64 1, .int .i64 1, .int .i64 2, .int .i64 0]), (3, .agg #[.int .i64 1, .int .i64 8, .int .i64 1, .int .i64 0])] = some (cellsE [e0, e1, e2, e3]) := by kernel_rfl
theorem fill2 : Instr.fill (fun i => some (i * 4, 4)) ((Array.range (2 * 4)).map ((Value.agg #[.int .i64 0, .int .i64 0, .int .i64 0, .int .i64 0]).cells[· % (Value.agg #[.int .i64 0, .int .i64 0, .int .i64 0, .int .i64 0]).cells.size]!))
    [(0, .agg #[.int .i64 0, .int .i64 9, .int .i64 1, .int .i64 0]), (1, .agg #[.int .i64 1, .int .i64 8, .int .i64 1, .int .i64 0])] = some (cellsE [e0, e3]) := by kernel_rfl

set_option maxHeartbeats 1000000 in
theorem live_c (w0 : World) : C Try.prog 13 #[] w0 fun v w' => v = .bool true ∧ Below w0.heap.size w0 w'  := by
  refine C.enter (n := 102) Try.func13 rfl rfl ?_
  have hb : Below w0.heap.size w0 w0 := Below.refl _ _
  refine W.seq ?_
  refine W.region rfl ?_
  refine L.va (x_asB rfl) ?_
  refine L.nil ?_
  show W _ _ _ _ _ _
  refine W.seq ?_
  refine W.region rfl ?_
  refine L.va (x_build (parts := [(0, .const (.int .i64 9)), (1, .const (.int .i64 1))]) rfl (bu51 9 1)) ?_
  refine L.va (x_build (parts := [(0, .const (.int .i64 0)), (1, .tmp 11)]) rfl (bu53s 0 9 1)) ?_
  refine L.va (x_build (parts := [(0, .const (.int .i64 2)), (1, .const (.int .i64 2))]) rfl (bu51 2 2)) ?_
  refine L.va (x_build (parts := [(0, .const (.int .i64 0)), (1, .tmp 13)]) rfl (bu53s 0 2 2)) ?_
  refine L.va (x_build (parts := [(0, .const (.int .i64 1)), (1, .const (.int .i64 2))]) rfl (bu51 1 2)) ?_
  refine L.va (x_build (parts := [(0, .const (.int .i64 1)), (1, .tmp 15)]) rfl (bu53s 1 1 2)) ?_
  refine L.va (x_build (parts := [(0, .const (.int .i64 8)), (1, .const (.int .i64 1))]) rfl (bu51 8 1)) ?_
  refine L.va (x_build (parts := [(0, .const (.int .i64 1)), (1, .tmp 17)]) rfl (bu53s 1 8 1)) ?_
  refine L.buildS (len := 4) (parts := [(0, .tmp 12), (1, .tmp 14), (2, .tmp 16), (3, .tmp 18)]) (cs := cellsE [e0, e1, e2, e3]) rfl Try.underlying25 sz53 zr53 (by decide) (by decide) fill4 (fun w b19 F19 => ?_)
  have hb := cl_step hb F19.below
  have hE := at_eL F19.blk
  refine L.va (x_asS rfl) ?_
  refine L.nil ?_
  show W _ _ _ _ _ _
  refine W.seq ?_
  refine W.region rfl ?_
  refine L.va (x_mvS rfl) ?_
  refine L.call (x_call2 rfl rfl Try.func15 rfl nm15 rfl) (pclocks_ok (some ⟨b19, 0, none⟩) 4 4 eL 2 w hE check_eL) ?_
  rintro _ w ⟨oa, oc, R, CC, rfl, hP, hbw⟩
  have hE := hE.below hbw
  have hb := cl_step hb hbw
  refine L.va (x_mvT rfl) ?_
  refine L.va (x_extract rfl rfl) ?_
  refine L.va (x_extract rfl rfl) ?_
  refine L.va (x_asS rfl) ?_
  refine L.va (x_asI rfl) ?_
  refine L.nil ?_
  show W _ _ _ _ _ _
  refine W.seq ?_
  refine W.region rfl ?_
  refine L.va (x_mvS rfl) ?_
  refine L.call (x_call2 rfl rfl Try.func22 rfl nm22 rfl) (praces_ok (some ⟨b19, 0, none⟩) 4 4 eL 2 w hE check_eL) ?_
  rintro _ w ⟨ra, rc, rfl, -, hbw⟩
  have hl0 : (racesL eL 4).length = 0 := by rw [races_eL]; rfl
  rw [hl0]
  have hP := hP.keep hbw
  have hE := hE.below hbw
  have hb := cl_step hb hbw
  refine L.va (x_mvT rfl) ?_
  refine L.va (x_extract rfl rfl) ?_
  refine L.va (x_extract rfl rfl) ?_
  refine L.va (x_asS rfl) ?_
  refine L.va (x_asI rfl) ?_
  refine L.nil ?_
  show W _ _ _ _ _ _
  refine W.seq ?_
  refine W.draws (by kernel_rfl) (by kernel_rfl) fun V hch hV => ⟨fun D w' => Below w.heap.size w w' ∧ (D 6 = false → w'.heap.size = w.heap.size) ∧ (D 6 = true → Blk w' w.heap.size (cellsE [e0, e3]) 53), ⟨(Below.refl _ _).drew, (fun _ => rfl), (fun h => by cases h)⟩, ?_⟩
  refine J.va (fun D w' _ _ _ hJ => x_mvS rfl) (fun D w' hJ => hJ) ?_
  refine J.va (fun D w' _ _ _ hJ => x_idxI rfl rfl Try.underlying25 sz53 hE.sl (by decide) (by decide)) (fun D w' hJ => hJ) ?_
  refine J.va (fun D w' _ _ _ hJ => x_loadAgg rfl Try.underlying53 rfl sz53 rfl ((hE.below hJ.1).all (i := 0) (by decide))) (fun D w' hJ => hJ) ?_
  refine J.va (fun D w' _ _ _ hJ => x_mvS rfl) (fun D w' hJ => hJ) ?_
  refine J.va (fun D w' _ _ _ hJ => x_idxI rfl rfl Try.underlying25 sz53 hE.sl (by decide) (by decide)) (fun D w' hJ => hJ) ?_
  refine J.va (fun D w' _ _ _ hJ => x_loadAgg rfl Try.underlying53 rfl sz53 rfl ((hE.below hJ.1).all (i := 3) (by decide))) (fun D w' hJ => hJ) ?_
  refine J.vw (v := .slice (some ⟨w.heap.size, 0, none⟩) 2 2) (fun D w' hD _ _ hJ => ?_) ?_
  · have hsz := hJ.2.1 hD
    have F := fresh_alloc w' (cellsE [e0, e3]) 53
    rw [hsz] at F
    refine ⟨w'.alloc (.cells (cellsE [e0, e3]) 53), ?_, cl_step hJ.1 F.below, (fun h => by cases h), fun _ => F.blk⟩
    refine Eq.trans (x_buildS (vs := [(0, .agg #[.int .i64 0, .int .i64 9, .int .i64 1, .int .i64 0]), (1, .agg #[.int .i64 1, .int .i64 8, .int .i64 1, .int .i64 0])]) (len := 2) (parts := [(0, .tmp 32), (1, .tmp 35)]) (cs := cellsE [e0, e3]) ?_ Try.underlying25 sz53 zr53 (by decide) (by decide) fill2) ?_
    · rfl
    · rw [hsz]
  refine J.va (fun D w' _ _ _ hJ => x_asS rfl) (fun D w' hJ => hJ) ?_
  refine J.nil ?_
  rintro D w' hD ⟨hbw, -, hB⟩
  have hS := at_eS (hB (hD 6 (by decide)))
  have hP := hP.keep hbw
  have hE := hE.below hbw
  have hb := cl_step hb hbw
  show W _ _ _ _ _ _
  refine W.seq ?_
  refine W.region rfl ?_
  refine L.va (x_mvS rfl) ?_
  refine L.call (x_call2 rfl rfl Try.func22 rfl nm22 rfl) (praces_ok (some ⟨w.heap.size, 0, none⟩) 2 2 eS 2 w' hS check_eS) ?_
  rintro _ w ⟨sa, sc, rfl, -, hbw⟩
  rw [races_eS]
  have hP := hP.keep hbw
  have hE := hE.below hbw
  have hb := cl_step hb hbw
  refine L.va (x_mvT rfl) ?_
  refine L.va (x_extract rfl rfl) ?_
  refine L.va (x_extract rfl rfl) ?_
  refine L.va (x_asS rfl) ?_
  refine L.va (x_asI rfl) ?_
  refine L.nil ?_
  show W _ _ _ _ _ _
  refine W.seq ?_
  refine W.region rfl ?_
  refine L.va (x_mvS rfl) ?_
  refine L.call (x_call3 rfl rfl rfl Try.func25 rfl nm25 rfl) (sees_ok (some ⟨b19, 0, none⟩) 4 4 eL 2 3 w hE (by decide) check_eL) ?_
  rintro _ w ⟨rfl, hbw⟩
  rw [sees_eL]
  have hP := hP.keep hbw
  have hE := hE.below hbw
  have hb := cl_step hb hbw
  refine L.va (x_mvT rfl) ?_
  refine L.va (x_extract rfl rfl) ?_
  refine L.va (x_extract rfl rfl) ?_
  refine L.va (x_asI rfl) ?_
  refine L.va (x_asB rfl) ?_
  refine L.nil ?_
  show W _ _ _ _ _ _
  refine W.seq ?_
  refine W.region rfl ?_
  refine L.va (x_mvI rfl) ?_
  refine L.call (x_call1 rfl Try.func12 rfl nm12 rfl) (num_c _ _) ?_
  rintro _ w ⟨rfl, hw⟩
  rw [hw]
  clear hw w
  refine L.va (x_eql rfl rfl) ?_
  refine L.va (x_mvB rfl) ?_
  refine L.meetB 4 [50,51,52,53,54] 54 (.bool true) (tj := 50) rfl (fun hb50 => ?_) (fun hb50 => ?_) (fun f => ?_)
  · refine L.on rfl ?_
    refine L.va (x_mvS rfl) ?_
    refine L.on rfl ?_
    refine L.va (x_len rfl Try.underlying27 rfl) ?_
    refine L.on rfl ?_
    refine L.va (x_eql rfl rfl) ?_
    refine L.va (x_pickT rfl) ?_
    refine L.nil ?_
    refine ⟨rfl, congrArg Value.bool (rfl), ?_⟩
    exact Agree.upd rfl (Agree.upd rfl (Agree.upd rfl (Agree.upd rfl (Agree.upd rfl (Agree.refl _ _)))))
  · exact absurd hb50 (by decide)
  refine L.va (x_mvB rfl) ?_
  refine L.meetB 7 [55,56,57,58,59,60,61,62] 62 (.bool true) (tj := 55) rfl (fun hb55 => ?_) (fun hb55 => ?_) (fun f => ?_)
  · refine L.on rfl ?_
    refine L.va (x_mvS rfl) ?_
    refine L.on rfl ?_
    refine L.va (x_idxI rfl rfl Try.underlying27 sz34 hP.own.sl (by decide) (by decide)) ?_
    refine L.on rfl ?_
    refine L.va (x_load rfl Try.underlying34 rfl (by rw [hP.own.off]; exact hP.own.cell (rowsL_get (R := R) (C := CC) (len := 2) (show 3 < 4 by decide)))) ?_
    refine L.on rfl ?_
    refine L.va (x_idxI rfl rfl Try.underlying34 sz3 (SL.mk _ _ _) (by decide) (by decide)) ?_
    refine L.on rfl ?_
    refine L.va (x_load rfl Try.underlying3 rfl ((hP.row 3 (by decide)).cell (j := 0) rfl)) ?_
    refine L.on rfl ?_
    refine L.va (x_eql rfl rfl) ?_
    refine L.va (x_pickT rfl) ?_
    refine L.nil ?_
    refine ⟨rfl, congrArg Value.bool (by rw [clk_eL.1]; rfl), ?_⟩
    exact Agree.upd rfl (Agree.upd rfl (Agree.upd rfl (Agree.upd rfl (Agree.upd rfl (Agree.upd rfl (Agree.upd rfl (Agree.upd rfl (Agree.refl _ _))))))))
  · cases hb55
  refine L.va (x_mvB rfl) ?_
  refine L.meetB 7 [63,64,65,66,67,68,69,70] 70 (.bool true) (tj := 63) rfl (fun hb63 => ?_) (fun hb63 => ?_) (fun f => ?_)
  · refine L.on rfl ?_
    refine L.va (x_mvS rfl) ?_
    refine L.on rfl ?_
    refine L.va (x_idxI rfl rfl Try.underlying27 sz34 hP.own.sl (by decide) (by decide)) ?_
    refine L.on rfl ?_
    refine L.va (x_load rfl Try.underlying34 rfl (by rw [hP.own.off]; exact hP.own.cell (rowsL_get (R := R) (C := CC) (len := 2) (show 3 < 4 by decide)))) ?_
    refine L.on rfl ?_
    refine L.va (x_idxI rfl rfl Try.underlying34 sz3 (SL.mk _ _ _) (by decide) (by decide)) ?_
    refine L.on rfl ?_
    refine L.va (x_load rfl Try.underlying3 rfl ((hP.row 3 (by decide)).cell (j := 1) rfl)) ?_
    refine L.on rfl ?_
    refine L.va (x_eql rfl rfl) ?_
    refine L.va (x_pickT rfl) ?_
    refine L.nil ?_
    refine ⟨rfl, congrArg Value.bool (by rw [clk_eL.2]; rfl), ?_⟩
    exact Agree.upd rfl (Agree.upd rfl (Agree.upd rfl (Agree.upd rfl (Agree.upd rfl (Agree.upd rfl (Agree.upd rfl (Agree.upd rfl (Agree.refl _ _))))))))
  · cases hb63
  refine L.va (x_mvB rfl) ?_
  refine L.meetB 4 [71,72,73,74,75] 75 (.bool true) (tj := 71) rfl (fun hb71 => ?_) (fun hb71 => ?_) (fun f => ?_)
  · refine L.on rfl ?_
    refine L.va (x_mvI rfl) ?_
    refine L.on rfl ?_
    refine L.call (x_call1 rfl Try.func12 rfl nm12 rfl) (num_c _ _) ?_
    rintro _ w ⟨rfl, hw⟩
    rw [hw]
    clear hw w
    refine L.on rfl ?_
    refine L.va (x_eql rfl rfl) ?_
    refine L.va (x_pickT rfl) ?_
    refine L.nil ?_
    refine ⟨rfl, congrArg Value.bool (rfl), ?_⟩
    exact Agree.upd rfl (Agree.upd rfl (Agree.upd rfl (Agree.upd rfl (Agree.upd rfl (Agree.refl _ _)))))
  · cases hb71
  refine L.va (x_mvB rfl) ?_
  refine L.meetB 4 [76,77,78,79,80] 80 (.bool true) (tj := 76) rfl (fun hb76 => ?_) (fun hb76 => ?_) (fun f => ?_)
  · refine L.on rfl ?_
    refine L.va (x_mvS rfl) ?_
    refine L.on rfl ?_
    refine L.va (x_len rfl Try.underlying41 rfl) ?_
    refine L.on rfl ?_
    refine L.va (x_eql rfl rfl) ?_
    refine L.va (x_pickT rfl) ?_
    refine L.nil ?_
    refine ⟨rfl, congrArg Value.bool (rfl), ?_⟩
    exact Agree.upd rfl (Agree.upd rfl (Agree.upd rfl (Agree.upd rfl (Agree.upd rfl (Agree.refl _ _)))))
  · cases hb76
  refine L.va (x_mvB rfl) ?_
  refine L.meetB 4 [81,82,83,84,85] 85 (.bool true) (tj := 81) rfl (fun hb81 => ?_) (fun hb81 => ?_) (fun f => ?_)
  · refine L.on rfl ?_
    refine L.va (x_mvI rfl) ?_
    refine L.on rfl ?_
    refine L.call (x_call1 rfl Try.func12 rfl nm12 rfl) (num_c _ _) ?_
    rintro _ w ⟨rfl, hw⟩
    rw [hw]
    clear hw w
    refine L.on rfl ?_
    refine L.va (x_eql rfl rfl) ?_
    refine L.va (x_pickT rfl) ?_
    refine L.nil ?_
    refine ⟨rfl, congrArg Value.bool (rfl), ?_⟩
    exact Agree.upd rfl (Agree.upd rfl (Agree.upd rfl (Agree.upd rfl (Agree.upd rfl (Agree.refl _ _)))))
  · cases hb81
  refine L.va (x_mvB rfl) ?_
  refine L.meetB 4 [86,87,88,89,90] 90 (.bool true) (tj := 86) rfl (fun hb86 => ?_) (fun hb86 => ?_) (fun f => ?_)
  · refine L.on rfl ?_
    refine L.va (x_mvS rfl) ?_
    refine L.on rfl ?_
    refine L.va (x_len rfl Try.underlying41 rfl) ?_
    refine L.on rfl ?_
    refine L.va (x_eql rfl rfl) ?_
    refine L.va (x_pickT rfl) ?_
    refine L.nil ?_
    refine ⟨rfl, congrArg Value.bool (rfl), ?_⟩
    exact Agree.upd rfl (Agree.upd rfl (Agree.upd rfl (Agree.upd rfl (Agree.upd rfl (Agree.refl _ _)))))
  · cases hb86
  refine L.va (x_mvB rfl) ?_
  refine L.meetW 3 [91,92,93,94] 94 (.bool true) (tj := 91) (fun w' => Below w.heap.size w w') rfl (fun hb91 => ?_) (fun hb91 => ?_) (fun f w hm => ?_)
  · have hm := Below.refl w.heap.size w
    refine L.on rfl ?_
    refine L.va (x_mvS rfl) ?_
    refine L.on rfl ?_
    refine L.call (x_call4 rfl rfl rfl rfl Try.func19 rfl nm19 rfl) (before_ok (some ⟨b19, 0, none⟩) 4 4 eL 2 0 3 w hE (by decide) check_eL) ?_
    rintro _ w ⟨rfl, hbw⟩
    have hm := cl_step hm hbw
    refine L.va (x_pickT rfl) ?_
    refine L.nil ?_
    refine ⟨hm, congrArg Value.bool (bef_eL), ?_⟩
    exact Agree.upd rfl (Agree.upd rfl (Agree.upd rfl (Agree.upd rfl (Agree.refl _ _))))
  · cases hb91
  have hb := cl_step hb hm
  refine L.va (x_mvB rfl) ?_
  refine L.meetB 3 [95,96,97,98] 98 (.bool true) (tj := 95) rfl (fun hb95 => ?_) (fun hb95 => ?_) (fun f => ?_)
  · refine L.on rfl ?_
    refine L.va (x_mvI rfl) ?_
    refine L.on rfl ?_
    refine L.va (x_eql rfl rfl) ?_
    refine L.va (x_pickT rfl) ?_
    refine L.nil ?_
    refine ⟨rfl, congrArg Value.bool (rfl), ?_⟩
    exact Agree.upd rfl (Agree.upd rfl (Agree.upd rfl (Agree.upd rfl (Agree.refl _ _))))
  · cases hb95
  refine L.va (x_mvB rfl) ?_
  refine L.meetB 2 [99,100,101] 101 (.bool true) (tj := 99) rfl (fun hb99 => ?_) (fun hb99 => ?_) (fun f => ?_)
  · refine L.on rfl ?_
    refine L.va (x_mvB rfl) ?_
    refine L.va (x_pickT rfl) ?_
    refine L.nil ?_
    refine ⟨rfl, congrArg Value.bool (rfl), ?_⟩
    exact Agree.upd rfl (Agree.upd rfl (Agree.upd rfl (Agree.refl _ _)))
  · cases hb99
  refine L.va (x_asB rfl) ?_
  refine L.nil ?_
  show W _ _ _ _ _ _
  refine W.ret ?_
  repeat (first | refine T.ret ?_ | refine B.ret ?_)
  refine ends.one (.inr rfl) rfl ?_
  exact ⟨rfl, hb⟩

end Go.Proofs.Ytlopdjbehhdmpaa
