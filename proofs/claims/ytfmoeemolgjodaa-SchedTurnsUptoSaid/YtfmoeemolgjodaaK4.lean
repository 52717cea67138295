/- What the claim leans on, part 4. The scheduler's small functions: what each returns, what it leaves. -/
import Derived.Test.YtfmoeemolgjodaaK3
import Derived.Conc.SmallLaws
set_option linter.unusedVariables false
section
namespace Go.Vy.Sc
open Go Go.Conc Go.Yc Go.RowKit Go.Proofs Go.Proofs.Ytfmoeemolgjodaa
open Go.Vc
section
variable [Ctx Try.prog]

end
section
theorem buS_0 (x0 : Int) (x1 : Int) (x2 : Int) (x3 : ByteArray) : Try.prog.built 47 [(0, .int .i64 x0), (1, .int .i64 x1), (2, .int .i64 x2), (3, .string x3)] = some #[.int .i64 x0, .int .i64 x1, .int .i64 x2, .string x3] := by kernel_rfl
end
section
variable [Ctx Try.prog]
theorem number_c (rb i : Nat) (c : CB) (w : World) (hC : BlkF w c.cb (c.cells rb i) 76 (0, 3)) : C Try.prog 24 #[.pointer (some ⟨c.cb, 0, none⟩)] w fun v w1 => v = .int .i64 (i : Int) ∧ w1 = w := by
  refine C.enter (n := 9) Try.func24 rfl rfl ?_
  refine W.seq ?_
  refine W.region rfl ?_
  refine L.va (x_asI rfl) ?_
  refine L.nil ?_
  show W _ _ _ _ _ _
  refine W.seq ?_
  refine W.seq ?_
  refine W.region rfl ?_
  refine L.va (x_mvP rfl) ?_
  refine L.va (x_eqPtrNil rfl rfl Try.underlying50) ?_
  refine L.nil ?_
  show W _ _ _ _ _ _
  refine W.condF rfl ?_
  refine W.skip ?_
  show W _ _ _ _ _ _
  refine W.seq ?_
  refine W.region rfl ?_
  refine L.va (x_mvP rfl) ?_
  refine L.va (x_nilCheck rfl) ?_
  refine L.va (x_field rfl Try.underlying76 rfl sz3 (by decide)) ?_
  refine L.va (x_load rfl Try.underlying3 rfl (hC.cellAt 0 (v := .int .i64 (i : Int)) rfl)) ?_
  refine L.va (x_asI rfl) ?_
  refine L.nil ?_
  show W _ _ _ _ _ _
  refine W.ret ?_
  repeat (first | refine T.ret ?_ | refine B.ret ?_ | refine N.ret ?_)
  refine ends.one (.inr rfl) rfl ?_
  exact ⟨rfl, rfl⟩

theorem picks_c (rb i : Nat) (c : CB) (w : World) (hC : BlkF w c.cb (c.cells rb i) 76 (0, 3)) : C Try.prog 25 #[.pointer (some ⟨c.cb, 0, none⟩)] w fun v w1 => v = .int .i64 (c.picks : Int) ∧ w1 = w := by
  refine C.enter (n := 9) Try.func25 rfl rfl ?_
  refine W.seq ?_
  refine W.region rfl ?_
  refine L.va (x_asI rfl) ?_
  refine L.nil ?_
  show W _ _ _ _ _ _
  refine W.seq ?_
  refine W.seq ?_
  refine W.region rfl ?_
  refine L.va (x_mvP rfl) ?_
  refine L.va (x_eqPtrNil rfl rfl Try.underlying50) ?_
  refine L.nil ?_
  show W _ _ _ _ _ _
  refine W.condF rfl ?_
  refine W.skip ?_
  show W _ _ _ _ _ _
  refine W.seq ?_
  refine W.region rfl ?_
  refine L.va (x_mvP rfl) ?_
  refine L.va (x_nilCheck rfl) ?_
  refine L.va (x_field rfl Try.underlying76 rfl sz3 (by decide)) ?_
  refine L.va (x_load rfl Try.underlying3 rfl (hC.cellAt 8 (v := .int .i64 (c.picks : Int)) rfl)) ?_
  refine L.va (x_asI rfl) ?_
  refine L.nil ?_
  show W _ _ _ _ _ _
  refine W.ret ?_
  repeat (first | refine T.ret ?_ | refine B.ret ?_ | refine N.ret ?_)
  refine ends.one (.inr rfl) rfl ?_
  exact ⟨rfl, rfl⟩

theorem note_c {S : Nat → Prop} {B : Nat} {w0 : World} {Bs : Nat} (R : Rn) (w : World) (hg : Rg S B w0 w Bs R) (hBs : Bs ≤ w.heap.size) (i : Nat) (c : CB) (hc : R.cl[i]? = some c) (hst : c.st = false) (hrm : R.nts.length ≤ 1000000000) (kind : Int) (text : ByteArray) : C Try.prog 29 #[.pointer (some ⟨c.cb, 0, none⟩), .int .i64 kind, .string text] w fun v w1 => v = .tuple #[] ∧ ∃ a n, Rg S B w0 w1 Bs { R with na := a, nc := n, nts := R.nts ++ [(R.evs.length, i, ⟨kind, text⟩)] } := by
  refine C.enter (n := 42) Try.func29 rfl rfl ?_
  refine W.seq ?_
  refine W.seq ?_
  refine W.region rfl ?_
  refine L.va (x_mvP rfl) ?_
  refine L.va (x_eqPtrNil rfl rfl Try.underlying50) ?_
  refine L.va (x_mvB rfl) ?_
  refine L.on rfl ?_
  refine L.va (x_mvP rfl) ?_
  refine L.on rfl ?_
  refine L.va (x_nilCheck rfl) ?_
  refine L.on rfl ?_
  refine L.va (x_field rfl Try.underlying76 rfl sz4 (by decide)) ?_
  refine L.on rfl ?_
  refine L.va (x_load rfl Try.underlying4 rfl ((hg.m.blk i c hc).cellAt 10 (v := .bool (c.st)) rfl)) ?_
  refine L.va (x_pickF rfl) ?_
  refine L.nil ?_
  show W _ _ _ _ _ _
  refine W.condF (rb hst) ?_
  refine W.skip ?_
  show W _ _ _ _ _ _
  refine W.seq ?_
  refine W.region rfl ?_
  refine L.va (x_mvP rfl) ?_
  refine L.va (x_nilCheck rfl) ?_
  refine L.va (x_field rfl Try.underlying76 rfl sz73 (by decide)) ?_
  refine L.va (x_load rfl Try.underlying73 rfl ((hg.m.blk i c hc).cellAt 1 (v := .pointer (some ⟨R.rb, 0, none⟩)) rfl)) ?_
  refine L.va (x_nilCheck rfl) ?_
  refine L.va (x_field rfl Try.underlying91 rfl sz31 (by decide)) ?_
  refine L.va (x_asP rfl) ?_
  refine L.nil ?_
  show W _ _ _ _ _ _
  have hR := hg.m.run
  have hC := (hg.m.blk i c hc)
  refine W.fl 19 [17,18] [0,1,2,3,4,5,6,7,8,9,10,11,12,13,14,15,16,17,18] (fun w' => BlkF w' R.rb #[.slice (R.ca) (R.cl.length) (R.cc), .slice (R.ea) (R.evs.length) (R.ec), .slice (R.na) (R.nts.length) (R.nc), .slice (some ⟨R.eb, 0, none⟩) (R.m) (R.m), .slice (some ⟨R.wb, 0, none⟩) (R.m) (R.m), .bool (R.stuck), .int .i64 (R.used : Int), .chan (some R.yb)] 91 (7, 8) ∧ BlkF w' c.cb #[.int .i64 (i : Int), .pointer (some ⟨R.rb, 0, none⟩), .chan (some c.rc), .int .i64 (c.sp.kind), .int .i64 (c.sp.obj), .int .i64 (c.sp.num), c.rf, c.df, .int .i64 (c.picks : Int), .bool (c.wt), .bool (c.st)] 76 (0, 3)) (by kernel_rfl) (by kernel_rfl) (by kernel_rfl) (by kernel_rfl) (by kernel_rfl) (⟨hR.keep (Below.refl w.heap.size w).drew, hC.keep (Below.refl w.heap.size w).drew⟩) ?_
  have hdr : Below w.heap.size w w.drew := (Below.refl w.heap.size w).drew
  have hBs := Nat.le_trans hBs hdr.size
  have hg := hg.keep hdr
  have hR := hR.keep hdr
  have hC := hC.keep hdr
  clear hdr
  generalize w.drew = w at *
  refine F.va rfl rfl (fun w' hw' => (x_mvP rfl)) ?_
  refine F.va rfl rfl (fun w' hw' => (x_mvP rfl)) ?_
  refine F.va rfl rfl (fun w' hw' => (x_nilCheck rfl)) ?_
  refine F.va rfl rfl (fun w' hw' => (x_field rfl Try.underlying31 rfl sz28 (by decide))) ?_
  refine F.va rfl rfl (fun w' hw' => (x_load rfl Try.underlying28 rfl (hw'.1.cellAt 2 (v := .slice (R.na) (R.nts.length) (R.nc)) rfl))) ?_
  refine F.va rfl rfl (fun w' hw' => (x_mvP rfl)) ?_
  refine F.va rfl rfl (fun w' hw' => (x_nilCheck rfl)) ?_
  refine F.va rfl rfl (fun w' hw' => (x_field rfl Try.underlying31 rfl sz27 (by decide))) ?_
  refine F.va rfl rfl (fun w' hw' => (x_load rfl Try.underlying27 rfl (hw'.1.cellAt 1 (v := .slice (R.ea) (R.evs.length) (R.ec)) rfl))) ?_
  refine F.va rfl rfl (fun w' hw' => (x_len rfl Try.underlying27 rfl)) ?_
  refine F.va rfl rfl (fun w' hw' => (x_mvP rfl)) ?_
  refine F.va rfl rfl (fun w' hw' => (x_nilCheck rfl)) ?_
  refine F.va rfl rfl (fun w' hw' => (x_field rfl Try.underlying76 rfl sz3 (by decide))) ?_
  refine F.va rfl rfl (fun w' hw' => (x_load rfl Try.underlying3 rfl (hw'.2.cellAt 0 (v := .int .i64 (i : Int)) rfl))) ?_
  refine F.va rfl rfl (fun w' hw' => (x_mvI rfl)) ?_
  refine F.va rfl rfl (fun w' hw' => x_move) ?_
  refine F.va rfl rfl (fun w' hw' => (x_build (parts := [(0, .tmp 30), (1, .tmp 34), (2, .tmp 35), (3, .tmp 36)]) rfl (buS_0 (R.evs.length : Nat) (i : Int) kind text))) ?_
  refine F.doo rfl rfl ?_
  refine L.build1 (cs := #[.int .i64 (R.evs.length : Nat), .int .i64 (i : Int), .int .i64 kind, .string text]) rfl rfl Try.underlying28 sz47 rfl ⟨_, zr47⟩ (by decide) (fun w b38 F38 => ?_)
  have hBs := Nat.le_trans hBs F38.below.size
  have hg := hg.keep F38.below
  have hR := hR.keep F38.below
  have hC := hC.keep F38.below
  have hB38 := F38.blk
  refine L.nil ⟨rfl, ⟨hR, hC⟩, ?_⟩
  refine F.doo rfl rfl ?_
  refine L.appendW (B := Bs) (m := 1) rfl rfl Try.underlying28 in47 rfl (by decide) hg.m.nts (news := [.int .i64 (R.evs.length : Nat), .int .i64 (i : Int), .int .i64 kind, .string text]) rfl (fun j u hj => by
    rw [Addr.add_lit]
    match j, hj with
    | 0, hj => cases hj; exact hB38.cellAt 0 rfl
    | 1, hj => cases hj; exact hB38.cellAt 1 rfl
    | 2, hj => cases hj; exact hB38.cellAt 2 rfl
    | 3, hj => cases hj; exact hB38.cellAt 3 rfl) (fun u hu => by simp only [List.mem_cons, List.not_mem_nil, or_false] at hu; rcases hu with rfl | rfl | rfl | rfl <;> rfl) (by omega) (by omega) hBs (fun a39 c39 w2 hO hgr hli => ?_)
  have hR := apartF hR hgr (row_ne hg.m.nts (by decide))
  have hC := apartF hC hgr (row_ne hg.m.nts (by decide))
  refine L.nil ⟨rfl, ⟨hR, hC⟩, ?_⟩
  refine F.nil ?_
  show L _ _ _ _ _ _ _
  refine L.va (x_nilCheck rfl) ?_
  refine L.va (x_field rfl Try.underlying31 rfl sz28 (by decide)) ?_
  refine L.stNt (o := 0) (v := undef) hg (R.evs.length, i, ⟨kind, text⟩) hgr hO hli rfl rfl sz28 (fun w hg => ?_)
  refine L.nil ?_
  try clear hR
  try clear hC
  repeat (first | refine T.nrm ?_ | refine B.nrm ?_ | refine N.nrm ?_)
  refine ends.none (.inl rfl) rfl ?_
  exact ⟨rfl, _, _, hg⟩

theorem anyWaits_c (R : Rn) (Bs : Nat) (w0 : World) (hM : RunM w0 Bs R) (hm : R.cl.length ≤ 1000) : C Try.prog 38 #[.pointer (some ⟨R.rb, 0, none⟩)] w0 fun v w1 => v = .bool (R.cl.any (·.wt)) ∧ w1 = w0 := by
  refine C.enter (n := 19) Try.func38 rfl rfl ?_
  refine W.seq ?_
  refine W.region rfl ?_
  refine L.va (x_asB rfl) ?_
  refine L.nil ?_
  show W _ _ _ _ _ _
  refine W.seq ?_
  refine W.seq ?_
  refine W.region rfl ?_
  refine L.va (x_mvP rfl) ?_
  refine L.va (x_nilCheck rfl) ?_
  refine L.va (x_field rfl Try.underlying91 rfl sz79 (by decide)) ?_
  refine L.va (x_load rfl Try.underlying79 rfl (hM.run.cellAt 0 (v := .slice (R.ca) (R.cl.length) (R.cc)) rfl)) ?_
  refine L.va (x_len rfl Try.underlying79 rfl) ?_
  refine L.va (x_mvI rfl) ?_
  refine L.nil ?_
  show W _ _ _ _ _ _
  refine W.block ?_
  refine W.loop (fun k e w => ∃ (i : Nat), k = R.cl.length - i ∧ e 0 = .pointer (some ⟨R.rb, 0, none⟩) ∧ e 2 = .bool false ∧ e 8 = .slice (R.ca) (R.cl.length) (R.cc) ∧ e 9 = .int .i64 (R.cl.length : Nat) ∧ e 10 = .int .i64 (i : Int) ∧ i ≤ R.cl.length ∧ (∀ (j : Nat) (c : CB), j < i → R.cl[j]? = some c → c.wt = false) ∧ w = w0) _ ⟨0, rfl, rfl, rfl, rfl, rfl, rfl, Nat.zero_le _, fun j c hj => absurd hj (Nat.not_lt_zero _), rfl⟩ ?_
  rintro k e w ⟨i, hk, s0, s2, s8, s9, s10, hi, hno, hw⟩
  rw [upd_id s0, upd_id s2, upd_id s8, upd_id s9, upd_id s10]
  clear s0 s2 s8 s9 s10
  subst hw
  refine W.seq ?_
  refine W.region rfl ?_
  refine L.va (x_lss rfl rfl) ?_
  refine L.nil ?_
  show W _ _ _ _ _ _
  refine W.seq ?_
  refine W.condP rfl (fun h11 => ?_) (fun h11 => ?_)
  · have hlt : i < R.cl.length := by omega
    obtain ⟨c, hc⟩ : ∃ c, R.cl[i]? = some c := ⟨_, List.getElem?_eq_getElem hlt⟩
    refine W.skip ?_
    show W _ _ _ _ _ _
    refine W.seq ?_
    refine W.block ?_
    refine W.seq ?_
    refine W.region rfl ?_
    refine L.va (x_idx (i := i) rfl rfl Try.underlying79 sz50 hM.cls.sl hlt) ?_
    refine L.va (x_load (v := .pointer (some ⟨c.cb, 0, none⟩)) rfl Try.underlying50 rfl (cls_at hM hc)) ?_
    refine L.va (x_asP rfl) ?_
    refine L.nil ?_
    show W _ _ _ _ _ _
    refine W.seq ?_
    refine W.region rfl ?_
    refine L.va (x_mvP rfl) ?_
    refine L.va (x_nilCheck rfl) ?_
    refine L.va (x_field rfl Try.underlying76 rfl sz4 (by decide)) ?_
    refine L.va (x_load rfl Try.underlying4 rfl ((hM.blk i c hc).cellAt 9 (v := .bool (c.wt)) rfl)) ?_
    refine L.nil ?_
    show W _ _ _ _ _ _
    refine W.cond rfl (fun h17 => ?_) (fun h17 => ?_)
    · refine W.seq ?_
      refine W.region rfl ?_
      refine L.va (x_asB rfl) ?_
      refine L.nil ?_
      show W _ _ _ _ _ _
      refine W.ret ?_
      repeat (first | refine T.ret ?_ | refine B.ret ?_ | refine N.ret ?_)
      refine ends.one (.inr rfl) rfl ?_
      exact ⟨congrArg Value.bool (List.any_eq_true.2 ⟨c, List.mem_of_getElem? hc, h17⟩).symm, rfl⟩
    · refine W.skip ?_
      refine B.nrm ?_
      show W _ _ _ _ _ _
      refine W.region rfl ?_
      refine L.va (x_inc rfl rfl (by omega)) ?_
      refine L.va (x_mvI rfl) ?_
      refine L.nil ?_
      refine T.nrm ?_
      exact ⟨_, by omega, ⟨i + 1, rfl, rfl, rfl, rfl, rfl, rfl, (by omega), (fun j d hj hd => by
          rcases Nat.lt_or_ge j i with z | z
          · exact hno j d z hd
          · obtain rfl : j = i := by omega
            rw [hc] at hd; obtain rfl := Option.some.inj hd; exact h17), rfl⟩⟩
  · refine W.exit ?_
    repeat (first | refine T.exit ?_ | refine N.exit ?_ | refine B.exitNe (by decide) ?_)
    refine B.exitEq ?_
    show W _ _ _ _ _ _
    refine W.seq ?_
    refine W.region rfl ?_
    refine L.va (x_asB rfl) ?_
    refine L.nil ?_
    show W _ _ _ _ _ _
    refine W.ret ?_
    repeat (first | refine T.ret ?_ | refine B.ret ?_ | refine N.ret ?_)
    refine ends.one (.inr rfl) rfl ?_
    exact ⟨congrArg Value.bool (no_wt hno (by omega)).symm, rfl⟩

theorem readies_c (R : Rn) (Bs : Nat) (w0 : World) (hM : RunM w0 Bs R) (hm : R.cl.length ≤ 1000) (r : Nat → Bool) (hrd : ∀ (i : Nat) (c : CB), R.cl[i]? = some c → c.wt = true → ReadyAt w0 c.rf (r i)) : C Try.prog 36 #[.pointer (some ⟨R.rb, 0, none⟩)] w0 fun v w => ∃ a cp, v = .slice a (rdl R.cl r R.cl.length).length cp ∧ Own w w0.heap.size 50 1 a (rdl R.cl r R.cl.length).length cp ((rdl R.cl r R.cl.length).map (cbOf R.cl)) ∧ Below w0.heap.size w0 w := by
  refine C.enter (n := 39) Try.func36 rfl rfl ?_
  have hb : Below w0.heap.size w0 w0 := Below.refl _ _
  refine W.seq ?_
  refine W.region rfl ?_
  refine L.va (x_asS rfl) ?_
  refine L.nil ?_
  show W _ _ _ _ _ _
  refine W.seq ?_
  refine W.region rfl ?_
  refine L.va (x_asS rfl) ?_
  refine L.nil ?_
  show W _ _ _ _ _ _
  refine W.seq ?_
  refine W.seq ?_
  refine W.region rfl ?_
  refine L.va (x_mvP rfl) ?_
  refine L.va (x_nilCheck rfl) ?_
  refine L.va (x_field rfl Try.underlying91 rfl sz79 (by decide)) ?_
  refine L.va (x_load rfl Try.underlying79 rfl ((hM.keep hb).run.cellAt 0 (v := .slice (R.ca) (R.cl.length) (R.cc)) rfl)) ?_
  refine L.va (x_len rfl Try.underlying79 rfl) ?_
  refine L.va (x_mvI rfl) ?_
  refine L.nil ?_
  show W _ _ _ _ _ _
  refine W.block ?_
  refine W.loop (fun k e w => ∃ (i : Nat), ∃ (a : Option Addr), ∃ (q : Nat), ∃ (cp : Nat), k = R.cl.length - i ∧ e 0 = .pointer (some ⟨R.rb, 0, none⟩) ∧ e 2 = .slice none 0 0 ∧ e 3 = .slice a q cp ∧ e 9 = .slice (R.ca) (R.cl.length) (R.cc) ∧ e 10 = .int .i64 (R.cl.length : Nat) ∧ e 11 = .int .i64 (i : Int) ∧ i ≤ R.cl.length ∧ q = (rdl R.cl r i).length ∧ Own w w0.heap.size 50 1 a q cp ((rdl R.cl r i).map (cbOf R.cl)) ∧ Below w0.heap.size w0 w) _ ⟨0, none, 0, 0, rfl, rfl, rfl, rfl, rfl, rfl, rfl, Nat.zero_le _, rfl, Own.nil _ _ _ _, hb⟩ ?_
  rintro k e w ⟨i, a, q, cp, hk, s0, s2, s3, s9, s10, s11, hi, hq, hO, hb⟩
  rw [upd_id s0, upd_id s2, upd_id s3, upd_id s9, upd_id s10, upd_id s11]
  clear s0 s2 s3 s9 s10 s11
  refine W.seq ?_
  refine W.region rfl ?_
  refine L.va (x_lss rfl rfl) ?_
  refine L.nil ?_
  show W _ _ _ _ _ _
  refine W.seq ?_
  refine W.condP rfl (fun h12 => ?_) (fun h12 => ?_)
  · have hlt : i < R.cl.length := by omega
    obtain ⟨c, hc⟩ : ∃ c, R.cl[i]? = some c := ⟨_, List.getElem?_eq_getElem hlt⟩
    obtain ⟨cb, rc, sp, rf, df, pk, wt, st⟩ := c
    refine W.skip ?_
    show W _ _ _ _ _ _
    refine W.seq ?_
    refine W.block ?_
    refine W.seq ?_
    refine W.region rfl ?_
    refine L.va (x_idx (i := i) rfl rfl Try.underlying79 sz50 hM.cls.sl hlt) ?_
    refine L.va (x_load (v := .pointer (some ⟨cb, 0, none⟩)) rfl Try.underlying50 rfl (cls_at (hM.keep hb) hc)) ?_
    refine L.va (x_asP rfl) ?_
    refine L.nil ?_
    show W _ _ _ _ _ _
    refine W.seq ?_
    cases wt with
    | false =>
      refine W.region rfl ?_
      refine L.va (x_mvP rfl) ?_
      refine L.va (x_nilCheck rfl) ?_
      refine L.va (x_field rfl Try.underlying76 rfl sz4 (by decide)) ?_
      refine L.va (x_load rfl Try.underlying4 rfl (((hM.keep hb).blk i _ hc).cellAt 9 (v := .bool false) rfl)) ?_
      refine L.va (x_mvB rfl) ?_
      refine L.off rfl ?_
      refine L.off rfl ?_
      refine L.off rfl ?_
      refine L.off rfl ?_
      refine L.off rfl ?_
      refine L.off rfl ?_
      refine L.off rfl ?_
      refine L.off rfl ?_
      refine L.off rfl ?_
      refine L.off rfl ?_
      refine L.off rfl ?_
      refine L.off rfl ?_
      refine L.va (x_pickF rfl) ?_
      refine L.nil ?_
      have hrl := rdl_no (r := r) hc rfl
      show W _ _ _ _ _ _
      refine W.condF rfl ?_
      refine W.skip ?_
      refine B.nrm ?_
      show W _ _ _ _ _ _
      refine W.region rfl ?_
      refine L.va (x_inc rfl rfl (by omega)) ?_
      refine L.va (x_mvI rfl) ?_
      refine L.nil ?_
      refine T.nrm ?_
      exact ⟨_, by omega, ⟨i + 1, a, q, cp, rfl, rfl, rfl, rfl, rfl, rfl, rfl, (by omega), (by rw [hrl]; exact hq), (by rw [hrl]; exact hO), hb⟩⟩
    | true =>
      rcases hrd i _ hc rfl with ⟨h1, h2⟩ | ⟨f, fn, caps, h1, hf, hbd, hnm, hcall⟩
      all_goals dsimp only at h1
      all_goals subst h1
      · refine W.region rfl ?_
        refine L.va (x_mvP rfl) ?_
        refine L.va (x_nilCheck rfl) ?_
        refine L.va (x_field rfl Try.underlying76 rfl sz4 (by decide)) ?_
        refine L.va (x_load rfl Try.underlying4 rfl (((hM.keep hb).blk i _ hc).cellAt 9 (v := .bool true) rfl)) ?_
        refine L.va (x_mvB rfl) ?_
        refine L.on rfl ?_
        refine L.va (x_mvP rfl) ?_
        refine L.on rfl ?_
        refine L.va (x_nilCheck rfl) ?_
        refine L.on rfl ?_
        refine L.va (x_field rfl Try.underlying76 rfl sz24 (by decide)) ?_
        refine L.on rfl ?_
        refine L.va (x_load rfl Try.underlying24 rfl (((hM.keep hb).blk i _ hc).cellAt 6 (v := .nilFunc) rfl)) ?_
        refine L.on rfl ?_
        refine L.va (x_eqFnNil (v := .nilFunc) (b := true) rfl (.inl ⟨rfl, rfl⟩) rfl Try.underlying24 ⟨_, _, _, rfl⟩) ?_
        refine L.on rfl ?_
        refine L.va (x_mvB rfl) ?_
        refine L.off rfl ?_
        refine L.off rfl ?_
        refine L.off rfl ?_
        refine L.off rfl ?_
        refine L.off rfl ?_
        refine L.on rfl ?_
        refine L.va (x_pickT rfl) ?_
        refine L.va (x_pickT rfl) ?_
        refine L.nil ?_
        have hrl := rdl_yes (r := r) hc h2
        show W _ _ _ _ _ _
        refine W.condT rfl ?_
        refine W.region rfl ?_
        refine L.va (x_mvS rfl) ?_
        refine L.va (x_mvP rfl) ?_
        refine L.build1 (cs := #[.pointer (some ⟨cb, 0, none⟩)]) rfl rfl Try.underlying79 sz50 rfl ⟨_, zr50⟩ (by decide) (fun w b35 F35 => ?_)
        have hb := cl_step hb F35.below
        have hO := hO.keep F35.below
        have hB35 := F35.blk
        have hOl := rdl_le (cl := R.cl) (r := r) i
        refine L.appendAny (B := w0.heap.size) (m := 1) rfl rfl Try.underlying79 in50 rfl (by decide) hO (fun h => by cases h) (news := [.pointer (some ⟨cb, 0, none⟩)]) rfl (fun ad had j u hj => by
          cases had
          rw [Addr.add_lit]
          match j, hj with
          | 0, hj => cases hj; exact hB35.cellAt 0 rfl) (fun u hu => by simp only [List.mem_cons, List.not_mem_nil, or_false] at hu; subst hu; rfl) (by omega) (by omega) hb.size (fun a2 cp2 w2 hO2 hg2 hbel _ => ?_)
        have hb := hb.trans hbel
        rename World => w
        refine L.va (x_asS rfl) ?_
        refine L.nil ?_
        refine B.nrm ?_
        show W _ _ _ _ _ _
        refine W.region rfl ?_
        refine L.va (x_inc rfl rfl (by omega)) ?_
        refine L.va (x_mvI rfl) ?_
        refine L.nil ?_
        refine T.nrm ?_
        exact ⟨_, by omega, ⟨i + 1, a2, q + 1, cp2, rfl, rfl, rfl, rfl, rfl, rfl, rfl, (by omega), (by rw [hrl, List.length_append, hq]; rfl), (by rw [hrl, List.map_append]; simpa [cbOf, hc] using hO2), hb⟩⟩
      · refine W.region rfl ?_
        refine L.va (x_mvP rfl) ?_
        refine L.va (x_nilCheck rfl) ?_
        refine L.va (x_field rfl Try.underlying76 rfl sz4 (by decide)) ?_
        refine L.va (x_load rfl Try.underlying4 rfl (((hM.keep hb).blk i _ hc).cellAt 9 (v := .bool true) rfl)) ?_
        refine L.va (x_mvB rfl) ?_
        refine L.on rfl ?_
        refine L.va (x_mvP rfl) ?_
        refine L.on rfl ?_
        refine L.va (x_nilCheck rfl) ?_
        refine L.on rfl ?_
        refine L.va (x_field rfl Try.underlying76 rfl sz24 (by decide)) ?_
        refine L.on rfl ?_
        refine L.va (x_load rfl Try.underlying24 rfl (((hM.keep hb).blk i _ hc).cellAt 6 (v := .func (.func f) #[] caps) rfl)) ?_
        refine L.on rfl ?_
        refine L.va (x_eqFnNil (v := .func (.func f) #[] caps) (b := false) rfl (.inr ⟨_, _, _, rfl, rfl⟩) rfl Try.underlying24 ⟨_, _, _, rfl⟩) ?_
        refine L.on rfl ?_
        refine L.va (x_mvB rfl) ?_
        refine L.on rfl ?_
        refine L.va (x_mvP rfl) ?_
        refine L.on rfl ?_
        refine L.va (x_nilCheck rfl) ?_
        refine L.on rfl ?_
        refine L.va (x_field rfl Try.underlying76 rfl sz24 (by decide)) ?_
        refine L.on rfl ?_
        refine L.va (x_load rfl Try.underlying24 rfl (((hM.keep hb).blk i _ hc).cellAt 6 (v := .func (.func f) #[] caps) rfl)) ?_
        refine L.on rfl ?_
        refine L.call (x_callV0 rfl hf hbd hnm) (hcall w hb) ?_
        rintro _ w ⟨rfl, hbw⟩
        have hb := cl_step hb hbw
        have hO := hO.keep hbw
        refine L.on rfl ?_
        refine L.va (x_pickF rfl) ?_
        refine L.va (x_pickT rfl) ?_
        refine L.nil ?_
        show W _ _ _ _ _ _
        refine W.cond rfl (fun h32 => ?_) (fun h32 => ?_)
        · have hrl := rdl_yes (r := r) hc h32
          refine W.region rfl ?_
          refine L.va (x_mvS rfl) ?_
          refine L.va (x_mvP rfl) ?_
          refine L.build1 (cs := #[.pointer (some ⟨cb, 0, none⟩)]) rfl rfl Try.underlying79 sz50 rfl ⟨_, zr50⟩ (by decide) (fun w b35 F35 => ?_)
          have hb := cl_step hb F35.below
          have hO := hO.keep F35.below
          have hB35 := F35.blk
          have hOl := rdl_le (cl := R.cl) (r := r) i
          refine L.appendAny (B := w0.heap.size) (m := 1) rfl rfl Try.underlying79 in50 rfl (by decide) hO (fun h => by cases h) (news := [.pointer (some ⟨cb, 0, none⟩)]) rfl (fun ad had j u hj => by
            cases had
            rw [Addr.add_lit]
            match j, hj with
            | 0, hj => cases hj; exact hB35.cellAt 0 rfl) (fun u hu => by simp only [List.mem_cons, List.not_mem_nil, or_false] at hu; subst hu; rfl) (by omega) (by omega) hb.size (fun a2 cp2 w2 hO2 hg2 hbel _ => ?_)
          have hb := hb.trans hbel
          rename World => w
          refine L.va (x_asS rfl) ?_
          refine L.nil ?_
          refine B.nrm ?_
          show W _ _ _ _ _ _
          refine W.region rfl ?_
          refine L.va (x_inc rfl rfl (by omega)) ?_
          refine L.va (x_mvI rfl) ?_
          refine L.nil ?_
          refine T.nrm ?_
          exact ⟨_, by omega, ⟨i + 1, a2, q + 1, cp2, rfl, rfl, rfl, rfl, rfl, rfl, rfl, (by omega), (by rw [hrl, List.length_append, hq]; rfl), (by rw [hrl, List.map_append]; simpa [cbOf, hc] using hO2), hb⟩⟩
        · have hrl := rdl_no (r := r) hc h32
          refine W.skip ?_
          refine B.nrm ?_
          show W _ _ _ _ _ _
          refine W.region rfl ?_
          refine L.va (x_inc rfl rfl (by omega)) ?_
          refine L.va (x_mvI rfl) ?_
          refine L.nil ?_
          refine T.nrm ?_
          exact ⟨_, by omega, ⟨i + 1, a, q, cp, rfl, rfl, rfl, rfl, rfl, rfl, rfl, (by omega), (by rw [hrl]; exact hq), (by rw [hrl]; exact hO), hb⟩⟩
  · refine W.exit ?_
    repeat (first | refine T.exit ?_ | refine N.exit ?_ | refine B.exitNe (by decide) ?_)
    refine B.exitEq ?_
    show W _ _ _ _ _ _
    refine W.seq ?_
    refine W.region rfl ?_
    refine L.va (x_mvS rfl) ?_
    refine L.va (x_asS rfl) ?_
    refine L.nil ?_
    show W _ _ _ _ _ _
    refine W.ret ?_
    repeat (first | refine T.ret ?_ | refine B.ret ?_ | refine N.ret ?_)
    refine ends.one (.inr rfl) rfl ?_
    obtain rfl : i = R.cl.length := by omega
    subst hq
    exact ⟨a, cp, rfl, hO, hb⟩

end
end Go.Vy.Sc
end
/- Ways to a seat; a send; deferred calls on the way out, recover. Nothing here speaks of a program. -/
section
namespace Go.Vy
open Go Go.Conc Go.Yc Go.RowKit
open Go.Vc Go.Wg

/-! ### Ways to a seat -/
def YS (P : Program) (main : Bool) (l : Stays) (K : Seat1 → Prop) : Nat → Nat → Goroutine → Prop := fun m _ g => ∃ s, K s ∧ Yc.Way P main l s m g
def okS (l : Stays) (e : Event) : Prop := ∃ p ∈ l, e = ⟨.cell p.1, false, false⟩
theorem hf_way {P : Program} {main : Bool} {l : Stays} {K : Seat1 → Prop} : HF P main (okS l) (YS P main l K) :=
  ⟨fun m d g g' es h1 h2 h3 h4 ⟨s, hk, hw⟩ => ⟨s, hk, .inr ⟨(by
    rcases hw.status with ⟨_, h⟩ | ⟨h, _⟩
    · exact h
    · rw [h2] at h; cases h), h1, g', es, h3, fun w _ => h4 w, hw⟩⟩⟩
/-- What a seat is good for: behind what it is given the frame goes on. -/
def Sits (n : Nat) (b : Frame) (cs : List Frame) (e : Env) (dst : Option Nat) (todo : List Item) (me : Goroutine) : Prop := ∀ v, ∃ a, Rep n a (updO e dst v) ∧ Go.Conc.served me v = G (b.at a todo) cs
theorem Sits.go {Z : Goroutine → World → Prop} {n : Nat} {b : Frame} {cs : List Frame} {e : Env} {dst : Option Nat} {todo : List Item} {me : Goroutine} (h : Sits n b cs e dst todo me) {v : Value} {w : World} (hz : ZA Z n b cs (updO e dst v) todo w) : Z (Go.Conc.served me v) w := by
  obtain ⟨a, ha, he⟩ := h v
  rw [he]; exact hz a ha
theorem served_at {b : Frame} {a : Act} {k : List Item} {cs : List Frame} {ops : Array Oper} {i : Nat} {rest : List Nat} {o : Oper} (ho : ops[i]? = some o) (v : Value) : Go.Conc.served (G (b.at a (.inRegion ops (i :: rest) :: k)) cs) v = G (b.at (a.put o.dst v) (.inRegion ops rest :: k)) cs := by
  have : (b.at a (.inRegion ops (i :: rest) :: k)).finish v = b.at (a.put o.dst v) (.inRegion ops rest :: k) := by rw [Frame.finish_at, ho]; rfl
  show ({ frame := (b.at a (.inRegion ops (i :: rest) :: k)).finish v, callers := cs, status := .running, dying := none } : Goroutine) = _
  rw [this]; rfl
section
variable {P : Program} {main : Bool} {st : Stays} {K : Seat1 → Prop} {ft n : Nat} {b : Frame} {cs : List Frame} {d : Nat} {e : Env} {k : List Item} {ops : Array Oper} {i : Nat} {l : List Oper} {dst : Option Nat} {ty : TypeId} {ps : String} {af : Array Edge} {T E : TypeId} {x y : Operand}
theorem AtL.stay {p : Addr} {v : Value} {u : TypeDesc} (hk : b.kind ≠ .early) (hd : dstB n dst = true) (hp : (p, v) ∈ st) (hx : ev e x = .pointer (some p)) (hT : P.underlying T = some u) (hu : flatB u = true)
    (h : AtL (YS P main st K) ft n b cs [] d (updO e dst v) ops (i + 1) l k) : AtL (YS P main st K) (ft + 1) n b cs [] d e ops i (⟨dst, .load T x, ty, ps, af, none⟩ :: l) k := by
  intro hl a ha
  obtain ⟨ho, hl'⟩ := tail_of hl
  obtain ⟨s, hs, hw⟩ := h hl' _ (ha.put hd v)
  have h0 : 0 < ft := by
    rcases hw.status with ⟨_, h⟩ | ⟨h, _⟩
    · exact h
    · cases h
  refine ⟨s, hs, .inr ⟨h0, rfl, _, seen P b.fn #[⟨.cell p, false, false⟩], fun ev' he => ⟨(p, v), hp, ?_⟩, fun w hw' => ?_, hw⟩⟩
  · have := mem_seen he
    simpa using this
  · have hc := hw' (p, v) hp
    show stepG P main (G (b.at a (.inRegion ops (i :: List.range' (i + 1) l.length) :: k)) cs) w = _
    rw [stepG_value ho (by rw [ha.yielded]; rfl) hk (by rw [ha.eval]; exact Go.Vc.x_load hx hT hu hc), listed]
    have he : ∀ es, (isAgg T).events P w es = es := fun es => by
      cases u <;> simp [isAgg, go_sem, run_underlying hT]
    have hq : (execOp a.eval ⟨dst, .load T x, ty, ps, af, none⟩).events P w #[] = #[⟨.cell p, false, false⟩] := by
      rw [ha.eval]
      simp [execOp, Instr.loadAt, hx, Instr.sureAddr, loadVar, Go.Vc.run_isAgg hT, hu, hc, he]
    rw [hq]
theorem AtL.seat {c : Nat} {z : Value} {dd : ChanDir} (hk : b.kind ≠ .early) (hT : P.underlying T = some (.chan dd E)) (hz : (P.info? E).bind (·.zero) = some z) (hx : ev e x = .chan (some c))
    (hK : ∀ me, Sits n b cs e dst (.inRegion ops (List.range' (i + 1) l.length) :: k) me → K ⟨c, z, me⟩) (hd : dstB n dst = true) : AtL (YS P main st K) (ft + 1) n b cs [] d e ops i (⟨dst, .recv T x false, ty, ps, af, none⟩ :: l) k := by
  intro hl a ha
  obtain ⟨ho, hl'⟩ := tail_of hl
  refine ⟨⟨c, z, G (b.at a (.inRegion ops (i :: List.range' (i + 1) l.length) :: k)) cs⟩, hK _ fun v => ⟨a.put dst v, ⟨(ha.put hd v).size, (ha.put hd v).defers, (ha.put hd v).get⟩, served_at ho v⟩, .inl ⟨rfl, rfl, rfl, rfl, fun w => ?_⟩⟩
  have hr : (execOp a.eval ⟨dst, .recv T x false, ty, ps, af, none⟩).run P w = .ok (.comm #[rcase c z] true (.recv false)) w := by
    rw [ha.eval]
    obtain ⟨inf, hi, hz'⟩ := Option.bind_eq_some_iff.1 hz
    simp [execOp, hx, run_underlying hT, zeroValue, typeInfo, hi, hz', rcase, go_sem]
  show stepG P main (G (b.at a (.inRegion ops (i :: List.range' (i + 1) l.length) :: k)) cs) w = _
  have hq : (execOp a.eval ⟨dst, .recv T x false, ty, ps, af, none⟩).events P w #[] = #[] := by
    rw [ha.eval]
    obtain ⟨inf, hi, hz'⟩ := Option.bind_eq_some_iff.1 hz
    simp [execOp, hx, run_underlying hT, zeroValue, typeInfo, hi, hz', go_sem]
  rw [stepG_comm ho (by rw [ha.yielded]; rfl) hk hr, listed, hq, seen_none]
/-- A send: what the machine is asked. -/
theorem send_comm {c : Nat} {v : Value} {a : Act} {rest : List Nat} (hk : b.kind ≠ .early) (ho : ops[i]? = some ⟨dst, .send x y, ty, ps, af, none⟩) (hx : a.eval x = .chan (some c)) (hy : a.eval y = v) (w : World) :
    stepG P main (G (b.at a (.inRegion ops (i :: rest) :: k)) cs) w = .comm (G (b.at a (.inRegion ops (i :: rest) :: k)) cs) #[scase c v (.tuple #[])] true .send w #[] := by
  rw [stepG_comm (cases := #[scase c v (.tuple #[])]) (blocking := true) (shape := .send) (w' := w) ho rfl hk (by simp [execOp, hx, hy, scase]), listed]
  have : (execOp a.eval ⟨dst, .send x y, ty, ps, af, none⟩).events P w #[] = #[] := rfl
  rw [this, seen_none]
/-- A go statement. -/
theorem go_spawn {f : FuncId} {asx : Array Operand} {ats : Array TypeId} {a : Act} {rest : List Nat} (hk : b.kind ≠ .early) (ho : ops[i]? = some ⟨dst, .go { callee := .value (.func f), args := asx, argTypes := ats }, ty, ps, af, none⟩) (w : World) :
    stepG P main (G (b.at a (.inRegion ops (i :: rest) :: k)) cs) w = .spawn (G (b.at (a.put dst undef) (.inRegion ops rest :: k)) cs) (born P (dcall f (asx.map a.eval))) w #[] := by
  have ef : a.eval (.func f) = .func (.func f) #[] #[] := rfl
  have hr : (execOp a.eval ⟨dst, .go { callee := .value (.func f), args := asx, argTypes := ats }, ty, ps, af, none⟩).run P w = .ok (.spawn (dcall f (asx.map a.eval))) w := by
    unfold execOp
    simp [resolve, Deferred.ofValue, ef, dcall]
  have he : (execOp a.eval ⟨dst, .go { callee := .value (.func f), args := asx, argTypes := ats }, ty, ps, af, none⟩).events P w #[] = #[] := by
    unfold execOp
    simp [resolve, Deferred.ofValue, ef]
  rw [stepG_spawn ho rfl hk hr rfl, listed, he, seen_none]
end

/-! ### On the way out -/
section
variable {P : Program} {main : Bool} {b c : Frame} {a : Act} {k todo : List Item} {cs : List Frame} {w : World} {ops : Array Oper} {i : Nat} {rest : List Nat} {o : Oper} {f : FuncId} {fn : Func} {args caps : Array Value} {ds : List Deferred}
/-- A deferred call of a function with a body, closure or not. -/
theorem step_enterD {md : FrameMode} {body : Code} (hmd : md ≠ .run) (hd : a.defers = { target := .fn (.func f) caps, args := args } :: ds) (hf : P.funcs[f]? = some fn) (hname : (fn.name == "runtime.NumGoroutine") = false) (hb : fn.body = some body) :
    stepG P main (G { b.at a todo with mode := md } cs) w = .go (G ((baseD f).at { tmps := (args ++ caps) ++ Array.replicate (fn.ntmps - (args ++ caps).size) undef, defers := [] } [.code body]) ({ b.at ⟨a.tmps, ds⟩ todo with mode := md } :: cs)) w #[] := by
  have h1 : ¬ fn.name = "runtime.NumGoroutine" := by simpa using hname
  rw [← enter_atD (args ++ caps) hf hb]
  cases md with
  | run => exact absurd rfl hmd
  | returning => simp [G, stepG, unwind, callDeferred, Frame.at, hd, invoke, callFunc, hf, h1, hb, GStep.after, seen_none]
  | panicking ch => simp [G, stepG, unwind, callDeferred, Frame.at, hd, invoke, callFunc, hf, h1, hb, GStep.after, seen_none]
theorem recover_run {ρ : Operand → Value} {dst : Option Nat} {ty : TypeId} {ps : String} {af : Array Edge} : ((execOp ρ ⟨dst, .call { callee := .builtin .recover, args := #[], argTypes := #[] }, ty, ps, af, none⟩).run P w = .ok .recover w) ∧ (execOp ρ ⟨dst, .call { callee := .builtin .recover, args := #[], argTypes := #[] }, ty, ps, af, none⟩).events P w #[] = #[] := by
  constructor <;> simp [execOp, resolve, invoke, builtin]
theorem step_recover_no {dst : Option Nat} {ty : TypeId} {ps : String} {af : Array Edge} (ho : ops[i]? = some ⟨dst, .call { callee := .builtin .recover, args := #[], argTypes := #[] }, ty, ps, af, none⟩) (hk : b.kind = .deferred) (hr : b.roundOf = none) (hc : c.mode = .returning) :
    stepG P main (G (b.at a (.inRegion ops (i :: rest) :: k)) (c :: cs)) w = .go (G (b.at (a.put dst .nilIface) (.inRegion ops rest :: k)) (c :: cs)) w #[] := by
  have hfin : (b.at a (.inRegion ops (i :: rest) :: k)).finish .nilIface = b.at (a.put dst .nilIface) (.inRegion ops rest :: k) := by rw [Frame.finish_at, ho]; rfl
  rw [stepG_oper ho rfl, ← hfin]
  simp [stepG.apply, recover_run, G, Frame.at, hk, tryRecover, hc, GStep.after, seen_none]
theorem step_recover_yes {dst : Option Nat} {ty : TypeId} {ps : String} {af : Array Edge} {v : Value} {older : List PanicEntry} (ho : ops[i]? = some ⟨dst, .call { callee := .builtin .recover, args := #[], argTypes := #[] }, ty, ps, af, none⟩) (hk : b.kind = .deferred) (hr : b.roundOf = none) (hc : c.mode = .panicking ({ v, recovered := false } :: older)) :
    stepG P main (G (b.at a (.inRegion ops (i :: rest) :: k)) (c :: cs)) w = .go (G (b.at (a.put dst v) (.inRegion ops rest :: k)) ({ c with mode := .panicking ({ v, recovered := true } :: older) } :: cs)) w #[] := by
  have hfin : (b.at a (.inRegion ops (i :: rest) :: k)).finish v = b.at (a.put dst v) (.inRegion ops rest :: k) := by rw [Frame.finish_at, ho]; rfl
  rw [stepG_oper ho rfl, ← hfin]
  simp [stepG.apply, recover_run, G, Frame.at, hk, tryRecover, hc, GStep.after, seen_none]
/-- A deferred call returns into a frame whose panic it has recovered. -/
theorem step_leave_saved {v v' : Value} {older : List PanicEntry} (hn : b.kind = .deferred) (hd : a.defers = []) (hf : P.funcs[b.fn]? = some fn) (hr : (results fn a.tmps).run P w = .ok v w) (he : (results fn a.tmps).events P w #[] = #[])
    (hc : c.mode = .panicking ({ v := v', recovered := true } :: older)) (ho : older.dropWhile (!·.goexit) = []) :
    stepG P main (G { b.at a todo with mode := .returning } (c :: cs)) w = .go (G { c with mode := .returning } cs) w #[] := by
  simp [G, stepG, unwind, doReturn, Frame.at, hn, hd, hf, hr, he, hc, ho, seen, GStep.after]
theorem step_deferV {dst : Option Nat} {ty : TypeId} {ps : String} {af : Array Edge} {x : Operand} (ho : ops[i]? = some ⟨dst, .defer { callee := .value x, args := #[], argTypes := #[] }, ty, ps, af, none⟩) (hk : b.kind ≠ .early) (hx : a.eval x = .func (.func f) #[] caps) :
    stepG P main (G (b.at a (.inRegion ops (i :: rest) :: k)) cs) w = .go (G (b.at (Act.put ⟨a.tmps, { target := .fn (.func f) caps, args := #[] } :: a.defers⟩ dst undef) (.inRegion ops rest :: k)) cs) w #[] := by
  have hr : (execOp a.eval ⟨dst, .defer { callee := .value x, args := #[], argTypes := #[] }, ty, ps, af, none⟩).run P w = .ok (.defer { target := .fn (.func f) caps, args := #[] }) w := by
    simp [execOp, resolve, Deferred.ofValue, hx]
  have he : (execOp a.eval ⟨dst, .defer { callee := .value x, args := #[], argTypes := #[] }, ty, ps, af, none⟩).events P w #[] = #[] := by
    simp [execOp, resolve, Deferred.ofValue, hx]
  have hfin : (b.at ⟨a.tmps, { target := .fn (.func f) caps, args := #[] } :: a.defers⟩ (.inRegion ops (i :: rest) :: k)).finish undef = b.at (Act.put ⟨a.tmps, { target := .fn (.func f) caps, args := #[] } :: a.defers⟩ dst undef) (.inRegion ops rest :: k) := by rw [Frame.finish_at, ho]; rfl
  have hk' : (b.kind == CallKind.early) = false := by simpa using hk
  rw [stepG_oper ho rfl, ← hfin]
  simp [stepG.apply, hr, he, G, Frame.at, hk', GStep.after, seen_none]

/-! ### The first and the last steps of a goroutine -/
def bornF (P : Program) : Frame := { fn := P.funcs.size, tmps := #[], todo := [], defers := [], mode := .panicking [goexitEntry], kind := .normal, roundOf := none }
theorem step_born {body : Code} (hf : P.funcs[f]? = some fn) (hname : (fn.name == "runtime.NumGoroutine") = false) (hb : fn.body = some body) :
    stepG P main (born P (dcall f args)) w = .go (G ((baseD f).at { tmps := args ++ Array.replicate (fn.ntmps - args.size) undef, defers := [] } [.code body]) [bornF P]) w #[] := by
  have h1 : ¬ fn.name = "runtime.NumGoroutine" := by simpa using hname
  rw [← enter_atD args hf hb]
  simp [born, G, stepG, unwind, callDeferred, dcall, invoke, callFunc, hf, h1, hb, GStep.after, seen_none, bornF]
  exact ⟨rfl, rfl, rfl, rfl⟩
theorem step_home (hn : b.kind = .deferred) (hd : a.defers = []) (hf : P.funcs[b.fn]? = some fn) {v : Value} (hr : (results fn a.tmps).run P w = .ok v w) (he : (results fn a.tmps).events P w #[] = #[]) :
    stepG P main (G { b.at a todo with mode := .returning } [bornF P]) w = .go (G (bornF P) []) w #[] := by
  simp [G, stepG, unwind, doReturn, Frame.at, hn, hd, hf, hr, he, seen, GStep.after, bornF, goexitEntry]
theorem step_dead : stepG P main (G (bornF P) []) w = .go { frame := bornF P, callers := [], status := .finished, dying := none } w #[] := by
  simp [G, stepG, unwind, bornF, goexitEntry, Frame.catches]
end
end Go.Vy
end
/- More rules at the level of one condition; the holder's condition. Nothing here speaks of a program. -/
section
namespace Go.Vy
open Go Go.Conc Go.Yc Go.RowKit
open Go.Vc Go.Wg

section
variable {P : Program} [Ctx P] {Z : Goroutine → World → Prop} {Q : Exit → Act → World → Prop} {ops : Array Oper} {b : Frame} {k : List Item} {cs : List Frame} {n : Nat} {e : Env} {w : World}
theorem ZA.condT (hZ : Ctx.Zs P Z) {c : Operand} {x y : Code} (hc : ev e c = .bool true) (h : ZA Z n b cs e (.code x :: k) w) : ZA Z n b cs e (.code (.cond c x y) :: k) w := ZA.cond hZ (t := true) hc h
theorem ZA.condF (hZ : Ctx.Zs P Z) {c : Operand} {x y : Code} (hc : ev e c = .bool false) (h : ZA Z n b cs e (.code y :: k) w) : ZA Z n b cs e (.code (.cond c x y) :: k) w := ZA.cond hZ (t := false) hc h
theorem ZA.W (hZ : Ctx.Zs P Z) (hb : b.kind ≠ .early) {c : Code} (h : Vy.W P n c (thenE (fun e' w' => ZA Z n b cs e' k w') fun _ _ _ => False) e w) : ZA Z n b cs e (.code c :: k) w := ZA.piece hZ hb h fun _ _ h => h
/-- A piece of code that panics. -/
theorem ZA.panics (hZ : Ctx.Zs P Z) (hb : b.kind ≠ .early) {c : Code} (h : Vy.W P n c (fun x e' w' => ∃ ch, x = .panic ch ∧ ∀ a todo, Rep n a e' → Z (G { b.at a todo with mode := .panicking ch } cs) w') e w) : ZA Z n b cs e (.code c :: k) w := by
  intro a ha
  refine h a ha Z hZ b k cs hb fun x a' w' hx => ?_
  obtain ⟨e', r, ch, rfl, hq⟩ := hx
  exact fun todo => hq a' todo r
theorem L.panicI {x : Operand} {ty : TypeId} {ps : String} {af : Array Edge} {rest : List Oper} {Q : Exit → Env → World → Prop} {t : TypeId} {v0 : Value} (hx : ev e x = .iface t v0) (k : Q (.panic [{ v := .iface t v0, recovered := false }]) e w) : L P n ops Q (⟨none, .panic x, ty, ps, af, none⟩ :: rest) e w := by
  refine L.panic' rfl ⟨rfl, rfl, fun τ d ρ x' hs => ⟨Evo.refl _, x', #[], ?_, hs, fun e he => by simp at he⟩⟩ k
  rw [Sem.runT_eq]
  have h1 : (execOp (ev e) ⟨none, .panic x, ty, ps, af, none⟩).run P x' = .halt (.panic (.iface t v0)) x' := by simp [execOp, Instr.panic, hx]
  have h2 : (execOp (ev e) ⟨none, .panic x, ty, ps, af, none⟩).events P x' #[] = #[] := by simp [execOp, Instr.panic, hx]
  rw [h1, h2]; rfl
end
section
variable {P : Program} {Z : Goroutine → World → Prop} {Q : Exit → Act → World → Prop} {ops : Array Oper} {b : Frame} {k : List Item} {cs : List Frame} {n : Nat} {e : Env} {w : World}
/-- The frame of a call is left, whatever it is that goes on. -/
theorem ZA.leaves {fn : Func} {f : FuncId} (hb : b = base f) (hf : P.funcs[f]? = some fn) (hr : fn.results = #[]) (h : ∀ fr, fr.fn = f → Leaves P fr w (.returned (.tuple #[])) → Z (G fr cs) w) : ZR Z n b cs e w := by
  intro todo a ha
  subst hb
  refine h _ rfl ⟨rfl, ha.defers, rfl, fn, hf, resDoes_pure (fun w => results_none hr _ P w) (fun w => events_results_none hr _ _)⟩
end
section
variable {P : Program} [Ctx P] {Z : Goroutine → World → Prop} {Q : Exit → Act → World → Prop} {ops : Array Oper} {b : Frame} {k : List Item} {cs : List Frame} {n : Nat} {e : Env} {w : World}
/-- A call, of which it is said what comes of it. -/
theorem ZA.call (hZ : Ctx.Zs P Z) (hb : b.kind ≠ .early) {i : Nat} {rest : List Nat} {o : Oper} {f : FuncId} {args : Array Value} (ho : ops[i]? = some o) (hg : o.guard = none) (hr : Does P (execOp (ev e) o) w (.enter f args) w)
    (h : ∀ a, Rep n a e → Z (G (Frame.enter P f args .normal) (b.at a (.inRegion ops (i :: rest) :: k) :: cs)) w) : ZA Z n b cs e (.inRegion ops (i :: rest) :: k) w := by
  intro a ha
  have hw : Region.wanted o (yielded ops a.tmps) = true := by
    obtain ⟨d, op, ty, ps, af, g⟩ := o
    cases hg; rfl
  refine (Ctx.cl Z hZ).own _ _ rfl fun τ d => ?_
  refine ⟨_, onT w τ d, w.drawn, ⟨rfl, fun ρ x hx => ?_⟩, h a ha⟩
  obtain ⟨h1, x', es, h2, h3, h4⟩ := hr.go τ d ρ x hx
  rw [Sem.runT_eq] at h2
  obtain ⟨h5, h6⟩ := Prod.mk.inj h2
  refine ⟨h1, x', seen P b.fn es, ?_, h3, fun e he => h4 e (mem_seen he)⟩
  have h5' : (execOp a.eval o).run P x = .ok (.enter f args) x' := by rw [ha.eval]; exact h5
  rw [stepG_enter ho hw hb h5', listed, ha.eval, h6]
/-- .. what a call has given is put where it belongs. -/
theorem ZA.home {i : Nat} {rest : List Nat} {o : Oper} (ho : ops[i]? = some o) (hd : dstB n o.dst = true) {v : Value} {w' : World} {a : Act} (ha : Rep n a e) (h : ZA Z n b cs (updO e o.dst v) (.inRegion ops rest :: k) w') : Z (G ((b.at a (.inRegion ops (i :: rest) :: k)).finish v) cs) w' := by
  have hfin : (b.at a (.inRegion ops (i :: rest) :: k)).finish v = b.at (a.put o.dst v) (.inRegion ops rest :: k) := by rw [Frame.finish_at, ho]; rfl
  rw [hfin]
  exact h _ (ha.put hd v)
end
section
variable {P : Program} {Z : Goroutine → World → Prop} {Q : Exit → Act → World → Prop} {ops : Array Oper} {b : Frame} {k : List Item} {cs : List Frame} {n : Nat} {e : Env} {w : World}
/-- .. a call comes back. -/
theorem ZA.back {Z' : Goroutine → World → Prop} {main : Bool} (hZ' : Cl P main Z') {i : Nat} {rest : List Nat} {o : Oper} (ho : ops[i]? = some o) (hd : dstB n o.dst = true) {v : Value} {w' : World} {fr : Frame} {a : Act} (ha : Rep n a e) (hl : Leaves P fr w' (.returned v))
    (h : ZA Z' n b cs (updO e o.dst v) (.inRegion ops rest :: k) w') : Z' (G fr (b.at a (.inRegion ops (i :: rest) :: k) :: cs)) w' := by
  refine leave_returned hZ' hl ?_
  have hfin : (b.at a (.inRegion ops (i :: rest) :: k)).finish v = b.at (a.put o.dst v) (.inRegion ops rest :: k) := by rw [Frame.finish_at, ho]; rfl
  rw [hfin]
  exact h _ (ha.put hd v)
end
section
variable {P : Program} [Ctx P] {Z : Goroutine → World → Prop} {Q : Exit → Act → World → Prop} {ops : Array Oper} {b : Frame} {k : List Item} {cs : List Frame} {n : Nat} {e : Env} {w : World}
end

section
variable {P : Program} [Ctx P] {Z : Goroutine → World → Prop} {ops : Array Oper} {b c : Frame} {k : List Item} {cs : List Frame} {n : Nat} {e : Env} {w : World} {i : Nat} {rest : List Nat} {dst : Option Nat} {ty : TypeId} {ps : String} {af : Array Edge}
theorem ZA.recoverNo (hZ : Ctx.Zs P Z) (ho : ops[i]? = some ⟨dst, .call { callee := .builtin .recover, args := #[], argTypes := #[] }, ty, ps, af, none⟩) (hd : dstB n dst = true) (hk : b.kind = .deferred) (hr : b.roundOf = none) (hc : c.mode = .returning) (h : ZA Z n b (c :: cs) (updO e dst .nilIface) (.inRegion ops rest :: k) w) : ZA Z n b (c :: cs) e (.inRegion ops (i :: rest) :: k) w :=
  fun _a ha => (Ctx.cl Z hZ).ctl rfl rfl (fun _w => step_recover_no ho hk hr hc) (h _ (ha.put hd _))
theorem ZA.recoverYes (hZ : Ctx.Zs P Z) {v : Value} {older : List PanicEntry} (ho : ops[i]? = some ⟨dst, .call { callee := .builtin .recover, args := #[], argTypes := #[] }, ty, ps, af, none⟩) (hd : dstB n dst = true) (hk : b.kind = .deferred) (hr : b.roundOf = none) (hc : c.mode = .panicking ({ v, recovered := false } :: older)) (h : ZA Z n b ({ c with mode := .panicking ({ v, recovered := true } :: older) } :: cs) (updO e dst v) (.inRegion ops rest :: k) w) : ZA Z n b (c :: cs) e (.inRegion ops (i :: rest) :: k) w :=
  fun _a ha => (Ctx.cl Z hZ).ctl rfl rfl (fun _w => step_recover_yes ho hk hr hc) (h _ (ha.put hd _))
/-- A frame whose panic has been recovered, if it had one. -/
def Saved (c c' : Frame) : Prop := (c.mode = .returning ∧ c' = c) ∨ ∃ v older, older.dropWhile (!·.goexit) = [] ∧ c' = { c with mode := .panicking ({ v, recovered := true } :: older) }
theorem ZA.recover (hZ : Ctx.Zs P Z) (ho : ops[i]? = some ⟨dst, .call { callee := .builtin .recover, args := #[], argTypes := #[] }, ty, ps, af, none⟩) (hd : dstB n dst = true) (hk : b.kind = .deferred) (hr : b.roundOf = none) (hc : c.mode = .returning ∨ ∃ v older, c.mode = .panicking ({ v, recovered := false } :: older) ∧ older.dropWhile (!·.goexit) = [])
    (h : ∀ c' v, Saved c c' → ZA Z n b (c' :: cs) (updO e dst v) (.inRegion ops rest :: k) w) : ZA Z n b (c :: cs) e (.inRegion ops (i :: rest) :: k) w := by
  rcases hc with hc | ⟨v, older, hc, ho'⟩
  · exact ZA.recoverNo hZ ho hd hk hr hc (h c _ (.inl ⟨hc, rfl⟩))
  · exact ZA.recoverYes hZ ho hd hk hr hc (h _ _ (.inr ⟨v, older, ho', rfl⟩))
theorem ZA.region (hZ : Ctx.Zs P Z) {id : Nat} (h : ZA Z n b cs e (.inRegion ops (List.range ops.size) :: k) w) : ZA Z n b cs e (.code (.region id ops false) :: k) w := ZA.c hZ (fun _ _ => stepG_region) h
/-- Here, with calls that are put off. -/
def ZD (Z : Goroutine → World → Prop) (n : Nat) (b : Frame) (cs : List Frame) (ds : List Deferred) (e : Env) (todo : List Item) (w : World) : Prop := ∀ a, RepD n a e ds → Z (G (b.at a todo) cs) w
variable {ds : List Deferred}
theorem ZA.zd (h : ZD Z n b cs [] e k w) : ZA Z n b cs e k w := fun a ha => h a (repDr ha) where repDr {n : Nat} {a : Act} {e : Env} (h : Rep n a e) : RepD n a e [] := ⟨h.size, h.defers, h.get⟩
theorem ZD.ctl (hZ : Ctx.Zs P Z) {todo todo' : List Item} (hs : ∀ a w, stepG P (Ctx.main P) (G (b.at a todo) cs) w = .go (G (b.at a todo') cs) w #[]) (h : ZD Z n b cs ds e todo' w) : ZD Z n b cs ds e todo w := fun a ha => (Ctx.cl Z hZ).ctl rfl rfl (hs a) (h a ha)
theorem ZD.seq (hZ : Ctx.Zs P Z) {x y : Code} (h : ZD Z n b cs ds e (.code x :: .code y :: k) w) : ZD Z n b cs ds e (.code (.seq x y) :: k) w := ZD.ctl hZ (fun _ _ => stepG_seq) h
theorem ZD.region (hZ : Ctx.Zs P Z) {id : Nat} (h : ZD Z n b cs ds e (.inRegion ops (List.range ops.size) :: k) w) : ZD Z n b cs ds e (.code (.region id ops false) :: k) w := ZD.ctl hZ (fun _ _ => stepG_region) h
theorem ZD.endRegion (hZ : Ctx.Zs P Z) (h : ZD Z n b cs ds e k w) : ZD Z n b cs ds e (.inRegion ops [] :: k) w := ZD.ctl hZ (fun _ _ => stepG_region_end) h
variable {op : Op} {d : Nat} {v : Value} {w' : World}
theorem ZD.va (hZ : Ctx.Zs P Z) (hb : b.kind ≠ .early) (ho : ops[i]? = some ⟨some d, op, ty, ps, af, none⟩) (hd : dstB n (some d) = true) (hr : Does P (execOp (ev e) ⟨some d, op, ty, ps, af, none⟩) w (.val v) w') (h : ZD Z n b cs ds (upd e d v) (.inRegion ops rest :: k) w') : ZD Z n b cs ds e (.inRegion ops (i :: rest) :: k) w := by
  intro a ha
  refine z_oper (Q := fun _ _ _ => False) hZ hb (fun _ _ _ hx => hx.elim) ho ?_
  show opwp P _ a w _ _
  refine opwp_does (r := .val v) (w' := w') (by rw [ha.eval]; exact hr) ?_
  exact h _ (ha.put hd v)
theorem ZD.st (hZ : Ctx.Zs P Z) (hb : b.kind ≠ .early) (ho : ops[i]? = some ⟨none, op, ty, ps, af, none⟩) (hr : Does P (execOp (ev e) ⟨none, op, ty, ps, af, none⟩) w .skip w') (h : ZD Z n b cs ds e (.inRegion ops rest :: k) w') : ZD Z n b cs ds e (.inRegion ops (i :: rest) :: k) w := by
  intro a ha
  refine z_oper (Q := fun _ _ _ => False) hZ hb (fun _ _ _ hx => hx.elim) ho ?_
  show opwp P _ a w _ _
  refine opwp_does (r := .skip) (w' := w') (by rw [ha.eval]; exact hr) ?_
  exact h _ ha
theorem ZD.defer (hZ : Ctx.Zs P Z) (hb : b.kind ≠ .early) {f : FuncId} {asx : Array Operand} {ats : Array TypeId} {vs : Array Value} (ho : ops[i]? = some ⟨none, .defer { callee := .value (.func f), args := asx, argTypes := ats }, ty, ps, af, none⟩) (hv : asx.map (ev e) = vs) (h : ZD Z n b cs (dcall f vs :: ds) e (.inRegion ops rest :: k) w) : ZD Z n b cs ds e (.inRegion ops (i :: rest) :: k) w := by
  intro a ha
  refine (Ctx.cl Z hZ).ctl rfl rfl (fun w => stepG_defer ho rfl hb rfl) ?_
  rw [ha.eval, hv, ha.defers]
  exact h _ ⟨ha.size, rfl, ha.get⟩
theorem ZD.deferV (hZ : Ctx.Zs P Z) (hb : b.kind ≠ .early) {f : FuncId} {caps : Array Value} {x : Operand} (ho : ops[i]? = some ⟨none, .defer { callee := .value x, args := #[], argTypes := #[] }, ty, ps, af, none⟩) (hx : ev e x = .func (.func f) #[] caps) (h : ZD Z n b cs ({ target := .fn (.func f) caps, args := #[] } :: ds) e (.inRegion ops rest :: k) w) : ZD Z n b cs ds e (.inRegion ops (i :: rest) :: k) w := by
  intro a ha
  refine (Ctx.cl Z hZ).ctl rfl rfl (fun w => step_deferV ho hb (by rw [ha.eval]; exact hx)) ?_
  rw [ha.defers]
  exact h _ ⟨ha.size, rfl, ha.get⟩
theorem ZD.call (hZ : Ctx.Zs P Z) (hb : b.kind ≠ .early) {f : FuncId} {args : Array Value} (ho : ops[i]? = some ⟨dst, op, ty, ps, af, none⟩) (hr : Does P (execOp (ev e) ⟨dst, op, ty, ps, af, none⟩) w (.enter f args) w)
    (h : ∀ a, RepD n a e ds → Z (G (Frame.enter P f args .normal) (b.at a (.inRegion ops (i :: rest) :: k) :: cs)) w) : ZD Z n b cs ds e (.inRegion ops (i :: rest) :: k) w := by
  intro a ha
  refine (Ctx.cl Z hZ).own _ _ rfl fun τ d => ?_
  refine ⟨_, onT w τ d, w.drawn, ⟨rfl, fun ρ x hx => ?_⟩, h a ha⟩
  obtain ⟨h1, x', es, h2, h3, h4⟩ := hr.go τ d ρ x hx
  rw [Sem.runT_eq] at h2
  obtain ⟨h5, h6⟩ := Prod.mk.inj h2
  refine ⟨h1, x', seen P b.fn es, ?_, h3, fun e he => h4 e (mem_seen he)⟩
  have h5' : (execOp a.eval ⟨dst, op, ty, ps, af, none⟩).run P x = .ok (.enter f args) x' := by rw [ha.eval]; exact h5
  rw [stepG_enter ho rfl hb h5', listed, ha.eval, h6]
end

/-! ### The holder's condition -/
section
variable {P : Program} {Post : Value → World → Prop} {X : Gh} {h : Nat} {H : Hid} {u : World}
theorem fin_zs : @Ctx.Zs P (baseCtx P (h == 0)) (Fin P Post X h) := ⟨fin_cl P Post X h, fin_ign⟩
theorem finH_zs : @Ctx.Zs P (baseCtx P (h == 0)) (FinH P Post X h H) := ⟨finH_cl H, fun _g _u hz hH => fin_ign _ _ fun hv => hz (noView_under hH hv) hH⟩
theorem fin_see (V : Nat → Prop) [DecidablePred V] {g : Goroutine} {U : World} (hf : FinH P Post X h (hidOf V U) g (seeOf V U)) : Fin P Post X h g U :=
  fin_ign _ _ fun hv => by have := hf (hidOf_ok hv); rwa [over_see] at this
theorem At.endRegion {main : Bool} {ok : Event → Prop} {Y : Nat → Nat → Goroutine → Prop} {ft n d : Nat} {b : Frame} {cs : List Frame} {ds : List Deferred} {e : Env} {k : List Item} {ops : Array Oper} (hY : HF P main ok Y) (h : At Y ft n b cs ds d e k) : At Y (ft + 1) n b cs ds d e (.inRegion ops [] :: k) := At.c hY (fun _ _ => stepG_region_end) h
theorem rep_args {n : Nat} (args : Array Value) (m : Nat) (hn : args.size + (m - args.size) = n) : Rep n { tmps := args ++ Array.replicate (m - args.size) undef, defers := [] } (Vc.argE args) := by
  have := repD_args args m hn
  exact ⟨this.size, this.defers, this.get⟩
theorem repD_rep {n : Nat} {a : Act} {e : Env} (h : Rep n a e) : RepD n a e [] := ⟨h.size, h.defers, h.get⟩
variable {n ft : Nat} {b : Frame} {cs : List Frame} {e : Env} {k : List Item} {ops : Array Oper} {i : Nat} {rest : List Nat} {ty : TypeId} {ps : String} {af : Array Edge} {x y : Operand} {v : Value} {w : World}
/-- The rest of a region's operations. -/
theorem ZA.more [Ctx P] {Z : Goroutine → World → Prop} (hZ : Ctx.Zs P Z) (hb : b.kind ≠ .early) {l : List Oper} (i : Nat) (hB : regB n l = true) (h : L P n l.toArray (thenE (fun e' w' => ZA Z n b cs e' k w') fun _ _ _ => False) (l.drop i) e w) : ZA Z n b cs e (.inRegion l.toArray (List.range' i (l.drop i).length) :: k) w := by
  intro a ha
  have h1 := h (fun o ho => List.all_eq_true.1 hB o (List.mem_of_mem_drop ho)) a ha
  have h2 := wpOps_take (l.drop i) i a w (fun j _ => by rw [List.getElem?_drop]; simp) h1
  have := z_ops_pre (Z := Z) (b := b) (k := k) (cs := cs) (suf := []) hZ hb (fun ch a' w' hx => by obtain ⟨_, _, hx⟩ := hx; exact hx.elim) (fun a' w' hx => by
    obtain ⟨e', r, hq⟩ := hx
    exact ZA.endRegion hZ hq a' r) _ a w h2
  rwa [List.append_nil] at this
/-- A send to one that sits; the giver goes to a seat. -/
theorem ZA.give {j : Nat} {s : Seat1} {st : Stays} {K : Seat1 → Prop} (hb : b.kind ≠ .early) (ho : ops[i]? = some ⟨none, .send x y, ty, ps, af, none⟩) (hx : ev e x = .chan (some s.ch)) (hy : ev e y = v) (hj : X.seat j = some s) (hjh : j ≠ h) (hdn : X.dn = 0) (hst : X.stay h = st)
    (hway : At (YS P (h == 0) st K) ft n b cs [] 0 e (.inRegion ops rest :: k)) (hsh : ∀ s', K s' → X.chs s'.ch ∧ ∀ i s2, i ≠ j → X.seat i = some s2 → s2.ch ≠ s'.ch)
    (hF : ∀ s', K s' → Fin P Post (X.pass h j (some s')) j (Go.Conc.served s.me v) w) : ZA (Fin P Post X h) n b cs e (.inRegion ops (i :: rest) :: k) w := by
  intro a ha
  have hput : a.put none undef = a := rfl
  obtain ⟨s', hK, hw⟩ := hway a (repD_rep ha)
  refine Fin.give (a₂ := G (b.at a (.inRegion ops (i :: rest) :: k)) cs) (s := s) (j := j) (nh := ft) (v := v) (z' := .tuple #[]) rfl hj hjh hdn (send_comm hb ho (by rw [ha.eval]; exact hx) (by rw [ha.eval]; exact hy)) (some s') (fun s2 e2 => by cases e2; exact hsh s' hK) ?_ (hF s' hK)
  unfold Behind
  rw [served_at ho, hst]
  exact hw
/-- .. the giver leaves its group. -/
theorem ZA.giveLast {j : Nat} {s : Seat1} {gr : Grp} (hb : b.kind ≠ .early) (ho : ops[i]? = some ⟨none, .send x y, ty, ps, af, none⟩) (hx : ev e x = .chan (some s.ch)) (hy : ev e y = v) (hj : X.seat j = some s) (hjh : j ≠ h) (hdn : X.dn = 0) (hh : 0 < h) (hgr : X.grp = some gr)
    (hway : At (YLt P gr) ft n b cs [] 0 e (.inRegion ops rest :: k)) (hF : Fin P Post (X.pass h j none) j (Go.Conc.served s.me v) w) : ZA (Fin P Post X h) n b cs e (.inRegion ops (i :: rest) :: k) w := by
  intro a ha
  refine Fin.give (a₂ := G (b.at a (.inRegion ops (i :: rest) :: k)) cs) (s := s) (j := j) (nh := ft) (v := v) (z' := .tuple #[]) rfl hj hjh hdn (send_comm hb ho (by rw [ha.eval]; exact hx) (by rw [ha.eval]; exact hy)) none (fun s2 e2 => by cases e2) ?_ hF
  unfold Behind
  rw [served_at ho]
  exact ⟨hh, gr, hgr, hway a (repD_rep ha)⟩
/-- A goroutine is started; who starts it goes to a seat. -/
theorem ZA.spawn {f : FuncId} {asx : Array Operand} {ats : Array TypeId} {st : Stays} {K : Seat1 → Prop} {vs : Array Value} {gr : Grp} (hb : b.kind ≠ .early) (ho : ops[i]? = some ⟨none, .go { callee := .value (.func f), args := asx, argTypes := ats }, ty, ps, af, none⟩) (hvs : asx.map (ev e) = vs) (hdn : X.dn = 0) (hp : X.pend = 1) (hgr : X.grp = some gr) (hst : X.stay 0 = st)
    (hway : At (YS P true st K) ft n b cs [] 0 e (.inRegion ops rest :: k)) (hsh : ∀ s', K s' → X.chs s'.ch ∧ ∀ i s2, X.seat i = some s2 → s2.ch ≠ s'.ch)
    (hF : ∀ s', K s' → Fin P Post (X.hire s') X.n (born P (dcall f vs)) w) : ZA (Fin P Post X 0) n b cs e (.inRegion ops (i :: rest) :: k) w := by
  intro a ha
  have hput : a.put none undef = a := rfl
  obtain ⟨s', hK, hw⟩ := hway a (repD_rep ha)
  refine Fin.spawn (g' := G (b.at (a.put none undef) (.inRegion ops rest :: k)) cs) (child := born P (dcall f vs)) (s := s') (nh := ft) (G := gr) rfl hdn hp hgr (fun w => ?_) (hsh s' hK).1 (hsh s' hK).2 (by rw [hst]; exact hw) (hF s' hK)
  rw [go_spawn hb ho, ha.eval, hvs]
/-- A deferred call ends: the frame that it was made for goes on its way out. -/
theorem AtR.saved {Y : Nat → Nat → Goroutine → Prop} {main : Bool} {ok : Event → Prop} (hY : HF P main ok Y) {c c' : Frame} {fn : Func} {todo : List Item} {d : Nat} (hs : Saved c c') (hn : b.kind = .deferred) (hf : P.funcs[b.fn]? = some fn) (hr : fn.results = #[]) (h : Y ft d (G { c with mode := .returning } cs)) : AtR Y (ft + 1) n b (c' :: cs) [] d e todo := by
  intro a ha
  rcases hs with ⟨hc, rfl⟩ | ⟨v, older, ho, rfl⟩
  · have : ({ c' with mode := .returning } : Frame) = c' := by rw [← hc]
    rw [this] at h
    exact hY.c rfl rfl (fun w => stepG_leave_deferred hn ha.defers hf (results_none hr _ P w) (events_results_none hr _ _) hc) h
  · refine hY.c rfl rfl (fun w => ?_) h
    exact step_leave_saved hn ha.defers hf (results_none hr _ P w) (events_results_none hr _ _) rfl ho
end
end Go.Vy
end
/- A client's Step: up to its seat, and from there on. -/
section
namespace Go.Vy.Sc
open Go Go.Conc Go.Yc Go.RowKit Go.Proofs Go.Proofs.Ytfmoeemolgjodaa
open Go.Vc Go.Wg
/-- A client that sits in its Step. -/
structure StepMe (cs : List Frame) (cb : Nat) (df : Value) (me : Goroutine) : Prop where
  yes : ∀ Z, @Ctx.Zs Try.prog (baseCtx Try.prog false) Z → ∀ (u : World) (K : World → Prop), DoOk Try.prog df u K → (∀ u2 fr, K u2 → fr.fn = 18 → Leaves Try.prog fr u2 (.returned (.tuple #[])) → Z (G fr cs) u2) → Z (Go.Conc.served me (.bool true)) u
  no : ∀ Z, @Ctx.Zs Try.prog (baseCtx Try.prog false) Z → ∀ (u : World) (S : Nat → Prop) (B : Nat) (w0 : World) (Bs : Nat) (R : Rn) (i : Nat) (c : CB), Rg S B w0 u Bs R → R.cl[i]? = some c → c.cb = cb → (∀ u2 fr ch, Rg S B w0 u2 Bs { R with cl := R.cl.set i { c with st := true } } → fr.fn = 18 → Raised ch → Leaves Try.prog fr u2 (.panicked ch) → Z (G fr cs) u2) → Z (Go.Conc.served me (.bool false)) u
theorem leaves_panic {f : FuncId} {fn : Func} {n : Nat} {a : Act} {e : Env} {todo : List Item} {ch : List PanicEntry} {w : World} (hf : Try.prog.funcs[f]? = some fn) (ha : Rep n a e) : Leaves Try.prog { (base f).at a todo with mode := .panicking ch } w (.panicked ch) :=
  ⟨rfl, ha.defers, by simp [Frame.catches, Frame.at, base, hf]⟩

theorem buT_0 : Try.prog.built 78 [] = some #[] := by kernel_rfl
theorem set_at {l : List CB} {i : Nat} {c c' : CB} (h : l[i]? = some c) : (l.set i c')[i]? = some c' := by
  have := (List.getElem?_eq_some_iff.1 h).1
  simp [this]
theorem set_one {S : Nat → Prop} {B : Nat} {w0 w : World} {Bs : Nat} {R : Rn} {i : Nat} {c1 c2 c3 c4 : CB} (h : Rg S B w0 w Bs { R with cl := (((R.cl.set i c1).set i c2).set i c3).set i c4 }) : Rg S B w0 w Bs { R with cl := R.cl.set i c4 } := by
  simpa using h

set_option maxRecDepth 20000 in
theorem step_fin {Post : Value → World → Prop} {X : Gh} {g : Nat} {S : Nat → Prop} {B : Nat} {w0 : World} {Bs : Nat} {R : Rn} {w : World} {i : Nat} {c : CB} {s : Stp} {rf df : Value} {cs : List Frame} {z0 : Value} {me0 : Goroutine}
    (hg : Rg S B w0 w Bs R) (hc : R.cl[i]? = some c) (hst0 : c.st = false) (hrf : rf.cells = #[rf] ∧ rf.oneCell' = true) (hdf : df.cells = #[df] ∧ df.oneCell' = true)
    (hg0 : g ≠ 0) (hX0 : X.seat 0 = some ⟨R.yb, z0, me0⟩) (hdn : X.dn = 0) (hst : X.stay g = [(⟨c.cb, 2, none⟩, .chan (some c.rc))]) (hsh : X.chs c.rc ∧ ∀ i s2, i ≠ 0 → X.seat i = some s2 → s2.ch ≠ c.rc)
    (hmain : ∀ w' me, Rg S B w0 w' Bs { R with cl := R.cl.set i { c with sp := s, rf := rf, df := df, wt := true } } → StepMe cs c.cb df me → Fin Try.prog Post (X.pass g 0 (some ⟨c.rc, .bool false, me⟩)) 0 (Go.Conc.served me0 (.int .i64 (i : Int))) w') :
    Fin Try.prog Post X g (G (Frame.enter Try.prog 18 #[.pointer (some ⟨c.cb, 0, none⟩), stepV s, rf, df] .normal) cs) w := by
  letI : Ctx Try.prog := baseCtx Try.prog (g == 0)
  rw [enter_at _ Try.func18 rfl]
  refine (?_ : ZA (Fin Try.prog Post X g) 63 (base 18) cs (Vc.argE #[.pointer (some ⟨c.cb, 0, none⟩), stepV s, rf, df]) [.code (Try.f18.body.getD .skip)] w) _ (rep_args _ _ rfl)
  have hZ : Ctx.Zs Try.prog (Fin Try.prog Post X g) := fin_zs
  have hb := bkn 18
  refine ZA.seq hZ ?_
  refine ZA.W hZ hb ?_
  refine W.region rfl ?_
  refine L.box (cs := #[.int .i64 (s.kind), .int .i64 (s.obj), .int .i64 (s.num)]) rfl rfl (fun w b5 F5 => ?_)
  have hg := hg.keep F5.below
  have hB5 := F5.blk
  refine L.nil ?_
  refine T.nrm ?_
  show ZA _ _ _ _ _ _ _
  refine ZA.seq hZ ?_
  refine ZA.seq hZ ?_
  refine ZA.W hZ hb ?_
  refine W.region rfl ?_
  refine L.va (x_mvP rfl) ?_
  refine L.va (x_eqPtrNil rfl rfl Try.underlying50) ?_
  refine L.nil ?_
  refine T.nrm ?_
  show ZA _ _ _ _ _ _ _
  refine ZA.condF hZ rfl ?_
  refine ZA.skip hZ ?_
  refine ZA.seq hZ ?_
  refine ZA.seq hZ ?_
  refine ZA.W hZ hb ?_
  refine W.region rfl ?_
  refine L.va (x_mvP rfl) ?_
  refine L.va (x_nilCheck rfl) ?_
  refine L.va (x_field rfl Try.underlying76 rfl sz4 (by decide)) ?_
  refine L.va (x_load rfl Try.underlying4 rfl ((hg.m.blk i c hc).cellAt 10 (v := .bool (c.st)) rfl)) ?_
  refine L.nil ?_
  refine T.nrm ?_
  show ZA _ _ _ _ _ _ _
  refine ZA.condF hZ (rb hst0) ?_
  refine ZA.skip hZ ?_
  refine ZA.seq hZ ?_
  refine ZA.W hZ hb ?_
  refine W.region rfl ?_
  refine L.va (x_mvP rfl) ?_
  refine L.va (x_mvP rfl) ?_
  refine L.va (x_mvP rfl) ?_
  refine L.va (x_mvP rfl) ?_
  refine L.va (x_loadAgg (cs := [.int .i64 (s.kind), .int .i64 (s.obj), .int .i64 (s.num)]) rfl Try.underlying43 rfl sz43 rfl (hB5.aggAt rfl)) ?_
  refine L.va x_move ?_
  refine L.va x_move ?_
  refine L.va (x_nilCheck rfl) ?_
  refine L.va (x_field rfl Try.underlying76 rfl sz43 (by decide)) ?_
  refine L.stC (i := i) (o := 3) (vs := [.int .i64 (s.kind), .int .i64 (s.obj), .int .i64 (s.num)]) hg { c with sp := s } hc rfl rfl rfl rfl sz43 rfl rfl (by decide) rfl (fun w hg hgr => ?_)
  try clear hgr
  refine L.va (x_nilCheck rfl) ?_
  refine L.va (x_field rfl Try.underlying76 rfl sz24 (by decide)) ?_
  refine L.stC (i := i) (o := 6) (vs := [rf]) hg { { c with sp := s } with rf := rf } (set_at hc) rfl rfl rfl (congrArg Array.toList hrf.1) sz24 rfl (by simp [hrf.2]) (by decide) rfl (fun w hg hgr => ?_)
  try clear hgr
  refine L.va (x_nilCheck rfl) ?_
  refine L.va (x_field rfl Try.underlying76 rfl sz1 (by decide)) ?_
  refine L.stC (i := i) (o := 7) (vs := [df]) hg { { { c with sp := s } with rf := rf } with df := df } (set_at (set_at hc)) rfl rfl rfl (congrArg Array.toList hdf.1) sz1 rfl (by simp [hdf.2]) (by decide) rfl (fun w hg hgr => ?_)
  try clear hgr
  refine L.va (x_nilCheck rfl) ?_
  refine L.va (x_field rfl Try.underlying76 rfl sz4 (by decide)) ?_
  refine L.stC (i := i) (o := 9) (vs := [.bool true]) hg { { { { c with sp := s } with rf := rf } with df := df } with wt := true } (set_at (set_at (set_at hc))) rfl rfl rfl rfl sz4 rfl rfl (by decide) rfl (fun w hg hgr => ?_)
  try clear hgr
  refine L.nil ?_
  refine T.nrm ?_
  show ZA _ _ _ _ _ _ _
  refine ZA.seq hZ ?_
  refine ZA.lastL hZ hb 11 (fun w' => Below w.heap.size w w') (by kernel_rfl) (by kernel_rfl) (by kernel_rfl) (by kernel_rfl) (Below.refl w.heap.size w).drew ?_
  refine D.va (fun w' hw' => (x_mvP rfl)) ?_
  refine D.va (fun w' hw' => (x_nilCheck rfl)) ?_
  refine D.va (fun w' hw' => (x_field rfl Try.underlying76 rfl sz73 (by decide))) ?_
  refine D.va (fun w' hw' => (x_load rfl Try.underlying73 rfl (((hg.m.blk i _ (set_at (set_at (set_at (set_at hc))))).keep hw').cellAt 1 (v := .pointer (some ⟨R.rb, 0, none⟩)) rfl))) ?_
  refine D.va (fun w' hw' => (x_nilCheck rfl)) ?_
  refine D.va (fun w' hw' => (x_field rfl Try.underlying91 rfl sz80 (by decide))) ?_
  refine D.va (fun w' hw' => (x_load rfl Try.underlying80 rfl ((hg.m.run.keep hw').cellAt 7 (v := .chan (some R.yb)) rfl))) ?_
  refine D.va (fun w' hw' => (x_mvP rfl)) ?_
  refine D.va (fun w' hw' => (x_nilCheck rfl)) ?_
  refine D.va (fun w' hw' => (x_field rfl Try.underlying76 rfl sz3 (by decide))) ?_
  refine D.va (fun w' hw' => (x_load rfl Try.underlying3 rfl (((hg.m.blk i _ (set_at (set_at (set_at (set_at hc))))).keep hw').cellAt 0 (v := .int .i64 (i : Int)) rfl))) ?_
  refine D.nil (fun w hbw => ?_)
  have hg := hg.keep hbw
  clear hbw
  refine ZA.give (i := 11) (rest := []) (s := ⟨R.yb, z0, me0⟩) (st := [(⟨c.cb, 2, none⟩, .chan (some c.rc))]) (K := fun s => s.ch = c.rc ∧ s.z = .bool false ∧ StepMe cs c.cb df s.me) (ft := 60) hb rfl rfl rfl hX0 hg0.symm hdn hst ?_ ?_ ?_
  · have hg0b : (g == 0) = false := by simpa using hg0
    rw [hg0b]
    have hY := hf_way (P := Try.prog) (main := false) (l := [((⟨c.cb, 2, none⟩ : Addr), Value.chan (some c.rc))]) (K := fun s => s.ch = c.rc ∧ s.z = .bool false ∧ StepMe cs c.cb df s.me)
    refine At.endRegion hY ?_
    refine At.seq hY ?_
    refine At.seq hY ?_
    refine At.region hY ?_
    refine AtL.val hY hb rfl (v := .pointer (some ⟨c.cb, 0, none⟩)) (pu_move rfl) ?_
    refine AtL.val hY hb rfl (pu_nilCheck rfl) ?_
    refine AtL.val hY hb rfl (pu_field rfl Try.underlying76 rfl sz74 (by decide)) ?_
    refine AtL.stay (v := .chan (some c.rc)) hb rfl (by simp) rfl Try.underlying74 rfl ?_
    refine AtL.seat (E := 4) (z := .bool false) hb Try.underlying74 zr4 rfl (fun me hs => ⟨rfl, rfl, ⟨?_, ?_⟩⟩) rfl
    · intro Z hZ w K hdo hK
      refine hs.go ?_
      letI : Ctx Try.prog := baseCtx Try.prog false
      refine ZA.more hZ hb 5 rfl ?_
      show L _ _ _ _ _ _ _
      refine L.va (x_asB rfl) ?_
      refine L.nil ?_
      refine T.nrm ?_
      show ZA _ _ _ _ _ _ _
      refine ZA.seq hZ ?_
      refine ZA.W hZ hb ?_
      refine W.region rfl ?_
      refine L.va (x_mvB rfl) ?_
      refine L.va (x_not rfl) ?_
      refine L.nil ?_
      refine T.nrm ?_
      show ZA _ _ _ _ _ _ _
      refine ZA.condF hZ rfl ?_
      refine ZA.skip hZ ?_
      refine ZA.seq hZ ?_
      rcases hdo with ⟨h1, h2⟩ | ⟨f, caps, ⟨h1, fn, hf, hbd, hnm⟩, hcall⟩
      all_goals subst h1
      · refine ZA.W hZ hb ?_
        refine W.region rfl ?_
        refine L.va x_move ?_
        refine L.va (x_neqFnNil (v := .nilFunc) (b := false) rfl (.inl ⟨rfl, rfl⟩) rfl Try.underlying1 ⟨_, _, _, rfl⟩) ?_
        refine L.nil ?_
        refine T.nrm ?_
        show ZA _ _ _ _ _ _ _
        refine ZA.condF hZ rfl ?_
        refine ZA.skip hZ ?_
        refine ZA.done hZ ?_
        exact ZA.leaves (fn := Try.f18) (f := 18) rfl Try.func18 rfl (fun fr h8 h9 => hK _ fr h2 h8 h9)
      · refine ZA.W hZ hb ?_
        refine W.region rfl ?_
        refine L.va x_move ?_
        refine L.va (x_neqFnNil (v := .func (.func f) #[] caps) (b := true) rfl (.inr ⟨_, _, _, rfl, rfl⟩) rfl Try.underlying1 ⟨_, _, _, rfl⟩) ?_
        refine L.nil ?_
        refine T.nrm ?_
        show ZA _ _ _ _ _ _ _
        refine ZA.condT hZ rfl ?_
        refine ZA.W hZ hb ?_
        refine W.region rfl ?_
        refine L.va x_move ?_
        refine L.call (x_callV0 rfl hf hbd hnm) hcall ?_
        rintro _ w h2
        refine L.nil ?_
        refine T.nrm ?_
        show ZA _ _ _ _ _ _ _
        refine ZA.done hZ ?_
        exact ZA.leaves (fn := Try.f18) (f := 18) rfl Try.func18 rfl (fun fr h8 h9 => hK _ fr h2 h8 h9)
    · intro Z hZ w S B w0 Bs R i c2 hg hc hcb hK
      refine hs.go ?_
      letI : Ctx Try.prog := baseCtx Try.prog false
      skip
      refine ZA.more hZ hb 5 rfl ?_
      show L _ _ _ _ _ _ _
      refine L.va (x_asB rfl) ?_
      refine L.nil ?_
      refine T.nrm ?_
      show ZA _ _ _ _ _ _ _
      refine ZA.seq hZ ?_
      refine ZA.W hZ hb ?_
      refine W.region rfl ?_
      refine L.va (x_mvB rfl) ?_
      refine L.va (x_not rfl) ?_
      refine L.nil ?_
      refine T.nrm ?_
      show ZA _ _ _ _ _ _ _
      refine ZA.condT hZ rfl ?_
      refine ZA.seq hZ ?_
      refine ZA.W hZ hb ?_
      refine W.region rfl ?_
      refine L.va (x_mvP rfl) ?_
      refine L.va (x_nilCheck rfl) ?_
      refine L.va (x_field rfl Try.underlying76 rfl sz4 (by decide)) ?_
      refine L.stC (i := i) (o := 10) (vs := [.bool true]) hg { c2 with st := true } hc rfl (by rw [hcb]; rfl) rfl rfl sz4 rfl rfl (by decide) rfl (fun w hg hgr => ?_)
      try clear hgr
      refine L.nil ?_
      refine T.nrm ?_
      show ZA _ _ _ _ _ _ _
      refine ZA.panics hZ hb ?_
      refine W.region rfl ?_
      refine L.va (x_build (parts := []) rfl buT_0) ?_
      refine L.va (x_makeIface (v := .agg #[]) rfl Try.underlying78 rfl) ?_
      refine L.panicI rfl ⟨_, rfl, fun a todo ha => ?_⟩
      exact hK _ _ _ hg rfl ⟨_, _, rfl, rfl⟩ (leaves_panic Try.func18 ha)
  · rintro s2 ⟨h1, _, _⟩; rw [h1]; exact hsh
  · rintro ⟨ch, z, me⟩ ⟨h1, h2, h3⟩; cases h1; cases h2; exact hmain _ me (set_one hg) h3

end Go.Vy.Sc
end
/- A client's end. -/
section
namespace Go.Vy.Sc
open Go Go.Conc Go.Yc Go.RowKit Go.Proofs Go.Proofs.Ytfmoeemolgjodaa
open Go.Vc Go.Wg
attribute [local irreducible] KK
abbrev caps2 (a b : Nat) : Array Value := #[.pointer (some ⟨a, 0, none⟩), .pointer (some ⟨b, 0, none⟩)]
/-- Behind the last send: the frame of body leaves its group, and the goroutine ends. -/
theorem lt_body (gr : Grp) {n : Nat} {a : Act} {todo : List Item} (hd : a.defers = [dcall 63 #[.pointer (some ⟨gr.blk, gr.off, none⟩)]]) : ∃ m, Lt Try.prog gr m 0 (G { (baseD 45).at a todo with mode := .returning } [bornF Try.prog]) := by
  have hq : QuitsD Try.prog 2 0 (G { (baseD 45).at ⟨a.tmps, []⟩ todo with mode := .returning } [bornF Try.prog]) := by
    refine .inr ⟨rfl, _, #[], fun e he => by simp at he, fun w => step_home (fn := Try.f45) rfl rfl Try.func45 (results_none rfl _ _ w) (events_results_none rfl _ _), ?_⟩
    refine .inr ⟨rfl, _, #[], fun e he => by simp at he, fun w => step_dead, ?_⟩
    exact ⟨rfl, rfl⟩
  obtain ⟨m, hm⟩ := done_lt gr (c := { (baseD 45).at ⟨a.tmps, []⟩ todo with mode := .returning }) rfl hq
  refine ⟨m + 1, ?_⟩
  exact (hf_lt Try.prog gr).c rfl rfl (fun w => step_enterD (f := 63) (fn := Try.f63) (caps := #[]) (args := #[.pointer (some ⟨gr.blk, gr.off, none⟩)]) (by simp) hd Try.func63 nm63 rfl) hm

theorem buU_0 : Try.prog.built 78 [] = some #[] := by kernel_rfl
set_option maxRecDepth 20000 in
theorem step_again {Z : Goroutine → World → Prop} (hZ : @Ctx.Zs Try.prog (baseCtx Try.prog false) Z) {rb0 i : Nat} {c : CB} {w0 : World} (hC : BlkF w0 c.cb (c.cells rb0 i) 76 (0, 3)) (hst : c.st = true) {s : Stp} {rf df : Value} {cs : List Frame}
    (hK : ∀ w' fr ch, Below w0.heap.size w0 w' → fr.fn = 18 → Raised ch → Leaves Try.prog fr w' (.panicked ch) → Z (G fr cs) w') : Z (G (Frame.enter Try.prog 18 #[.pointer (some ⟨c.cb, 0, none⟩), stepV s, rf, df] .normal) cs) w0 := by
  letI : Ctx Try.prog := baseCtx Try.prog false
  rw [enter_at _ Try.func18 rfl]
  refine (?_ : ZA Z 63 (base 18) cs (Vc.argE #[.pointer (some ⟨c.cb, 0, none⟩), stepV s, rf, df]) [.code (Try.f18.body.getD .skip)] w0) _ (rep_args _ _ rfl)
  have hb := bkn 18
  have hb0 : Below w0.heap.size w0 w0 := Below.refl _ _
  refine ZA.seq hZ ?_
  refine ZA.W hZ hb ?_
  refine W.region rfl ?_
  refine L.box (cs := #[.int .i64 (s.kind), .int .i64 (s.obj), .int .i64 (s.num)]) rfl rfl (fun w b5 F5 => ?_)
  have hb0 := cl_step hb0 F5.below
  have hC := hC.keep F5.below
  have hB5 := F5.blk
  refine L.nil ?_
  refine T.nrm ?_
  show ZA _ _ _ _ _ _ _
  refine ZA.seq hZ ?_
  refine ZA.seq hZ ?_
  refine ZA.W hZ hb ?_
  refine W.region rfl ?_
  refine L.va (x_mvP rfl) ?_
  refine L.va (x_eqPtrNil rfl rfl Try.underlying50) ?_
  refine L.nil ?_
  refine T.nrm ?_
  show ZA _ _ _ _ _ _ _
  refine ZA.condF hZ rfl ?_
  refine ZA.skip hZ ?_
  refine ZA.seq hZ ?_
  refine ZA.seq hZ ?_
  refine ZA.W hZ hb ?_
  refine W.region rfl ?_
  refine L.va (x_mvP rfl) ?_
  refine L.va (x_nilCheck rfl) ?_
  refine L.va (x_field rfl Try.underlying76 rfl sz4 (by decide)) ?_
  refine L.va (x_load rfl Try.underlying4 rfl (hC.cellAt 10 (v := .bool (c.st)) rfl)) ?_
  refine L.nil ?_
  refine T.nrm ?_
  show ZA _ _ _ _ _ _ _
  refine ZA.condT hZ (rb hst) ?_
  refine ZA.panics hZ hb ?_
  refine W.region rfl ?_
  refine L.va (x_build (parts := []) rfl buU_0) ?_
  refine L.va (x_makeIface (v := .agg #[]) rfl Try.underlying78 rfl) ?_
  refine L.panicI rfl ⟨_, rfl, fun a todo ha => ?_⟩
  exact hK _ _ _ hb0 rfl ⟨_, _, rfl, rfl⟩ (leaves_panic Try.func18 ha)

set_option maxRecDepth 20000 in
theorem end0_fin {Post : Value → World → Prop} {X : Gh} {g : Nat} {S : Nat → Prop} {B : Nat} {w0 : World} {Bs : Nat} {R : Rn} {w : World} {i : Nat} {c : CB} {z0 : Value} {me0 : Goroutine} {ab0 eb0 : Nat} {en : Bool} {a45 : Act} {todo45 : List Item} {md : FrameMode}
    (hg : Rg S B w0 w Bs R) (hc : R.cl[i]? = some c) (hst : c.st = true) (hA : BlkF w ab0 #[.pointer (some ⟨c.cb, 0, none⟩)] 50 (0, 0)) (hE : BlkF w eb0 #[.bool en] 4 (0, 0)) (hg0 : 0 < g) (hX0 : X.seat 0 = some ⟨R.yb, z0, me0⟩) (hdn : X.dn = 0) (hgr0 : X.grp = some ⟨R.rb, 8⟩)
    (hmd : md = .returning ∨ ∃ v older, md = .panicking ({ v, recovered := false } :: older) ∧ older.dropWhile (!·.goexit) = []) (hd45 : a45.defers = [dcall 63 #[.pointer (some ⟨R.rb, 8, none⟩)]])
    (hmain : ∀ w', Rg S B w0 w' Bs { R with ends := R.ends.set i 0, cl := R.cl.set i { c with wt := false } } → Fin Try.prog Post (X.pass g 0 none) 0 (Go.Conc.served me0 (.int .i64 (i : Int))) w') :
    Fin Try.prog Post X g (G ((baseD 64).at { tmps := ((#[] : Array Value) ++ caps2 ab0 eb0) ++ Array.replicate (Try.f64.ntmps - ((#[] : Array Value) ++ caps2 ab0 eb0).size) undef, defers := [] } [.code (Try.f64.body.getD .skip)]) [{ (baseD 45).at a45 todo45 with mode := md }, bornF Try.prog]) w := by
  letI : Ctx Try.prog := baseCtx Try.prog (g == 0)
  refine (?_ : ZA (Fin Try.prog Post X g) 63 (baseD 64) [{ (baseD 45).at a45 todo45 with mode := md }, bornF Try.prog] (Vc.argE ((#[] : Array Value) ++ caps2 ab0 eb0)) [.code (Try.f64.body.getD .skip)] w) _ (rep_args _ _ rfl)
  have hZ : Ctx.Zs Try.prog (Fin Try.prog Post X g) := fin_zs
  have hb := bkd 64
  have hi : i < R.m := Nat.lt_of_lt_of_le (List.getElem?_eq_some_iff.1 hc).1 hg.m.lcl
  refine ZA.seq hZ ?_
  refine ZA.region hZ ?_
  refine ZA.recover hZ (i := 0) (rest := []) rfl rfl rfl rfl hmd (fun c45 v hsv => ?_)
  refine ZA.endRegion hZ ?_
  refine ZA.seq hZ ?_
  refine ZA.block hZ ?_
  refine ZA.seq hZ ?_
  refine ZA.W hZ hb ?_
  refine W.region rfl ?_
  refine L.va (x_load rfl Try.underlying50 rfl (hA.cellAt 0 (v := .pointer (some ⟨c.cb, 0, none⟩)) rfl)) ?_
  refine L.va (x_nilCheck rfl) ?_
  refine L.va (x_field rfl Try.underlying76 rfl sz4 (by decide)) ?_
  refine L.va (x_load rfl Try.underlying4 rfl ((hg.m.blk i c hc).cellAt 10 (v := .bool (c.st)) rfl)) ?_
  refine L.va (x_asB rfl) ?_
  refine L.nil ?_
  refine T.nrm ?_
  show ZA _ _ _ _ _ _ _
  refine ZA.condT hZ (rb hst) ?_
  refine ZA.W hZ hb ?_
  have hR := hg.m.run
  have hC := (hg.m.blk i c hc)
  refine W.lastL 13 (fun w' => Below w.heap.size w w') (by kernel_rfl) (by kernel_rfl) (by kernel_rfl) (by kernel_rfl) ((Below.refl w.heap.size w).drew) ?_
  refine D.va (fun w' hw' => (x_load rfl Try.underlying50 rfl ((hA.keep hw').cellAt 0 (v := .pointer (some ⟨c.cb, 0, none⟩)) rfl))) ?_
  refine D.va (fun w' hw' => (x_nilCheck rfl)) ?_
  refine D.va (fun w' hw' => (x_field rfl Try.underlying76 rfl sz73 (by decide))) ?_
  refine D.va (fun w' hw' => (x_load rfl Try.underlying73 rfl ((hC.keep hw').cellAt 1 (v := .pointer (some ⟨R.rb, 0, none⟩)) rfl))) ?_
  refine D.va (fun w' hw' => (x_nilCheck rfl)) ?_
  refine D.va (fun w' hw' => (x_field rfl Try.underlying91 rfl sz31 (by decide))) ?_
  refine D.va (fun w' hw' => (x_field rfl Try.underlying31 rfl sz26 (by decide))) ?_
  refine D.va (fun w' hw' => (x_load rfl Try.underlying26 rfl ((hR.keep hw').cellAt 3 (v := .slice (some ⟨R.eb, 0, none⟩) (R.m) (R.m)) rfl))) ?_
  refine D.va (fun w' hw' => (x_load rfl Try.underlying50 rfl ((hA.keep hw').cellAt 0 (v := .pointer (some ⟨c.cb, 0, none⟩)) rfl))) ?_
  refine D.va (fun w' hw' => (x_nilCheck rfl)) ?_
  refine D.va (fun w' hw' => (x_field rfl Try.underlying76 rfl sz3 (by decide))) ?_
  refine D.va (fun w' hw' => (x_load rfl Try.underlying3 rfl ((hC.keep hw').cellAt 0 (v := .int .i64 (i : Int)) rfl))) ?_
  refine D.va (fun w' hw' => x_index (i := i) rfl rfl Try.underlying26 sz3 hi) ?_
  refine D.nil (fun w hbw => ?_)
  have hA := hA.keep hbw
  have hE := hE.keep hbw
  have hg := hg.keep hbw
  have hR := hR.keep hbw
  have hC := hC.keep hbw
  clear hbw
  have neA := BlkF.ne hA hg.m.ends (by decide)
  have neE := BlkF.ne hE hg.m.ends (by decide)
  refine L.stE (i := i) hg hi rfl rfl sz3 (fun w hg hgr => ?_)
  have hA := hA.other hgr neA
  have hE := hE.other hgr neE
  clear neA neE hgr
  have hc : (Rn.cl { R with ends := R.ends.set i 0 })[i]? = some c := hc
  refine L.nil ?_
  try clear hR
  try clear hC
  refine T.nrm ?_
  show ZA _ _ _ _ _ _ _
  refine ZA.inBlock hZ ?_
  refine ZA.seq hZ ?_
  refine ZA.W hZ hb ?_
  refine W.region rfl ?_
  refine L.va (x_load rfl Try.underlying50 rfl (hA.cellAt 0 (v := .pointer (some ⟨c.cb, 0, none⟩)) rfl)) ?_
  refine L.va (x_nilCheck rfl) ?_
  refine L.va (x_field rfl Try.underlying76 rfl sz4 (by decide)) ?_
  have neA := BlkF.ne hA (hg.m.blk i c hc) (by decide)
  refine L.stC (i := i) (o := 9) (vs := [.bool false]) hg { c with wt := false } hc rfl rfl rfl rfl sz4 rfl rfl (by decide) rfl (fun w hg hgr => ?_)
  have hA := hA.other hgr neA
  refine L.nil ?_
  refine T.nrm ?_
  show ZA _ _ _ _ _ _ _
  refine ZA.lastL hZ hb 11 (fun w' => Below w.heap.size w w') (by kernel_rfl) (by kernel_rfl) (by kernel_rfl) (by kernel_rfl) (Below.refl w.heap.size w).drew ?_
  refine D.va (fun w' hw' => (x_load rfl Try.underlying50 rfl ((hA.keep hw').cellAt 0 (v := .pointer (some ⟨c.cb, 0, none⟩)) rfl))) ?_
  refine D.va (fun w' hw' => (x_nilCheck rfl)) ?_
  refine D.va (fun w' hw' => (x_field rfl Try.underlying76 rfl sz73 (by decide))) ?_
  refine D.va (fun w' hw' => (x_load rfl Try.underlying73 rfl (((hg.m.blk i _ (set_at hc)).keep hw').cellAt 1 (v := .pointer (some ⟨R.rb, 0, none⟩)) rfl))) ?_
  refine D.va (fun w' hw' => (x_nilCheck rfl)) ?_
  refine D.va (fun w' hw' => (x_field rfl Try.underlying91 rfl sz80 (by decide))) ?_
  refine D.va (fun w' hw' => (x_load rfl Try.underlying80 rfl ((hg.m.run.keep hw').cellAt 7 (v := .chan (some R.yb)) rfl))) ?_
  refine D.va (fun w' hw' => (x_load rfl Try.underlying50 rfl ((hA.keep hw').cellAt 0 (v := .pointer (some ⟨c.cb, 0, none⟩)) rfl))) ?_
  refine D.va (fun w' hw' => (x_nilCheck rfl)) ?_
  refine D.va (fun w' hw' => (x_field rfl Try.underlying76 rfl sz3 (by decide))) ?_
  refine D.va (fun w' hw' => (x_load rfl Try.underlying3 rfl (((hg.m.blk i _ (set_at hc)).keep hw').cellAt 0 (v := .int .i64 (i : Int)) rfl))) ?_
  refine D.nil (fun w hbw => ?_)
  have hg := hg.keep hbw
  have hA := hA.keep hbw
  clear hbw
  obtain ⟨m, hm⟩ := lt_body ⟨R.rb, 8⟩ (n := 0) (a := a45) (todo := todo45) hd45
  refine ZA.giveLast (i := 11) (rest := []) (s := ⟨R.yb, z0, me0⟩) (gr := ⟨R.rb, 8⟩) (ft := m + 3) hb rfl rfl rfl hX0 (Nat.ne_of_lt hg0) hdn hg0 hgr0 ?_ ?_
  · refine At.endRegion (hf_lt _ _) ?_
    refine At.done (hf_lt _ _) (fun _ => ?_)
    exact AtR.saved (hf_lt _ _) hsv rfl Try.func64 rfl hm
  · exact hmain _ hg

set_option maxRecDepth 20000 in
theorem end1_fin {Post : Value → World → Prop} {X : Gh} {g : Nat} {S : Nat → Prop} {B : Nat} {w0 : World} {Bs : Nat} {R : Rn} {w : World} {i : Nat} {c : CB} {z0 : Value} {me0 : Goroutine} {ab0 eb0 : Nat} {en : Bool} {a45 : Act} {todo45 : List Item} {md : FrameMode}
    (hg : Rg S B w0 w Bs R) (hc : R.cl[i]? = some c) (hst : c.st = false) (hA : BlkF w ab0 #[.pointer (some ⟨c.cb, 0, none⟩)] 50 (0, 0)) (hE : BlkF w eb0 #[.bool true] 4 (0, 0)) (hg0 : 0 < g) (hX0 : X.seat 0 = some ⟨R.yb, z0, me0⟩) (hdn : X.dn = 0) (hgr0 : X.grp = some ⟨R.rb, 8⟩)
    (hmd : md = .returning ∨ ∃ v older, md = .panicking ({ v, recovered := false } :: older) ∧ older.dropWhile (!·.goexit) = []) (hd45 : a45.defers = [dcall 63 #[.pointer (some ⟨R.rb, 8, none⟩)]])
    (hmain : ∀ w', Rg S B w0 w' Bs { R with ends := R.ends.set i 1, cl := R.cl.set i { c with wt := false } } → Fin Try.prog Post (X.pass g 0 none) 0 (Go.Conc.served me0 (.int .i64 (i : Int))) w') :
    Fin Try.prog Post X g (G ((baseD 64).at { tmps := ((#[] : Array Value) ++ caps2 ab0 eb0) ++ Array.replicate (Try.f64.ntmps - ((#[] : Array Value) ++ caps2 ab0 eb0).size) undef, defers := [] } [.code (Try.f64.body.getD .skip)]) [{ (baseD 45).at a45 todo45 with mode := md }, bornF Try.prog]) w := by
  letI : Ctx Try.prog := baseCtx Try.prog (g == 0)
  refine (?_ : ZA (Fin Try.prog Post X g) 63 (baseD 64) [{ (baseD 45).at a45 todo45 with mode := md }, bornF Try.prog] (Vc.argE ((#[] : Array Value) ++ caps2 ab0 eb0)) [.code (Try.f64.body.getD .skip)] w) _ (rep_args _ _ rfl)
  have hZ : Ctx.Zs Try.prog (Fin Try.prog Post X g) := fin_zs
  have hb := bkd 64
  have hi : i < R.m := Nat.lt_of_lt_of_le (List.getElem?_eq_some_iff.1 hc).1 hg.m.lcl
  refine ZA.seq hZ ?_
  refine ZA.region hZ ?_
  refine ZA.recover hZ (i := 0) (rest := []) rfl rfl rfl rfl hmd (fun c45 v hsv => ?_)
  refine ZA.endRegion hZ ?_
  refine ZA.seq hZ ?_
  refine ZA.block hZ ?_
  refine ZA.seq hZ ?_
  refine ZA.W hZ hb ?_
  refine W.region rfl ?_
  refine L.va (x_load rfl Try.underlying50 rfl (hA.cellAt 0 (v := .pointer (some ⟨c.cb, 0, none⟩)) rfl)) ?_
  refine L.va (x_nilCheck rfl) ?_
  refine L.va (x_field rfl Try.underlying76 rfl sz4 (by decide)) ?_
  refine L.va (x_load rfl Try.underlying4 rfl ((hg.m.blk i c hc).cellAt 10 (v := .bool (c.st)) rfl)) ?_
  refine L.va (x_asB rfl) ?_
  refine L.nil ?_
  refine T.nrm ?_
  show ZA _ _ _ _ _ _ _
  refine ZA.condF hZ (rb hst) ?_
  refine ZA.seq hZ ?_
  refine ZA.W hZ hb ?_
  refine W.region rfl ?_
  refine L.va (x_load rfl Try.underlying4 rfl (hE.cellAt 0 (v := .bool true) rfl)) ?_
  refine L.va (x_asB rfl) ?_
  refine L.nil ?_
  refine T.nrm ?_
  show ZA _ _ _ _ _ _ _
  refine ZA.condT hZ rfl ?_
  refine ZA.W hZ hb ?_
  have hR := hg.m.run
  have hC := (hg.m.blk i c hc)
  refine W.lastL 13 (fun w' => Below w.heap.size w w') (by kernel_rfl) (by kernel_rfl) (by kernel_rfl) (by kernel_rfl) ((Below.refl w.heap.size w).drew) ?_
  refine D.va (fun w' hw' => (x_load rfl Try.underlying50 rfl ((hA.keep hw').cellAt 0 (v := .pointer (some ⟨c.cb, 0, none⟩)) rfl))) ?_
  refine D.va (fun w' hw' => (x_nilCheck rfl)) ?_
  refine D.va (fun w' hw' => (x_field rfl Try.underlying76 rfl sz73 (by decide))) ?_
  refine D.va (fun w' hw' => (x_load rfl Try.underlying73 rfl ((hC.keep hw').cellAt 1 (v := .pointer (some ⟨R.rb, 0, none⟩)) rfl))) ?_
  refine D.va (fun w' hw' => (x_nilCheck rfl)) ?_
  refine D.va (fun w' hw' => (x_field rfl Try.underlying91 rfl sz31 (by decide))) ?_
  refine D.va (fun w' hw' => (x_field rfl Try.underlying31 rfl sz26 (by decide))) ?_
  refine D.va (fun w' hw' => (x_load rfl Try.underlying26 rfl ((hR.keep hw').cellAt 3 (v := .slice (some ⟨R.eb, 0, none⟩) (R.m) (R.m)) rfl))) ?_
  refine D.va (fun w' hw' => (x_load rfl Try.underlying50 rfl ((hA.keep hw').cellAt 0 (v := .pointer (some ⟨c.cb, 0, none⟩)) rfl))) ?_
  refine D.va (fun w' hw' => (x_nilCheck rfl)) ?_
  refine D.va (fun w' hw' => (x_field rfl Try.underlying76 rfl sz3 (by decide))) ?_
  refine D.va (fun w' hw' => (x_load rfl Try.underlying3 rfl ((hC.keep hw').cellAt 0 (v := .int .i64 (i : Int)) rfl))) ?_
  refine D.va (fun w' hw' => x_index (i := i) rfl rfl Try.underlying26 sz3 hi) ?_
  refine D.nil (fun w hbw => ?_)
  have hA := hA.keep hbw
  have hE := hE.keep hbw
  have hg := hg.keep hbw
  have hR := hR.keep hbw
  have hC := hC.keep hbw
  clear hbw
  have neA := BlkF.ne hA hg.m.ends (by decide)
  have neE := BlkF.ne hE hg.m.ends (by decide)
  refine L.stE (i := i) hg hi rfl rfl sz3 (fun w hg hgr => ?_)
  have hA := hA.other hgr neA
  have hE := hE.other hgr neE
  clear neA neE hgr
  have hc : (Rn.cl { R with ends := R.ends.set i 1 })[i]? = some c := hc
  refine L.nil ?_
  try clear hR
  try clear hC
  refine T.nrm ?_
  show ZA _ _ _ _ _ _ _
  refine ZA.inBlock hZ ?_
  refine ZA.seq hZ ?_
  refine ZA.W hZ hb ?_
  refine W.region rfl ?_
  refine L.va (x_load rfl Try.underlying50 rfl (hA.cellAt 0 (v := .pointer (some ⟨c.cb, 0, none⟩)) rfl)) ?_
  refine L.va (x_nilCheck rfl) ?_
  refine L.va (x_field rfl Try.underlying76 rfl sz4 (by decide)) ?_
  have neA := BlkF.ne hA (hg.m.blk i c hc) (by decide)
  refine L.stC (i := i) (o := 9) (vs := [.bool false]) hg { c with wt := false } hc rfl rfl rfl rfl sz4 rfl rfl (by decide) rfl (fun w hg hgr => ?_)
  have hA := hA.other hgr neA
  refine L.nil ?_
  refine T.nrm ?_
  show ZA _ _ _ _ _ _ _
  refine ZA.lastL hZ hb 11 (fun w' => Below w.heap.size w w') (by kernel_rfl) (by kernel_rfl) (by kernel_rfl) (by kernel_rfl) (Below.refl w.heap.size w).drew ?_
  refine D.va (fun w' hw' => (x_load rfl Try.underlying50 rfl ((hA.keep hw').cellAt 0 (v := .pointer (some ⟨c.cb, 0, none⟩)) rfl))) ?_
  refine D.va (fun w' hw' => (x_nilCheck rfl)) ?_
  refine D.va (fun w' hw' => (x_field rfl Try.underlying76 rfl sz73 (by decide))) ?_
  refine D.va (fun w' hw' => (x_load rfl Try.underlying73 rfl (((hg.m.blk i _ (set_at hc)).keep hw').cellAt 1 (v := .pointer (some ⟨R.rb, 0, none⟩)) rfl))) ?_
  refine D.va (fun w' hw' => (x_nilCheck rfl)) ?_
  refine D.va (fun w' hw' => (x_field rfl Try.underlying91 rfl sz80 (by decide))) ?_
  refine D.va (fun w' hw' => (x_load rfl Try.underlying80 rfl ((hg.m.run.keep hw').cellAt 7 (v := .chan (some R.yb)) rfl))) ?_
  refine D.va (fun w' hw' => (x_load rfl Try.underlying50 rfl ((hA.keep hw').cellAt 0 (v := .pointer (some ⟨c.cb, 0, none⟩)) rfl))) ?_
  refine D.va (fun w' hw' => (x_nilCheck rfl)) ?_
  refine D.va (fun w' hw' => (x_field rfl Try.underlying76 rfl sz3 (by decide))) ?_
  refine D.va (fun w' hw' => (x_load rfl Try.underlying3 rfl (((hg.m.blk i _ (set_at hc)).keep hw').cellAt 0 (v := .int .i64 (i : Int)) rfl))) ?_
  refine D.nil (fun w hbw => ?_)
  have hg := hg.keep hbw
  have hA := hA.keep hbw
  clear hbw
  obtain ⟨m, hm⟩ := lt_body ⟨R.rb, 8⟩ (n := 0) (a := a45) (todo := todo45) hd45
  refine ZA.giveLast (i := 11) (rest := []) (s := ⟨R.yb, z0, me0⟩) (gr := ⟨R.rb, 8⟩) (ft := m + 3) hb rfl rfl rfl hX0 (Nat.ne_of_lt hg0) hdn hg0 hgr0 ?_ ?_
  · refine At.endRegion (hf_lt _ _) ?_
    refine At.done (hf_lt _ _) (fun _ => ?_)
    exact AtR.saved (hf_lt _ _) hsv rfl Try.func64 rfl hm
  · exact hmain _ hg

set_option maxRecDepth 20000 in
theorem end2_fin {Post : Value → World → Prop} {X : Gh} {g : Nat} {S : Nat → Prop} {B : Nat} {w0 : World} {Bs : Nat} {R : Rn} {w : World} {i : Nat} {c : CB} {z0 : Value} {me0 : Goroutine} {ab0 eb0 : Nat} {en : Bool} {a45 : Act} {todo45 : List Item} {md : FrameMode}
    (hg : Rg S B w0 w Bs R) (hc : R.cl[i]? = some c) (hst : c.st = false) (hA : BlkF w ab0 #[.pointer (some ⟨c.cb, 0, none⟩)] 50 (0, 0)) (hE : BlkF w eb0 #[.bool false] 4 (0, 0)) (hg0 : 0 < g) (hX0 : X.seat 0 = some ⟨R.yb, z0, me0⟩) (hdn : X.dn = 0) (hgr0 : X.grp = some ⟨R.rb, 8⟩)
    (hmd : md = .returning ∨ ∃ v older, md = .panicking ({ v, recovered := false } :: older) ∧ older.dropWhile (!·.goexit) = []) (hd45 : a45.defers = [dcall 63 #[.pointer (some ⟨R.rb, 8, none⟩)]])
    (hmain : ∀ w', Rg S B w0 w' Bs { R with ends := R.ends.set i 2, cl := R.cl.set i { c with wt := false } } → Fin Try.prog Post (X.pass g 0 none) 0 (Go.Conc.served me0 (.int .i64 (i : Int))) w') :
    Fin Try.prog Post X g (G ((baseD 64).at { tmps := ((#[] : Array Value) ++ caps2 ab0 eb0) ++ Array.replicate (Try.f64.ntmps - ((#[] : Array Value) ++ caps2 ab0 eb0).size) undef, defers := [] } [.code (Try.f64.body.getD .skip)]) [{ (baseD 45).at a45 todo45 with mode := md }, bornF Try.prog]) w := by
  letI : Ctx Try.prog := baseCtx Try.prog (g == 0)
  refine (?_ : ZA (Fin Try.prog Post X g) 63 (baseD 64) [{ (baseD 45).at a45 todo45 with mode := md }, bornF Try.prog] (Vc.argE ((#[] : Array Value) ++ caps2 ab0 eb0)) [.code (Try.f64.body.getD .skip)] w) _ (rep_args _ _ rfl)
  have hZ : Ctx.Zs Try.prog (Fin Try.prog Post X g) := fin_zs
  have hb := bkd 64
  have hi : i < R.m := Nat.lt_of_lt_of_le (List.getElem?_eq_some_iff.1 hc).1 hg.m.lcl
  refine ZA.seq hZ ?_
  refine ZA.region hZ ?_
  refine ZA.recover hZ (i := 0) (rest := []) rfl rfl rfl rfl hmd (fun c45 v hsv => ?_)
  refine ZA.endRegion hZ ?_
  refine ZA.seq hZ ?_
  refine ZA.block hZ ?_
  refine ZA.seq hZ ?_
  refine ZA.W hZ hb ?_
  refine W.region rfl ?_
  refine L.va (x_load rfl Try.underlying50 rfl (hA.cellAt 0 (v := .pointer (some ⟨c.cb, 0, none⟩)) rfl)) ?_
  refine L.va (x_nilCheck rfl) ?_
  refine L.va (x_field rfl Try.underlying76 rfl sz4 (by decide)) ?_
  refine L.va (x_load rfl Try.underlying4 rfl ((hg.m.blk i c hc).cellAt 10 (v := .bool (c.st)) rfl)) ?_
  refine L.va (x_asB rfl) ?_
  refine L.nil ?_
  refine T.nrm ?_
  show ZA _ _ _ _ _ _ _
  refine ZA.condF hZ (rb hst) ?_
  refine ZA.seq hZ ?_
  refine ZA.W hZ hb ?_
  refine W.region rfl ?_
  refine L.va (x_load rfl Try.underlying4 rfl (hE.cellAt 0 (v := .bool false) rfl)) ?_
  refine L.va (x_asB rfl) ?_
  refine L.nil ?_
  refine T.nrm ?_
  show ZA _ _ _ _ _ _ _
  refine ZA.condF hZ rfl ?_
  refine ZA.W hZ hb ?_
  have hR := hg.m.run
  have hC := (hg.m.blk i c hc)
  refine W.lastL 13 (fun w' => Below w.heap.size w w') (by kernel_rfl) (by kernel_rfl) (by kernel_rfl) (by kernel_rfl) ((Below.refl w.heap.size w).drew) ?_
  refine D.va (fun w' hw' => (x_load rfl Try.underlying50 rfl ((hA.keep hw').cellAt 0 (v := .pointer (some ⟨c.cb, 0, none⟩)) rfl))) ?_
  refine D.va (fun w' hw' => (x_nilCheck rfl)) ?_
  refine D.va (fun w' hw' => (x_field rfl Try.underlying76 rfl sz73 (by decide))) ?_
  refine D.va (fun w' hw' => (x_load rfl Try.underlying73 rfl ((hC.keep hw').cellAt 1 (v := .pointer (some ⟨R.rb, 0, none⟩)) rfl))) ?_
  refine D.va (fun w' hw' => (x_nilCheck rfl)) ?_
  refine D.va (fun w' hw' => (x_field rfl Try.underlying91 rfl sz31 (by decide))) ?_
  refine D.va (fun w' hw' => (x_field rfl Try.underlying31 rfl sz26 (by decide))) ?_
  refine D.va (fun w' hw' => (x_load rfl Try.underlying26 rfl ((hR.keep hw').cellAt 3 (v := .slice (some ⟨R.eb, 0, none⟩) (R.m) (R.m)) rfl))) ?_
  refine D.va (fun w' hw' => (x_load rfl Try.underlying50 rfl ((hA.keep hw').cellAt 0 (v := .pointer (some ⟨c.cb, 0, none⟩)) rfl))) ?_
  refine D.va (fun w' hw' => (x_nilCheck rfl)) ?_
  refine D.va (fun w' hw' => (x_field rfl Try.underlying76 rfl sz3 (by decide))) ?_
  refine D.va (fun w' hw' => (x_load rfl Try.underlying3 rfl ((hC.keep hw').cellAt 0 (v := .int .i64 (i : Int)) rfl))) ?_
  refine D.va (fun w' hw' => x_index (i := i) rfl rfl Try.underlying26 sz3 hi) ?_
  refine D.nil (fun w hbw => ?_)
  have hA := hA.keep hbw
  have hE := hE.keep hbw
  have hg := hg.keep hbw
  have hR := hR.keep hbw
  have hC := hC.keep hbw
  clear hbw
  have neA := BlkF.ne hA hg.m.ends (by decide)
  have neE := BlkF.ne hE hg.m.ends (by decide)
  refine L.stE (i := i) hg hi rfl rfl sz3 (fun w hg hgr => ?_)
  have hA := hA.other hgr neA
  have hE := hE.other hgr neE
  clear neA neE hgr
  have hc : (Rn.cl { R with ends := R.ends.set i 2 })[i]? = some c := hc
  refine L.nil ?_
  try clear hR
  try clear hC
  refine T.nrm ?_
  show ZA _ _ _ _ _ _ _
  refine ZA.inBlock hZ ?_
  refine ZA.seq hZ ?_
  refine ZA.W hZ hb ?_
  refine W.region rfl ?_
  refine L.va (x_load rfl Try.underlying50 rfl (hA.cellAt 0 (v := .pointer (some ⟨c.cb, 0, none⟩)) rfl)) ?_
  refine L.va (x_nilCheck rfl) ?_
  refine L.va (x_field rfl Try.underlying76 rfl sz4 (by decide)) ?_
  have neA := BlkF.ne hA (hg.m.blk i c hc) (by decide)
  refine L.stC (i := i) (o := 9) (vs := [.bool false]) hg { c with wt := false } hc rfl rfl rfl rfl sz4 rfl rfl (by decide) rfl (fun w hg hgr => ?_)
  have hA := hA.other hgr neA
  refine L.nil ?_
  refine T.nrm ?_
  show ZA _ _ _ _ _ _ _
  refine ZA.lastL hZ hb 11 (fun w' => Below w.heap.size w w') (by kernel_rfl) (by kernel_rfl) (by kernel_rfl) (by kernel_rfl) (Below.refl w.heap.size w).drew ?_
  refine D.va (fun w' hw' => (x_load rfl Try.underlying50 rfl ((hA.keep hw').cellAt 0 (v := .pointer (some ⟨c.cb, 0, none⟩)) rfl))) ?_
  refine D.va (fun w' hw' => (x_nilCheck rfl)) ?_
  refine D.va (fun w' hw' => (x_field rfl Try.underlying76 rfl sz73 (by decide))) ?_
  refine D.va (fun w' hw' => (x_load rfl Try.underlying73 rfl (((hg.m.blk i _ (set_at hc)).keep hw').cellAt 1 (v := .pointer (some ⟨R.rb, 0, none⟩)) rfl))) ?_
  refine D.va (fun w' hw' => (x_nilCheck rfl)) ?_
  refine D.va (fun w' hw' => (x_field rfl Try.underlying91 rfl sz80 (by decide))) ?_
  refine D.va (fun w' hw' => (x_load rfl Try.underlying80 rfl ((hg.m.run.keep hw').cellAt 7 (v := .chan (some R.yb)) rfl))) ?_
  refine D.va (fun w' hw' => (x_load rfl Try.underlying50 rfl ((hA.keep hw').cellAt 0 (v := .pointer (some ⟨c.cb, 0, none⟩)) rfl))) ?_
  refine D.va (fun w' hw' => (x_nilCheck rfl)) ?_
  refine D.va (fun w' hw' => (x_field rfl Try.underlying76 rfl sz3 (by decide))) ?_
  refine D.va (fun w' hw' => (x_load rfl Try.underlying3 rfl (((hg.m.blk i _ (set_at hc)).keep hw').cellAt 0 (v := .int .i64 (i : Int)) rfl))) ?_
  refine D.nil (fun w hbw => ?_)
  have hg := hg.keep hbw
  have hA := hA.keep hbw
  clear hbw
  obtain ⟨m, hm⟩ := lt_body ⟨R.rb, 8⟩ (n := 0) (a := a45) (todo := todo45) hd45
  refine ZA.giveLast (i := 11) (rest := []) (s := ⟨R.yb, z0, me0⟩) (gr := ⟨R.rb, 8⟩) (ft := m + 3) hb rfl rfl rfl hX0 (Nat.ne_of_lt hg0) hdn hg0 hgr0 ?_ ?_
  · refine At.endRegion (hf_lt _ _) ?_
    refine At.done (hf_lt _ _) (fun _ => ?_)
    exact AtR.saved (hf_lt _ _) hsv rfl Try.func64 rfl hm
  · exact hmain _ hg

end Go.Vy.Sc
end
/- A client's body: from its first step to its end. -/
section
namespace Go.Vy.Sc
open Go Go.Conc Go.Yc Go.RowKit Go.Proofs Go.Proofs.Ytfmoeemolgjodaa
open Go.Vc Go.Wg
attribute [local irreducible] KK
/-- A block that is none of the run's turns. -/
theorem Rg.side {S : Nat → Prop} {B : Nat} {w0 w : World} {Bs : Nat} {R : Rn} (h : Rg S B w0 w Bs R) {b : Nat} {cs cs' : Array Value} {T : TypeId} {f : Nat × Nat} (hb : BlkF w b cs T f) (hT : T ≠ 91 ∧ T ≠ 50 ∧ T ≠ 45 ∧ T ≠ 47 ∧ T ≠ 3 ∧ T ≠ 43 ∧ T ≠ 76) (hS : S b ∨ B ≤ b) : Rg S B w0 (setBlkF w b cs' T f) Bs R := by
  have hgr := setBlkF_grown w b cs' T f
  have hr : ∀ T' : TypeId, T' ≠ T → ∀ r, some b = some r → ∃ cs' T'' f', BlkF w r cs' T'' f' ∧ T' ≠ T'' := fun T' hT r e => by cases e; exact ⟨_, _, _, hb, hT⟩
  have hm : RunM (setBlkF w b cs' T f) Bs R := ⟨apartF h.m.run hgr (hr _ (Ne.symm hT.1)), apartO h.m.cls hgr (hr _ (Ne.symm hT.2.1)), apartO h.m.evs hgr (hr _ (Ne.symm hT.2.2.1)), apartO h.m.nts hgr (hr _ (Ne.symm hT.2.2.2.1)), apartF h.m.ends hgr (hr _ (Ne.symm hT.2.2.2.2.1)), apartF h.m.wts hgr (hr _ (Ne.symm hT.2.2.2.2.2.1)), h.m.lend, h.m.lwts, h.m.lcl, fun i c hc => apartF (h.m.blk i c hc) hgr (hr _ (Ne.symm hT.2.2.2.2.2.2))⟩
  exact ⟨hm, h.md.grown hgr h.le (fun r e => by cases e; exact hS), h.fp, by rw [setBlkF_size]; exact h.le⟩
/-- What is told of a client's end. -/
def EndX (c : CB) (x : Int) : Ending → Prop
  | .returned _ => (c.st = true ∧ x = 0) ∨ (c.st = false ∧ x = 1)
  | .panicked ch => Raised ch ∧ ((c.st = true ∧ x = 0) ∨ (c.st = false ∧ x = 2))
  | .outgrown => False
/-- What waits behind a client's body. -/
structure TopOk (top : List Frame) (ab0 eb0 rb cb : Nat) : Prop where
  leave : ∀ {Post : Value → World → Prop} {X : Gh} {g : Nat} {S : Nat → Prop} {B : Nat} {w0 : World} {Bs : Nat} {R : Rn} {w : World} {i : Nat} {c : CB} {z0 : Value} {me0 : Goroutine} {fr : Frame} {e : Ending} (x : Int), Rg S B w0 w Bs R → R.rb = rb → R.cl[i]? = some c → c.cb = cb →
    BlkF w ab0 #[.pointer (some ⟨cb, 0, none⟩)] 50 (0, 0) → BlkF w eb0 #[.bool false] 4 (0, 0) → (S eb0 ∨ B ≤ eb0) → EndX c x e → 0 < g → X.seat 0 = some ⟨R.yb, z0, me0⟩ → X.dn = 0 → X.grp = some ⟨rb, 8⟩ →
    (∀ w', Rg S B w0 w' Bs { R with ends := R.ends.set i x, cl := R.cl.set i { c with wt := false } } → (∃ en, BlkF w' eb0 #[.bool en] 4 (0, 0)) → Fin Try.prog Post (X.pass g 0 none) 0 (Go.Conc.served me0 (.int .i64 (i : Int))) w') →
    Leaves Try.prog fr w e → Fin Try.prog Post X g (G fr top) w
/-- The run's blocks are none of another type. -/
theorem RunM.fp_ne {w : World} {Bs : Nat} {R : Rn} (h : RunM w Bs R) {b : Nat} {cs : Array Value} {T : TypeId} {f : Nat × Nat} (hb : BlkF w b cs T f) (hT : T ≠ 91 ∧ T ≠ 50 ∧ T ≠ 45 ∧ T ≠ 47 ∧ T ≠ 3 ∧ T ≠ 43 ∧ T ≠ 76) : ¬ R.fp b := by
  intro hk
  have own : ∀ {E : TypeId} {s n c : Nat} {a : Option Addr} {xs : List Value}, Own w Bs E s a n c xs → a ≠ none → b = ab a → T ≠ E → False := fun ho ha e hne => by
    obtain ⟨cur, hB, _⟩ := ho.row ha
    exact BlkF.ne (f := (0, 0)) hB hb (Ne.symm hne) e.symm
  rcases hk with rfl | rfl | rfl | ⟨ha, e⟩ | ⟨ha, e⟩ | ⟨ha, e⟩ | ⟨i, c, hc, rfl⟩
  · exact BlkF.ne hb h.run hT.1 rfl
  · exact BlkF.ne hb h.ends hT.2.2.2.2.1 rfl
  · exact BlkF.ne hb h.wts hT.2.2.2.2.2.1 rfl
  · exact own h.cls ha e hT.2.1
  · exact own h.evs ha e hT.2.2.1
  · exact own h.nts ha e hT.2.2.2.1
  · exact BlkF.ne hb (h.blk i c hc) hT.2.2.2.2.2.2 rfl
theorem Rg.then {S : Nat → Prop} {B : Nat} {w0 w w' : World} {Bs : Nat} {R R' : Rn} (h : Rg S B w0 w Bs R) (h' : Rg R.fp w.heap.size w w' Bs R') : Rg S B w0 w' Bs R' :=
  ⟨h'.m, ⟨h'.md.os.trans h.md.os, h'.md.tape.trans h.md.tape, h'.md.output.trans h.md.output, Nat.le_trans h.md.size h'.md.size, fun k hk hs => (h'.md.block k (Nat.lt_of_lt_of_le hk h.le) fun z => (h.fp k z).elim hs (Nat.not_le_of_lt hk)).trans (h.md.block k hk hs)⟩, fun k hk => by
    rcases h'.fp k hk with z | z
    · exact h.fp k z
    · exact .inr (Nat.le_trans h.le z), Nat.le_trans h.le h'.md.size⟩
theorem ends_fin {Post : Value → World → Prop} {X : Gh} {g : Nat} {S : Nat → Prop} {B : Nat} {w0 : World} {Bs : Nat} {R : Rn} {w : World} {i : Nat} {c : CB} {z0 : Value} {me0 : Goroutine} {ab0 eb0 : Nat} {en : Bool} {a45 : Act} {todo45 : List Item} {md : FrameMode} {x : Int}
    (hg : Rg S B w0 w Bs R) (hc : R.cl[i]? = some c) (hx : (c.st = true ∧ x = 0) ∨ (c.st = false ∧ en = true ∧ x = 1) ∨ (c.st = false ∧ en = false ∧ x = 2)) (hA : BlkF w ab0 #[.pointer (some ⟨c.cb, 0, none⟩)] 50 (0, 0)) (hE : BlkF w eb0 #[.bool en] 4 (0, 0)) (hg0 : 0 < g) (hX0 : X.seat 0 = some ⟨R.yb, z0, me0⟩) (hdn : X.dn = 0) (hgr0 : X.grp = some ⟨R.rb, 8⟩)
    (hmd : md = .returning ∨ ∃ v older, md = .panicking ({ v, recovered := false } :: older) ∧ older.dropWhile (!·.goexit) = []) (hd45 : a45.defers = { target := .fn (.func 64) (caps2 ab0 eb0), args := #[] } :: [dcall 63 #[.pointer (some ⟨R.rb, 8, none⟩)]])
    (hmain : ∀ w', Rg S B w0 w' Bs { R with ends := R.ends.set i x, cl := R.cl.set i { c with wt := false } } → Fin Try.prog Post (X.pass g 0 none) 0 (Go.Conc.served me0 (.int .i64 (i : Int))) w') :
    Fin Try.prog Post X g (G { (baseD 45).at a45 todo45 with mode := md } [bornF Try.prog]) w := by
  refine (fin_cl Try.prog Post X g).ctl rfl rfl (fun w => step_enterD (f := 64) (fn := Try.f64) (caps := caps2 ab0 eb0) (args := #[]) (ds := [dcall 63 #[.pointer (some ⟨R.rb, 8, none⟩)]]) (by rcases hmd with rfl | ⟨_, _, rfl, _⟩ <;> simp) hd45 Try.func64 nm64 rfl) ?_
  rcases hx with ⟨h1, rfl⟩ | ⟨h1, rfl, rfl⟩ | ⟨h1, rfl, rfl⟩
  · exact end0_fin hg hc h1 hA hE hg0 hX0 hdn hgr0 hmd rfl hmain
  · exact end1_fin (en := true) hg hc h1 hA hE hg0 hX0 hdn hgr0 hmd rfl hmain
  · exact end2_fin (en := false) hg hc h1 hA hE hg0 hX0 hdn hgr0 hmd rfl hmain
theorem ends_fin' {Post : Value → World → Prop} {X : Gh} {g : Nat} {S : Nat → Prop} {B : Nat} {w0 : World} {Bs : Nat} {R : Rn} {w : World} {i : Nat} {c : CB} {z0 : Value} {me0 : Goroutine} {ab0 eb0 : Nat} {en : Bool} {a45 : Act} {todo45 : List Item} {md : FrameMode} {x : Int}
    (hg : Rg S B w0 w Bs R) (hc : R.cl[i]? = some c) (hx : (c.st = true ∧ x = 0) ∨ (c.st = false ∧ en = true ∧ x = 1) ∨ (c.st = false ∧ en = false ∧ x = 2)) (hA : BlkF w ab0 #[.pointer (some ⟨c.cb, 0, none⟩)] 50 (0, 0)) (hE : BlkF w eb0 #[.bool en] 4 (0, 0)) (hg0 : 0 < g) (hX0 : X.seat 0 = some ⟨R.yb, z0, me0⟩) (hdn : X.dn = 0) (hgr0 : X.grp = some ⟨R.rb, 8⟩)
    (hmd : md = .returning ∨ ∃ v older, md = .panicking ({ v, recovered := false } :: older) ∧ older.dropWhile (!·.goexit) = []) (hd45 : a45.defers = { target := .fn (.func 64) (caps2 ab0 eb0), args := #[] } :: [dcall 63 #[.pointer (some ⟨R.rb, 8, none⟩)]])
    (hmain : ∀ w', Rg S B w0 w' Bs { R with ends := R.ends.set i x, cl := R.cl.set i { c with wt := false } } → (∃ en, BlkF w' eb0 #[.bool en] 4 (0, 0)) → Fin Try.prog Post (X.pass g 0 none) 0 (Go.Conc.served me0 (.int .i64 (i : Int))) w') :
    Fin Try.prog Post X g (G { (baseD 45).at a45 todo45 with mode := md } [bornF Try.prog]) w := by
  refine ends_fin hg.m.rg hc hx hA hE hg0 hX0 hdn hgr0 hmd hd45 fun w' hg' => hmain w' (hg.then hg') ⟨en, ?_⟩
  exact (hg'.md.block eb0 hE.lt (hg.m.fp_ne hE (by decide))).trans hE
set_option maxRecDepth 20000 in
/-- A client's goroutine, from its first step to the call of its body. -/
theorem body_fin {Post : Value → World → Prop} {X : Gh} {g : Nat} {w : World} {Bs : Nat} {R : Rn} {i : Nat} {c : CB} {f : FuncId} {fn : Func} {caps : Array Value} (hf : Try.prog.funcs[f]? = some fn) (hbd : fn.body.isSome = true) (hnm : (fn.name == "runtime.NumGoroutine") = false)
    (hM : RunM w Bs R) (hc : R.cl[i]? = some c)
    (hrun : ∀ w1 top ab0 eb0, Below w.heap.size w w1 → w.heap.size ≤ ab0 → w.heap.size ≤ eb0 → BlkF w1 ab0 #[.pointer (some ⟨c.cb, 0, none⟩)] 50 (0, 0) → BlkF w1 eb0 #[.bool false] 4 (0, 0) → TopOk top ab0 eb0 R.rb c.cb → Fin Try.prog Post X g (G (Frame.enter Try.prog f (#[] ++ #[.pointer (some ⟨c.cb, 0, none⟩)] ++ caps) .normal) top) w1) :
    Fin Try.prog Post X g (born Try.prog (dcall 45 #[.pointer (some ⟨c.cb, 0, none⟩), .func (.func f) #[] caps])) w := by
  refine (fin_cl Try.prog Post X g).ctl rfl rfl (fun w => step_born Try.func45 nm45 rfl) ?_
  letI : Ctx Try.prog := baseCtx Try.prog (g == 0)
  have hZ : Ctx.Zs Try.prog (Fin Try.prog Post X g) := fin_zs
  have hb := bkd 45
  refine (?_ : ZA (Fin Try.prog Post X g) 15 (baseD 45) [bornF Try.prog] (Vc.argE #[.pointer (some ⟨c.cb, 0, none⟩), .func (.func f) #[] caps]) [.code (Try.f45.body.getD .skip)] w) _ (rep_args _ _ rfl)
  refine ZA.seq hZ ?_
  refine ZA.W hZ hb ?_
  refine W.region rfl ?_
  refine L.box (cs := #[.pointer (some ⟨c.cb, 0, none⟩)]) rfl rfl (fun w1 ab0 FA => ?_)
  refine L.nil ?_
  refine T.nrm ?_
  show ZA _ _ _ _ _ _ _
  refine ZA.seq hZ ?_
  refine ZA.W hZ hb ?_
  refine W.region rfl ?_
  refine L.alloc (cs := #[.bool false]) zr4 rfl (fun w2 eb0 FE => ?_)
  refine L.put (b := eb0) (o := 0) (vs := [.bool false]) #[.bool false] rfl rfl rfl sz4 rfl rfl FE.blk (Nat.le_of_ble_eq_true rfl) rfl (fun w3 hE hgr hsz => ?_)
  refine L.nil ?_
  refine T.nrm ?_
  show ZA _ _ _ _ _ _ _
  have hb1 : Below w.heap.size w w1 := FA.below
  have lA : w.heap.size ≤ ab0 := by have := FA.here; omega
  have lE : w.heap.size ≤ eb0 := by have := FE.here; have := hb1.size; omega
  have hb2 : Below w.heap.size w w2 := cl_step hb1 FE.below
  have hb3 : Below w.heap.size w w3 := below_gr hb2 hb2.size hgr lE
  have hA : BlkF w3 ab0 #[.pointer (some ⟨c.cb, 0, none⟩)] 50 (0, 0) := (blkF_of (FA.blk.keep FE.below)).other hgr (BlkF.ne (blkF_of (FA.blk.keep FE.below)) (blkF_of FE.blk) (by decide))
  have hM3 := hM.keep hb3
  refine ZA.zd ?_
  refine ZD.seq hZ ?_
  refine ZD.region hZ ?_
  refine ZD.va hZ hb (i := 0) (rest := [1, 2, 3, 4, 5, 6]) rfl rfl (x_load rfl Try.underlying50 rfl (hA.cellAt 0 (v := .pointer (some ⟨c.cb, 0, none⟩)) rfl)) ?_
  refine ZD.va hZ hb (i := 1) rfl rfl (x_nilCheck rfl) ?_
  refine ZD.va hZ hb (i := 2) rfl rfl (x_field rfl Try.underlying76 rfl sz73 (by decide)) ?_
  refine ZD.va hZ hb (i := 3) rfl rfl (x_load rfl Try.underlying73 rfl ((hM3.blk i c hc).cellAt 1 (v := .pointer (some ⟨R.rb, 0, none⟩)) rfl)) ?_
  refine ZD.va hZ hb (i := 4) rfl rfl (x_nilCheck rfl) ?_
  refine ZD.va hZ hb (i := 5) rfl rfl (x_field rfl Try.underlying91 rfl sz89 (by decide)) ?_
  refine ZD.defer hZ hb (i := 6) (vs := #[.pointer (some ⟨R.rb, 8, none⟩)]) rfl (Wg.map_list (vl := [.pointer (some ⟨R.rb, 8, none⟩)]) rfl) ?_
  refine ZD.endRegion hZ ?_
  refine ZD.seq hZ ?_
  refine ZD.region hZ ?_
  refine ZD.va hZ hb (i := 0) (rest := [1]) rfl rfl (x_makeFuncL (l := [.tmp 2, .tmp 4]) (vs := [.pointer (some ⟨ab0, 0, none⟩), .pointer (some ⟨eb0, 0, none⟩)]) rfl) ?_
  refine ZD.deferV hZ hb (i := 1) (caps := caps2 ab0 eb0) rfl rfl ?_
  refine ZD.endRegion hZ ?_
  refine ZD.seq hZ ?_
  refine ZD.region hZ ?_
  refine ZD.va hZ hb (i := 0) (rest := [1, 2]) rfl rfl (x_mvF rfl) ?_
  refine ZD.va hZ hb (i := 1) rfl rfl (x_load rfl Try.underlying50 rfl (hA.cellAt 0 (v := .pointer (some ⟨c.cb, 0, none⟩)) rfl)) ?_
  refine ZD.call hZ hb (i := 2) rfl (x_call (first := #[]) (cap := caps) (args := #[.pointer (some ⟨c.cb, 0, none⟩)]) rfl (Wg.map_list (vl := [.pointer (some ⟨c.cb, 0, none⟩)]) rfl) hf hbd hnm) (fun a ha => ?_)
  refine hrun w3 _ ab0 eb0 hb3 lA lE hA hE ⟨?_⟩
  clear hrun hb3 hb2 hb1 hM3 hA hE hgr hsz FA FE
  intro Post X g S B w0 Bs R' w i c' z0 me0 fr e x hg hRb hc hcb hA hE hS hx hg0 hX0 hdn hgr hmain hl
  rw [← hcb] at hA
  have hgr' : X.grp = some ⟨R'.rb, 8⟩ := by rw [hRb]; exact hgr
  letI : Ctx Try.prog := baseCtx Try.prog (g == 0)
  have hZ : Ctx.Zs Try.prog (Fin Try.prog Post X g) := fin_zs
  cases e with
  | outgrown => exact hx.elim
  | panicked ch =>
    obtain ⟨⟨v, older, rfl, ho⟩, hx⟩ := hx
    refine leave_panicked (fin_cl _ _ _ _) hl ?_
    rw [Frame.raise_at]
    exact ends_fin' (en := false) hg hc (by rcases hx with h | h; exact .inl h; exact .inr (.inr ⟨h.1, rfl, h.2⟩)) hA hE hg0 hX0 hdn hgr' (.inr ⟨v, older, rfl, ho⟩) (by rw [hRb]; exact ha.defers) hmain
  | returned v =>
    refine leave_returned (fin_cl _ _ _ _) hl ?_
    have hfin : ∀ (ops : Array Oper) (k : List Item) (o : Oper), ops[2]? = some o → ((baseD 45).at a (.inRegion ops [2] :: k)).finish v = (baseD 45).at (a.put o.dst v) (.inRegion ops [] :: k) := fun ops k o ho => by rw [Frame.finish_at, ho]; rfl
    rw [hfin _ _ _ rfl]
    refine (?_ : ZD (Fin Try.prog Post X g) 15 (baseD 45) [bornF Try.prog] _ _ _ w) _ (ha.put rfl v)
    refine ZD.endRegion hZ ?_
    refine ZD.region hZ ?_
    refine ZD.st hZ hb (i := 0) (rest := []) rfl (x_store (v := .bool true) (p := ⟨eb0, 0, none⟩) (v0 := .bool false) rfl rfl sz4 rfl (hE.cellAt 0 rfl) (by rw [hE.frozen]; rfl)) ?_
    rw [setCell_setBlkF hE]
    refine ZD.endRegion hZ ?_
    intro a5 ha5
    refine (fin_cl Try.prog Post X g).ctl rfl rfl (fun _ => stepG_end) ?_
    exact ends_fin' (en := true) (hg.side hE (by decide) hS) hc (by rcases hx with h | h; exact .inl h; exact .inr (.inl ⟨h.1, rfl, h.2⟩)) (hA.other (setBlkF_grown _ _ _ _ _) (BlkF.ne hA hE (by decide))) (setBlkF_self hE _ _ _) hg0 hX0 hdn hgr' (.inl rfl) (by rw [hRb]; exact ha5.defers) hmain
end Go.Vy.Sc
end
/- Goroutine 0 lets a client take its step. -/
section
namespace Go.Vy.Sc
open Go Go.Conc Go.Yc Go.RowKit Go.Proofs Go.Proofs.Ytfmoeemolgjodaa
open Go.Vc Go.Wg
attribute [local irreducible] KK
/-- Goroutine 0, where it waits behind a pick. -/
def PickMe (cs : List Frame) (me : Goroutine) : Prop := ∀ Z, @Ctx.Zs Try.prog (baseCtx Try.prog true) Z → ∀ (u : World) (v : Value), (∀ fr, fr.fn = 37 → Leaves Try.prog fr u (.returned (.tuple #[])) → Z (G fr cs) u) → Z (Go.Conc.served me v) u

theorem buV_0 (x0 : Int) (x1 : Int) (x2 : Int) (x3 : Int) : Try.prog.built 45 [(0, .int .i64 x0), (1, .agg #[.int .i64 x1, .int .i64 x2, .int .i64 x3])] = some #[.int .i64 x0, .int .i64 x1, .int .i64 x2, .int .i64 x3] := by kernel_rfl
set_option maxRecDepth 20000 in
theorem pick_fin {Post : Value → World → Prop} {X : Gh} {g : Nat} {S : Nat → Prop} {B : Nat} {w0 : World} {Bs : Nat} {R : Rn} {w : World} {i : Nat} {c : CB} {cs : List Frame} {z1 : Value} {me1 : Goroutine}
    (hg : Rg S B w0 w Bs R) (hBs : Bs ≤ w.heap.size) (hc : R.cl[i]? = some c) (hrm : R.evs.length ≤ 1000000) (hpm : c.picks ≤ 1000000) (hum : R.used ≤ 1000000)
    (hg0 : g ≠ 0) (hX0 : X.seat g = some ⟨c.rc, z1, me1⟩) (hdn : X.dn = 0) (hst : X.stay 0 = [(⟨R.rb, 7, none⟩, .chan (some R.yb))]) (hsh : X.chs R.yb ∧ ∀ i s2, i ≠ g → X.seat i = some s2 → s2.ch ≠ R.yb)
    (hcl : ∀ w' a n me0, Rg S B w0 w' Bs { R with ea := a, ec := n, evs := R.evs ++ [(i, c.sp)], used := R.used + 1, cl := R.cl.set i { c with picks := c.picks + 1, wt := false } } → PickMe cs me0 → Fin Try.prog Post (X.pass 0 g (some ⟨R.yb, .int .i64 0, me0⟩)) g (Go.Conc.served me1 (.bool true)) w') :
    Fin Try.prog Post X 0 (G (Frame.enter Try.prog 37 #[.pointer (some ⟨R.rb, 0, none⟩), .pointer (some ⟨c.cb, 0, none⟩)] .normal) cs) w := by
  letI : Ctx Try.prog := baseCtx Try.prog true
  rw [enter_at _ Try.func37 rfl]
  refine (?_ : ZA (Fin Try.prog Post X 0) 52 (base 37) cs (Vc.argE #[.pointer (some ⟨R.rb, 0, none⟩), .pointer (some ⟨c.cb, 0, none⟩)]) [.code (Try.f37.body.getD .skip)] w) _ (rep_args _ _ rfl)
  have hZ : Ctx.Zs Try.prog (Fin Try.prog Post X 0) := fin_zs
  have hb := bkn 37
  refine ZA.seq hZ ?_
  refine ZA.W hZ hb ?_
  have hR := hg.m.run
  have hC := (hg.m.blk i c hc)
  refine W.fl 17 [15,16] [0,1,2,3,4,5,6,7,8,9,10,11,12,13,14,15,16] (fun w' => BlkF w' R.rb #[.slice (R.ca) (R.cl.length) (R.cc), .slice (R.ea) (R.evs.length) (R.ec), .slice (R.na) (R.nts.length) (R.nc), .slice (some ⟨R.eb, 0, none⟩) (R.m) (R.m), .slice (some ⟨R.wb, 0, none⟩) (R.m) (R.m), .bool (R.stuck), .int .i64 (R.used : Int), .chan (some R.yb)] 91 (7, 8) ∧ BlkF w' c.cb #[.int .i64 (i : Int), .pointer (some ⟨R.rb, 0, none⟩), .chan (some c.rc), .int .i64 (c.sp.kind), .int .i64 (c.sp.obj), .int .i64 (c.sp.num), c.rf, c.df, .int .i64 (c.picks : Int), .bool (c.wt), .bool (c.st)] 76 (0, 3)) (by kernel_rfl) (by kernel_rfl) (by kernel_rfl) (by kernel_rfl) (by kernel_rfl) (⟨hR.keep (Below.refl w.heap.size w).drew, hC.keep (Below.refl w.heap.size w).drew⟩) ?_
  have hdr : Below w.heap.size w w.drew := (Below.refl w.heap.size w).drew
  have hBs := Nat.le_trans hBs hdr.size
  have hg := hg.keep hdr
  have hR := hR.keep hdr
  have hC := hC.keep hdr
  clear hdr
  generalize w.drew = w at *
  refine F.va rfl rfl (fun w' hw' => (x_mvP rfl)) ?_
  refine F.va rfl rfl (fun w' hw' => (x_mvP rfl)) ?_
  refine F.va rfl rfl (fun w' hw' => (x_nilCheck rfl)) ?_
  refine F.va rfl rfl (fun w' hw' => (x_field rfl Try.underlying91 rfl sz31 (by decide))) ?_
  refine F.va rfl rfl (fun w' hw' => (x_field rfl Try.underlying31 rfl sz27 (by decide))) ?_
  refine F.va rfl rfl (fun w' hw' => (x_load rfl Try.underlying27 rfl (hw'.1.cellAt 1 (v := .slice (R.ea) (R.evs.length) (R.ec)) rfl))) ?_
  refine F.va rfl rfl (fun w' hw' => (x_mvP rfl)) ?_
  refine F.va rfl rfl (fun w' hw' => (x_nilCheck rfl)) ?_
  refine F.va rfl rfl (fun w' hw' => (x_field rfl Try.underlying76 rfl sz3 (by decide))) ?_
  refine F.va rfl rfl (fun w' hw' => (x_load rfl Try.underlying3 rfl (hw'.2.cellAt 0 (v := .int .i64 (i : Int)) rfl))) ?_
  refine F.va rfl rfl (fun w' hw' => (x_mvP rfl)) ?_
  refine F.va rfl rfl (fun w' hw' => (x_nilCheck rfl)) ?_
  refine F.va rfl rfl (fun w' hw' => (x_field rfl Try.underlying76 rfl sz43 (by decide))) ?_
  refine F.va rfl rfl (fun w' hw' => (x_loadAgg (cs := [.int .i64 (c.sp.kind), .int .i64 (c.sp.obj), .int .i64 (c.sp.num)]) rfl Try.underlying43 rfl sz43 rfl (hw'.2.aggAt rfl))) ?_
  refine F.va rfl rfl (fun w' hw' => (x_build (parts := [(0, .tmp 13), (1, .tmp 17)]) rfl (buV_0 (i : Int) (c.sp.kind) (c.sp.obj) (c.sp.num)))) ?_
  refine F.doo rfl rfl ?_
  refine L.build1 (cs := #[.int .i64 (i : Int), .int .i64 (c.sp.kind), .int .i64 (c.sp.obj), .int .i64 (c.sp.num)]) rfl rfl Try.underlying27 sz45 rfl ⟨_, zr45⟩ (by decide) (fun w b19 F19 => ?_)
  have hBs := Nat.le_trans hBs F19.below.size
  have hg := hg.keep F19.below
  have hR := hR.keep F19.below
  have hC := hC.keep F19.below
  have hB19 := F19.blk
  refine L.nil ⟨rfl, ⟨hR, hC⟩, ?_⟩
  refine F.doo rfl rfl ?_
  refine L.appendW (B := Bs) (m := 1) rfl rfl Try.underlying27 in45 rfl (by decide) hg.m.evs (news := [.int .i64 (i : Int), .int .i64 (c.sp.kind), .int .i64 (c.sp.obj), .int .i64 (c.sp.num)]) rfl (fun j u hj => by
    rw [Addr.add_lit]
    match j, hj with
    | 0, hj => cases hj; exact hB19.cellAt 0 rfl
    | 1, hj => cases hj; exact hB19.cellAt 1 rfl
    | 2, hj => cases hj; exact hB19.cellAt 2 rfl
    | 3, hj => cases hj; exact hB19.cellAt 3 rfl) (fun u hu => by simp only [List.mem_cons, List.not_mem_nil, or_false] at hu; rcases hu with rfl | rfl | rfl | rfl <;> rfl) (by omega) (by omega) hBs (fun a20 c20 w2 hO hgr hli => ?_)
  have hR := apartF hR hgr (row_ne hg.m.evs (by decide))
  have hC := apartF hC hgr (row_ne hg.m.evs (by decide))
  refine L.nil ⟨rfl, ⟨hR, hC⟩, ?_⟩
  refine F.nil ?_
  show L _ _ _ _ _ _ _
  refine L.va (x_nilCheck rfl) ?_
  refine L.va (x_field rfl Try.underlying91 rfl sz31 (by decide)) ?_
  refine L.va (x_field rfl Try.underlying31 rfl sz27 (by decide)) ?_
  refine L.stEv (o := 0) (v := undef) hg (i, c.sp) hgr hO hli rfl rfl sz27 (fun w hg => ?_)
  try clear hgr
  refine L.nil ?_
  try clear hR
  try clear hC
  refine T.nrm ?_
  show ZA _ _ _ _ _ _ _
  refine ZA.seq hZ ?_
  refine ZA.W hZ hb ?_
  refine W.region rfl ?_
  refine L.va (x_mvP rfl) ?_
  refine L.va (x_nilCheck rfl) ?_
  refine L.va (x_field rfl Try.underlying91 rfl sz31 (by decide)) ?_
  refine L.va (x_field rfl Try.underlying31 rfl sz3 (by decide)) ?_
  refine L.va (x_load rfl Try.underlying3 rfl (hg.m.run.cellAt 6 (v := .int .i64 (R.used : Int)) rfl)) ?_
  refine L.va (x_inc rfl rfl (by omega)) ?_
  refine L.va (x_nilCheck rfl) ?_
  refine L.va (x_field rfl Try.underlying91 rfl sz31 (by decide)) ?_
  refine L.va (x_field rfl Try.underlying31 rfl sz3 (by decide)) ?_
  refine L.stR (o := 6) (vs := [.int .i64 ((R.used + 1 : Nat) : Int)]) hg R.stuck (R.used + 1) rfl rfl rfl sz3 rfl rfl (by decide) rfl (fun w hg hgr => ?_)
  try clear hgr
  refine L.nil ?_
  refine T.nrm ?_
  show ZA _ _ _ _ _ _ _
  refine ZA.seq hZ ?_
  refine ZA.W hZ hb ?_
  refine W.region rfl ?_
  refine L.va (x_mvP rfl) ?_
  refine L.va (x_nilCheck rfl) ?_
  refine L.va (x_field rfl Try.underlying76 rfl sz3 (by decide)) ?_
  refine L.va (x_load rfl Try.underlying3 rfl ((hg.m.blk i c hc).cellAt 8 (v := .int .i64 (c.picks : Int)) rfl)) ?_
  refine L.va (x_inc rfl rfl (by omega)) ?_
  refine L.va (x_nilCheck rfl) ?_
  refine L.va (x_field rfl Try.underlying76 rfl sz3 (by decide)) ?_
  refine L.stC (i := i) (o := 8) (vs := [.int .i64 ((c.picks + 1 : Nat) : Int)]) hg { c with picks := c.picks + 1 } hc rfl rfl rfl rfl sz3 rfl rfl (by decide) rfl (fun w hg hgr => ?_)
  try clear hgr
  refine L.nil ?_
  refine T.nrm ?_
  show ZA _ _ _ _ _ _ _
  refine ZA.seq hZ ?_
  refine ZA.W hZ hb ?_
  refine W.region rfl ?_
  refine L.va (x_mvP rfl) ?_
  refine L.va (x_nilCheck rfl) ?_
  refine L.va (x_field rfl Try.underlying76 rfl sz4 (by decide)) ?_
  refine L.stC (i := i) (o := 9) (vs := [.bool false]) hg { { c with picks := c.picks + 1 } with wt := false } (set_at hc) rfl rfl rfl rfl sz4 rfl rfl (by decide) rfl (fun w hg hgr => ?_)
  try clear hgr
  refine L.nil ?_
  refine T.nrm ?_
  show ZA _ _ _ _ _ _ _
  refine ZA.seq hZ ?_
  refine ZA.upto hZ hb 4 rfl rfl (R := fun e' w' => ZA _ _ _ _ e' _ w') ?_ (fun _ _ h => h)
  show L _ _ _ _ _ _ _
  refine L.va (x_mvP rfl) ?_
  refine L.va (x_nilCheck rfl) ?_
  refine L.va (x_field rfl Try.underlying76 rfl sz74 (by decide)) ?_
  refine L.va (x_load rfl Try.underlying74 rfl ((hg.m.blk i _ (set_at (set_at hc))).cellAt 2 (v := .chan (some c.rc)) rfl)) ?_
  refine L.nil ?_
  refine T.nrm ?_
  show ZA _ _ _ _ _ _ _
  refine ZA.give (i := 4) (rest := []) (s := ⟨c.rc, z1, me1⟩) (j := g) (st := [(⟨R.rb, 7, none⟩, .chan (some R.yb))]) (K := fun s => s.ch = R.yb ∧ s.z = .int .i64 0 ∧ PickMe cs s.me) (ft := 60) hb rfl rfl rfl hX0 hg0 hdn hst ?_ ?_ ?_
  · have hY := hf_way (P := Try.prog) (main := true) (l := [((⟨R.rb, 7, none⟩ : Addr), Value.chan (some R.yb))]) (K := fun s => s.ch = R.yb ∧ s.z = .int .i64 0 ∧ PickMe cs s.me)
    refine At.endRegion hY ?_
    refine At.region hY ?_
    refine AtL.val hY hb rfl (v := .pointer (some ⟨R.rb, 0, none⟩)) (pu_move rfl) ?_
    refine AtL.val hY hb rfl (pu_nilCheck rfl) ?_
    refine AtL.val hY hb rfl (pu_field rfl Try.underlying91 rfl sz80 (by decide)) ?_
    refine AtL.stay (v := .chan (some R.yb)) hb rfl (by simp) rfl Try.underlying80 rfl ?_
    refine AtL.seat (E := 3) (z := .int .i64 0) hb Try.underlying80 zr3 rfl (fun me hs => ⟨rfl, rfl, ?_⟩) rfl
    intro Z hZ w v hK
    refine hs.go ?_
    letI : Ctx Try.prog := baseCtx Try.prog true
    refine ZA.endRegion hZ ?_
    refine ZA.done hZ ?_
    exact ZA.leaves (fn := Try.f37) (f := 37) rfl Try.func37 rfl (fun fr h8 h9 => hK fr h8 h9)
  · rintro s2 ⟨h1, _, _⟩; rw [h1]; exact hsh
  · rintro ⟨ch, z, me⟩ ⟨h1, h2, h3⟩; cases h1; cases h2; exact hcl _ _ _ me (by simpa using hg) h3

end Go.Vy.Sc
end
/- Goroutine 0 stops those that still wait, and waits for all. -/
section
namespace Go.Vy.Sc
open Go Go.Conc Go.Yc Go.RowKit Go.Proofs Go.Proofs.Ytfmoeemolgjodaa
open Go.Vc Go.Wg
attribute [local irreducible] KK
noncomputable def endLoop : Code := match Try.f39.body with | some (.seq (.seq _ (.block _ (.loop c))) _) => c | _ => .skip
noncomputable def endTail : Code := match Try.f39.body with | some (.seq _ c) => c | _ => .skip
/-- What is held before client i is looked at. -/
structure EndJ (rb0 m : Nat) (ca : Option Addr) (cc : Nat) (Bs : Nat) (Post : Value → World → Prop) (cs : List Frame) (J : Nat → Gh → Rn → World → Prop) : Prop where
  mem : ∀ i X R w, J i X R w → RunM w Bs R ∧ R.rb = rb0 ∧ R.cl.length = m ∧ R.ca = ca ∧ R.cc = cc
  skip : ∀ i X R w c, J i X R w → R.cl[i]? = some c → c.wt = false → J (i + 1) X R w
  stop : ∀ i X R w c, J i X R w → R.cl[i]? = some c → c.wt = true → ∃ g z1 me1, g ≠ 0 ∧ X.seat g = some ⟨c.rc, z1, me1⟩ ∧ X.dn = 0 ∧ X.stay 0 = [(⟨R.rb, 7, none⟩, .chan (some R.yb))] ∧ (X.chs R.yb ∧ ∀ i s2, i ≠ g → X.seat i = some s2 → s2.ch ≠ R.yb) ∧
    ∀ w' me0, Rg R.fp w.heap.size w w' Bs { R with wts := R.wts.set i c.sp } → (∀ X' R' u v, J (i + 1) X' R' u → Fin Try.prog Post X' 0 (Go.Conc.served me0 v) u) → Fin Try.prog Post (X.pass 0 g (some ⟨R.yb, .int .i64 0, me0⟩)) g (Go.Conc.served me1 (.bool false)) w'
  fin : ∀ X R w, J m X R w → (∀ i, X.seat i = none) ∧ X.grp = some ⟨rb0, 8⟩ ∧ X.pend = 0 ∧ X.dn = 0 ∧ X.cap < 2147483648 ∧ ∀ fr, fr.fn = 39 → Leaves Try.prog fr w (.returned (.tuple #[])) → Fin Try.prog Post { X with pend := 0, cap := 0, dn := 0 } 0 (G fr cs) w

set_option maxRecDepth 20000 in
theorem end_tail {rb0 m : Nat} {ca : Option Addr} {cc : Nat} {Bs : Nat} {Post : Value → World → Prop} {cs : List Frame} {J : Nat → Gh → Rn → World → Prop} (hE : EndJ rb0 m ca cc Bs Post cs J) {X : Gh} {R : Rn} {w : World} (hJ : J m X R w) {e : Env} (s0 : e 0 = .pointer (some ⟨rb0, 0, none⟩)) : ZA (Fin Try.prog Post X 0) 43 (base 39) cs e [.code endTail] w := by
  obtain ⟨hM, hrb, hm, hca, hcc⟩ := hE.mem _ _ _ _ hJ
  obtain ⟨hno, hgr, hp, hdn, hcap, hK⟩ := hE.fin _ _ _ hJ
  letI : Ctx Try.prog := baseCtx Try.prog true
  have hZ : Ctx.Zs Try.prog (Fin Try.prog Post X 0) := fin_zs
  have hb := bkn 39
  rw [← hrb] at s0
  rw [upd_id s0]
  clear s0
  refine ZA.upto hZ hb 3 rfl rfl (R := fun e' w' => ZA _ _ _ _ e' _ w') ?_ (fun _ _ h => h)
  show L _ _ _ _ _ _ _
  refine L.va (x_mvP rfl) ?_
  refine L.va (x_nilCheck rfl) ?_
  refine L.va (x_field rfl Try.underlying91 rfl sz89 (by decide)) ?_
  refine L.nil ?_
  refine T.nrm ?_
  show ZA _ _ _ _ _ _ _
  refine ZA.call (i := 3) (rest := []) hZ hb (f := 46) (args := #[.pointer (some ⟨R.rb, 8, none⟩)]) rfl rfl (x_call1 rfl Try.func46 rfl nm46 rfl) (fun a ha => ?_)
  rw [hrb]
  refine Fin.wait (G := ⟨rb0, 8⟩) (K := fun g' => g' = _) hgr hno hp hdn (wait_w ⟨rb0, 8⟩ (fun g' => g' = _) rfl X.cap hcap) (fun g' hg' => ?_)
  subst hg'
  refine ZA.home (i := 3) rfl rfl ha ?_
  have hZ' : Ctx.Zs Try.prog (Fin Try.prog Post { X with pend := 0, cap := 0, dn := 0 } 0) := fin_zs
  refine ZA.endRegion hZ' ?_
  refine ZA.done hZ' ?_
  exact ZA.leaves (fn := Try.f39) (f := 39) rfl Try.func39 rfl hK
set_option maxRecDepth 20000 in
theorem end_loop {rb0 m : Nat} {ca : Option Addr} {cc : Nat} {Bs : Nat} {Post : Value → World → Prop} {cs : List Frame} {J : Nat → Gh → Rn → World → Prop} (hE : EndJ rb0 m ca cc Bs Post cs J) (hm1 : m ≤ 1000) : ∀ (k i : Nat), i + k = m → ∀ X R w, J i X R w → ∀ e : Env, e 0 = .pointer (some ⟨rb0, 0, none⟩) → e 7 = .slice ca m cc → e 8 = .int .i64 (m : Int) → e 9 = .int .i64 (i : Int) → ZA (Fin Try.prog Post X 0) 43 (base 39) cs e [.code endLoop, .inLoop endLoop, .inBlock 0, .code endTail] w := by
  intro k
  induction k with
  | zero =>
    intro i hk X R w hJ e s0 s7 s8 s9
    obtain ⟨hM, hrb, hm, hca, hcc⟩ := hE.mem _ _ _ _ hJ
    letI : Ctx Try.prog := baseCtx Try.prog true
    have hZ : Ctx.Zs Try.prog (Fin Try.prog Post X 0) := fin_zs
    have hb := bkn 39
    rw [← hrb] at s0
    rw [← hca, ← hm, ← hcc] at s7
    rw [← hm] at s8
    rw [upd_id s0, upd_id s7, upd_id s8, upd_id s9]
    clear s0 s7 s8 s9
    refine ZA.seq hZ ?_
    obtain rfl : i = R.cl.length := by omega
    refine ZA.W hZ hb ?_
    refine W.region rfl ?_
    refine L.va (x_lss rfl rfl) ?_
    refine L.nil ?_
    refine T.nrm ?_
    show ZA _ _ _ _ _ _ _
    refine ZA.seq hZ ?_
    refine ZA.condF hZ (rb (decide_eq_false (by omega))) ?_
    refine ZA.exit hZ rfl ?_
    exact end_tail hE (by rw [← hm]; exact hJ) (by rw [← hrb]; rfl)
  | succ k ih =>
    intro i hk X R w hJ e s0 s7 s8 s9
    obtain ⟨hM, hrb, hm, hca, hcc⟩ := hE.mem _ _ _ _ hJ
    letI : Ctx Try.prog := baseCtx Try.prog true
    have hZ : Ctx.Zs Try.prog (Fin Try.prog Post X 0) := fin_zs
    have hb := bkn 39
    rw [← hrb] at s0
    rw [← hca, ← hm, ← hcc] at s7
    rw [← hm] at s8
    rw [upd_id s0, upd_id s7, upd_id s8, upd_id s9]
    clear s0 s7 s8 s9
    have hlt : i < R.cl.length := by omega
    obtain ⟨c, hc⟩ : ∃ c, R.cl[i]? = some c := ⟨_, List.getElem?_eq_getElem hlt⟩
    refine ZA.seq hZ ?_
    refine ZA.W hZ hb ?_
    refine W.region rfl ?_
    refine L.va (x_lss rfl rfl) ?_
    refine L.nil ?_
    refine T.nrm ?_
    show ZA _ _ _ _ _ _ _
    refine ZA.seq hZ ?_
    refine ZA.condT hZ (rb (decide_eq_true (by omega))) ?_
    refine ZA.skip hZ ?_
    refine ZA.seq hZ ?_
    refine ZA.block hZ ?_
    refine ZA.seq hZ ?_
    refine ZA.W hZ hb ?_
    refine W.region rfl ?_
    refine L.va (x_mvI rfl) ?_
    refine L.va (x_idx (i := i) rfl rfl Try.underlying79 sz50 hM.cls.sl hlt) ?_
    refine L.va (x_load (v := .pointer (some ⟨c.cb, 0, none⟩)) rfl Try.underlying50 rfl (cls_at hM hc)) ?_
    refine L.va (x_asI rfl) ?_
    refine L.va (x_asP rfl) ?_
    refine L.nil ?_
    refine T.nrm ?_
    show ZA _ _ _ _ _ _ _
    refine ZA.seq hZ ?_
    refine ZA.W hZ hb ?_
    refine W.region rfl ?_
    refine L.va (x_mvP rfl) ?_
    refine L.va (x_nilCheck rfl) ?_
    refine L.va (x_field rfl Try.underlying76 rfl sz4 (by decide)) ?_
    refine L.va (x_load rfl Try.underlying4 rfl ((hM.blk i c hc).cellAt 9 (v := .bool (c.wt)) rfl)) ?_
    refine L.nil ?_
    refine T.nrm ?_
    show ZA _ _ _ _ _ _ _
    by_cases hwt : c.wt = false
    · refine ZA.condF hZ (rb hwt) ?_
      refine ZA.skip hZ ?_
      refine ZA.inBlock hZ ?_
      refine ZA.W hZ hb ?_
      refine W.region rfl ?_
      refine L.va (x_inc rfl rfl (by omega)) ?_
      refine L.va (x_mvI rfl) ?_
      refine L.nil ?_
      refine T.nrm ?_
      show ZA _ _ _ _ _ _ _
      refine ZA.inLoop hZ ?_
      exact ih (i + 1) (by omega) X R w (hE.skip i X R w c hJ hc hwt) _ (by rw [← hrb]; rfl) (by rw [← hca, ← hm, ← hcc]; rfl) (by rw [← hm]; rfl) rfl
    · have hwt : c.wt = true := by simpa using hwt
      refine ZA.condT hZ (rb hwt) ?_
      obtain ⟨g, z1, me1, hg0, hX0, hdn, hst, hsh, hcl⟩ := hE.stop i X R w c hJ hc hwt
      have hg := hM.rg
      refine ZA.seq hZ ?_
      refine ZA.W hZ hb ?_
      have hR := hg.m.run
      have hC := (hg.m.blk i c hc)
      refine W.lastL 11 (fun w' => Below w.heap.size w w') (by kernel_rfl) (by kernel_rfl) (by kernel_rfl) (by kernel_rfl) ((Below.refl w.heap.size w).drew) ?_
      refine D.va (fun w' hw' => (x_mvP rfl)) ?_
      refine D.va (fun w' hw' => (x_nilCheck rfl)) ?_
      refine D.va (fun w' hw' => (x_field rfl Try.underlying91 rfl sz31 (by decide))) ?_
      refine D.va (fun w' hw' => (x_field rfl Try.underlying31 rfl sz29 (by decide))) ?_
      refine D.va (fun w' hw' => (x_load rfl Try.underlying29 rfl ((hR.keep hw').cellAt 4 (v := .slice (some ⟨R.wb, 0, none⟩) (R.m) (R.m)) rfl))) ?_
      refine D.va (fun w' hw' => (x_mvI rfl)) ?_
      refine D.va (fun w' hw' => (x_mvP rfl)) ?_
      refine D.va (fun w' hw' => (x_nilCheck rfl)) ?_
      refine D.va (fun w' hw' => (x_field rfl Try.underlying76 rfl sz43 (by decide))) ?_
      refine D.va (fun w' hw' => (x_loadAgg (cs := [.int .i64 (c.sp.kind), .int .i64 (c.sp.obj), .int .i64 (c.sp.num)]) rfl Try.underlying43 rfl sz43 rfl ((hC.keep hw').aggAt rfl))) ?_
      refine D.va (fun w' hw' => x_index (i := i) rfl rfl Try.underlying29 sz43 (Nat.lt_of_lt_of_le hlt hM.lcl)) ?_
      refine D.nil (fun w hbw => ?_)
      have hg := hg.keep hbw
      have hR := hR.keep hbw
      have hC := hC.keep hbw
      clear hbw
      refine L.stW (i := i) (z := c.sp) hg (Nat.lt_of_lt_of_le hlt hM.lcl) rfl rfl sz43 (fun w hg hgr => ?_)
      clear hgr
      refine L.nil ?_
      try clear hR
      try clear hC
      refine T.nrm ?_
      show ZA _ _ _ _ _ _ _
      refine ZA.seq hZ ?_
      refine ZA.upto hZ hb 4 rfl rfl (R := fun e' w' => ZA _ _ _ _ e' _ w') ?_ (fun _ _ h => h)
      show L _ _ _ _ _ _ _
      refine L.va (x_mvP rfl) ?_
      refine L.va (x_nilCheck rfl) ?_
      refine L.va (x_field rfl Try.underlying76 rfl sz74 (by decide)) ?_
      refine L.va (x_load rfl Try.underlying74 rfl ((hg.m.blk i c hc).cellAt 2 (v := .chan (some c.rc)) rfl)) ?_
      refine L.nil ?_
      refine T.nrm ?_
      show ZA _ _ _ _ _ _ _
      refine ZA.give (i := 4) (rest := []) (s := ⟨c.rc, z1, me1⟩) (j := g) (st := [(⟨R.rb, 7, none⟩, .chan (some R.yb))]) (K := fun s => s.ch = R.yb ∧ s.z = .int .i64 0 ∧ ∀ X' R' u v, J (i + 1) X' R' u → Fin Try.prog Post X' 0 (Go.Conc.served s.me v) u) (ft := 60) hb rfl rfl rfl hX0 hg0 hdn hst ?_ ?_ ?_
      · have hY := hf_way (P := Try.prog) (main := true) (l := [((⟨R.rb, 7, none⟩ : Addr), Value.chan (some R.yb))]) (K := fun s => s.ch = R.yb ∧ s.z = .int .i64 0 ∧ ∀ X' R' u v, J (i + 1) X' R' u → Fin Try.prog Post X' 0 (Go.Conc.served s.me v) u)
        refine At.endRegion hY ?_
        refine At.region hY ?_
        refine AtL.val hY hb rfl (v := .pointer (some ⟨R.rb, 0, none⟩)) (pu_move rfl) ?_
        refine AtL.val hY hb rfl (pu_nilCheck rfl) ?_
        refine AtL.val hY hb rfl (pu_field rfl Try.underlying91 rfl sz80 (by decide)) ?_
        refine AtL.stay (v := .chan (some R.yb)) hb rfl (by simp) rfl Try.underlying80 rfl ?_
        refine AtL.seat (E := 3) (z := .int .i64 0) hb Try.underlying80 zr3 rfl (fun me hs => ⟨rfl, rfl, ?_⟩) rfl
        intro X R' w v hJ'
        refine hs.go ?_
        have hZ : Ctx.Zs Try.prog (Fin Try.prog Post X 0) := fin_zs
        refine ZA.endRegion hZ ?_
        refine ZA.inBlock hZ ?_
        refine ZA.W hZ hb ?_
        refine W.region rfl ?_
        refine L.va (x_inc rfl rfl (by omega)) ?_
        refine L.va (x_mvI rfl) ?_
        refine L.nil ?_
        refine T.nrm ?_
        show ZA _ _ _ _ _ _ _
        refine ZA.inLoop hZ ?_
        exact ih (i + 1) (by omega) X R' w hJ' _ (by rw [← hrb]; rfl) (by rw [← hca, ← hm, ← hcc]; rfl) (by rw [← hm]; rfl) rfl
      · rintro s2 ⟨h1, _, _⟩; rw [h1]; exact hsh
      · rintro ⟨ch, z, me⟩ ⟨h1, h2, h3⟩; cases h1; cases h2; exact hcl _ me hg h3
set_option maxRecDepth 20000 in
theorem end_fin {rb0 m : Nat} {ca : Option Addr} {cc : Nat} {Bs : Nat} {Post : Value → World → Prop} {cs : List Frame} {J : Nat → Gh → Rn → World → Prop} (hE : EndJ rb0 m ca cc Bs Post cs J) (hm1 : m ≤ 1000) {X : Gh} {R : Rn} {w : World} (hJ : J 0 X R w) : Fin Try.prog Post X 0 (G (Frame.enter Try.prog 39 #[.pointer (some ⟨rb0, 0, none⟩)] .normal) cs) w := by
  obtain ⟨hM, hrb, hm, hca, hcc⟩ := hE.mem _ _ _ _ hJ
  letI : Ctx Try.prog := baseCtx Try.prog true
  have hZ : Ctx.Zs Try.prog (Fin Try.prog Post X 0) := fin_zs
  have hb := bkn 39
  rw [enter_at _ Try.func39 rfl]
  rw [← hrb]
  refine (?_ : ZA (Fin Try.prog Post X 0) 43 (base 39) cs (Vc.argE #[.pointer (some ⟨R.rb, 0, none⟩)]) [.code (Try.f39.body.getD .skip)] w) _ (rep_args _ _ rfl)
  refine ZA.seq hZ ?_
  refine ZA.seq hZ ?_
  refine ZA.W hZ hb ?_
  refine W.region rfl ?_
  refine L.va (x_mvP rfl) ?_
  refine L.va (x_nilCheck rfl) ?_
  refine L.va (x_field rfl Try.underlying91 rfl sz79 (by decide)) ?_
  refine L.va (x_load rfl Try.underlying79 rfl (hM.run.cellAt 0 (v := .slice (R.ca) (R.cl.length) (R.cc)) rfl)) ?_
  refine L.va (x_len rfl Try.underlying79 rfl) ?_
  refine L.va (x_mvI rfl) ?_
  refine L.nil ?_
  refine T.nrm ?_
  show ZA _ _ _ _ _ _ _
  refine ZA.block hZ ?_
  refine ZA.loop hZ ?_
  exact end_loop hE hm1 m 0 (by omega) X R w hJ _ (by rw [← hrb]; rfl) (by rw [← hca, ← hm, ← hcc]; rfl) (by rw [← hm]; rfl) rfl
end Go.Vy.Sc
end
/- A channel is made; a new block's cells are frozen. Nothing here speaks of a program. -/
section
namespace Go.Vy
open Go Go.Conc Go.Yc Go.RowKit
open Go.Vc Go.Wg

/-- A new channel. -/
def ChanAt (w : World) (b : Nat) : Prop := w.heap[b]? = some (.chan 0 #[] false 0 0 false)
section
variable {w w' : World} {b : Nat}
theorem ChanAt.lt (h : ChanAt w b) : b < w.heap.size := (Array.getElem?_eq_some_iff.1 h).1
theorem ChanAt.keep (h : ChanAt w b) (hb : Below w.heap.size w w') : ChanAt w' b := (hb.block b h.lt).trans h
theorem ChanAt.grown {row : Option Nat} (h : ChanAt w b) (hg : w.grownBy w' row) (hr : ∀ r, row = some r → ∃ cs T f, BlkF w r cs T f) : ChanAt w' b :=
  (hg.block b h.lt fun e => by
    obtain ⟨cs, T, f, h'⟩ := hr b e.symm
    unfold ChanAt at h; unfold BlkF at h'; rw [h] at h'; cases h').trans h
end
theorem L.makeChan {P : Program} [Ctx P] {n : Nat} {Q : Exit → Env → World → Prop} {e : Env} {w : World} {ops : Array Oper} {rest : List Oper} {d : Nat} {ty : TypeId} {ps : String} {af : Array Edge} {T E : TypeId} {x : Operand} {dd : ChanDir} (hx : ev e x = .int .i64 0) (hT : P.underlying T = some (.chan dd E)) (hi : ∃ z, (P.info? E).map (·.size) = some z)
    (k : ∀ w1, Below w.heap.size w w1 → ChanAt w1 w.heap.size → w1.heap.size = w.heap.size + 1 → L P n ops Q rest (upd e d (.chan (some w.heap.size))) w1) : L P n ops Q (⟨some d, .makeChan T x, ty, ps, af, none⟩ :: rest) e w := by
  obtain ⟨z, hz⟩ := hi
  obtain ⟨i, hi, _⟩ := Option.map_eq_some_iff.1 hz
  refine L.va (v := .chan (some w.heap.size)) (w' := w.alloc (.chan 0 #[] false 0 0 false)) (.of_tame (tame_ok rfl _) rfl rfl fun τ d' => ?_) (k _ ((Below.refl _ _).alloc (Nat.le_refl _) _) (by unfold ChanAt; show (w.heap.push _)[_]? = _; simp) (by show (w.heap.push _).size = _; simp))
  have := run_makeChan (P := P) (w := onT w τ d') hT hi .i64 0 (by decide) (by simp)
  show _ = Result.ok (Next.value (.chan (some (onT w τ d').heap.size))) ((onT w τ d').alloc (.chan 0 #[] false 0 0 false))
  simp only [execOp, hx]
  have h2 : ((0 : Nat) : Int) = 0 := rfl
  rw [h2] at this
  simp [this]
section
variable {P : Program} {Post : Value → World → Prop} {X : Gh} {h n : Nat} {b : Frame} {cs : List Frame} {e : Env} {k : List Item} {w : World}
theorem ZA.freeze {bb : Nat} {cells : Array Value} {T : TypeId} {f : Nat × Nat} (hl : Loosed X bb) (hB : BlkF w bb cells T (0, 0)) (hz : ZA (Fin P Post (X.lower bb) h) n b cs e k (setBlkF w bb cells T f)) : ZA (Fin P Post X h) n b cs e k w :=
  fun a ha => Fin.freeze (f := (0, 0)) (f' := f) hl hB (fun i hi => by unfold inR at hi; omega) (hz a ha)
/-- What is known of the others when a run begins. -/
def startX (X : Gh) (rb yb off : Nat) : Gh := ⟨X.seat, Go.ConcN.upd X.stay 0 [(⟨rb, off - 1, none⟩, .chan (some yb))], some ⟨rb, off⟩, X.grp.toList ++ X.old, X.hid, fun c => X.chs c ∨ c = yb, fun k => (X.low k ∨ k = yb) ∨ k = rb, X.plug, X.cap, X.pend, X.dn, X.n⟩
theorem ZA.begin {rb yb : Nat} {c8 : Array Value} {T : TypeId} (hcap : X.cap = 0) (hU : X.Under rb) (hUy : X.Under yb) (hpr : X.plug rb = .all) (hpy : X.plug yb = .all) (hch : ChanAt w yb) (hB : Blk w rb (c8 ++ #[.int .u64 0, .int .u32 0]) T) (h0 : 0 < c8.size) (hy : c8[c8.size - 1]? = some (.chan (some yb)))
    (hz : ZA (Fin P Post (startX X rb yb c8.size) 0) n b cs e k (setBlkF (putObj' w yb nothing) rb c8 T (c8.size - 1, c8.size))) : ZA (Fin P Post X 0) n b cs e k w := by
  have hne : yb ≠ rb := by
    intro e; subst e
    unfold ChanAt at hch; unfold Blk at hB; rw [hch] at hB; cases hB
  intro a ha
  refine Fin.chan (b := yb) (k := 0) (hUy.loosed (Nat.le_refl _)) (fun hl => absurd (hUy.low _ hl) (Nat.lt_irrefl _)) hpy hch ?_
  have hB1 : (putObj' w yb nothing).heap[rb]? = some (.cells (c8 ++ #[.int .u64 0, .int .u32 0]) T (0, 0)) := by rw [putObj'_ne _ _ hne]; exact hB
  refine Fin.groupF (f' := (c8.size - 1, c8.size)) (b := rb) hcap ?_ ?_ hpr hB1 h0 ?_
  · have hl := hU.loosed (Nat.le_refl rb)
    exact ⟨hl.stay, hl.hid, fun h => h.elim hl.chs fun h => hne h.symm, hl.grp⟩
  · intro h
    rcases h with h | h
    · exact absurd (hU.low _ h) (Nat.lt_irrefl _)
    · exact hne h.symm
  have hB2 : (putObj' (putObj' w yb nothing) rb (.cells c8 T (c8.size - 1, c8.size))).heap[rb]? = some (.cells c8 T (c8.size - 1, c8.size)) := putObj'_same _ hB1
  refine Fin.stay (l := [(⟨rb, c8.size - 1, none⟩, .chan (some yb))]) (fun p hp => ?_) (hz a ha)
  obtain rfl : p = (⟨rb, c8.size - 1, none⟩, .chan (some yb)) := by simpa using hp
  exact ⟨BlkF.cell (f := (c8.size - 1, c8.size)) hB2 hy, by rw [BlkF.frozen (f := (c8.size - 1, c8.size)) hB2]; simp; omega⟩
end
end Go.Vy
end
/- Goroutine 0 lets all clients begin. -/
section
namespace Go.Vy.Sc
open Go Go.Conc Go.Yc Go.RowKit Go.Proofs Go.Proofs.Ytfmoeemolgjodaa
open Go.Vc Go.Wg
attribute [local irreducible] KK
noncomputable def begLoop : Code := match Try.f35.body with | some (.seq _ (.block _ (.loop c))) => c | _ => .skip
def sp0 : Stp := ⟨0, 0, 0⟩
abbrev newC (cb rc : Nat) : CB := ⟨cb, rc, sp0, .nilFunc, .nilFunc, 0, false, false⟩
/-- What is held before client i begins. -/
structure BegJ (rb0 m : Nat) (ba : Option Addr) (fv : Nat → Value) (Bs : Nat) (Post : Value → World → Prop) (cs : List Frame) (J : Nat → Gh → Rn → World → Prop) : Prop where
  sl : SL ba m
  fn : ∀ i, i < m → fv i = .nilFunc ∨ ∃ f fn caps, fv i = .func (.func f) #[] caps ∧ Try.prog.funcs[f]? = some fn ∧ fn.body.isSome = true ∧ (fn.name == "runtime.NumGoroutine") = false
  mem : ∀ i X R w, J i X R w → RunM w Bs R ∧ R.rb = rb0 ∧ R.cl.length = i ∧ R.m = m ∧ Bs ≤ w.heap.size ∧ X.Under w.heap.size ∧ ∀ j, j < m → w.cell? ⟨ab ba, ao ba + j * 1, none⟩ = some (fv j)
  nil : ∀ i X R w w' a n cb rc, i < m → J i X R w → fv i = .nilFunc → w.heap.size ≤ cb → w.heap.size ≤ rc → Rg R.fp w.heap.size w w' Bs { R with ca := a, cc := n, cl := R.cl ++ [newC cb rc], ends := R.ends.set i 1 } → J (i + 1) (X.lower cb) { R with ca := a, cc := n, cl := R.cl ++ [newC cb rc], ends := R.ends.set i 1 } w'
  go : ∀ i X R w w' a n cb rc, i < m → J i X R w → fv i ≠ .nilFunc → w.heap.size ≤ cb → w.heap.size ≤ rc → cb ≠ rc → ChanAt w' rc → Rg R.fp w.heap.size w w' Bs { R with ca := a, cc := n, cl := R.cl ++ [newC cb rc] } →
    X.grp = some ⟨rb0, 8⟩ ∧ X.pend = 0 ∧ X.cap < 65536 ∧ X.dn = 0 ∧ X.stay 0 = [(⟨R.rb, 7, none⟩, .chan (some R.yb))] ∧ (X.chs R.yb ∧ ∀ i s2, X.seat i = some s2 → s2.ch ≠ R.yb) ∧
    ∀ me0, (∀ X' R' u v, J (i + 1) X' R' u → Fin Try.prog Post X' 0 (Go.Conc.served me0 v) u) → Fin Try.prog Post (Gh.hire { X.lower cb with pend := 1, cap := X.cap + 1, dn := 0 } ⟨R.yb, .int .i64 0, me0⟩) X.n (born Try.prog (dcall 45 #[.pointer (some ⟨cb, 0, none⟩), fv i])) w'
  fin : ∀ X R w, J m X R w → ∀ fr, fr.fn = 35 → Leaves Try.prog fr w (.returned (.tuple #[])) → Fin Try.prog Post X 0 (G fr cs) w
theorem buX_0 (x0 : Int) (x1 : Option Addr) (x2 : Option Nat) : Try.prog.built 76 [(0, .int .i64 x0), (1, .pointer x1), (2, .chan x2)] = some #[.int .i64 x0, .pointer x1, .chan x2, .int .i64 0, .int .i64 0, .int .i64 0, .nilFunc, .nilFunc, .int .i64 0, .bool false, .bool false] := by kernel_rfl
set_option maxRecDepth 20000 in
theorem beg_loop {rb0 m : Nat} {ba : Option Addr} {fv : Nat → Value} {Bs : Nat} {Post : Value → World → Prop} {cs : List Frame} {J : Nat → Gh → Rn → World → Prop} (hE : BegJ rb0 m ba fv Bs Post cs J) (hm1 : m ≤ 1000) {bc : Nat} : ∀ (k i : Nat), i + k = m → ∀ X R w1, J i X R w1 → ∀ e : Env, e 0 = .pointer (some ⟨rb0, 0, none⟩) → e 7 = .slice ba m bc → e 8 = .int .i64 (m : Int) → e 9 = .int .i64 (i : Int) → ZA (Fin Try.prog Post X 0) 50 (base 35) cs e [.code begLoop, .inLoop begLoop, .inBlock 0] w1 := by
  intro k
  induction k with
  | zero =>
    intro i hk X R w1 hJ e s0 s7 s8 s9
    obtain ⟨hM, hrb, hlen, hRm, hBs, hU, hcell⟩ := hE.mem _ _ _ _ hJ
    letI : Ctx Try.prog := baseCtx Try.prog true
    have hZ : Ctx.Zs Try.prog (Fin Try.prog Post X 0) := fin_zs
    have hb := bkn 35
    rw [← hrb] at s0
    rw [upd_id s0, upd_id s7, upd_id s8, upd_id s9]
    clear s0 s7 s8 s9
    have hg := hM.rg
    refine ZA.seq hZ ?_
    refine ZA.W hZ hb ?_
    refine W.region rfl ?_
    refine L.va (x_lss rfl rfl) ?_
    refine L.nil ?_
    refine T.nrm ?_
    show ZA _ _ _ _ _ _ _
    refine ZA.seq hZ ?_
    refine ZA.condF hZ (rb (decide_eq_false (by omega))) ?_
    refine ZA.exit hZ rfl ?_
    refine ZA.done hZ ?_
    obtain rfl : i = m := by omega
    exact ZA.leaves (fn := Try.f35) (f := 35) rfl Try.func35 rfl (hE.fin X R w1 hJ)
  | succ k ih =>
    intro i hk X R w1 hJ e s0 s7 s8 s9
    obtain ⟨hM, hrb, hlen, hRm, hBs, hU, hcell⟩ := hE.mem _ _ _ _ hJ
    letI : Ctx Try.prog := baseCtx Try.prog true
    have hZ : Ctx.Zs Try.prog (Fin Try.prog Post X 0) := fin_zs
    have hb := bkn 35
    rw [← hrb] at s0
    rw [upd_id s0, upd_id s7, upd_id s8, upd_id s9]
    clear s0 s7 s8 s9
    have hg := hM.rg
    have hlt : i < m := by omega
    refine ZA.seq hZ ?_
    refine ZA.W hZ hb ?_
    refine W.region rfl ?_
    refine L.va (x_lss rfl rfl) ?_
    refine L.nil ?_
    refine T.nrm ?_
    show ZA _ _ _ _ _ _ _
    refine ZA.seq hZ ?_
    refine ZA.condT hZ (rb (decide_eq_true (by omega))) ?_
    refine ZA.skip hZ ?_
    refine ZA.seq hZ ?_
    refine ZA.block hZ ?_
    refine ZA.seq hZ ?_
    refine ZA.W hZ hb ?_
    refine W.region rfl ?_
    refine L.va (x_mvI rfl) ?_
    refine L.va (x_idx (i := i) rfl rfl Try.underlying49 sz52 hE.sl hlt) ?_
    refine L.va (x_load (v := fv i) rfl Try.underlying52 rfl (hcell i hlt)) ?_
    refine L.va (x_asI rfl) ?_
    refine L.va x_assign ?_
    refine L.nil ?_
    refine T.nrm ?_
    show ZA _ _ _ _ _ _ _
    refine ZA.seq hZ ?_
    refine ZA.W hZ hb ?_
    refine W.region rfl ?_
    refine L.va (x_mvI rfl) ?_
    refine L.va (x_mvP rfl) ?_
    refine L.makeChan rfl Try.underlying74 ⟨_, sz4⟩ (fun w2 hbw hch hsz2 => ?_)
    obtain ⟨rc, hrc⟩ : ∃ rc, rc = w1.heap.size := ⟨_, rfl⟩
    have lrc : w1.heap.size ≤ rc := Nat.le_of_eq hrc.symm
    rw [← hrc] at hch ⊢
    have hg := hg.keep hbw
    refine L.va (x_build (parts := [(0, .tmp 14), (1, .tmp 15), (2, .tmp 16)]) rfl (buX_0 (i : Int) ((some ⟨R.rb, 0, none⟩)) (some rc))) ?_
    refine L.box (cs := (newC 0 rc).cells R.rb i) rfl rfl (fun w3 cb F => ?_)
    have lcb : w1.heap.size ≤ cb := by have := F.here; have := hbw.size; omega
    have hne : cb ≠ rc := by have := F.here; omega
    have hg := hg.keep F.below
    have hch := hch.keep F.below
    have hX := blkF_of F.blk
    have hBs := Nat.le_trans hBs (Nat.le_trans hbw.size F.below.size)
    clear F hbw
    refine L.va (x_asP rfl) ?_
    refine L.nil ?_
    refine T.nrm ?_
    show ZA _ _ _ _ _ _ _
    have hfb : ∀ k, R.fp k → k ≠ cb := fun k hk e => by have := hM.lt hk; omega
    refine ZA.freeze (f := (0, 3)) (hU.loosed lcb) hX ?_
    have hg := hg.fresh ((newC 0 rc).cells R.rb i) 76 (0, 3) hfb lcb
    have hch : ChanAt (setBlkF w3 cb ((newC 0 rc).cells R.rb i) 76 (0, 3)) rc := hch.grown (setBlkF_grown _ _ _ _ _) (fun r e => by cases e; exact ⟨_, _, _, hX⟩)
    have hX : BlkF (setBlkF w3 cb ((newC 0 rc).cells R.rb i) 76 (0, 3)) cb ((newC cb rc).cells R.rb R.cl.length) 76 (0, 3) := by rw [hlen]; exact setBlkF_self hX _ _ _
    rw [← setBlkF_size (w := w3) (b := cb) (cs := (newC 0 rc).cells R.rb i) (T := 76) (f := (0, 3))] at hBs
    generalize setBlkF w3 cb ((newC 0 rc).cells R.rb i) 76 (0, 3) = w at *
    have hZ : Ctx.Zs Try.prog (Fin Try.prog Post (X.lower cb) 0) := fin_zs
    refine ZA.seq hZ ?_
    refine ZA.W hZ hb ?_
    refine W.region rfl ?_
    refine L.va (x_mvP rfl) ?_
    refine L.va (x_mvP rfl) ?_
    refine L.va (x_nilCheck rfl) ?_
    refine L.va (x_field rfl Try.underlying91 rfl sz79 (by decide)) ?_
    refine L.va (x_load rfl Try.underlying79 rfl (hg.m.run.cellAt 0 (v := .slice (R.ca) (R.cl.length) (R.cc)) rfl)) ?_
    refine L.va (x_mvP rfl) ?_
    refine L.build1 (cs := #[.pointer (some ⟨cb, 0, none⟩)]) rfl rfl Try.underlying79 sz50 rfl ⟨_, zr50⟩ (by decide) (fun w b25 F25 => ?_)
    have hBs := Nat.le_trans hBs F25.below.size
    have hg := hg.keep F25.below
    have hch := hch.keep F25.below
    have hX := hX.keep F25.below
    have hB25 := F25.blk
    have hX0 := hX
    have hR := hg.m.run
    refine L.appendW (B := Bs) (m := 1) rfl rfl Try.underlying79 in50 rfl (by decide) hg.m.cls (news := [.pointer (some ⟨cb, 0, none⟩)]) rfl (fun j u hj => by
      rw [Addr.add_lit]
      match j, hj with
      | 0, hj => cases hj; exact hB25.cellAt 0 rfl) (fun u hu => by simp only [List.mem_cons, List.not_mem_nil, or_false] at hu; subst hu; rfl) (by omega) (by omega) hBs (fun a26 c26 w2 hO hgr hli => ?_)
    have hch := hch.grown hgr (row_blk hg.m.cls)
    have hX := True.intro
    have hR := apartF hR hgr (row_ne hg.m.cls (by decide))
    refine L.va (x_nilCheck rfl) ?_
    refine L.va (x_field rfl Try.underlying91 rfl sz79 (by decide)) ?_
    refine L.stCl hg (newC cb rc) hX0 (.inr lcb) (by rw [hlen, hRm]; exact hlt) hgr hO hli rfl rfl sz79 (fun w hg hgr2 => ?_)
    have hch := hch.grown hgr2 (fun r e => by cases e; exact ⟨_, _, _, hR⟩)
    clear hgr2 hgr hO hli
    refine L.nil ?_
    refine T.nrm ?_
    show ZA _ _ _ _ _ _ _
    refine ZA.seq hZ ?_
    refine ZA.seq hZ ?_
    by_cases hnil : fv i = .nilFunc
    · refine ZA.W hZ hb ?_
      refine W.region rfl ?_
      refine L.va x_move ?_
      refine L.va (x_eqFnNil (v := fv i) (b := true) rfl (.inl ⟨hnil, rfl⟩) rfl Try.underlying52 ⟨_, _, _, rfl⟩) ?_
      refine L.nil ?_
      refine T.nrm ?_
      show ZA _ _ _ _ _ _ _
      refine ZA.condT hZ rfl ?_
      refine ZA.seq hZ ?_
      refine ZA.W hZ hb ?_
      refine W.region rfl ?_
      refine L.va (x_mvP rfl) ?_
      refine L.va (x_nilCheck rfl) ?_
      refine L.va (x_field rfl Try.underlying91 rfl sz31 (by decide)) ?_
      refine L.va (x_field rfl Try.underlying31 rfl sz26 (by decide)) ?_
      refine L.va (x_load rfl Try.underlying26 rfl (hg.m.run.cellAt 3 (v := .slice (some ⟨R.eb, 0, none⟩) (R.m) (R.m)) rfl)) ?_
      refine L.va (x_mvI rfl) ?_
      refine L.va (x_index (i := i) rfl rfl Try.underlying26 sz3 (by rw [hRm]; exact hlt)) ?_
      refine L.stE (i := i) hg (by show i < R.m; rw [hRm]; exact hlt) rfl rfl sz3 (fun w hg hgr => ?_)
      clear hgr
      refine L.nil ?_
      refine T.nrm ?_
      show ZA _ _ _ _ _ _ _
      refine ZA.exit hZ rfl ?_
      refine ZA.W hZ hb ?_
      refine W.region rfl ?_
      refine L.va (x_inc rfl rfl (by omega)) ?_
      refine L.va (x_mvI rfl) ?_
      refine L.nil ?_
      refine T.nrm ?_
      show ZA _ _ _ _ _ _ _
      refine ZA.inLoop hZ ?_
      exact ih (i + 1) (by omega) _ _ w (hE.nil i X R w1 w _ _ cb rc hlt hJ hnil lcb lrc hg) _ (by rw [← hrb]; rfl) rfl rfl rfl
    · refine ZA.W hZ hb ?_
      refine W.region rfl ?_
      refine L.va x_move ?_
      obtain ⟨f, fn, caps, hfv, hff, hbd, hnm⟩ := (hE.fn i hlt).resolve_left hnil
      refine L.va (x_eqFnNil (v := fv i) (b := false) rfl (.inr ⟨_, _, _, hfv, rfl⟩) rfl Try.underlying52 ⟨_, _, _, rfl⟩) ?_
      refine L.nil ?_
      refine T.nrm ?_
      show ZA _ _ _ _ _ _ _
      refine ZA.condF hZ rfl ?_
      refine ZA.skip hZ ?_
      refine ZA.seq hZ ?_
      obtain ⟨hgrp, hpend, hcap, hdn, hst, hsh, hgo⟩ := hE.go i X R w1 w _ _ cb rc hlt hJ hnil lcb lrc hne hch hg
      refine ZA.upto hZ hb 3 rfl rfl (R := fun e' w' => ZA _ _ _ _ e' _ w') ?_ (fun _ _ h => h)
      show L _ _ _ _ _ _ _
      refine L.va (x_mvP rfl) ?_
      refine L.va (x_nilCheck rfl) ?_
      refine L.va (x_field rfl Try.underlying91 rfl sz89 (by decide)) ?_
      refine L.nil ?_
      refine T.nrm ?_
      show ZA _ _ _ _ _ _ _
      refine ZA.call (i := 3) (rest := []) hZ hb (f := 44) (args := #[.pointer (some ⟨R.rb, 8, none⟩), .int .i64 1]) rfl rfl (x_call2 rfl rfl Try.func44 rfl nm44 rfl) (fun a ha => ?_)
      have hXe : X.lower cb = { X.lower cb with dn := 0 } := by show X.lower cb = { X.lower cb with dn := 0 }; cases X; simp only [Gh.lower] at hdn ⊢; subst hdn; rfl
      rw [hXe, hrb]
      refine Fin.addA (G := ⟨rb0, 8⟩) (X := X.lower cb) (K := fun g' => g' = _) hgrp hpend hcap (fun g' hg' => ?_) _ _ _ (add_a ⟨rb0, 8⟩ (fun g' => g' = _) rfl)
      subst hg'
      refine ZA.home (i := 3) rfl rfl ha ?_
      have hZ : Ctx.Zs Try.prog (Fin Try.prog Post { X.lower cb with pend := 1, cap := (X.lower cb).cap + 1, dn := 0 } 0) := fin_zs
      refine ZA.endRegion hZ ?_
      refine ZA.seq hZ ?_
      refine ZA.upto hZ hb 2 rfl rfl (R := fun e' w' => ZA _ _ _ _ e' _ w') ?_ (fun _ _ h => h)
      show L _ _ _ _ _ _ _
      refine L.va (x_mvP rfl) ?_
      refine L.va x_move ?_
      refine L.nil ?_
      refine T.nrm ?_
      show ZA _ _ _ _ _ _ _
      refine ZA.spawn (i := 2) (rest := []) (gr := ⟨rb0, 8⟩) (vs := #[.pointer (some ⟨cb, 0, none⟩), fv i]) (st := [(⟨R.rb, 7, none⟩, .chan (some R.yb))]) (K := fun s => s.ch = R.yb ∧ s.z = .int .i64 0 ∧ ∀ X' R' u v, J (i + 1) X' R' u → Fin Try.prog Post X' 0 (Go.Conc.served s.me v) u) (ft := 60) hb rfl (Wg.map_list (vl := [.pointer (some ⟨cb, 0, none⟩), fv i]) rfl) rfl rfl hgrp hst ?_ ?_ ?_
      · have hY := hf_way (P := Try.prog) (main := true) (l := [((⟨R.rb, 7, none⟩ : Addr), Value.chan (some R.yb))]) (K := fun s => s.ch = R.yb ∧ s.z = .int .i64 0 ∧ ∀ X' R' u v, J (i + 1) X' R' u → Fin Try.prog Post X' 0 (Go.Conc.served s.me v) u)
        refine At.endRegion hY ?_
        refine At.region hY ?_
        refine AtL.val hY hb rfl (v := .pointer (some ⟨R.rb, 0, none⟩)) (pu_move rfl) ?_
        refine AtL.val hY hb rfl (pu_nilCheck rfl) ?_
        refine AtL.val hY hb rfl (pu_field rfl Try.underlying91 rfl sz80 (by decide)) ?_
        refine AtL.stay (v := .chan (some R.yb)) hb rfl (by simp) rfl Try.underlying80 rfl ?_
        refine AtL.seat (E := 3) (z := .int .i64 0) hb Try.underlying80 zr3 rfl (fun me hs => ⟨rfl, rfl, ?_⟩) rfl
        intro X' R' w v hJ'
        refine hs.go ?_
        have hZ : Ctx.Zs Try.prog (Fin Try.prog Post X' 0) := fin_zs
        refine ZA.endRegion hZ ?_
        refine ZA.inBlock hZ ?_
        refine ZA.W hZ hb ?_
        refine W.region rfl ?_
        refine L.va (x_inc rfl rfl (by omega)) ?_
        refine L.va (x_mvI rfl) ?_
        refine L.nil ?_
        refine T.nrm ?_
        show ZA _ _ _ _ _ _ _
        refine ZA.inLoop hZ ?_
        exact ih (i + 1) (by omega) X' R' w hJ' _ (by rw [← hrb]; rfl) rfl rfl rfl
      · rintro s2 ⟨h1, _, _⟩; rw [h1]; exact hsh
      · rintro ⟨ch, z, me⟩ ⟨h1, h2, h3⟩; cases h1; cases h2; exact hgo me h3
set_option maxRecDepth 20000 in
theorem beg_fin {rb0 m : Nat} {ba : Option Addr} {fv : Nat → Value} {Bs : Nat} {Post : Value → World → Prop} {cs : List Frame} {J : Nat → Gh → Rn → World → Prop} (hE : BegJ rb0 m ba fv Bs Post cs J) (hm1 : m ≤ 1000) {bc : Nat} {X : Gh} {R : Rn} {w : World} (hJ : J 0 X R w) : Fin Try.prog Post X 0 (G (Frame.enter Try.prog 35 #[.pointer (some ⟨rb0, 0, none⟩), .slice ba m bc] .normal) cs) w := by
  obtain ⟨hM, hrb, hlen, hRm, hBs, hU, hcell⟩ := hE.mem _ _ _ _ hJ
  letI : Ctx Try.prog := baseCtx Try.prog true
  have hZ : Ctx.Zs Try.prog (Fin Try.prog Post X 0) := fin_zs
  have hb := bkn 35
  rw [enter_at _ Try.func35 rfl]
  rw [← hrb]
  have hg := hM.rg
  refine (?_ : ZA (Fin Try.prog Post X 0) 50 (base 35) cs (Vc.argE #[.pointer (some ⟨R.rb, 0, none⟩), .slice ba m bc]) [.code (Try.f35.body.getD .skip)] w) _ (rep_args _ _ rfl)
  refine ZA.seq hZ ?_
  refine ZA.W hZ hb ?_
  refine W.region rfl ?_
  refine L.va (x_mvS rfl) ?_
  refine L.va (x_len rfl Try.underlying49 rfl) ?_
  refine L.va (x_mvI rfl) ?_
  refine L.nil ?_
  refine T.nrm ?_
  show ZA _ _ _ _ _ _ _
  refine ZA.block hZ ?_
  refine ZA.loop hZ ?_
  exact beg_loop hE hm1 m 0 (by omega) X R w hJ _ (by rw [← hrb]; rfl) rfl rfl rfl
end Go.Vy.Sc
end
/- sched.Run, as goroutine 0 goes through it. -/
section
namespace Go.Vy.Sc
open Go Go.Conc Go.Yc Go.RowKit Go.Proofs Go.Proofs.Ytfmoeemolgjodaa
open Go.Vc Go.Wg
attribute [local irreducible] KK
noncomputable def runLoop : Code := match Try.f19.body with | some (.seq _ (.seq _ (.seq _ (.seq _ (.seq _ (.seq _ (.seq _ (.seq (.seq _ (.block _ (.loop c))) _)))))))) => c | _ => .skip
noncomputable def runTail : Code := match Try.f19.body with | some (.seq _ (.seq _ (.seq _ (.seq _ (.seq _ (.seq _ (.seq _ (.seq _ c)))))))) => c | _ => .skip
/-- The run at its beginning. -/
def rn0 (rb yb eb wb m : Nat) : Rn := ⟨rb, yb, eb, wb, m, none, 0, [], none, 0, [], none, 0, [], List.replicate m 0, List.replicate m sp0, false, 0⟩
/-- Whom an entry of the script picks. -/
def pickIx (e : Int) (n : Nat) : Nat := (e % (n : Int)).toNat
theorem pickIx_lt (e : Int) {n : Nat} (hn : 0 < n) : pickIx e n < n := by
  have h1 := Int.emod_nonneg e (b := (n : Int)) (by omega)
  have h2 := Int.emod_lt_of_pos e (b := (n : Int)) (by omega)
  unfold pickIx; omega
theorem mod2 (e : Int) {n : Nat} (hn : 0 < n) : (e.tmod (n : Int) + (n : Int)).tmod (n : Int) = ((pickIx e n : Nat) : Int) := by
  have h1 := Int.emod_nonneg e (b := (n : Int)) (by omega)
  have h2 := Int.emod_lt_of_pos e (b := (n : Int)) (by omega)
  have h3 : -(n : Int) < e.tmod (n : Int) := by
    have := Int.lt_tmod_of_pos e (b := (n : Int)) (by omega)
    omega
  have h4 : ((pickIx e n : Nat) : Int) = e % (n : Int) := by unfold pickIx; omega
  rw [h4, Int.tmod_eq_emod_of_nonneg (by omega), Int.add_emod_right]
  rw [Int.tmod_eq_emod]
  split
  · simp
  · rw [Int.sub_emod, Int.emod_emod]
    have : (((n : Int).natAbs : Int)) % (n : Int) = 0 := by simp
    rw [this, Int.sub_zero, Int.emod_emod]
theorem tmod_bd (e : Int) {n : Nat} (hn : 0 < n) (h : n ≤ 1000) : -1000 ≤ e.tmod (n : Int) ∧ e.tmod (n : Int) ≤ 1000 := by
  have h1 := Int.lt_tmod_of_pos e (b := (n : Int)) (by omega)
  have h2 := Int.tmod_lt_of_pos e (b := (n : Int)) (by omega)
  omega
/-- What is held while the run goes on: JB i: before client i begins; J2 n: before entry n of the script; JE i: before client i is stopped. -/
structure RunR (rb0 m sn tb : Nat) (ba sa : Option Addr) (fv : Nat → Value) (sc : Nat → Int) (Bs : Nat) (Post : Value → World → Prop) (JB J2 JE : Nat → Gh → Rn → World → Prop) (rr : Nat → Nat → Bool) : Prop where
  beg : ∀ cs, (∀ X R w, JB m X R w → ∀ fr, fr.fn = 35 → Leaves Try.prog fr w (.returned (.tuple #[])) → Fin Try.prog Post X 0 (G fr cs) w) → BegJ rb0 m ba fv Bs Post cs JB
  b2s : ∀ X R w, JB m X R w → J2 0 X R w
  ssl : SL sa sn
  mem : ∀ n X R w, J2 n X R w → RunM w Bs R ∧ R.rb = rb0 ∧ R.cl.length = m ∧ Bs ≤ w.heap.size ∧ R.evs.length ≤ 1000000 ∧ R.used ≤ 1000000 ∧ (∀ (i : Nat) (c : CB), R.cl[i]? = some c → c.picks ≤ 1000000) ∧ ∀ j, j < sn → w.cell? ⟨ab sa, ao sa + j * 1, none⟩ = some (.int .i64 (sc j))
  keep : ∀ n X R w w', J2 n X R w → Below w.heap.size w w' → J2 n X R w'
  rdy : ∀ n X R w, J2 n X R w → ∀ (i : Nat) (c : CB), R.cl[i]? = some c → c.wt = true → @ReadyAt (baseCtx Try.prog true) w c.rf (rr n i)
  pick : ∀ n X R w i c, J2 n X R w → n < sn → (rdl R.cl (rr n) m)[pickIx (sc n) (rdl R.cl (rr n) m).length]? = some i → R.cl[i]? = some c → ∃ g z1 me1, g ≠ 0 ∧ X.seat g = some ⟨c.rc, z1, me1⟩ ∧ X.dn = 0 ∧ X.stay 0 = [(⟨R.rb, 7, none⟩, .chan (some R.yb))] ∧ (X.chs R.yb ∧ ∀ i s2, i ≠ g → X.seat i = some s2 → s2.ch ≠ R.yb) ∧
    ∀ w' a nn me0, Rg R.fp w.heap.size w w' Bs { R with ea := a, ec := nn, evs := R.evs ++ [(i, c.sp)], used := R.used + 1, cl := R.cl.set i { c with picks := c.picks + 1, wt := false } } → (∀ X' R' u v, J2 (n + 1) X' R' u → Fin Try.prog Post X' 0 (Go.Conc.served me0 v) u) → Fin Try.prog Post (X.pass 0 g (some ⟨R.yb, .int .i64 0, me0⟩)) g (Go.Conc.served me1 (.bool true)) w'
  toE : ∀ n X R w w' b, J2 n X R w → (n = sn ∨ rdl R.cl (rr n) m = []) → b = (R.cl.any (·.wt) && (rdl R.cl (rr n) m).isEmpty) → Rg R.fp w.heap.size w w' Bs { R with stuck := b } → JE 0 X { R with stuck := b } w'
  en : ∀ ca cc cs, (∀ X R w, JE m X R w → R.ca = ca → R.cc = cc → ∀ fr, fr.fn = 39 → Leaves Try.prog fr w (.returned (.tuple #[])) → Fin Try.prog Post { X with pend := 0, cap := 0, dn := 0 } 0 (G fr cs) w) → EndJ rb0 m ca cc Bs Post cs (fun i X R w => JE i X R w ∧ R.ca = ca ∧ R.cc = cc)
  memE : ∀ X R w, JE m X R w → RunM w Bs R ∧ R.rb = rb0 ∧ BlkF w tb #[.slice none 0 0, .slice none 0 0, .slice none 0 0, .slice none 0 0, .bool false, .int .i64 0] 31 (0, 0)
/-- What the run leaves. -/
abbrev outV (R : Rn) : Value := .agg #[.slice R.ea R.evs.length R.ec, .slice R.na R.nts.length R.nc, .slice (some ⟨R.eb, 0, none⟩) R.m R.m, .slice (some ⟨R.wb, 0, none⟩) R.m R.m, .bool R.stuck, .int .i64 (R.used : Int)]
structure RetJ (m tb : Nat) (Post : Value → World → Prop) (cs : List Frame) (JE : Nat → Gh → Rn → World → Prop) : Prop where
  ret : ∀ X R w w' fr, JE m X R w → w.grownBy w' (some tb) → fr.fn = 19 → Leaves Try.prog fr w' (.returned (.tuple #[outV R, .int .i64 0])) → Fin Try.prog Post { X with pend := 0, cap := 0, dn := 0 } 0 (G fr cs) w'
theorem leaves_cellTmp {Z : Goroutine → World → Prop} {n : Nat} {cs : List Frame} {e : Env} {w : World} {t u b : Nat} {T E : TypeId} {fn : Func} {f : FuncId} {cells : Array Value} {d : TypeDesc} {v : Value} (hf : Try.prog.funcs[f]? = some fn) (hr : fn.results = #[.cell t T, .tmp u]) (he : e t = .pointer (some ⟨b, 0, none⟩)) (hu0 : e u = v) (hT : Try.prog.underlying T = some d) (hu : flatB d = false) (hB : Blk w b cells E) (hs : (Try.prog.info? T).map (·.size) = some cells.size)
    (h : ∀ fr, fr.fn = f → Leaves Try.prog fr w (.returned (.tuple #[.agg cells, v])) → Z (G fr cs) w) : ZR Z n (base f) cs e w := by
  intro todo a ha
  letI : Ctx Try.prog := baseCtx Try.prog true
  have h1 : ends Try.prog fn (fun v' w' => v' = .tuple #[.agg cells, v] ∧ w' = w) .ret e w := ends.cellTmp (.inr rfl) hr he hT hu hs hB ⟨by rw [hu0], rfl⟩
  obtain ⟨_, v', h2, h3, h4⟩ := h1
  subst h3
  refine h _ rfl ⟨rfl, ha.defers, rfl, fn, hf, ?_⟩
  exact h2 _ ha.get
noncomputable def runLast : Code := match runTail with | .seq _ (.seq _ c) => c | _ => .skip

theorem stuck_eq {l : List Nat} (n : Nat) (h : l.length = n := by rfl) : decide (((n : Nat) : Int) = 0) = l.isEmpty := by
  subst h
  cases l <;> simp
  omega
theorem rdl_cl {cl : List CB} {r : Nat → Bool} {m j i : Nat} (h : (rdl cl r m)[j]? = some i) : ∃ c, cl[i]? = some c := by
  have := List.mem_of_getElem? h
  simp only [rdl, List.mem_filter, Bool.and_eq_true] at this
  cases hc : cl[i]? with
  | none => rw [hc] at this; simp at this
  | some c => exact ⟨c, rfl⟩
theorem rdl_cell {cl : List CB} {r : Nat → Bool} {m j i : Nat} {c : CB} (h : (rdl cl r m)[j]? = some i) (hc : cl[i]? = some c) : ((rdl cl r m).map (cbOf cl))[j]? = some (.pointer (some ⟨c.cb, 0, none⟩)) := by
  rw [List.getElem?_map, h]
  simp [cbOf, hc]
set_option maxRecDepth 20000 in
theorem run_end {rb0 m sn tb : Nat} {ba sa : Option Addr} {fv : Nat → Value} {sc : Nat → Int} {Bs : Nat} {Post : Value → World → Prop} {cs : List Frame} {JB J2 JE : Nat → Gh → Rn → World → Prop} {rr : Nat → Nat → Bool} (hE : RunR rb0 m sn tb ba sa fv sc Bs Post JB J2 JE rr) (hT : RetJ m tb Post cs JE) {X : Gh} {R : Rn} {w : World} (hJ : JE m X R w) {e : Env} {ops : Array Oper} (s6 : e 6 = .pointer (some ⟨rb0, 0, none⟩)) (s4 : e 4 = .pointer (some ⟨tb, 0, none⟩)) : ZA (Fin Try.prog Post { X with pend := 0, cap := 0, dn := 0 } 0) 83 (base 19) cs e [.inRegion ops [], .code runLast] w := by
  obtain ⟨hM, hrb, hT0⟩ := hE.memE _ _ _ hJ
  letI : Ctx Try.prog := baseCtx Try.prog true
  have hZ : Ctx.Zs Try.prog (Fin Try.prog Post { X with pend := 0, cap := 0, dn := 0 } 0) := fin_zs
  have hb := bkn 19
  rw [← hrb] at s6
  rw [upd_id s6, upd_id s4]
  clear s6 s4
  refine ZA.endRegion hZ ?_
  refine ZA.seq hZ ?_
  refine ZA.W hZ hb ?_
  refine W.region rfl ?_
  refine L.va (x_mvP rfl) ?_
  refine L.va (x_nilCheck rfl) ?_
  refine L.va (x_field rfl Try.underlying91 rfl sz31 (by decide)) ?_
  refine L.va (x_loadAgg (cs := [.slice (R.ea) (R.evs.length) (R.ec), .slice (R.na) (R.nts.length) (R.nc), .slice (some ⟨R.eb, 0, none⟩) (R.m) (R.m), .slice (some ⟨R.wb, 0, none⟩) (R.m) (R.m), .bool (R.stuck), .int .i64 (R.used : Int)]) rfl Try.underlying31 rfl sz31 rfl (hM.run.aggAt rfl)) ?_
  refine L.put (b := tb) (o := 0) (s := 6) (vs := [.slice R.ea R.evs.length R.ec, .slice R.na R.nts.length R.nc, .slice (some ⟨R.eb, 0, none⟩) R.m R.m, .slice (some ⟨R.wb, 0, none⟩) R.m R.m, .bool R.stuck, .int .i64 (R.used : Int)]) #[.slice R.ea R.evs.length R.ec, .slice R.na R.nts.length R.nc, .slice (some ⟨R.eb, 0, none⟩) R.m R.m, .slice (some ⟨R.wb, 0, none⟩) R.m R.m, .bool R.stuck, .int .i64 (R.used : Int)] rfl rfl rfl sz31 rfl rfl hT0 (Nat.le_of_ble_eq_true rfl) rfl (fun w2 hB hgr hsz => ?_)
  refine L.va (x_asI rfl) ?_
  refine L.nil ?_
  refine T.nrm ?_
  show ZA _ _ _ _ _ _ _
  refine ZA.ret hZ ?_
  exact leaves_cellTmp (u := 5) (v := .int .i64 0) Try.func19 rfl rfl rfl Try.underlying31 rfl hB sz31 (fun fr h8 h9 => hT.ret X R w w2 fr hJ hgr h8 h9)
set_option maxRecDepth 20000 in
theorem run_tail {rb0 m sn tb : Nat} {ba sa : Option Addr} {fv : Nat → Value} {sc : Nat → Int} {Bs : Nat} {Post : Value → World → Prop} {cs : List Frame} {JB J2 JE : Nat → Gh → Rn → World → Prop} {rr : Nat → Nat → Bool} (hE : RunR rb0 m sn tb ba sa fv sc Bs Post JB J2 JE rr) (hT : RetJ m tb Post cs JE) (hm1 : m ≤ 16) (_hs1 : sn ≤ 1000000) {n : Nat} {X : Gh} {R : Rn} {w : World} (hJ : J2 n X R w) (hn : n = sn ∨ rdl R.cl (rr n) m = []) {e : Env} (s6 : e 6 = .pointer (some ⟨rb0, 0, none⟩)) (s4 : e 4 = .pointer (some ⟨tb, 0, none⟩)) : ZA (Fin Try.prog Post X 0) 83 (base 19) cs e [.code runTail] w := by
  obtain ⟨hM, hrb, hlen, hBs, hev, hus, hpk, hcell⟩ := hE.mem _ _ _ _ hJ
  letI : Ctx Try.prog := baseCtx Try.prog true
  have hZ : Ctx.Zs Try.prog (Fin Try.prog Post X 0) := fin_zs
  have hb := bkn 19
  rw [← hrb] at s6
  rw [upd_id s6, upd_id s4]
  clear s6 s4
  have hg := hM.rg
  refine ZA.seq hZ ?_
  refine ZA.W hZ hb ?_
  refine W.region rfl ?_
  refine L.va (x_mvP rfl) ?_
  refine L.va (x_mvP rfl) ?_
  refine L.call (x_call1 rfl Try.func38 rfl nm38 rfl) (anyWaits_c R Bs w hM (by omega)) ?_
  rintro _ w1 ⟨rfl, hw⟩
  rw [hw]
  clear hw w1
  by_cases hany : R.cl.any (·.wt) = true
  · rw [hany]
    refine L.va (x_mvB rfl) ?_
    refine L.on rfl ?_
    refine L.va (x_mvP rfl) ?_
    refine L.on rfl ?_
    refine L.call (x_call1 rfl Try.func36 rfl nm36 rfl) (readies_c R Bs w hM (by omega) (rr n) (hE.rdy n X R w hJ)) ?_
    rintro _ w2 ⟨la, lc, rfl, hO, hbw⟩
    rw [hlen]
    have hg := hg.keep hbw
    refine L.on rfl ?_
    refine L.va (x_len rfl Try.underlying79 rfl) ?_
    refine L.on rfl ?_
    refine L.va (x_eql rfl rfl) ?_
    refine L.va (x_pickT rfl) ?_
    refine L.va (x_nilCheck rfl) ?_
    refine L.va (x_field rfl Try.underlying91 rfl sz31 (by decide)) ?_
    refine L.va (x_field rfl Try.underlying31 rfl sz4 (by decide)) ?_
    refine L.stR (o := 5) (vs := [.bool (decide ((((rdl R.cl (rr n) m).length : Nat) : Int) = 0))]) hg (decide ((((rdl R.cl (rr n) m).length : Nat) : Int) = 0)) R.used rfl rfl rfl sz4 rfl rfl (by decide) rfl (fun w hg hgr => ?_)
    clear hgr
    refine L.nil ?_
    refine T.nrm ?_
    show ZA _ _ _ _ _ _ _
    have hJE := hE.toE n X R _ w _ hJ hn (by rw [hany, Bool.true_and]; exact stuck_eq _) hg
    refine ZA.seq hZ ?_
    refine ZA.upto hZ hb 1 rfl rfl (R := fun e' w' => ZA _ _ _ _ e' _ w') ?_ (fun _ _ h => h)
    show L _ _ _ _ _ _ _
    refine L.va (x_mvP rfl) ?_
    refine L.nil ?_
    refine T.nrm ?_
    show ZA _ _ _ _ _ _ _
    refine ZA.call (i := 1) (rest := []) hZ hb (f := 39) (args := #[.pointer (some ⟨R.rb, 0, none⟩)]) rfl rfl (x_call1 rfl Try.func39 rfl nm39 rfl) (fun a ha => ?_)
    rw [hrb]
    refine end_fin (hE.en R.ca R.cc _ (fun X' R' u hJ' hca hcc fr h8 h9 => ?_)) (by omega) ⟨hJE, rfl, rfl⟩
    have hZ' : Ctx.Zs Try.prog (Fin Try.prog Post { X' with pend := 0, cap := 0, dn := 0 } 0) := fin_zs
    refine ZA.back (fin_cl Try.prog Post { X' with pend := 0, cap := 0, dn := 0 } 0) (i := 1) rfl rfl ha h9 ?_
    exact run_end hE hT hJ' (by rw [← hrb]; rfl) rfl
  · rw [show R.cl.any (·.wt) = false by simpa using hany]
    refine L.va (x_mvB rfl) ?_
    refine L.off rfl ?_
    refine L.off rfl ?_
    refine L.off rfl ?_
    refine L.off rfl ?_
    refine L.va (x_pickF rfl) ?_
    refine L.va (x_nilCheck rfl) ?_
    refine L.va (x_field rfl Try.underlying91 rfl sz31 (by decide)) ?_
    refine L.va (x_field rfl Try.underlying31 rfl sz4 (by decide)) ?_
    refine L.stR (o := 5) (vs := [.bool false]) hg false R.used rfl rfl rfl sz4 rfl rfl (by decide) rfl (fun w hg hgr => ?_)
    clear hgr
    refine L.nil ?_
    refine T.nrm ?_
    show ZA _ _ _ _ _ _ _
    have hJE := hE.toE n X R _ w _ hJ hn (by rw [show R.cl.any (·.wt) = false by simpa using hany]; rfl) hg
    refine ZA.seq hZ ?_
    refine ZA.upto hZ hb 1 rfl rfl (R := fun e' w' => ZA _ _ _ _ e' _ w') ?_ (fun _ _ h => h)
    show L _ _ _ _ _ _ _
    refine L.va (x_mvP rfl) ?_
    refine L.nil ?_
    refine T.nrm ?_
    show ZA _ _ _ _ _ _ _
    refine ZA.call (i := 1) (rest := []) hZ hb (f := 39) (args := #[.pointer (some ⟨R.rb, 0, none⟩)]) rfl rfl (x_call1 rfl Try.func39 rfl nm39 rfl) (fun a ha => ?_)
    rw [hrb]
    refine end_fin (hE.en R.ca R.cc _ (fun X' R' u hJ' hca hcc fr h8 h9 => ?_)) (by omega) ⟨hJE, rfl, rfl⟩
    have hZ' : Ctx.Zs Try.prog (Fin Try.prog Post { X' with pend := 0, cap := 0, dn := 0 } 0) := fin_zs
    refine ZA.back (fin_cl Try.prog Post { X' with pend := 0, cap := 0, dn := 0 } 0) (i := 1) rfl rfl ha h9 ?_
    exact run_end hE hT hJ' (by rw [← hrb]; rfl) rfl
set_option maxRecDepth 20000 in
theorem run_loop {rb0 m sn tb : Nat} {ba sa : Option Addr} {fv : Nat → Value} {sc : Nat → Int} {Bs : Nat} {Post : Value → World → Prop} {cs : List Frame} {JB J2 JE : Nat → Gh → Rn → World → Prop} {rr : Nat → Nat → Bool} (hE : RunR rb0 m sn tb ba sa fv sc Bs Post JB J2 JE rr) (hT : RetJ m tb Post cs JE) (hm1 : m ≤ 16) (hs1 : sn ≤ 1000000) {scp : Nat} : ∀ (k n : Nat), n + k = sn → ∀ X R w, J2 n X R w → ∀ e : Env, e 6 = .pointer (some ⟨rb0, 0, none⟩) → e 39 = .slice sa sn scp → e 40 = .int .i64 (sn : Int) → e 41 = .int .i64 (n : Int) → e 4 = .pointer (some ⟨tb, 0, none⟩) → e 1 = .slice sa sn scp → ZA (Fin Try.prog Post X 0) 83 (base 19) cs e [.code runLoop, .inLoop runLoop, .inBlock 0, .code runTail] w := by
  intro k
  induction k with
  | zero =>
    intro n hk X R w hJ e s6 s39 s40 s41 s4 s1
    obtain ⟨hM, hrb, hlen, hBs, hev, hus, hpk, hcell⟩ := hE.mem _ _ _ _ hJ
    letI : Ctx Try.prog := baseCtx Try.prog true
    have hZ : Ctx.Zs Try.prog (Fin Try.prog Post X 0) := fin_zs
    have hb := bkn 19
    rw [← hrb] at s6
    rw [upd_id s6, upd_id s39, upd_id s40, upd_id s41, upd_id s4, upd_id s1]
    clear s6 s39 s40 s41 s4 s1
    refine ZA.seq hZ ?_
    refine ZA.W hZ hb ?_
    refine W.region rfl ?_
    refine L.va (x_lss rfl rfl) ?_
    refine L.nil ?_
    refine T.nrm ?_
    show ZA _ _ _ _ _ _ _
    refine ZA.seq hZ ?_
    refine ZA.condF hZ (rb (decide_eq_false (by omega))) ?_
    refine ZA.exit hZ rfl ?_
    obtain rfl : n = sn := by omega
    exact run_tail hE hT hm1 hs1 hJ (.inl rfl) (by rw [← hrb]; rfl) rfl
  | succ k ih =>
    intro n hk X R w hJ e s6 s39 s40 s41 s4 s1
    obtain ⟨hM, hrb, hlen, hBs, hev, hus, hpk, hcell⟩ := hE.mem _ _ _ _ hJ
    letI : Ctx Try.prog := baseCtx Try.prog true
    have hZ : Ctx.Zs Try.prog (Fin Try.prog Post X 0) := fin_zs
    have hb := bkn 19
    rw [← hrb] at s6
    rw [upd_id s6, upd_id s39, upd_id s40, upd_id s41, upd_id s4, upd_id s1]
    clear s6 s39 s40 s41 s4 s1
    have hlt : n < sn := by omega
    refine ZA.seq hZ ?_
    refine ZA.W hZ hb ?_
    refine W.region rfl ?_
    refine L.va (x_lss rfl rfl) ?_
    refine L.nil ?_
    refine T.nrm ?_
    show ZA _ _ _ _ _ _ _
    refine ZA.seq hZ ?_
    refine ZA.condT hZ (rb (decide_eq_true (by omega))) ?_
    refine ZA.skip hZ ?_
    refine ZA.seq hZ ?_
    refine ZA.block hZ ?_
    refine ZA.seq hZ ?_
    refine ZA.W hZ hb ?_
    refine W.region rfl ?_
    refine L.va (x_idx (i := n) rfl rfl Try.underlying26 sz3 hE.ssl hlt) ?_
    refine L.va (x_load (v := .int .i64 (sc n)) rfl Try.underlying3 rfl (hcell n hlt)) ?_
    refine L.va (x_asI rfl) ?_
    refine L.nil ?_
    refine T.nrm ?_
    show ZA _ _ _ _ _ _ _
    refine ZA.seq hZ ?_
    refine ZA.W hZ hb ?_
    refine W.region rfl ?_
    refine L.va (x_mvP rfl) ?_
    refine L.call (x_call1 rfl Try.func36 rfl nm36 rfl) (readies_c R Bs w hM (by omega) (rr n) (hE.rdy n X R w hJ)) ?_
    rintro _ w2 ⟨la, lc, rfl, hO, hbw⟩
    rw [hlen] at hO ⊢
    have hJ := hE.keep n X R w w2 hJ hbw
    clear hM hBs hcell hbw
    clear hev hus hpk
    obtain ⟨hM, _, _, hBs, hev, hus, hpk, hcell⟩ := hE.mem _ _ _ _ hJ
    refine L.va (x_asS rfl) ?_
    refine L.nil ?_
    refine T.nrm ?_
    show ZA _ _ _ _ _ _ _
    refine ZA.seq hZ ?_
    refine ZA.seq hZ ?_
    refine ZA.W hZ hb ?_
    refine W.region rfl ?_
    refine L.va (x_mvS rfl) ?_
    refine L.va (x_len rfl Try.underlying79 rfl) ?_
    refine L.va (x_eql rfl rfl) ?_
    refine L.nil ?_
    refine T.nrm ?_
    show ZA _ _ _ _ _ _ _
    by_cases hnl : (rdl R.cl (rr n) m).length = 0
    · refine ZA.condT hZ (rb (decide_eq_true (by omega))) ?_
      refine ZA.exit hZ rfl ?_
      exact run_tail hE hT hm1 hs1 hJ (.inr (List.eq_nil_of_length_eq_zero hnl)) (by rw [← hrb]; rfl) rfl
    · refine ZA.condF hZ (rb (decide_eq_false (by omega))) ?_
      refine ZA.skip hZ ?_
      refine ZA.seq hZ ?_
      refine ZA.W hZ hb ?_
      refine W.region rfl ?_
      refine L.va (x_mvS rfl) ?_
      refine L.va (x_len rfl Try.underlying79 rfl) ?_
      refine L.va (x_asI rfl) ?_
      refine L.nil ?_
      refine T.nrm ?_
      show ZA _ _ _ _ _ _ _
      have hln : (rdl R.cl (rr n) m).length ≤ 16 := Nat.le_trans (rdl_le m) hm1
      have htb := tmod_bd (sc n) (n := (rdl R.cl (rr n) m).length) (by omega) (by omega)
      have hpl := pickIx_lt (sc n) (n := (rdl R.cl (rr n) m).length) (by omega)
      obtain ⟨i, hi⟩ : ∃ i, (rdl R.cl (rr n) m)[pickIx (sc n) (rdl R.cl (rr n) m).length]? = some i := ⟨_, List.getElem?_eq_getElem hpl⟩
      obtain ⟨c, hc⟩ := rdl_cl hi
      refine ZA.upto hZ hb 11 rfl rfl (R := fun e' w' => ZA _ _ _ _ e' _ w') ?_ (fun _ _ h => h)
      show L _ _ _ _ _ _ _
      refine L.va (x_mvP rfl) ?_
      refine L.va (x_mvS rfl) ?_
      refine L.va (x_mvI rfl) ?_
      refine L.va (x_mvI rfl) ?_
      refine L.va (x_rem rfl rfl (by omega)) ?_
      refine L.va (x_mvI rfl) ?_
      refine L.va (x_addI rfl rfl (by omega)) ?_
      refine L.va (x_mvI rfl) ?_
      refine L.va (v := .int .i64 ((pickIx (sc n) (rdl R.cl (rr n) m).length : Nat) : Int)) (by rw [← mod2 (sc n) (n := (rdl R.cl (rr n) m).length) (by omega)]; exact x_rem rfl rfl (by omega)) ?_
      refine L.va (x_idx (i := pickIx (sc n) (rdl R.cl (rr n) m).length) rfl rfl Try.underlying79 sz50 hO.sl hpl) ?_
      refine L.va (x_load (v := .pointer (some ⟨c.cb, 0, none⟩)) rfl Try.underlying50 rfl (by rw [hO.off, Nat.zero_add, Nat.mul_one]; exact hO.cell (rdl_cell hi hc))) ?_
      refine L.nil ?_
      refine T.nrm ?_
      show ZA _ _ _ _ _ _ _
      obtain ⟨g, z1, me1, hg0, hX0, hdn, hst, hsh, hcl⟩ := hE.pick n X R w2 i c hJ hlt hi hc
      refine ZA.call (i := 11) (rest := []) hZ hb (f := 37) (args := #[.pointer (some ⟨R.rb, 0, none⟩), .pointer (some ⟨c.cb, 0, none⟩)]) rfl rfl (x_call2 rfl rfl Try.func37 rfl nm37 rfl) (fun a ha => ?_)
      refine pick_fin hM.rg hBs hc hev (hpk i c hc) hus hg0 hX0 hdn hst hsh (fun w' a' nn me0 hg hme => hcl w' a' nn me0 hg (fun X' R' u v hJ' => hme _ fin_zs u v fun fr h8 h9 => ?_))
      refine ZA.back (fin_cl Try.prog Post X' 0) (i := 11) rfl rfl ha h9 ?_
      have hZ : Ctx.Zs Try.prog (Fin Try.prog Post X' 0) := fin_zs
      refine ZA.endRegion hZ ?_
      refine ZA.inBlock hZ ?_
      refine ZA.W hZ hb ?_
      refine W.region rfl ?_
      refine L.va (x_inc rfl rfl (by omega)) ?_
      refine L.va (x_mvI rfl) ?_
      refine L.nil ?_
      refine T.nrm ?_
      show ZA _ _ _ _ _ _ _
      refine ZA.inLoop hZ ?_
      exact ih (n + 1) (by omega) X' R' u hJ' _ (by rw [← hrb]; rfl) rfl rfl rfl rfl rfl
end Go.Vy.Sc
end
/- sched.Run, from its call to its return. -/
section
namespace Go.Vy.Sc
open Go Go.Conc Go.Yc Go.RowKit Go.Proofs Go.Proofs.Ytfmoeemolgjodaa
open Go.Vc Go.Wg
attribute [local irreducible] KK
theorem rep_ints (m : Nat) : (Array.replicate (m * 1) (Value.int .i64 0)) = ((List.replicate m (0 : Int)).map (Value.int .i64)).toArray := by
  rw [Nat.mul_one]
  apply Array.toList_inj.1
  simp
theorem rep_stps (m : Nat) : (Array.replicate (m * 3) (Value.int .i64 0)) = ((List.replicate m sp0).flatMap spC).toArray := by
  apply Array.toList_inj.1
  simp only [Array.toList_replicate]
  induction m with
  | zero => rfl
  | succ m ih =>
    rw [List.replicate_succ, List.flatMap_cons, ← ih, Nat.succ_mul, Nat.add_comm (m * 3) 3, ← List.replicate_append_replicate]
    rfl
/-- What lies there when the run begins. -/
structure Begun (w0 w : World) (rb yb eb wb tb m : Nat) : Prop where
  mem : RunM w w0.heap.size (rn0 rb yb eb wb m)
  low : Below w0.heap.size w0 w
  le : w0.heap.size ≤ rb ∧ w0.heap.size ≤ yb ∧ w0.heap.size ≤ eb ∧ w0.heap.size ≤ wb ∧ w0.heap.size ≤ tb
  yb : w.heap[yb]? = some nothing
  tb : BlkF w tb #[.slice none 0 0, .slice none 0 0, .slice none 0 0, .slice none 0 0, .bool false, .int .i64 0] 31 (0, 0)
theorem buZ_0 (x0 : Option Nat) : Try.prog.built 91 [(2, .chan x0)] = some #[.slice none 0 0, .slice none 0 0, .slice none 0 0, .slice none 0 0, .slice none 0 0, .bool false, .int .i64 0, .chan x0, .int .u64 0, .int .u32 0] := by kernel_rfl
set_option maxRecDepth 20000 in
theorem run_fin {ba sa : Option Addr} {m bc sn scp : Nat} {fv : Nat → Value} {sc : Nat → Int} {Post : Value → World → Prop} {cs : List Frame} {X : Gh} {w0 : World} (hm1 : m ≤ 16) (hs1 : sn ≤ 262144) (hU : X.Under w0.heap.size) (hpl : ∀ b, w0.heap.size ≤ b → X.plug b = .all) (hcap : X.cap = 0)
    (hring : ∀ w4 rb yb eb wb tb, Begun w0 w4 rb yb eb wb tb m → ∃ JB J2 JE rr, RunR rb m sn tb ba sa fv sc w0.heap.size Post JB J2 JE rr ∧ RetJ m tb Post cs JE ∧ JB 0 (startX X rb yb 8) (rn0 rb yb eb wb m) w4) :
    Fin Try.prog Post X 0 (G (Frame.enter Try.prog 19 #[.slice ba m bc, .slice sa sn scp] .normal) cs) w0 := by
  letI : Ctx Try.prog := baseCtx Try.prog true
  have hZ : Ctx.Zs Try.prog (Fin Try.prog Post X 0) := fin_zs
  have hb := bkn 19
  rw [enter_at _ Try.func19 rfl]
  refine (?_ : ZA (Fin Try.prog Post X 0) 83 (base 19) cs (Vc.argE #[.slice ba m bc, .slice sa sn scp]) [.code (Try.f19.body.getD .skip)] w0) _ (rep_args _ _ rfl)
  have hb0 : Below w0.heap.size w0 w0 := Below.refl _ _
  refine ZA.seq hZ ?_
  refine ZA.W hZ hb ?_
  refine W.region rfl ?_
  refine L.alloc (cs := #[.slice none 0 0, .slice none 0 0, .slice none 0 0, .slice none 0 0, .bool false, .int .i64 0]) zr31 rfl (fun w b4 F4 => ?_)
  have lt4 : w0.heap.size ≤ b4 := by have h9 := F4.here; have h8 := hb0.size; omega
  have hb0 := cl_step hb0 F4.below
  have hB4 := F4.blk
  refine L.va (x_asI rfl) ?_
  refine L.nil ?_
  refine T.nrm ?_
  show ZA _ _ _ _ _ _ _
  refine ZA.seq hZ ?_
  refine ZA.seq hZ ?_
  refine ZA.W hZ hb ?_
  refine W.region rfl ?_
  refine L.va (x_mvS rfl) ?_
  refine L.va (x_len rfl Try.underlying49 rfl) ?_
  refine L.va (x_gtr rfl rfl) ?_
  refine L.nil ?_
  refine T.nrm ?_
  show ZA _ _ _ _ _ _ _
  refine ZA.condF hZ (rb (decide_eq_false (by omega))) ?_
  refine ZA.skip hZ ?_
  refine ZA.seq hZ ?_
  refine ZA.seq hZ ?_
  refine ZA.W hZ hb ?_
  refine W.region rfl ?_
  refine L.va (x_mvS rfl) ?_
  refine L.va (x_len rfl Try.underlying26 rfl) ?_
  refine L.va (x_gtr rfl rfl) ?_
  refine L.nil ?_
  refine T.nrm ?_
  show ZA _ _ _ _ _ _ _
  refine ZA.condF hZ (rb (decide_eq_false (by omega))) ?_
  refine ZA.skip hZ ?_
  refine ZA.seq hZ ?_
  refine ZA.W hZ hb ?_
  refine W.region rfl ?_
  refine L.makeChan rfl Try.underlying80 ⟨_, sz3⟩ (fun w1 hbw hch hsz1 => ?_)
  obtain ⟨yb, hyb⟩ : ∃ yb, yb = w.heap.size := ⟨_, rfl⟩
  have ltyb : w0.heap.size ≤ yb := by rw [hyb]; exact hb0.size
  rw [← hyb] at hch ⊢
  have hb0 := cl_step hb0 hbw
  have hB4 := hB4.keep hbw
  clear hbw hsz1 hyb
  rename World => w
  refine L.va (x_build (parts := [(2, .tmp 19)]) rfl (buZ_0 (some yb))) ?_
  refine L.box (cs := #[.slice none 0 0, .slice none 0 0, .slice none 0 0, .slice none 0 0, .slice none 0 0, .bool false, .int .i64 0, .chan (some yb), .int .u64 0, .int .u32 0]) rfl rfl (fun w b21 F21 => ?_)
  have lt21 : w0.heap.size ≤ b21 := by have h9 := F21.here; have h8 := hb0.size; omega
  have hb0 := cl_step hb0 F21.below
  have hB4 := hB4.keep F21.below
  have hch := hch.keep F21.below
  have hB21 := F21.blk
  refine L.va (x_asP rfl) ?_
  refine L.nil ?_
  refine T.nrm ?_
  show ZA _ _ _ _ _ _ _
  refine ZA.seq hZ ?_
  refine ZA.W hZ hb ?_
  refine W.region rfl ?_
  refine L.va (x_mvP rfl) ?_
  refine L.va (x_mvS rfl) ?_
  refine L.va (x_len rfl Try.underlying49 rfl) ?_
  refine L.make (m := m) rfl rfl Try.underlying26 in3 (z0 := .int .i64 0) rfl (by decide) (by omega) (by omega) (fun w b25 F25 => ?_)
  have lt25 : w0.heap.size ≤ b25 := by have h9 := F25.here; have h8 := hb0.size; omega
  have hb0 := cl_step hb0 F25.below
  have hB4 := hB4.keep F25.below
  have hch := hch.keep F25.below
  have hB21 := hB21.keep F25.below
  have hB25 := F25.blk
  have hB25 : Blk w b25 (Array.replicate (m * 1) (.int .i64 0)) 3 := hB25
  refine L.va (x_nilCheck rfl) ?_
  refine L.va (x_field rfl Try.underlying91 rfl sz31 (by decide)) ?_
  refine L.va (x_field rfl Try.underlying31 rfl sz26 (by decide)) ?_
  refine L.put (b := b21) (o := 3) (vs := [.slice (some ⟨b25, 0, none⟩) m m]) #[.slice none 0 0, .slice none 0 0, .slice none 0 0, .slice (some ⟨b25, 0, none⟩) m m, .slice none 0 0, .bool false, .int .i64 0, .chan (some yb), .int .u64 0, .int .u32 0] rfl rfl rfl sz26 rfl rfl hB21 (Nat.le_of_ble_eq_true rfl) rfl (fun w hnew hg hsz => ?_)
  have hB4 := hB4.other hg (Blk.ne hB4 hB21 (by decide))
  have hch := hch.grown hg (fun r e => by cases e; exact ⟨_, _, _, blkF_of hB21⟩)
  have hB25 := hB25.other hg (Blk.ne hB25 hB21 (by decide))
  have hb0 := below_gr hb0 hb0.size hg lt21
  have hm0 := True.intro
  have hB21 := hnew
  clear hm0
  refine L.nil ?_
  refine T.nrm ?_
  show ZA _ _ _ _ _ _ _
  refine ZA.seq hZ ?_
  refine ZA.W hZ hb ?_
  refine W.region rfl ?_
  refine L.va (x_mvP rfl) ?_
  refine L.va (x_mvS rfl) ?_
  refine L.va (x_len rfl Try.underlying49 rfl) ?_
  refine L.make (m := m) rfl rfl Try.underlying29 in43 (z0 := .int .i64 0) rfl (by decide) (by omega) (by omega) (fun w b32 F32 => ?_)
  have lt32 : w0.heap.size ≤ b32 := by have h9 := F32.here; have h8 := hb0.size; omega
  have hb0 := cl_step hb0 F32.below
  have hB4 := hB4.keep F32.below
  have hch := hch.keep F32.below
  have hB21 := hB21.keep F32.below
  have hB25 := hB25.keep F32.below
  have hB32 := F32.blk
  have hB32 : Blk w b32 (Array.replicate (m * 3) (.int .i64 0)) 43 := hB32
  refine L.va (x_nilCheck rfl) ?_
  refine L.va (x_field rfl Try.underlying91 rfl sz31 (by decide)) ?_
  refine L.va (x_field rfl Try.underlying31 rfl sz29 (by decide)) ?_
  refine L.put (b := b21) (o := 4) (vs := [.slice (some ⟨b32, 0, none⟩) m m]) #[.slice none 0 0, .slice none 0 0, .slice none 0 0, .slice (some ⟨b25, 0, none⟩) m m, .slice (some ⟨b32, 0, none⟩) m m, .bool false, .int .i64 0, .chan (some yb), .int .u64 0, .int .u32 0] rfl rfl rfl sz29 rfl rfl hB21 (Nat.le_of_ble_eq_true rfl) rfl (fun w hnew hg hsz => ?_)
  have hB4 := hB4.other hg (Blk.ne hB4 hB21 (by decide))
  have hch := hch.grown hg (fun r e => by cases e; exact ⟨_, _, _, blkF_of hB21⟩)
  have hB25 := hB25.other hg (Blk.ne hB25 hB21 (by decide))
  have hB32 := hB32.other hg (Blk.ne hB32 hB21 (by decide))
  have hb0 := below_gr hb0 hb0.size hg lt21
  have hm0 := True.intro
  have hB21 := hnew
  clear hm0
  refine L.nil ?_
  refine T.nrm ?_
  show ZA _ _ _ _ _ _ _
  have hB21 : Blk w b21 (#[.slice none 0 0, .slice none 0 0, .slice none 0 0, .slice (some ⟨b25, 0, none⟩) m m, .slice (some ⟨b32, 0, none⟩) m m, .bool false, .int .i64 0, .chan (some yb)] ++ #[.int .u64 0, .int .u32 0]) 91 := hB21
  have hne : yb ≠ b21 := fun e => by subst e; unfold ChanAt at hch; unfold Blk at hB21; rw [hch] at hB21; cases hB21
  refine ZA.begin hcap (hU.mono lt21) (hU.mono ltyb) (hpl _ lt21) (hpl _ ltyb) hch hB21 (Nat.zero_lt_succ _) rfl ?_
  show ZA (Fin Try.prog Post (startX X b21 yb 8) 0) _ _ _ _ _ (setBlkF (putObj' w yb nothing) b21 _ _ (7, 8))
  have hX : X.Under w0.heap.size := hU
  have hap : ∀ (b : Nat) (cs : Array Value) (T : TypeId), Blk w b cs T → T ≠ 91 → BlkF (setBlkF (putObj' w yb nothing) b21 #[.slice none 0 0, .slice none 0 0, .slice none 0 0, .slice (some ⟨b25, 0, none⟩) m m, .slice (some ⟨b32, 0, none⟩) m m, .bool false, .int .i64 0, .chan (some yb)] 91 (7, 8)) b cs T (0, 0) := fun b cs T h hT => by
    have h1 : b ≠ b21 := Blk.ne h hB21 hT
    have h2 : yb ≠ b := fun e => by subst e; unfold ChanAt at hch; unfold Blk at h; rw [hch] at h; cases h
    unfold BlkF
    rw [setBlkF_other h1, putObj'_ne _ _ h2]
    exact h
  have hbeg : Begun w0 (setBlkF (putObj' w yb nothing) b21 #[.slice none 0 0, .slice none 0 0, .slice none 0 0, .slice (some ⟨b25, 0, none⟩) m m, .slice (some ⟨b32, 0, none⟩) m m, .bool false, .int .i64 0, .chan (some yb)] 91 (7, 8)) b21 yb b25 b32 b4 m := by
    have hsz : b21 < (putObj' w yb nothing).heap.size := by have := hB21.lt; simpa [putObj'] using this
    refine ⟨⟨?_, Own.nil _ _ _ _, Own.nil _ _ _ _, Own.nil _ _ _ _, ?_, ?_, by simp [rn0], by simp [rn0], Nat.zero_le _, fun i c hc => by simp [rn0] at hc⟩, ⟨hb0.os, hb0.tape, hb0.output, by rw [setBlkF_size]; simpa [putObj'] using hb0.size, fun k hk => ?_⟩, ⟨lt21, ltyb, lt25, lt32, lt4⟩, ?_, hap _ _ _ hB4 (by decide)⟩
    · simp [BlkF, setBlkF, hsz, rn0, Rn.cells]
    · have := hap _ _ _ hB25 (by decide); rw [rep_ints] at this; exact this
    · have := hap _ _ _ hB32 (by decide); rw [rep_stps] at this; exact this
    · rw [setBlkF_other (by omega), putObj'_ne _ _ (by omega)]; exact hb0.block k hk
    · rw [setBlkF_other hne]; exact putObj'_same w hch
  obtain ⟨JB, J2, JE, rr, hE, hT, hJ0⟩ := hring _ _ _ _ _ _ hbeg
  generalize setBlkF (putObj' w yb nothing) b21 #[.slice none 0 0, .slice none 0 0, .slice none 0 0, .slice (some ⟨b25, 0, none⟩) m m, .slice (some ⟨b32, 0, none⟩) m m, .bool false, .int .i64 0, .chan (some yb)] 91 (7, 8) = w4 at *
  have hZ : Ctx.Zs Try.prog (Fin Try.prog Post (startX X b21 yb 8) 0) := fin_zs
  refine ZA.seq hZ ?_
  refine ZA.upto hZ hb 2 rfl rfl (R := fun e' w' => ZA _ _ _ _ e' _ w') ?_ (fun _ _ h => h)
  show L _ _ _ _ _ _ _
  refine L.va (x_mvP rfl) ?_
  refine L.va (x_mvS rfl) ?_
  refine L.nil ?_
  refine T.nrm ?_
  show ZA _ _ _ _ _ _ _
  refine ZA.call (i := 2) (rest := []) hZ hb (f := 35) (args := #[.pointer (some ⟨b21, 0, none⟩), .slice ba m bc]) rfl rfl (x_call2 rfl rfl Try.func35 rfl nm35 rfl) (fun a ha => ?_)
  refine beg_fin (hE.beg _ (fun X' R' u hJ' fr h8 h9 => ?_)) (by omega) hJ0
  have hZ : Ctx.Zs Try.prog (Fin Try.prog Post X' 0) := fin_zs
  refine ZA.back (fin_cl Try.prog Post X' 0) (i := 2) rfl rfl ha h9 ?_
  refine ZA.endRegion hZ ?_
  refine ZA.seq hZ ?_
  refine ZA.seq hZ ?_
  refine ZA.W hZ hb ?_
  refine W.region rfl ?_
  refine L.va (x_mvS rfl) ?_
  refine L.va (x_len rfl Try.underlying26 rfl) ?_
  refine L.va (x_mvI rfl) ?_
  refine L.nil ?_
  refine T.nrm ?_
  show ZA _ _ _ _ _ _ _
  refine ZA.block hZ ?_
  refine ZA.loop hZ ?_
  exact run_loop hE hT hm1 (by omega) sn 0 (by omega) X' R' u (hE.b2s _ _ _ hJ') _ rfl rfl rfl rfl rfl rfl
end Go.Vy.Sc
end
/- A run of clients, told without a program; the clients' places among the goroutines. -/
section
namespace Go.Vy.Sc
open Go Go.Conc Go.Yc Go.RowKit Go.Proofs Go.Proofs.Ytfmoeemolgjodaa
open Go.Vc Go.Wg
attribute [local irreducible] KK

/-! ### The run, told without a program -/
structure Sys where
  S : Type
  L : Type
  m : Nat
  s0 : S
  nil : Nat → Bool
  stp : Nat → L → Stp
  rdy : Nat → L → S → Bool
  beg : Nat → S → Out' S L
  go : Nat → L → S → Out' S L
  Inv : S → World → (Nat → Prop) → Prop
  lb : Nat
  pl : Nat → Plug
structure PR (Y : Sys) where
  s : Y.S
  ft : List (Y.L ⊕ Nat)
  evs : List (Nat × Stp)
  nts : List (Nat × Nat × Nte)
  outs : List (Out' Y.S Y.L)
  who : List (Option Nat)
  used : Nat
def tell (i n : Nat) (l : List Nte) : List (Nat × Nat × Nte) := l.map fun k => (n, i, k)
namespace Sys
section
variable (Y : Sys)
def p0 : PR Y := ⟨Y.s0, [], [], [], [], [], 0⟩
def bgn (p : PR Y) : PR Y := if Y.nil p.ft.length then { p with ft := p.ft ++ [.inr 1] } else
  { p with s := (Y.beg p.ft.length p.s).s, ft := p.ft ++ [(Y.beg p.ft.length p.s).fate], nts := p.nts ++ tell p.ft.length p.evs.length (Y.beg p.ft.length p.s).nts, outs := p.outs ++ [Y.beg p.ft.length p.s], who := p.who ++ [none] }
def begs : Nat → PR Y
  | 0 => Y.p0
  | n + 1 => Y.bgn (begs n)
def turn (p : PR Y) (i : Nat) : PR Y := match p.ft[i]? with
  | some (.inl l) => { p with s := (Y.go i l p.s).s, ft := p.ft.set i (Y.go i l p.s).fate, evs := p.evs ++ [(i, Y.stp i l)], nts := p.nts ++ tell i (p.evs.length + 1) (Y.go i l p.s).nts, outs := p.outs ++ [Y.go i l p.s], who := p.who ++ [some i], used := p.used + 1 }
  | _ => p
def isRdy (p : PR Y) (i : Nat) : Bool := match p.ft[i]? with
  | some (.inl l) => Y.rdy i l p.s
  | _ => false
def rds (p : PR Y) : List Nat := (List.range Y.m).filter (Y.isRdy p)
def step (p : PR Y) (e : Int) : PR Y := match (Y.rds p)[pickIx e (Y.rds p).length]? with
  | some i => Y.turn p i
  | none => p
def pn (sc : Nat → Int) : Nat → PR Y
  | 0 => Y.begs Y.m
  | n + 1 => Y.step (pn sc n) (sc n)
def o0 : Out' Y.S Y.L := ⟨Y.s0, [], .inr 0⟩
def outAt (q : PR Y) (t : Nat) : Out' Y.S Y.L := (q.outs[t]?).getD Y.o0
def sAt (q : PR Y) : Nat → Y.S
  | 0 => Y.s0
  | t + 1 => (Y.outAt q t).s
def picks (q : PR Y) (i t : Nat) : Nat := (q.who.take (t + 1)).count (some i)
/-- One state comes before another. -/
structure Le (p q : PR Y) : Prop where
  outs : p.outs <+: q.outs
  who : p.who <+: q.who
theorem Le.refl (p : PR Y) : Y.Le p p := ⟨List.prefix_refl _, List.prefix_refl _⟩
variable {Y}
theorem Le.trans {p q r : PR Y} (h : Y.Le p q) (h' : Y.Le q r) : Y.Le p r := ⟨h.outs.trans h'.outs, h.who.trans h'.who⟩
theorem le_bgn (p : PR Y) : Y.Le p (Y.bgn p) := by
  unfold bgn
  split
  · exact ⟨List.prefix_refl _, List.prefix_refl _⟩
  · exact ⟨List.prefix_append _ _, List.prefix_append _ _⟩
theorem le_turn (p : PR Y) (i : Nat) : Y.Le p (Y.turn p i) := by
  unfold turn
  split
  · exact ⟨List.prefix_append _ _, List.prefix_append _ _⟩
  · exact Le.refl Y p
theorem le_step (p : PR Y) (e : Int) : Y.Le p (Y.step p e) := by
  unfold step
  split
  · exact le_turn p _
  · exact Le.refl Y p
theorem le_begs {n k : Nat} : Y.Le (Y.begs n) (Y.begs (n + k)) := by
  induction k with
  | zero => exact Le.refl Y _
  | succ k ih => exact ih.trans (le_bgn _)
theorem le_pn {sc : Nat → Int} {n k : Nat} : Y.Le (Y.pn sc n) (Y.pn sc (n + k)) := by
  induction k with
  | zero => exact Le.refl Y _
  | succ k ih => exact ih.trans (le_step _ _)
/-- What hangs together in a state. -/
structure Ok (p : PR Y) : Prop where
  s : p.s = Y.sAt p p.outs.length
  who : p.who.length = p.outs.length
  used : p.evs.length = p.used
theorem sAt_le {p q : PR Y} (h : Y.Le p q) {t : Nat} (ht : t ≤ p.outs.length) : Y.sAt q t = Y.sAt p t := by
  cases t with
  | zero => rfl
  | succ t =>
    obtain ⟨l, hl⟩ := h.outs
    show (Y.outAt q t).s = (Y.outAt p t).s
    unfold outAt
    rw [← hl, List.getElem?_append_left (by omega)]
theorem ok_p0 : Ok (Y.p0) := ⟨rfl, rfl, rfl⟩
theorem sAt_app (p : PR Y) (o : Out' Y.S Y.L) {q : PR Y} (hq : q.outs = p.outs ++ [o]) : Y.sAt q (p.outs.length + 1) = o.s := by
  show (Y.outAt q p.outs.length).s = o.s
  unfold outAt
  rw [hq]; simp
theorem Ok.bgn {p : PR Y} (h : Ok p) : Ok (Y.bgn p) := by
  unfold Sys.bgn
  split
  · exact ⟨h.s, h.who, h.used⟩
  · refine ⟨?_, by simp [h.who], h.used⟩
    simp only [List.length_append, List.length_cons, List.length_nil, Nat.zero_add]
    exact (sAt_app p _ rfl).symm
theorem Ok.turn {p : PR Y} (h : Ok p) (i : Nat) : Ok (Y.turn p i) := by
  unfold Sys.turn
  split
  · refine ⟨?_, by simp [h.who], by simp [h.used]⟩
    simp only [List.length_append, List.length_cons, List.length_nil, Nat.zero_add]
    exact (sAt_app p _ rfl).symm
  · exact h
theorem Ok.step {p : PR Y} (h : Ok p) (e : Int) : Ok (Y.step p e) := by
  unfold Sys.step
  split
  · exact h.turn _
  · exact h
theorem ok_begs : ∀ n, Ok (Y.begs n)
  | 0 => ok_p0
  | n + 1 => (ok_begs n).bgn
theorem ok_pn (sc : Nat → Int) : ∀ n, Ok (Y.pn sc n)
  | 0 => ok_begs _
  | n + 1 => (ok_pn sc n).step _
theorem s_at {p q : PR Y} (h : Ok p) (hl : Y.Le p q) : Y.sAt q p.outs.length = p.s := by rw [sAt_le hl (Nat.le_refl _), h.s]
theorem out_at {p q : PR Y} {o : Out' Y.S Y.L} {p' : PR Y} (hp : p'.outs = p.outs ++ [o]) (hl : Y.Le p' q) : Y.outAt q p.outs.length = o := by
  obtain ⟨l, hl⟩ := hl.outs
  unfold outAt
  rw [← hl, hp, List.append_assoc, List.getElem?_append_right (Nat.le_refl _)]; simp
theorem len_begs : ∀ n, (Y.begs n).ft.length = n
  | 0 => rfl
  | n + 1 => by
    show (Y.bgn (Y.begs n)).ft.length = n + 1
    unfold bgn
    split <;> simp [len_begs n]
theorem len_turn (p : PR Y) (i : Nat) : (Y.turn p i).ft.length = p.ft.length := by
  unfold turn
  split <;> simp
theorem len_step (p : PR Y) (e : Int) : (Y.step p e).ft.length = p.ft.length := by
  unfold step
  split
  · exact len_turn p _
  · rfl
theorem len_pn (sc : Nat → Int) : ∀ n, (Y.pn sc n).ft.length = Y.m
  | 0 => len_begs _
  | n + 1 => (len_step _ _).trans (len_pn sc n)
end
end Sys
/-- A client of the run. -/
noncomputable def Sys.cfg (Y : Sys) (fb : Nat → FuncId) (q : PR Y) (w0 : World) (i cb : Nat) (top : List Frame) : Cfg Try.prog where
  S := Y.S
  L := Y.L
  stp := Y.stp i
  rdy := Y.rdy i
  go := Y.go i
  out := Y.outAt q
  sOf := Y.sAt q
  picks := Y.picks q i
  Inv := Y.Inv
  num := i
  ptr := cb
  base := w0
  fStep := 18
  fNote := 29
  fNumber := 24
  fPicks := 25
  fBody := fb i
  top := top

/-! ### Places -/
structure Geo where
  gi : Nat → Nat
  ab : Nat → Nat
  eb : Nat → Nat
  top : Nat → List Frame
  pv : Nat → Nat → Prop
section
variable (Y : Sys) (fb : Nat → FuncId) (q : PR Y) (w0 : World) (Γ : Geo) (X : Gh) (R : Rn) (w : World)
/-- What is asked of a client that waits. -/
structure Wt (j : Nat) (c : CB) (l : Y.L) : Prop where
  wt : c.wt = true
  st : c.st = false
  sp : c.sp = Y.stp j l
  he : BlkF w (Γ.eb j) #[.bool false] 4 (0, 0)
  node : ∃ (me : Goroutine) (cs : List Frame) (wn : World) (Fn : Nat → Prop) (Rdo : World → World → Prop), X.seat (Γ.gi j) = some ⟨c.rc, .bool false, me⟩ ∧ StepMe cs c.cb c.df me ∧ (Y.cfg fb q w0 j c.cb (Γ.top j)).ReadyOk wn Fn c.rf l ∧ FnV Try.prog c.df ∧
    (∀ b, Γ.pv j b ↔ b < wn.heap.size ∧ wn.heap[b]? ≠ some nothing ∧ ¬ Fn b) ∧ (∀ b, Γ.pv j b → w.heap[b]? = wn.heap[b]?) ∧ wn.os = w0.os ∧ wn.output = w0.output ∧ wn.heap.size ≤ w.heap.size ∧
    (∀ u F', (Y.cfg fb q w0 j c.cb (Γ.top j)).Goes wn Fn l u F' → DoOk Try.prog c.df u (Rdo u)) ∧
    (∀ u F' u2, (Y.cfg fb q w0 j c.cb (Γ.top j)).Goes wn Fn l u F' → Rdo u u2 → u2.tape = u.tape → ∀ fr, fr.fn = 18 → Leaves Try.prog fr u2 (.returned (.tuple #[])) → Proc (Y.cfg fb q w0 j c.cb (Γ.top j)) (G fr cs) u2) ∧
    (∀ u F', (Y.cfg fb q w0 j c.cb (Γ.top j)).Later wn Fn u F' → gh u 2 = 1 → ∀ fr ch, fr.fn = 18 → Raised ch → Leaves Try.prog fr u (.panicked ch) → Proc (Y.cfg fb q w0 j c.cb (Γ.top j)) (G fr cs) u)
/-- A client's goroutine, whatever it is at. -/
structure Ck (j : Nat) (c : CB) : Prop where
  top : TopOk (Γ.top j) (Γ.ab j) (Γ.eb j) R.rb c.cb
  ha : BlkF w (Γ.ab j) #[.pointer (some ⟨c.cb, 0, none⟩)] 50 (0, 0)
  he : ∃ en, BlkF w (Γ.eb j) #[.bool en] 4 (0, 0)
  gpos : 0 < Γ.gi j ∧ Γ.gi j < X.n
  stay : X.stay (Γ.gi j) = [(⟨c.cb, 2, none⟩, .chan (some c.rc))]
  ch : X.chs c.rc
def Cl1 (j : Nat) (c : CB) (f : Y.L ⊕ Nat) : Prop :=
  (Y.nil j = true ∧ f = .inr 1 ∧ c.wt = false ∧ R.ends[j]? = some 1) ∨ (Y.nil j = false ∧ match f with
    | .inl l => Wt Y fb q w0 Γ X w j c l
    | .inr x => c.wt = false ∧ R.ends[j]? = some (x : Int) ∧ X.seat (Γ.gi j) = none)
variable (Mn : Nat → Option Obj)
/-- What may be left out of the world: nothing that was there at the law's beginning. -/
structure BaseOk : Prop where
  le : Y.lb ≤ w0.heap.size
  low : ∀ b, X.low b → Y.lb ≤ b
  pl : X.plug = Y.pl
/-- What is held of the run, of its clients and of the goroutines; hold: the client that holds the token. -/
structure Fix (hold : Option Nat) (ft : Nat → Option (Y.L ⊕ Nat)) : Prop where
  mem : RunM w w0.heap.size R
  m : R.m = Y.m
  cl : ∀ j c, R.cl[j]? = some c → some j ≠ hold → ∃ f, ft j = some f ∧ Cl1 Y fb q w0 Γ X R w j c f
  ck : ∀ j c, R.cl[j]? = some c → Y.nil j = false → Ck Γ X R w j c
  fpB : ∀ b, R.fp b → w0.heap.size ≤ b
  side : ∀ j, j < R.cl.length → Y.nil j = false → w0.heap.size ≤ Γ.ab j ∧ w0.heap.size ≤ Γ.eb j ∧ ¬ R.fp (Γ.ab j) ∧ ¬ R.fp (Γ.eb j)
  pv : ∀ j b, Γ.pv j b → b < w.heap.size ∧ ¬ R.fp b ∧ ¬ Mn b ≠ none ∧ (∀ k, k < R.cl.length → Y.nil k = false → b ≠ Γ.ab k ∧ b ≠ Γ.eb k) ∧ ∀ k, k ≠ j → ¬ Γ.pv k b
  mn : ∀ b, Mn b ≠ none → w.heap[b]? = Mn b ∧ ¬ R.fp b ∧ ∀ k, k < R.cl.length → Y.nil k = false → b ≠ Γ.ab k ∧ b ≠ Γ.eb k
  npos : 0 < X.n
  os : hold = none → w.os = w0.os
  output : hold = none → w.output = w0.output
  size : w0.heap.size ≤ w.heap.size
  grp : X.grp = some ⟨R.rb, 8⟩
  stay0 : X.stay 0 = [(⟨R.rb, 7, none⟩, .chan (some R.yb))]
  chy : X.chs R.yb
  seats : ∀ g s, g ≠ 0 → X.seat g = some s → ∃ j c, R.cl[j]? = some c ∧ Y.nil j = false ∧ g = Γ.gi j ∧ s.ch = c.rc ∧ some j ≠ hold
  ginj : ∀ j k, j < R.cl.length → k < R.cl.length → Y.nil j = false → Y.nil k = false → Γ.gi j = Γ.gi k → j = k
  ebinj : ∀ j k, j < R.cl.length → k < R.cl.length → Y.nil j = false → Y.nil k = false → Γ.eb j = Γ.eb k → j = k
  rinj : ∀ j k c d, R.cl[j]? = some c → R.cl[k]? = some d → Y.nil j = false → Y.nil k = false → c.rc = d.rc → j = k
  ry : ∀ j c, R.cl[j]? = some c → Y.nil j = false → c.rc ≠ R.yb
  dn : X.dn = 0
  pend : X.pend = 0
  cap : X.cap ≤ R.cl.length
  under : X.Under w.heap.size
  plug : ∀ b, w.heap.size ≤ b → X.plug b = .all
  seat0 : hold = none → X.seat 0 = none
  base : BaseOk Y w0 X
end
section
variable {Y : Sys} {fb : Nat → FuncId} {q : PR Y} {Γ Γ' : Geo} {X X' : Gh} {R R' : Rn} {w w' : World} {Mn : Nat → Option Obj} {w0 : World} {hold hold' : Option Nat} {ft ft' : Nat → Option (Y.L ⊕ Nat)}
/-- What others lean on. -/
def Kept (Y : Sys) (Γ : Geo) (R : Rn) (Mn : Nat → Option Obj) (b : Nat) : Prop := Mn b ≠ none ∨ (∃ k, k < R.cl.length ∧ Y.nil k = false ∧ (b = Γ.ab k ∨ b = Γ.eb k)) ∨ ∃ j, Γ.pv j b
theorem Wt.turn {j : Nat} {c : CB} {l : Y.L} (h : Wt Y fb q w0 Γ X w j c l) (hb : ∀ b, Γ.pv j b → w'.heap[b]? = w.heap[b]?) (hsz : w.heap.size ≤ w'.heap.size) (hs : X'.seat (Γ.gi j) = X.seat (Γ.gi j)) (he : w'.heap[Γ.eb j]? = w.heap[Γ.eb j]?) (hge : Γ'.eb j = Γ.eb j) (hg : Γ'.gi j = Γ.gi j) (ht : Γ'.top j = Γ.top j) (hp : Γ'.pv j = Γ.pv j) : Wt Y fb q w0 Γ' X' w' j c l := by
  obtain ⟨h1, h2, h3, h4, me, cs, wn, Fn, Rdo, a1, a2, a3, a4, a5, a6, a7, a8, a9, a10, a11, a12⟩ := h
  refine ⟨h1, h2, h3, by rw [hge]; exact he.trans h4, me, cs, wn, Fn, Rdo, ?_⟩
  rw [hg, ht, hp, hs]
  exact ⟨a1, a2, a3, a4, a5, fun b hb' => (hb b hb').trans (a6 b hb'), a7, a8, Nat.le_trans a9 hsz, a10, a11, a12⟩
theorem Cl1.turn {j : Nat} {c : CB} {f : Y.L ⊕ Nat} (h : Cl1 Y fb q w0 Γ X R w j c f) (hb : ∀ b, Γ.pv j b → w'.heap[b]? = w.heap[b]?) (hsz : w.heap.size ≤ w'.heap.size) (hs : Y.nil j = false → X'.seat (Γ.gi j) = X.seat (Γ.gi j)) (heb : Y.nil j = false → w'.heap[Γ.eb j]? = w.heap[Γ.eb j]?) (hge : Γ'.eb j = Γ.eb j) (hg : Γ'.gi j = Γ.gi j) (ht : Γ'.top j = Γ.top j) (hp : Γ'.pv j = Γ.pv j) (he : R'.ends[j]? = R.ends[j]?) : Cl1 Y fb q w0 Γ' X' R' w' j c f := by
  rcases h with ⟨h1, h2, h3, h4⟩ | ⟨h1, h2⟩
  · exact .inl ⟨h1, h2, h3, by rw [he]; exact h4⟩
  · refine .inr ⟨h1, ?_⟩
    cases f with
    | inl l => exact Wt.turn h2 hb hsz (hs h1) (heb h1) hge hg ht hp
    | inr x => exact ⟨h2.1, by rw [he]; exact h2.2.1, by rw [hg, hs h1]; exact h2.2.2⟩
/-- The memory turns, and of the run's what is the holder's. -/
theorem Fix.turn (h : Fix Y fb q w0 Γ X R w Mn hold ft) (hM : RunM w' w0.heap.size R') (hrb : R'.rb = R.rb) (hyb : R'.yb = R.yb) (hm : R'.m = R.m) (hfp : ∀ b, R'.fp b → R.fp b ∨ w.heap.size ≤ b) (hlen : R'.cl.length = R.cl.length)
    (hcl : ∀ j c', R'.cl[j]? = some c' → ∃ c, R.cl[j]? = some c ∧ c'.cb = c.cb ∧ c'.rc = c.rc ∧ (some j ≠ hold → c' = c ∧ R'.ends[j]? = R.ends[j]?)) (hsz : w.heap.size ≤ w'.heap.size) (hkeep : ∀ b, b < w.heap.size → ¬ R.fp b → Kept Y Γ R Mn b → w'.heap[b]? = w.heap[b]? ∨ ∃ i en, hold = some i ∧ i < R.cl.length ∧ Y.nil i = false ∧ b = Γ.eb i ∧ BlkF w' b #[.bool en] 4 (0, 0)) (hos : hold = none → w'.os = w.os ∧ w'.output = w.output) :
    Fix Y fb q w0 Γ X R' w' Mn hold ft := by
  have lt : ∀ j c', R'.cl[j]? = some c' → j < R.cl.length := fun j c' hc => by rw [← hlen]; exact (List.getElem?_eq_some_iff.1 hc).1
  have hpv : ∀ j b, Γ.pv j b → w'.heap[b]? = w.heap[b]? := fun j b hb => by
    have hp := h.pv j b hb
    rcases hkeep b hp.1 hp.2.1 (.inr (.inr ⟨j, hb⟩)) with z | ⟨i, en, _, z1, z2, z3, _⟩
    · exact z
    · exact absurd z3 (hp.2.2.2.1 i z1 z2).2
  have heb : ∀ j, j < R.cl.length → Y.nil j = false → w'.heap[Γ.eb j]? = w.heap[Γ.eb j]? ∨ (hold = some j ∧ ∃ en, BlkF w' (Γ.eb j) #[.bool en] 4 (0, 0)) := fun j hj hn => by
    obtain ⟨en, he⟩ := (h.ck j _ (List.getElem?_eq_getElem hj) hn).he
    rcases hkeep _ he.lt (h.side j hj hn).2.2.2 (.inr (.inl ⟨j, hj, hn, .inr rfl⟩)) with z | ⟨i, en, z0, z1, z2, z3, z4⟩
    · exact .inl z
    · obtain rfl := h.ebinj j i hj z1 hn z2 z3
      exact .inr ⟨z0, en, z4⟩
  have hebo : ∀ j, j < R.cl.length → Y.nil j = false → some j ≠ hold → w'.heap[Γ.eb j]? = w.heap[Γ.eb j]? := fun j hj hn hh => by
    rcases heb j hj hn with z | ⟨z, _⟩
    · exact z
    · exact absurd z.symm hh
  refine ⟨hM, hm.trans h.m, fun j c' hc hj => ?_, fun j c' hc hn => ?_, fun b hb => ?_, fun j hj hn => ?_, fun j b hb => ?_, fun b hb => ?_, h.npos, fun z => (hos z).1.trans (h.os z), fun z => (hos z).2.trans (h.output z), Nat.le_trans h.size hsz, by rw [hrb]; exact h.grp, by rw [hrb, hyb]; exact h.stay0, by rw [hyb]; exact h.chy, fun g s hg hs => ?_, by rw [hlen]; exact h.ginj, by rw [hlen]; exact h.ebinj, fun j k c d hc hd hn hk e => ?_, fun j c' hc hn => ?_, h.dn, h.pend, by rw [hlen]; exact h.cap, h.under.mono hsz, fun b hb => h.plug b (Nat.le_trans hsz hb), h.seat0, h.base⟩
  · obtain ⟨c, hc0, _, _, h4⟩ := hcl j c' hc
    obtain ⟨rfl, h5⟩ := h4 hj
    obtain ⟨f, hf, h6⟩ := h.cl j c' hc0 hj
    exact ⟨f, hf, h6.turn (fun b hb => hpv j b hb) hsz (fun _ => rfl) (fun hn => hebo j (lt j c' hc) hn hj) rfl rfl rfl rfl h5⟩
  · obtain ⟨c, hc0, hcb, hrc, _⟩ := hcl j c' hc
    have hk := h.ck j c hc0 hn
    have hs := h.side j (lt j c' hc) hn
    refine ⟨by rw [hrb, hcb]; exact hk.top, ?_, ?_, hk.gpos, by rw [hcb, hrc]; exact hk.stay, by rw [hrc]; exact hk.ch⟩
    · rw [hcb]
      rcases hkeep _ hk.ha.lt hs.2.2.1 (.inr (.inl ⟨j, lt j c' hc, hn, .inl rfl⟩)) with z | ⟨i, en, _, z1, z2, z3, _⟩
      · exact z.trans hk.ha
      · obtain ⟨en', he'⟩ := (h.ck i _ (List.getElem?_eq_getElem z1) z2).he
        exact absurd z3 (BlkF.ne hk.ha he' (by decide))
    · rcases heb j (lt j c' hc) hn with z | ⟨_, z⟩
      · obtain ⟨en', he'⟩ := hk.he
        exact ⟨en', z.trans he'⟩
      · exact z
  · rcases hfp b hb with z | z
    · exact h.fpB b z
    · exact Nat.le_trans h.size z
  · rw [hlen] at hj
    have hs := h.side j hj hn
    obtain ⟨c, hc⟩ : ∃ c, R.cl[j]? = some c := ⟨_, List.getElem?_eq_getElem hj⟩
    have hk := h.ck j c hc hn
    exact ⟨hs.1, hs.2.1, fun z => by rcases hfp _ z with y | y; exact hs.2.2.1 y; have := hk.ha.lt; omega, fun z => by rcases hfp _ z with y | y; exact hs.2.2.2 y; have := hk.he.choose_spec.lt; omega⟩
  · have hp := h.pv j b hb
    exact ⟨Nat.lt_of_lt_of_le hp.1 hsz, fun z => by rcases hfp _ z with y | y; exact hp.2.1 y; have := hp.1; omega, hp.2.2.1, by rw [hlen]; exact hp.2.2.2.1, hp.2.2.2.2⟩
  · have hm' := h.mn b hb
    have hlt : b < w.heap.size := by
      rcases Nat.lt_or_ge b w.heap.size with z | z
      · exact z
      · exact absurd (hm'.1.symm.trans (Array.getElem?_eq_none z)) hb
    refine ⟨?_, fun z => by rcases hfp b z with y | y; exact hm'.2.1 y; omega, by rw [hlen]; exact hm'.2.2⟩
    rcases hkeep b hlt hm'.2.1 (.inl hb) with z | ⟨i, en, _, z1, z2, z3, _⟩
    · exact z.trans hm'.1
    · exact absurd z3 (hm'.2.2 i z1 z2).2
  · obtain ⟨j, c, h1, h2, h3, h4, h5⟩ := h.seats g s hg hs
    have hj : j < R'.cl.length := by rw [hlen]; exact (List.getElem?_eq_some_iff.1 h1).1
    obtain ⟨c', hc'⟩ : ∃ c', R'.cl[j]? = some c' := ⟨_, List.getElem?_eq_getElem hj⟩
    obtain ⟨c2, e1, _, e3, _⟩ := hcl j c' hc'
    rw [h1] at e1
    obtain rfl := Option.some.inj e1
    exact ⟨j, c', hc', h2, h3, by rw [e3]; exact h4, h5⟩
  · obtain ⟨c2, e1, _, e3, _⟩ := hcl j c hc
    obtain ⟨d2, f1, _, f3, _⟩ := hcl k d hd
    exact h.rinj j k c2 d2 e1 f1 hn hk (by rw [← e3, ← f3]; exact e)
  · obtain ⟨c2, e1, _, e3, _⟩ := hcl j c' hc
    rw [e3, hyb]; exact h.ry j c2 e1 hn
end
end Go.Vy.Sc
end
/- A client that runs: from its being let go to its next stop. -/
section
namespace Go.Vy.Sc
open Go Go.Conc Go.Yc Go.RowKit Go.Proofs Go.Proofs.Ytfmoeemolgjodaa
open Go.Vc Go.Wg
attribute [local irreducible] KK
/-- What is asked of what clients share. -/
structure SysOk (Y : Sys) : Prop where
  loc : ∀ s (w w' : World) F, Y.Inv s w F → (∀ b, F b → w'.heap[b]? = w.heap[b]?) → Y.Inv s w' F
  vis : ∀ s (w : World) F, Y.Inv s w F → ∀ b, F b → b < w.heap.size ∧ w.heap[b]? ≠ some nothing
section
variable {Y : Sys} {fb : Nat → FuncId} {q : PR Y} {Γ : Geo} {X : Gh} {R : Rn} {w : World} {Mn : Nat → Option Obj} {w0 : World} {ft : Nat → Option (Y.L ⊕ Nat)} {i : Nat}
theorem pass_seat {h j : Nat} {sh : Option Seat1} {g : Nat} (h1 : g ≠ h) (h2 : g ≠ j) : (X.pass h j sh).seat g = X.seat g := by
  show Go.ConcN.upd (Go.ConcN.upd X.seat j none) h sh g = _
  rw [Go.ConcN.upd_ne _ _ h1, Go.ConcN.upd_ne _ _ h2]
theorem pass_seat_h {h j : Nat} {sh : Option Seat1} : (X.pass h j sh).seat h = sh := Go.ConcN.upd_same _ _ _
theorem pass_seat_j {h j : Nat} {sh : Option Seat1} (hj : j ≠ h) : (X.pass h j sh).seat j = none := by
  show Go.ConcN.upd (Go.ConcN.upd X.seat j none) h sh j = _
  rw [Go.ConcN.upd_ne _ _ hj, Go.ConcN.upd_same]
def Geo.put (Γ : Geo) (i : Nat) (N : Nat → Prop) : Geo := { Γ with pv := fun j b => if j = i then N b else Γ.pv j b }
theorem put_ne {N : Nat → Prop} {j : Nat} (h : j ≠ i) : (Γ.put i N).pv j = Γ.pv j := by funext b; simp [Geo.put, h]
/-- The token goes back to goroutine 0. -/
theorem Fix.back (h : Fix Y fb q w0 Γ X R w Mn (some i) ft) (hn : Y.nil i = false) {c : CB} (hc : R.cl[i]? = some c) {N : Nat → Prop} (hN : ∀ b, N b → b < w.heap.size ∧ ¬ R.fp b ∧ ¬ Kept Y Γ R Mn b) {sh : Option Seat1} (hsh : ∀ s, sh = some s → s.ch = c.rc) {f : Y.L ⊕ Nat}
    (hf : Cl1 Y fb q w0 (Γ.put i N) (X.pass (Γ.gi i) 0 sh) R w i c f) (hos : w.os = w0.os ∧ w.output = w0.output) : Fix Y fb q w0 (Γ.put i N) (X.pass (Γ.gi i) 0 sh) R w Mn none (fun j => if j = i then some f else ft j) := by
  have hi := (List.getElem?_eq_some_iff.1 hc).1
  have hg := (h.ck i c hc hn).gpos
  have hg0 : Γ.gi i ≠ 0 := by omega
  refine ⟨h.mem, h.m, fun j c' hc' _ => ?_, fun j c' hc' hn' => ?_, h.fpB, h.side, fun j b hb => ?_, h.mn, h.npos, fun _ => hos.1, fun _ => hos.2, h.size, h.grp, h.stay0, h.chy, fun g s hg' hs => ?_, h.ginj, h.ebinj, h.rinj, h.ry, h.dn, h.pend, h.cap, ⟨h.under.stay, h.under.hid, h.under.chs, h.under.grp, h.under.low⟩, h.plug, fun _ => pass_seat_j hg0.symm, ⟨h.base.le, h.base.low, h.base.pl⟩⟩
  · by_cases hj : j = i
    · subst hj
      rw [hc] at hc'; obtain rfl := Option.some.inj hc'
      exact ⟨f, by simp, hf⟩
    · obtain ⟨f', h1, h2⟩ := h.cl j c' hc' (by simpa using hj)
      have hjl := (List.getElem?_eq_some_iff.1 hc').1
      refine ⟨f', by simp [hj, h1], h2.turn (fun _ _ => rfl) (Nat.le_refl _) (fun hnj => pass_seat (fun e => hj (h.ginj j i hjl hi hnj hn e)) ?_) (fun _ => rfl) rfl rfl rfl (put_ne hj) rfl⟩
      have := (h.ck j c' hc' hnj).gpos; omega
  · have := h.ck j c' hc' hn'
    exact ⟨this.top, this.ha, this.he, this.gpos, this.stay, this.ch⟩
  · by_cases hj : j = i
    · subst hj
      have hb' : N b := by simpa [Geo.put] using hb
      obtain ⟨h1, h2, h3⟩ := hN b hb'
      refine ⟨h1, h2, fun z => h3 (.inl z), fun k hk hnk => ⟨fun e => h3 (.inr (.inl ⟨k, hk, hnk, .inl e⟩)), fun e => h3 (.inr (.inl ⟨k, hk, hnk, .inr e⟩))⟩, fun k hk hp => ?_⟩
      rw [put_ne hk] at hp
      exact h3 (.inr (.inr ⟨k, hp⟩))
    · rw [put_ne hj] at hb
      obtain ⟨h1, h2, h3, h4, h5⟩ := h.pv j b hb
      refine ⟨h1, h2, h3, h4, fun k hk hp => ?_⟩
      by_cases hki : k = i
      · subst hki
        have hb' : N b := by simpa [Geo.put] using hp
        exact (hN b hb').2.2 (.inr (.inr ⟨j, hb⟩))
      · rw [put_ne hki] at hp
        exact h5 k hk hp
  · by_cases hgi : g = Γ.gi i
    · subst hgi
      rw [pass_seat_h] at hs
      exact ⟨i, c, hc, hn, rfl, hsh s hs, by simp⟩
    · rw [pass_seat hgi hg'] at hs
      obtain ⟨j, c', h1, h2, h3, h4, _⟩ := h.seats g s hg' hs
      exact ⟨j, c', h1, h2, h3, h4, by simp⟩
/-- The token goes to a client. -/
theorem Fix.away (h : Fix Y fb q w0 Γ X R w Mn none ft) (hn : Y.nil i = false) {c : CB} (hc : R.cl[i]? = some c) {s0 : Seat1} : Fix Y fb q w0 (Γ.put i fun _ => False) (X.pass 0 (Γ.gi i) (some s0)) R w Mn (some i) ft := by
  have hi := (List.getElem?_eq_some_iff.1 hc).1
  have hg := (h.ck i c hc hn).gpos
  have hg0 : Γ.gi i ≠ 0 := by omega
  refine ⟨h.mem, h.m, fun j c' hc' hj' => ?_, fun j c' hc' hn' => ?_, h.fpB, h.side, fun j b hb => ?_, h.mn, h.npos, fun z => by simp at z, fun z => by simp at z, h.size, h.grp, h.stay0, h.chy, fun g s hg' hs => ?_, h.ginj, h.ebinj, h.rinj, h.ry, h.dn, h.pend, h.cap, ⟨h.under.stay, h.under.hid, h.under.chs, h.under.grp, h.under.low⟩, h.plug, (fun z => by simp at z), ⟨h.base.le, h.base.low, h.base.pl⟩⟩
  · have hj : j ≠ i := by simpa using hj'
    obtain ⟨f', h1, h2⟩ := h.cl j c' hc' (by simp)
    have hjl := (List.getElem?_eq_some_iff.1 hc').1
    refine ⟨f', h1, h2.turn (fun _ _ => rfl) (Nat.le_refl _) (fun hnj => pass_seat ?_ (fun e => hj (h.ginj j i hjl hi hnj hn e))) (fun _ => rfl) rfl rfl rfl (put_ne hj) rfl⟩
    have := (h.ck j c' hc' hnj).gpos; omega
  · have := h.ck j c' hc' hn'
    exact ⟨this.top, this.ha, this.he, this.gpos, this.stay, this.ch⟩
  · by_cases hj : j = i
    · subst hj
      simp [Geo.put] at hb
    · rw [put_ne hj] at hb
      obtain ⟨h1, h2, h3, h4, h5⟩ := h.pv j b hb
      refine ⟨h1, h2, h3, h4, fun k hk hp => ?_⟩
      by_cases hki : k = i
      · subst hki
        simp [Geo.put] at hp
      · rw [put_ne hki] at hp
        exact h5 k hk hp
  · by_cases hgi : g = Γ.gi i
    · subst hgi
      rw [pass_seat_j hg0] at hs
      cases hs
    · rw [pass_seat hg' hgi] at hs
      obtain ⟨j, c', h1, h2, h3, h4, _⟩ := h.seats g s hg' hs
      refine ⟨j, c', h1, h2, h3, h4, ?_⟩
      intro e
      obtain rfl : j = i := by simpa using e
      exact hgi h3
/-- What is held where goroutine 0 goes on. -/
structure Main (Y : Sys) (fb : Nat → FuncId) (q : PR Y) (w0 : World) (Γ : Geo) (X : Gh) (R : Rn) (w : World) (Mn : Nat → Option Obj) (ft : Nat → Option (Y.L ⊕ Nat)) (s : Y.S) : Prop where
  fix : Fix Y fb q w0 Γ X R w Mn none ft
  inv : ∃ F, Y.Inv s w F ∧ ∀ b, F b → ¬ R.fp b ∧ ¬ Kept Y Γ R Mn b
/-- How a client has ended. -/
def endsOf {L : Type} (e : List Int) (i : Nat) : L ⊕ Nat → List Int
  | .inl _ => e
  | .inr x => e.set i (x : Int)
/-- How the run has turned while client i ran. -/
def Rel (R0 R' : Rn) (i : Nat) (nts : List (Nat × Nat × Nte)) (ends : List Int) : Prop := ∃ na nc c c', R0.cl[i]? = some c ∧ c'.picks = c.picks ∧ R' = { R0 with na := na, nc := nc, nts := nts, cl := R0.cl.set i c', ends := ends }
/-- Client i runs. -/
structure Run1 (Y : Sys) (fb : Nat → FuncId) (q : PR Y) (w0 : World) (Γ : Geo) (X : Gh) (Mn : Nat → Option Obj) (ft : Nat → Option (Y.L ⊕ Nat)) (i t at_ cb : Nat) (n0 : List (Nat × Nat × Nte)) (R0 R : Rn) (H : Hid) (v : World) : Prop where
  fix : Fix Y fb q w0 Γ X R (over H v) Mn (some i) ft
  hid : HidOk H v
  no : ∀ b o, H b = some o → v.heap[b]? = some nothing
  all : ∀ b, (R.fp b ∨ Kept Y Γ R Mn b) → H b ≠ none
  tq : gh v 0 = t
  atq : R.evs.length = at_
  cl : ∃ c, R.cl[i]? = some c ∧ c.cb = cb ∧ ((gh v 2 = 0 ∧ c.st = false ∧ R.nts = n0 ++ tell i at_ ((Y.outAt q t).nts.take (gh v 1)) ∧ c.picks = Y.picks q i t) ∨ (gh v 2 = 1 ∧ c.st = true ∧ R.nts = n0))
  rel : ∃ na nc nts, R = { R0 with na := na, nc := nc, nts := nts }
  nil : Y.nil i = false
  he : BlkF (over H v) (Γ.eb i) #[.bool false] 4 (0, 0)
theorem Run1.il {Y : Sys} {fb : Nat → FuncId} {q : PR Y} {w0 : World} {Γ : Geo} {X : Gh} {Mn : Nat → Option Obj} {ft : Nat → Option (Y.L ⊕ Nat)} {i t at_ cb : Nat} {n0 : List (Nat × Nat × Nte)} {R0 R : Rn} {H : Hid} {v : World} (h : Run1 Y fb q w0 Γ X Mn ft i t at_ cb n0 R0 R H v) : i < R.cl.length := by
  obtain ⟨c, hc, _⟩ := h.cl
  exact (List.getElem?_eq_some_iff.1 hc).1
theorem over_eq {H : Hid} {v : World} {b : Nat} {o : Obj} (hid : HidOk H v) (h : H b = some o) : (over H v).heap[b]? = some o := over_hit h (hid.gone b o h).lt
theorem evo_nothing {v v' : World} (he : Evo v v') {b : Nat} (h : v.heap[b]? = some nothing) : v'.heap[b]? = some nothing := by
  obtain ⟨y, hy, hk⟩ := he.obj _ _ h
  obtain ⟨c, rfl, h1, _⟩ := keeps_cells hk
  have : c = #[] := by simpa using h1
  subst this
  exact hy
theorem Run1.evo {Y : Sys} {fb : Nat → FuncId} {q : PR Y} {w0 : World} {Γ : Geo} {X : Gh} {Mn : Nat → Option Obj} {ft : Nat → Option (Y.L ⊕ Nat)} {i t at_ cb : Nat} {n0 : List (Nat × Nat × Nte)} {R0 R : Rn} {H : Hid} {v v' : World} (h : Run1 Y fb q w0 Γ X Mn ft i t at_ cb n0 R0 R H v) (he : Evo v v') (ht : v'.tape = v.tape) : Run1 Y fb q w0 Γ X Mn ft i t at_ cb n0 R0 R H v' := by
  have hid' := h.hid.evo he
  have hk : ∀ b, (R.fp b ∨ Kept Y Γ R Mn b) → (over H v').heap[b]? = (over H v).heap[b]? := fun b hb => by
    cases hh : H b with
    | none => exact absurd hh (h.all b hb)
    | some o => rw [over_eq hid' hh, over_eq h.hid hh]
  refine ⟨h.fix.turn (h.fix.mem.congr fun b hb => hk b (.inl hb)) rfl rfl rfl (fun b hb => .inl hb) rfl (fun j c hc => ⟨c, hc, rfl, rfl, fun _ => ⟨rfl, rfl⟩⟩) (by rw [over_size, over_size]; exact he.size) (fun b _ _ hb => .inl (hk b (.inr hb))) (fun z => by cases z), hid', fun b o hb => evo_nothing he (h.no b o hb), h.all, by rw [gh_tape ht]; exact h.tq, h.atq, ?_, h.rel, h.nil, (hk _ (.inr (.inr (.inl ⟨i, h.il, h.nil, .inr rfl⟩)))).trans h.he⟩
  rw [gh_tape ht, gh_tape ht]
  exact h.cl
end
end Go.Vy.Sc
end
/- A client that runs comes to its next stop, and goroutine 0 goes on. -/
section
namespace Go.Vy.Sc
open Go Go.Conc Go.Yc Go.RowKit Go.Proofs Go.Proofs.Ytfmoeemolgjodaa
open Go.Vc Go.Wg
attribute [local irreducible] KK
theorem Fix.onT {Y : Sys} {fb : Nat → FuncId} {q : PR Y} {Γ : Geo} {X : Gh} {R : Rn} {w : World} {Mn : Nat → Option Obj} {w0 : World} {ft : Nat → Option (Y.L ⊕ Nat)} {hold : Option Nat} (h : Fix Y fb q w0 Γ X R w Mn hold ft) (τ : Tape) (d : Nat) : Fix Y fb q w0 Γ X R (Yc.onT w τ d) Mn hold ft :=
  h.turn (h.mem.congr fun _ _ => rfl) rfl rfl rfl (fun _b hb => .inl hb) rfl (fun _j c hc => ⟨c, hc, rfl, rfl, fun _ => ⟨rfl, rfl⟩⟩) (Nat.le_refl _) (fun _ _ _ _ => .inl rfl) (fun _ => ⟨rfl, rfl⟩)
theorem fnV_cells {v : Value} (h : FnV Try.prog v) : v.cells = #[v] ∧ v.oneCell' = true := by
  rcases h with rfl | ⟨f, caps, rfl, _⟩ <;> exact ⟨rfl, rfl⟩
theorem Cfg.ReadyOk.fnV {K : Cfg Try.prog} {w : World} {F : Nat → Prop} {rf : Value} {l : K.L} (h : K.ReadyOk w F rf l) : FnV Try.prog rf := by
  rcases h with ⟨h, _⟩ | ⟨f, caps, h, _⟩
  · exact .inl h
  · exact .inr ⟨f, caps, h⟩
theorem leaves_move {fr : Frame} {w w' : World} {v : Value} {fn : Func} (hf : Try.prog.funcs[fr.fn]? = some fn) (hr : fn.results = #[] ∨ ∃ t, fn.results = #[.tmp t]) (hv : fn.results = #[] → v = .tuple #[]) (h : Leaves Try.prog fr w (.returned v)) (hnv : NoView w) : Leaves Try.prog fr w' (.returned v) := by
  obtain ⟨h1, h2, h3, fn', h4, h5⟩ := h
  rw [hf] at h4
  obtain rfl := Option.some.inj h4
  refine ⟨h1, h2, h3, fn, hf, ?_⟩
  rcases hr with hr | ⟨t, hr⟩
  · rw [hv hr]
    exact resDoes_pure (fun w => results_none hr _ _ w) (fun w => events_results_none hr _ _)
  · obtain ⟨x', es, h6, _⟩ := h5 w.tape w.drawn _ w hnv.sim
    have h7 := results_tmp hr fr.tmps Try.prog w
    rw [Sem.runT_eq] at h6
    have h8 := (Prod.mk.inj h6).1
    rw [h7] at h8
    injection h8 with h9 h10
    rw [← h9]
    exact resDoes_pure (fun w => results_tmp hr _ _ w) (fun w => events_results_tmp hr _ _)
section
variable {Y : Sys} {fb : Nat → FuncId} {q : PR Y} {Γ : Geo} {X : Gh} {R R0 : Rn} {w : World} {Mn : Nat → Option Obj} {w0 : World} {ft : Nat → Option (Y.L ⊕ Nat)} {i t at_ cb : Nat} {n0 : List (Nat × Nat × Nte)}
theorem Fix.kept_lt (h : Fix Y fb q w0 Γ X R w Mn (some i) ft) {b : Nat} (hb : R.fp b ∨ Kept Y Γ R Mn b) : b < w.heap.size := by
  rcases hb with hb | hb | ⟨k, hk, hn, hb⟩ | ⟨j, hb⟩
  · exact h.mem.lt hb
  · rcases Nat.lt_or_ge b w.heap.size with z | z
    · exact z
    · exact absurd ((h.mn b hb).1.symm.trans (Array.getElem?_eq_none z)) hb
  · have := h.ck k _ (List.getElem?_eq_getElem hk) hn
    rcases hb with rfl | rfl
    · exact this.ha.lt
    · exact this.he.choose_spec.lt
  · exact (h.pv j b hb).1
/-- A client's view of the world. -/
theorem Run1.enter (V : Nat → Prop) [DecidablePred V] {τ : Tape} {d : Nat} (fix : Fix Y fb q w0 Γ X R w Mn (some i) ft) (hV : ∀ b, (R.fp b ∨ Kept Y Γ R Mn b) → ¬ V b) (nv : NoView w) (h1 : gh (Yc.onT (seeOf V w) τ d) 0 = t) (h2 : R.evs.length = at_)
    (h3 : ∃ c, R.cl[i]? = some c ∧ c.cb = cb ∧ ((gh (Yc.onT (seeOf V w) τ d) 2 = 0 ∧ c.st = false ∧ R.nts = n0 ++ tell i at_ ((Y.outAt q t).nts.take (gh (Yc.onT (seeOf V w) τ d) 1)) ∧ c.picks = Y.picks q i t) ∨ (gh (Yc.onT (seeOf V w) τ d) 2 = 1 ∧ c.st = true ∧ R.nts = n0)))
    (h4 : ∃ na nc nts, R = { R0 with na := na, nc := nc, nts := nts }) (hn : Y.nil i = false) (he : BlkF w (Γ.eb i) #[.bool false] 4 (0, 0)) : Run1 Y fb q w0 Γ X Mn ft i t at_ cb n0 R0 R (hidOf V w) (Yc.onT (seeOf V w) τ d) := by
  refine ⟨?_, (hidOf_ok nv).onT τ d, fun b o hb => ?_, fun b hb => ?_, h1, h2, h3, h4, hn, ?_⟩
  · rw [over_onT, over_see]; exact fix.onT τ d
  · by_cases hv : V b
    · simp [hidOf, hv] at hb
    · simp only [hidOf, hv, if_false] at hb
      exact seeOf_miss hv (Array.getElem?_eq_some_iff.1 hb).1
  · have hv := hV b hb
    have hlt := fix.kept_lt hb
    simp only [hidOf, hv, if_false]
    rw [Array.getElem?_eq_getElem hlt]; simp
  · rw [over_onT, over_see]; exact he
/-- What goroutine 0 is left when client i hands the token back. -/
def After (Y : Sys) (fb : Nat → FuncId) (q : PR Y) (w0 : World) (Mn : Nat → Option Obj) (ft : Nat → Option (Y.L ⊕ Nat)) (i t : Nat) (n0 : List (Nat × Nat × Nte)) (R0 : Rn) (st : Bool) (Γ' : Geo) (X' : Gh) (R' : Rn) (w' : World) : Prop :=
  (st = false ∧ Main Y fb q w0 Γ' X' R' w' Mn (fun j => if j = i then some (Y.outAt q t).fate else ft j) (Y.outAt q t).s ∧ Rel R0 R' i (n0 ++ tell i R0.evs.length (Y.outAt q t).nts) (endsOf R0.ends i (Y.outAt q t).fate)) ∨
  (st = true ∧ Main Y fb q w0 Γ' X' R' w' Mn (fun j => if j = i then some (.inr 0) else ft j) (Y.sAt q t) ∧ Rel R0 R' i n0 (R0.ends.set i 0))
theorem Run1.sees {H : Hid} {v : World} (h : Run1 Y fb q w0 Γ X Mn ft i t at_ cb n0 R0 R H v) {b : Nat} (hb : v.heap[b]? ≠ some nothing) : H b = none ∧ ¬ R.fp b ∧ ¬ Kept Y Γ R Mn b := by
  have hn : H b = none := by
    cases hh : H b with
    | none => rfl
    | some o => exact absurd (h.no b o hh) hb
  exact ⟨hn, fun z => h.all b (.inl z) hn, fun z => h.all b (.inr z) hn⟩
theorem Run1.chs {H : Hid} {v : World} (h : Run1 Y fb q w0 Γ X Mn ft i t at_ cb n0 R0 R H v) (hn : Y.nil i = false) {c : CB} (hc : R.cl[i]? = some c) : ∀ g s2, g ≠ 0 → X.seat g = some s2 → s2.ch ≠ c.rc := by
  intro g s2 hg hs e
  obtain ⟨j, d, h1, h2, h3, h4, h5⟩ := h.fix.seats g s2 hg hs
  have := h.fix.rinj j i d c h1 hc h2 hn (h4.symm.trans e)
  subst this
  exact h5 rfl
/-- Client i hands the token back: what is held then. -/
theorem Run1.home (hY : SysOk Y) {H : Hid} {v w' : World} (h : Run1 Y fb q w0 Γ X Mn ft i t at_ cb n0 R0 R H v) (hn : Y.nil i = false) {c c' : CB} {ends : List Int} {S : Nat → Prop} {B : Nat} (hc : R.cl[i]? = some c) (hc'b : c'.cb = c.cb) (hc'r : c'.rc = c.rc) (_hc'p : c'.picks = c.picks) (hg : Rg S B (over H v) w' w0.heap.size { R with cl := R.cl.set i c', ends := ends }) (hB : B = (over H v).heap.size) (hS : ∀ k, S k → R.fp k ∨ (k = Γ.eb i)) (hheb : ∃ en, BlkF w' (Γ.eb i) #[.bool en] 4 (0, 0)) (hends : ∀ j, j ≠ i → ends[j]? = R.ends[j]?)
    (F : Nat → Prop) {s : Y.S} (hinv : Y.Inv s v F) (hos : v.os = w0.os ∧ v.output = w0.output) {sh : Option Seat1} (hsh : ∀ s, sh = some s → s.ch = c'.rc) {f : Y.L ⊕ Nat} {N : Nat → Prop} (hN : ∀ b, N b → v.heap[b]? ≠ some nothing ∧ b < v.heap.size ∧ ¬ F b) (hf : (∀ b, v.heap[b]? ≠ some nothing → b < v.heap.size → w'.heap[b]? = v.heap[b]?) → Cl1 Y fb q w0 (Γ.put i N) (X.pass (Γ.gi i) 0 sh) { R with cl := R.cl.set i c', ends := ends } w' i c' f) :
    Main Y fb q w0 (Γ.put i N) (X.pass (Γ.gi i) 0 sh) { R with cl := R.cl.set i c', ends := ends } w' Mn (fun j => if j = i then some f else ft j) s ∧ (∃ na nc, { R with cl := R.cl.set i c', ends := ends } = { R0 with na := na, nc := nc, nts := R.nts, cl := R0.cl.set i c', ends := ends }) := by
  subst hB
  have hil := (List.getElem?_eq_some_iff.1 hc).1
  have hsame : ∀ b, b < (over H v).heap.size → ¬ R.fp b → b ≠ Γ.eb i → w'.heap[b]? = (over H v).heap[b]? := fun b hb hf he => hg.md.block b hb fun hs => (hS b hs).elim hf he
  have hvis : ∀ b, v.heap[b]? ≠ some nothing → b < v.heap.size → w'.heap[b]? = v.heap[b]? := fun b hb hlt => by
    obtain ⟨h1, h2, h3⟩ := h.sees hb
    rw [hsame b (by rw [over_size]; exact hlt) h2 (fun e => h3 (.inr (.inl ⟨i, hil, hn, .inr e⟩))), over_miss v h1]
  have hfp : ∀ b, Rn.fp { R with cl := R.cl.set i c', ends := ends } b → R.fp b := fun b hb => Rn.fp_setC (R := R) hc hc'b hb
  have hK : ∀ b, Kept Y Γ { R with cl := R.cl.set i c', ends := ends } Mn b ↔ Kept Y Γ R Mn b := fun b => by simp [Kept]
  have hturn := h.fix.turn (R' := { R with cl := R.cl.set i c', ends := ends }) (w' := w') hg.m rfl rfl rfl (fun b hb => .inl (hfp b hb)) (by simp) (fun j d hd => by
    have hd' : (R.cl.set i c')[j]? = some d := hd
    rw [List.getElem?_set] at hd'
    by_cases hj : i = j
    · subst hj
      rw [if_pos rfl, if_pos hil] at hd'
      obtain rfl := Option.some.inj hd'
      exact ⟨c, hc, hc'b, hc'r, fun z => absurd rfl z⟩
    · rw [if_neg hj] at hd'
      exact ⟨d, hd', rfl, rfl, fun _ => ⟨rfl, hends j (Ne.symm hj)⟩⟩) hg.md.size (fun b hb hf _ => by
      by_cases he : b = Γ.eb i
      · subst he
        obtain ⟨en, he⟩ := hheb
        exact .inr ⟨i, en, rfl, hil, hn, rfl, he⟩
      · exact .inl (hsame b hb hf he)) (fun z => by cases z)
  have hc' : Rn.cl { R with cl := R.cl.set i c', ends := ends } = R.cl.set i c' := rfl
  have hci : (Rn.cl { R with cl := R.cl.set i c', ends := ends })[i]? = some c' := by rw [hc']; simp [hil]
  have hback := hturn.back hn hci (N := N) (fun b hb => by
    obtain ⟨h1, h2, h3⟩ := hN b hb
    obtain ⟨h4, h5, h6⟩ := h.sees h1
    refine ⟨Nat.lt_of_lt_of_le h2 (by have := hg.md.size; rw [over_size] at this; exact this), fun z => h5 (hfp b z), fun z => h6 ((hK b).1 z)⟩) hsh (hf hvis) ⟨hg.md.os.trans hos.1, hg.md.output.trans hos.2⟩
  refine ⟨⟨hback, F, hY.loc _ v w' F hinv fun b hb => ?_, fun b hb => ?_⟩, ?_⟩
  · have := hY.vis _ v F hinv b hb
    exact hvis b this.2 this.1
  · have hv := hY.vis _ v F hinv b hb
    obtain ⟨h4, h5, h6⟩ := h.sees hv.2
    refine ⟨fun z => h5 (hfp b z), fun z => ?_⟩
    rcases z with z | z | ⟨j, z⟩
    · exact h6 (.inl z)
    · exact h6 ((hK b).1 (.inr (.inl z)))
    · by_cases hj : j = i
      · subst hj
        have : N b := by simpa [Geo.put] using z
        exact (hN b this).2.2 hb
      · rw [put_ne hj] at z
        exact h6 (.inr (.inr ⟨j, z⟩))
  · obtain ⟨na, nc, nts, rfl⟩ := h.rel
    exact ⟨na, nc, rfl⟩
end
end Go.Vy.Sc
end
/- A client that runs, whole: it comes to its next stop, and goroutine 0 goes on. -/
section
namespace Go.Vy.Sc
open Go Go.Conc Go.Yc Go.RowKit Go.Proofs Go.Proofs.Ytfmoeemolgjodaa
open Go.Vc Go.Wg
attribute [local irreducible] KK
section
variable {Y : Sys} {fb : Nat → FuncId} {q : PR Y} {Γ : Geo} {X : Gh} {R R0 : Rn} {w : World} {Mn : Nat → Option Obj} {w0 : World} {ft : Nat → Option (Y.L ⊕ Nat)} {i t at_ cb : Nat} {n0 : List (Nat × Nat × Nte)} {H : Hid} {v : World}
theorem Run1.gpos (h : Run1 Y fb q w0 Γ X Mn ft i t at_ cb n0 R0 R H v) : 0 < Γ.gi i := (h.fix.ck i _ (List.getElem?_eq_getElem h.il) h.nil).gpos.1
theorem Run1.notfp (h : Run1 Y fb q w0 Γ X Mn ft i t at_ cb n0 R0 R H v) {b : Nat} (hb : H b = none) : ¬ R.fp b ∧ ¬ Kept Y Γ R Mn b := ⟨fun z => h.all b (.inl z) hb, fun z => h.all b (.inr z) hb⟩
/-- What turned is the run's alone: it is told anew. -/
theorem Run1.again (h : Run1 Y fb q w0 Γ X Mn ft i t at_ cb n0 R0 R H v) {w' : World} {R' : Rn} {τ : Tape} {d : Nat} (hg : Rg R.fp (over H v).heap.size (over H v) w' w0.heap.size R') (V : Nat → Prop) [DecidablePred V] (hV : ∀ b, V b ↔ (H b = none ∧ ¬ R'.fp b)) (nv : NoView w') (hR : ∃ na nc nts, R' = { R with na := na, nc := nc, nts := nts })
    (h1 : gh (Yc.onT (seeOf V w') τ d) 0 = t) (h3 : ∃ c, R'.cl[i]? = some c ∧ c.cb = cb ∧ ((gh (Yc.onT (seeOf V w') τ d) 2 = 0 ∧ c.st = false ∧ R'.nts = n0 ++ tell i at_ ((Y.outAt q t).nts.take (gh (Yc.onT (seeOf V w') τ d) 1)) ∧ c.picks = Y.picks q i t) ∨ (gh (Yc.onT (seeOf V w') τ d) 2 = 1 ∧ c.st = true ∧ R'.nts = n0))) :
    Run1 Y fb q w0 Γ X Mn ft i t at_ cb n0 R0 R' (hidOf V w') (Yc.onT (seeOf V w') τ d) ∧ Grow v (Yc.onT (seeOf V w') τ d) := by
  obtain ⟨na, nc, nts, rfl⟩ := hR
  have hkb : ∀ b, b < (over H v).heap.size → ¬ R.fp b → w'.heap[b]? = (over H v).heap[b]? := fun b hb hf => hg.md.block b hb hf
  have hfix := h.fix.turn (R' := { R with na := na, nc := nc, nts := nts }) (w' := w') hg.m rfl rfl rfl hg.fp rfl (fun j c hc => ⟨c, hc, rfl, rfl, fun _ => ⟨rfl, rfl⟩⟩) hg.md.size (fun b hb hf _ => .inl (hkb b hb hf)) (fun z => by cases z)
  have heL := h.he.lt
  have heF : ¬ R.fp (Γ.eb i) := (h.fix.side i h.il h.nil).2.2.2
  refine ⟨Run1.enter V hfix (fun b hb hv => ?_) nv h1 h.atq h3 ?_ h.nil ((hkb _ heL heF).trans h.he), ⟨?_, ?_, ?_, fun b hb => ?_⟩⟩
  · obtain ⟨h4, h5⟩ := (hV b).1 hv
    rcases hb with hb | hb
    · exact h5 hb
    · exact h.all b (.inr hb) h4
  · obtain ⟨a, c, n, e⟩ := h.rel
    exact ⟨na, nc, nts, by rw [e]⟩
  · exact hg.md.os
  · exact hg.md.output
  · show v.heap.size ≤ (seeOf V w').heap.size
    rw [seeOf_size, ← over_size H v]; exact hg.md.size
  · show (seeOf V w').heap[b]? = v.heap[b]?
    have hb' : b < (over H v).heap.size := by rw [over_size]; exact hb
    cases hh : H b with
    | none =>
      have hf := h.notfp hh
      have hf' : ¬ Rn.fp { R with na := na, nc := nc, nts := nts } b := fun z => (hg.fp b z).elim hf.1 (Nat.not_le_of_lt hb')
      rw [seeOf_hit _ ((hV b).2 ⟨hh, hf'⟩), hkb b hb' hf.1, over_miss v hh]
    | some o =>
      rw [seeOf_miss (fun z => by rw [((hV b).1 z).1] at hh; cases hh) (Nat.lt_of_lt_of_le hb' hg.md.size), h.no b o hh]
/-- A client runs on. -/
theorem client_fin {Post : Value → World → Prop} {z0 : Value} {me0 : Goroutine} {st : Bool} (hY : SysOk Y) (hX0 : X.seat 0 = some ⟨R0.yb, z0, me0⟩) (hnt : n0.length + (Y.outAt q t).nts.length ≤ 1000000000)
    (hmain : ∀ Γ' X' R' w', After Y fb q w0 Mn ft i t n0 R0 st Γ' X' R' w' → Fin Try.prog Post X' 0 (Go.Conc.served me0 (.int .i64 (i : Int))) w') {g : Goroutine} {v : World} (hp : Proc (Y.cfg fb q w0 i cb (Γ.top i)) g v) :
    ∀ H R, Run1 Y fb q w0 Γ X Mn ft i t at_ cb n0 R0 R H v → (∀ c, R.cl[i]? = some c → c.st = st) → FinH Try.prog Post X (Γ.gi i) H g v := by
  induction hp with
  | own hr g' u' d' hf hk ih =>
    intro H R h hst
    have hg0 : (Γ.gi i == 0) = false := by have := h.gpos; simp; omega
    refine finH_own hr fun τ d => ⟨g' τ d, u' τ d, by rw [hg0]; exact hf τ d, fun he => finH_onT (ih τ d H R (h.evo ⟨he.size, he.obj⟩ rfl) hst)⟩
  | ign h0 ih =>
    intro H R h hst
    exact finH_zs.2 _ _ fun hv => ih hv H R h hst
  | @number cs v k ih =>
    intro H R h hst hH
    obtain ⟨c, hc, hcb, _⟩ := h.cl
    have hB := h.fix.mem.blk i c hc
    refine fin_ign _ _ fun nv => ?_
    subst hcb
    refine @number_c (baseCtx Try.prog (Γ.gi i == 0)) R.rb i c (over H v) hB _ fin_zs cs fun e w' fr he hf hl => ?_
    cases e with
    | returned x =>
      obtain ⟨rfl, rfl⟩ := he
      refine ih fr hf (leaves_move (by rw [hf]; exact Try.func24) (.inr ⟨_, rfl⟩) (fun z => by cases z) hl nv) H R h hst hH
    | panicked ch => exact he.elim
    | outgrown => exact he.elim
  | @picks cs v h2 k ih =>
    intro H R h hst hH
    obtain ⟨c, hc, hcb, hcl⟩ := h.cl
    have hB := h.fix.mem.blk i c hc
    have hpk : c.picks = Y.picks q i t := by
      rcases hcl with hcl | hcl
      · exact hcl.2.2.2
      · have := hcl.1; omega
    have htq := h.tq
    refine fin_ign _ _ fun nv => ?_
    subst hcb
    refine @picks_c (baseCtx Try.prog (Γ.gi i == 0)) R.rb i c (over H v) hB _ fin_zs cs fun e w' fr he hf hl => ?_
    cases e with
    | returned x =>
      obtain ⟨rfl, rfl⟩ := he
      refine ih fr hf (leaves_move (by rw [hf]; exact Try.func25) (.inr ⟨_, rfl⟩) (fun z => by cases z) ?_ nv) H R h hst hH
      have : (Y.cfg fb q w0 i c.cb (Γ.top i)).picks (gh v 0) = c.picks := by rw [htq, hpk]; rfl
      rw [this]; exact hl
    | panicked ch => exact he.elim
    | outgrown => exact he.elim
  | @again cs v s rf df h2 hs k ih =>
    intro H R h hst hH
    obtain ⟨c, hc, hcb, hcl⟩ := h.cl
    have hB := h.fix.mem.blk i c hc
    have hst' : c.st = true ∧ R.nts = n0 := by
      rcases hcl with hcl | hcl
      · have := hcl.1; omega
      · exact hcl.2
    have hg0 : (Γ.gi i == 0) = false := by have := h.gpos; simp; omega
    obtain ⟨s0, rfl⟩ := hs
    subst hcb
    refine step_again (Z := Fin Try.prog Post X (Γ.gi i)) (by have := @fin_zs Try.prog Post X (Γ.gi i); rw [hg0] at this; exact this) hB hst'.1 fun w' fr ch hb hf hr hl => ?_
    refine fin_ign _ _ fun nv => ?_
    haveI : DecidablePred fun b => H b = none ∧ ¬ R.fp b := fun _ => Classical.propDecidable _
    have hg : Rg R.fp (over H v).heap.size (over H v) w' w0.heap.size R := h.fix.mem.rg.keep hb
    have htp : w'.tape = v.tape := hb.tape
    obtain ⟨h5, h6⟩ := h.again (τ := w'.tape) (d := w'.drawn) hg (fun b => H b = none ∧ ¬ R.fp b) (fun _ => Iff.rfl) nv ⟨R.na, R.nc, R.nts, rfl⟩ ((gh_tape htp 0).trans h.tq) ⟨c, hc, rfl, .inr ⟨(gh_tape htp 2).trans h2, hst'⟩⟩
    exact fin_see (fun b => H b = none ∧ ¬ R.fp b) (ih _ fr ch h6 htp hf hr hl _ R h5 hst)
  | @note cs v kind text h2 hx k ih =>
    intro H R h hst hH
    obtain ⟨c, hc, hcb, hcl⟩ := h.cl
    have htq := h.tq
    have hcl' : c.st = false ∧ R.nts = n0 ++ tell i at_ ((Y.outAt q t).nts.take (gh v 1)) ∧ c.picks = Y.picks q i t := by
      rcases hcl with hcl | hcl
      · exact hcl.2
      · have := hcl.1; omega
    have hx' : (Y.outAt q t).nts[gh v 1]? = some ⟨kind, text⟩ := by rw [← htq]; exact hx
    have hlt := (List.getElem?_eq_some_iff.1 hx').1
    have hle : w0.heap.size ≤ (over H v).heap.size := h.fix.size
    subst hcb
    refine @note_c (baseCtx Try.prog (Γ.gi i == 0)) R.fp (over H v).heap.size (over H v) w0.heap.size R (over H v) h.fix.mem.rg hle i c hc hcl'.1 (by
      rw [hcl'.2.1]; simp [tell]; omega) kind text _ fin_zs cs fun e w' fr he hf hl => ?_
    cases e with
    | returned x =>
      obtain ⟨rfl, a, n, hg⟩ := he
      refine fin_ign _ _ fun nv => ?_
      haveI : DecidablePred fun b => H b = none ∧ ¬ Rn.fp { R with na := a, nc := n, nts := R.nts ++ [(R.evs.length, i, ⟨kind, text⟩)] } b := fun _ => Classical.propDecidable _
      have htp : w'.tape = v.tape := hg.md.tape
      have hg1 : ∀ U : World, gh (Yc.onT U (setGh w' 1 (gh v 1 + 1)).tape w'.drawn) 1 = gh v 1 + 1 := fun U => gh_set w' 1 _
      have hgn : ∀ (U : World) (j : Nat), j ≠ 1 → gh (Yc.onT U (setGh w' 1 (gh v 1 + 1)).tape w'.drawn) j = gh v j := fun U j hj => (gh_set_ne w' _ hj).trans (gh_tape htp j)
      obtain ⟨h5, h6⟩ := h.again (τ := (setGh w' 1 (gh v 1 + 1)).tape) (d := w'.drawn) hg (fun b => H b = none ∧ ¬ Rn.fp { R with na := a, nc := n, nts := R.nts ++ [(R.evs.length, i, ⟨kind, text⟩)] } b) (fun _ => Iff.rfl) nv ⟨a, n, _, rfl⟩ ((hgn _ 0 (by decide)).trans h.tq)
        ⟨c, hc, rfl, .inl ⟨(hgn _ 2 (by decide)).trans h2, hcl'.1, by
          rw [hg1, hcl'.2.1, h.atq, List.take_add_one, hx']; simp [tell], hcl'.2.2⟩⟩
      refine fin_see (fun b => H b = none ∧ ¬ Rn.fp { R with na := a, nc := n, nts := R.nts ++ [(R.evs.length, i, ⟨kind, text⟩)] } b) (finH_onT (ih _ fr h6 (hgn _ 0 (by decide)) (hg1 _) ((hgn _ 2 (by decide)).trans h2) hf (leaves_move (by rw [hf]; exact Try.func29) (.inl rfl) (fun _ => rfl) hl nv) _ _ h5 hst))
    | panicked ch => exact he.elim
    | outgrown => exact he.elim
  | @step cs v s rf df l F ht hs hr hdf Rdo hdo go stop ihg ihs =>
    intro H R h hst hH
    obtain ⟨c, hc, hcb, hcl⟩ := h.cl
    have htq := h.tq
    have hn := h.nil
    have h2 : gh v 2 = 0 := ht.on
    have hcl' : c.st = false ∧ R.nts = n0 ++ tell i at_ ((Y.outAt q t).nts.take (gh v 1)) ∧ c.picks = Y.picks q i t := by
      rcases hcl with hcl | hcl
      · exact hcl.2
      · have := hcl.1; omega
    have hfate : (Y.outAt q t).fate = .inl l := by rw [← htq]; exact ht.fate
    have hnts : gh v 1 = (Y.outAt q t).nts.length := by rw [← htq]; exact ht.nts
    have hinv : Y.Inv (Y.outAt q t).s v F := by rw [← htq]; exact ht.inv
    have hck := h.fix.ck i c hc hn
    have hil := h.il
    obtain ⟨na, nc, nts, hrel⟩ := h.rel
    have hyb : R.yb = R0.yb := by rw [hrel]
    have hR0 : R0.cl = R.cl := by rw [hrel]
    have hev0 : R0.evs = R.evs := by rw [hrel]
    subst hcb hs
    refine step_fin (Bs := w0.heap.size) h.fix.mem.rg hc hcl'.1 (fnV_cells (Cfg.ReadyOk.fnV hr)) (fnV_cells hdf) (by have := h.gpos; omega) (by rw [hyb]; exact hX0) h.fix.dn hck.stay ⟨hck.ch, h.chs hn hc⟩ fun w' me hg hme => ?_
    have hef := (h.fix.side i hil hn).2.2.2
    have heb : BlkF w' (Γ.eb i) #[.bool false] 4 (0, 0) := (hg.md.block _ h.he.lt hef).trans h.he
    obtain ⟨h7, h8⟩ := h.home hY hn (c' := { c with sp := Y.stp i l, rf := rf, df := df, wt := true }) (ends := R.ends) hc rfl rfl rfl hg rfl (fun k hk => .inl hk) ⟨_, heb⟩ (fun _ _ => rfl) F hinv ⟨ht.os, ht.output⟩ (sh := some ⟨c.rc, .bool false, me⟩) (fun s e => by cases e; rfl) (f := .inl l)
      (N := fun b => b < v.heap.size ∧ v.heap[b]? ≠ some nothing ∧ ¬ F b) (fun b hb => ⟨hb.2.1, hb.1, hb.2.2⟩) (fun hvis => .inr ⟨hn, rfl, hcl'.1, rfl, heb, me, cs, v, F, Rdo, pass_seat_h, hme, hr, hdf, fun b => by simp [Geo.put], fun b hb => by
        have hb' : b < v.heap.size ∧ v.heap[b]? ≠ some nothing ∧ ¬ F b := by simpa [Geo.put] using hb
        exact hvis b hb'.2.1 hb'.1, ht.os, ht.output, by have := hg.md.size; rw [over_size] at this; exact this, hdo, go, stop⟩)
    rw [← hfate] at h7
    obtain ⟨a, b, e⟩ := h8
    refine hmain _ _ _ _ (.inl ⟨(hst c hc).symm.trans hcl'.1, h7, a, b, c, { c with sp := Y.stp i l, rf := rf, df := df, wt := true }, by rw [hR0]; exact hc, rfl, e.trans ?_⟩)
    · rw [hfate, show endsOf R0.ends i (Sum.inl l : Y.L ⊕ Nat) = R.ends from by rw [hrel]; rfl, hcl'.2.1, hnts, List.take_length, hev0, h.atq]
  | @done fr v e F hf hl hd =>
    intro H R h hst hH
    obtain ⟨c, hc, hcb, hcl⟩ := h.cl
    have htq := h.tq
    have hn := h.nil
    have hck := h.fix.ck i c hc hn
    have hil := h.il
    obtain ⟨na, nc, nts, hrel⟩ := h.rel
    have hyb : R.yb = R0.yb := by rw [hrel]
    have hR0 : R0.cl = R.cl := by rw [hrel]
    have hev0 : R0.evs = R.evs := by rw [hrel]
    have hsd := h.fix.side i hil hn
    have hlen : R.ends.length = R.m := h.fix.mem.lend
    have him : i < R.ends.length := by have := h.fix.mem.lcl; omega
    have key : ∀ x : Nat, EndX c (x : Int) e → ((st = false ∧ (Y.outAt q t).fate = .inr x ∧ gh v 1 = (Y.outAt q t).nts.length ∧ Y.Inv (Y.outAt q t).s v F) ∨ (st = true ∧ x = 0 ∧ Y.Inv (Y.sAt q t) v F)) → v.os = w0.os → v.output = w0.output → Fin Try.prog Post X (Γ.gi i) (G fr (Γ.top i)) (over H v) := by
      intro x hx hk hos hout
      have hg : Rg (fun b => R.fp b ∨ b = Γ.eb i) (over H v).heap.size (over H v) (over H v) w0.heap.size R := ⟨h.fix.mem, ModS.refl _ _ _, fun k hk => .inl (.inl hk), Nat.le_refl _⟩
      refine hck.top.leave (x : Int) hg rfl hc rfl hck.ha h.he (.inl (.inr rfl)) hx h.gpos (by rw [hyb]; exact hX0) h.fix.dn h.fix.grp (fun w' hg' heb => ?_) (leaves_over hH hl)
      have hends : ∀ j, j ≠ i → (R.ends.set i (x : Int))[j]? = R.ends[j]? := fun j hj => by rw [List.getElem?_set_ne (Ne.symm hj)]
      have hmk : ∀ s, Y.Inv s v F → _ := fun s hs => h.home hY hn (c' := { c with wt := false }) (ends := R.ends.set i (x : Int)) hc rfl rfl rfl hg' rfl (fun k hk => hk) heb hends F hs ⟨hos, hout⟩ (sh := none) (fun s e => by cases e) (f := .inr x) (N := fun _ => False) (fun b hb => hb.elim) (fun hvis => .inr ⟨hn, rfl, by simp [him], pass_seat_h⟩)
      rcases hk with ⟨h1, h2, h3, h4⟩ | ⟨h1, h2, h3⟩
      · have hst' : c.st = false := (hst c hc).trans h1
        have hcl' : R.nts = n0 ++ tell i at_ ((Y.outAt q t).nts.take (gh v 1)) := by
          rcases hcl with hcl | hcl
          · exact hcl.2.2.1
          · rw [hst'] at hcl; exact absurd hcl.2.1 (by decide)
        obtain ⟨h7, a, b, e'⟩ := hmk _ h4
        rw [← h2] at h7
        refine hmain _ _ _ _ (.inl ⟨h1, h7, a, b, c, { c with wt := false }, by rw [hR0]; exact hc, rfl, e'.trans ?_⟩)
        · rw [h2, show endsOf R0.ends i (Sum.inr x : Y.L ⊕ Nat) = R.ends.set i (x : Int) from by rw [hrel]; rfl, hcl', h3, List.take_length, hev0, h.atq]
      · have hst' : c.st = true := (hst c hc).trans h1
        have hcl' : R.nts = n0 := by
          rcases hcl with hcl | hcl
          · rw [hst'] at hcl; exact absurd hcl.2.1 (by decide)
          · exact hcl.2.2
        obtain ⟨h7, a, b, e'⟩ := hmk _ h3
        subst h2
        refine hmain _ _ _ _ (.inr ⟨h1, h7, a, b, c, { c with wt := false }, by rw [hR0]; exact hc, rfl, e'.trans ?_⟩)
        · rw [show R0.ends.set i 0 = R.ends.set i ((0 : Nat) : Int) from by rw [hrel]; rfl, hcl']
    have hst1 : gh v 2 = 0 → c.st = false := fun z => by rcases hcl with hcl | hcl; exact hcl.2.1; have := hcl.1; omega
    have hst2 : gh v 2 = 1 → c.st = true := fun z => by rcases hcl with hcl | hcl; have := hcl.1; omega; exact hcl.2.1
    have told : ∀ x : Nat, (Y.cfg fb q w0 i cb (Γ.top i)).Told v F (.inr x) → (st = false ∧ (Y.outAt q t).fate = .inr x ∧ gh v 1 = (Y.outAt q t).nts.length ∧ Y.Inv (Y.outAt q t).s v F) := fun x ht =>
      ⟨(hst c hc).symm.trans (hst1 ht.on), by rw [← htq]; exact ht.fate, by rw [← htq]; exact ht.nts, by rw [← htq]; exact ht.inv⟩
    cases e with
    | outgrown => exact hd.elim
    | returned x =>
      rcases hd with ht | ⟨h2, h3, h4, h5⟩
      · exact key 1 (.inr ⟨hst1 ht.on, rfl⟩) (.inl (told 1 ht)) ht.os ht.output
      · exact key 0 (.inl ⟨hst2 h2, rfl⟩) (.inr ⟨(hst c hc).symm.trans (hst2 h2), rfl, by rw [← htq]; exact h3⟩) h4 h5
    | panicked ch =>
      obtain ⟨hra, ht | ⟨h2, h3, h4, h5⟩⟩ := hd
      · exact key 2 ⟨hra, .inr ⟨hst1 ht.on, rfl⟩⟩ (.inl (told 2 ht)) ht.os ht.output
      · exact key 0 ⟨hra, .inl ⟨hst2 h2, rfl⟩⟩ (.inr ⟨(hst c hc).symm.trans (hst2 h2), rfl, by rw [← htq]; exact h3⟩) h4 h5
end
end Go.Vy.Sc
end
/- A client more: goroutine 0 lets it begin. -/
section
namespace Go.Vy.Sc
open Go Go.Conc Go.Yc Go.RowKit Go.Proofs Go.Proofs.Ytfmoeemolgjodaa
open Go.Vc Go.Wg
attribute [local irreducible] KK
def upN {α : Type} (f : Nat → α) (i : Nat) (x : α) : Nat → α := fun j => if j = i then x else f j
theorem upN_ne {α : Type} {f : Nat → α} {i : Nat} {x : α} {j : Nat} (h : j ≠ i) : upN f i x j = f j := by simp [upN, h]
theorem upN_eq {α : Type} {f : Nat → α} {i : Nat} {x : α} : upN f i x i = x := by simp [upN]
def Geo.add (Γ : Geo) (i g a e : Nat) (top : List Frame) : Geo := ⟨upN Γ.gi i g, upN Γ.ab i a, upN Γ.eb i e, upN Γ.top i top, upN Γ.pv i fun _ => False⟩
/-- The ghost behind a hiring. -/
def hireX (X : Gh) (cb rc : Nat) (s : Seat1) : Gh :=
  { ((Gh.hire { X.lower cb with pend := 1, cap := X.cap + 1, dn := 0 } s).lower rc) with chs := fun c => X.chs c ∨ c = rc, stay := Go.ConcN.upd X.stay X.n [(⟨cb, 2, none⟩, .chan (some rc))] }
section
variable {Y : Sys} {fb : Nat → FuncId} {q : PR Y} {Γ : Geo} {X : Gh} {R R' : Rn} {w w1 : World} {Mn : Nat → Option Obj} {w0 : World} {ft : Nat → Option (Y.L ⊕ Nat)} {i : Nat}
theorem app_some {α : Type} {l : List α} {x y : α} {j : Nat} (h : (l ++ [x])[j]? = some y) : l[j]? = some y ∨ (j = l.length ∧ x = y) := by
  rcases Nat.lt_trichotomy j l.length with z | z | z
  · rw [List.getElem?_append_left z] at h; exact .inl h
  · subst z; simp at h; exact .inr ⟨rfl, h⟩
  · rw [List.getElem?_eq_none (by simp; omega)] at h; cases h
/-- A client without a body. -/
theorem Fix.addNil (h : Fix Y fb q w0 Γ X R w Mn none ft) (hn : Y.nil i = true) (hi : R.cl.length = i) {cb rc : Nat} {a : Option Addr} {n : Nat} (him : i < R.m) (hcb : w.heap.size ≤ cb) (hg : Rg R.fp w.heap.size w w1 w0.heap.size { R with ca := a, cc := n, cl := R.cl ++ [newC cb rc], ends := R.ends.set i 1 }) (hft : ft i = none) :
    Fix Y fb q w0 Γ (X.lower cb) { R with ca := a, cc := n, cl := R.cl ++ [newC cb rc], ends := R.ends.set i 1 } w1 Mn none (fun j => if j = i then some (.inr 1) else ft j) := by
  have hlt : ∀ b, b < w.heap.size → ¬ R.fp b → w1.heap[b]? = w.heap[b]? := hg.md.block
  have hle : ∀ j, j < (R.cl ++ [newC cb rc]).length → Y.nil j = false → j < R.cl.length := fun j hj hnj => by
    rw [List.length_append, List.length_singleton] at hj
    rcases Nat.lt_or_ge j R.cl.length with z | z
    · exact z
    · have : j = i := by omega
      rw [this, hn] at hnj; cases hnj
  have hold : ∀ j c, (R.cl ++ [newC cb rc])[j]? = some c → Y.nil j = false → R.cl[j]? = some c := fun j c hc hnj => by
    rcases app_some hc with z | ⟨z, _⟩
    · exact z
    · rw [z, hi, hn] at hnj; cases hnj
  have hne : R.ends.length = R.m := h.mem.lend
  have hfp : ∀ b, Rn.fp { R with ca := a, cc := n, cl := R.cl ++ [newC cb rc], ends := R.ends.set i 1 } b → R.fp b ∨ w.heap.size ≤ b := hg.fp
  have hnf : ∀ b, b < w.heap.size → ¬ R.fp b → ¬ Rn.fp { R with ca := a, cc := n, cl := R.cl ++ [newC cb rc], ends := R.ends.set i 1 } b := fun b hb hf z => (hfp b z).elim hf (Nat.not_le_of_lt hb)
  refine ⟨hg.m, h.m, fun j c hc _ => ?_, fun j c hc hnj => ?_, fun b hb => ?_, fun j hj hnj => ?_, fun j b hb => ?_, fun b hb => ?_, h.npos, fun z => hg.md.os.trans (h.os z), fun z => hg.md.output.trans (h.output z), Nat.le_trans h.size hg.md.size, h.grp, h.stay0, h.chy, fun g s hg' hs => ?_, fun j k hj hk hnj hnk => h.ginj j k (hle j hj hnj) (hle k hk hnk) hnj hnk, fun j k hj hk hnj hnk => h.ebinj j k (hle j hj hnj) (hle k hk hnk) hnj hnk, fun j k c d hc hd hnj hnk => h.rinj j k c d (hold j c hc hnj) (hold k d hd hnk) hnj hnk, fun j c hc hnj => h.ry j c (hold j c hc hnj) hnj, h.dn, h.pend, ?_, ?_, fun b hb => h.plug b (Nat.le_trans hg.md.size hb), h.seat0, ⟨h.base.le, fun b hb => hb.elim (h.base.low b) fun e => by have := h.base.le; have := h.size; omega, h.base.pl⟩⟩
  · rcases app_some hc with z | ⟨z, rfl⟩
    · have hjl := (List.getElem?_eq_some_iff.1 z).1
      obtain ⟨f, h1, h2⟩ := h.cl j c z (by simp)
      have hji : j ≠ i := by omega
      refine ⟨f, by simp [hji, h1], h2.turn (fun b hb => hlt b (h.pv j b hb).1 (h.pv j b hb).2.1) hg.md.size (fun _ => rfl) (fun hnj => ?_) rfl rfl rfl rfl (by show (R.ends.set i 1)[j]? = _; rw [List.getElem?_set_ne (Ne.symm hji)])⟩
      exact hlt _ (h.ck j c z hnj).he.choose_spec.lt (h.side j hjl hnj).2.2.2
    · rw [hi] at z
      subst z
      refine ⟨.inr 1, by simp, .inl ⟨hn, rfl, rfl, ?_⟩⟩
      show (R.ends.set j 1)[j]? = some 1
      simp [hne, him]
  · have hc' := hold j c hc hnj
    have hk := h.ck j c hc' hnj
    have hjl := (List.getElem?_eq_some_iff.1 hc').1
    have hs := h.side j hjl hnj
    refine ⟨hk.top, (hlt _ hk.ha.lt hs.2.2.1).trans hk.ha, ?_, hk.gpos, hk.stay, hk.ch⟩
    obtain ⟨en, he⟩ := hk.he
    exact ⟨en, (hlt _ he.lt hs.2.2.2).trans he⟩
  · rcases hfp b hb with z | z
    · exact h.fpB b z
    · exact Nat.le_trans h.size z
  · have hjl := hle j hj hnj
    have hs := h.side j hjl hnj
    have hk := h.ck j _ (List.getElem?_eq_getElem hjl) hnj
    exact ⟨hs.1, hs.2.1, hnf _ hk.ha.lt hs.2.2.1, hnf _ hk.he.choose_spec.lt hs.2.2.2⟩
  · have hp := h.pv j b hb
    exact ⟨Nat.lt_of_lt_of_le hp.1 hg.md.size, hnf b hp.1 hp.2.1, hp.2.2.1, fun k hk hnk => hp.2.2.2.1 k (hle k hk hnk) hnk, hp.2.2.2.2⟩
  · have hm := h.mn b hb
    have hb' : b < w.heap.size := by
      rcases Nat.lt_or_ge b w.heap.size with z | z
      · exact z
      · exact absurd (hm.1.symm.trans (Array.getElem?_eq_none z)) hb
    exact ⟨(hlt b hb' hm.2.1).trans hm.1, hnf b hb' hm.2.1, fun k hk hnk => hm.2.2 k (hle k hk hnk) hnk⟩
  · obtain ⟨j, c, h1, h2⟩ := h.seats g s hg' hs
    have hjl := (List.getElem?_eq_some_iff.1 h1).1
    exact ⟨j, c, by show (R.cl ++ [newC cb rc])[j]? = some c; rw [List.getElem?_append_left hjl]; exact h1, h2⟩
  · show X.cap ≤ (R.cl ++ [newC cb rc]).length
    have := h.cap
    simp; omega
  · have hu := h.under.mono hg.md.size
    have hcl : cb < w1.heap.size := (hg.m.blk i (newC cb rc) (by show (R.cl ++ [newC cb rc])[i]? = _; rw [← hi]; simp)).lt
    exact ⟨hu.stay, hu.hid, hu.chs, hu.grp, fun b hb => by
      rcases hb with z | rfl
      · exact hu.low b z
      · exact hcl⟩
/-- A client with a body: it holds the token. -/
theorem Fix.hire (h : Fix Y fb q w0 Γ X R w Mn none ft) (hn : Y.nil i = false) (hi : R.cl.length = i) {cb rc ab0 eb0 : Nat} {a : Option Addr} {n : Nat} {top : List Frame} {s : Seat1} (hs : s.ch = R.yb) (hM : RunM w1 w0.heap.size { R with ca := a, cc := n, cl := R.cl ++ [newC cb rc] }) (hsz : w.heap.size ≤ w1.heap.size) (_hos : w1.os = w.os ∧ w1.output = w.output)
    (hlt : ∀ b, b < w.heap.size → ¬ R.fp b → w1.heap[b]? = w.heap[b]?) (hfp : ∀ b, Rn.fp { R with ca := a, cc := n, cl := R.cl ++ [newC cb rc] } b → R.fp b ∨ w.heap.size ≤ b) (hcb : w.heap.size ≤ cb) (hrc : w.heap.size ≤ rc ∧ rc < w1.heap.size) (hab : w.heap.size ≤ ab0) (heb : w.heap.size ≤ eb0) (hA : BlkF w1 ab0 #[.pointer (some ⟨cb, 0, none⟩)] 50 (0, 0)) (hE : BlkF w1 eb0 #[.bool false] 4 (0, 0))
    (hnA : ¬ Rn.fp { R with ca := a, cc := n, cl := R.cl ++ [newC cb rc] } ab0) (hnE : ¬ Rn.fp { R with ca := a, cc := n, cl := R.cl ++ [newC cb rc] } eb0) (hT : TopOk top ab0 eb0 R.rb cb) :
    Fix Y fb q w0 (Γ.add i X.n ab0 eb0 top) (hireX X cb rc s) { R with ca := a, cc := n, cl := R.cl ++ [newC cb rc] } w1 Mn (some i) ft := by
  have hle : ∀ j, j < (R.cl ++ [newC cb rc]).length → j ≠ i → j < R.cl.length := fun j hj hji => by
    rw [List.length_append, List.length_singleton] at hj; omega
  have hold : ∀ j c, (R.cl ++ [newC cb rc])[j]? = some c → j ≠ i → R.cl[j]? = some c := fun j c hc hji => by
    rcases app_some hc with z | ⟨z, _⟩
    · exact z
    · exact absurd (z.trans hi) hji
  have hnew : ∀ c, (R.cl ++ [newC cb rc])[i]? = some c → c = newC cb rc := fun c hc => by
    rw [← hi] at hc; simp at hc; exact hc.symm
  have hnf : ∀ b, b < w.heap.size → ¬ R.fp b → ¬ Rn.fp { R with ca := a, cc := n, cl := R.cl ++ [newC cb rc] } b := fun b hb hf z => (hfp b z).elim hf (Nat.not_le_of_lt hb)
  have hgi : ∀ {j}, j ≠ i → (Γ.add i X.n ab0 eb0 top).gi j = Γ.gi j := fun hj => upN_ne hj
  have hgii : (Γ.add i X.n ab0 eb0 top).gi i = X.n := upN_eq
  have habn : ∀ {j}, j ≠ i → (Γ.add i X.n ab0 eb0 top).ab j = Γ.ab j := fun hj => upN_ne hj
  have habi : (Γ.add i X.n ab0 eb0 top).ab i = ab0 := upN_eq
  have hebn : ∀ {j}, j ≠ i → (Γ.add i X.n ab0 eb0 top).eb j = Γ.eb j := fun hj => upN_ne hj
  have hebi : (Γ.add i X.n ab0 eb0 top).eb i = eb0 := upN_eq
  have htn : ∀ {j}, j ≠ i → (Γ.add i X.n ab0 eb0 top).top j = Γ.top j := fun hj => upN_ne hj
  have hti : (Γ.add i X.n ab0 eb0 top).top i = top := upN_eq
  have hpn : ∀ {j}, j ≠ i → (Γ.add i X.n ab0 eb0 top).pv j = Γ.pv j := fun hj => upN_ne hj
  have hpi : (Γ.add i X.n ab0 eb0 top).pv i = fun _ => False := upN_eq
  have hgn : ∀ j, j < R.cl.length → Y.nil j = false → Γ.gi j ≠ X.n := fun j hj hnj e => by
    have := (h.ck j _ (List.getElem?_eq_getElem hj) hnj).gpos; omega
  have hseat : ∀ g, g ≠ 0 → (hireX X cb rc s).seat g = X.seat g := fun g hg => Go.ConcN.upd_ne _ _ hg
  have hstay : ∀ g, g ≠ X.n → (hireX X cb rc s).stay g = X.stay g := fun g hg => Go.ConcN.upd_ne _ _ hg
  have hsides : ∀ b, b < w.heap.size → (∀ k, k < R.cl.length → Y.nil k = false → b ≠ Γ.ab k ∧ b ≠ Γ.eb k) → ∀ k, k < (R.cl ++ [newC cb rc]).length → Y.nil k = false → b ≠ (Γ.add i X.n ab0 eb0 top).ab k ∧ b ≠ (Γ.add i X.n ab0 eb0 top).eb k := fun b hb hk k hkl hnk => by
    by_cases hki : k = i
    · rw [hki, habi, hebi]; constructor <;> omega
    · rw [habn hki, hebn hki]; exact hk k (hle k hkl hki) hnk
  refine ⟨hM, h.m, fun j c hc hj => ?_, fun j c hc hnj => ?_, fun b hb => ?_, fun j hj hnj => ?_, fun j b hb => ?_, fun b hb => ?_, Nat.succ_pos _, (fun z => by cases z), (fun z => by cases z), Nat.le_trans h.size hsz, h.grp, ?_, .inl h.chy, fun g s' hg' hs' => ?_, fun j k hj hk hnj hnk => ?_, fun j k hj hk hnj hnk => ?_, fun j k c d hc hd hnj hnk => ?_, fun j c hc hnj => ?_, rfl, rfl, ?_, ?_, fun b hb => h.plug b (Nat.le_trans hsz hb), (fun z => by cases z), ⟨h.base.le, fun b hb => ?_, h.base.pl⟩⟩
  · have hji : j ≠ i := fun e => hj (by rw [e])
    have z := hold j c hc hji
    have hjl := (List.getElem?_eq_some_iff.1 z).1
    obtain ⟨f, h1, h2⟩ := h.cl j c z (by simp)
    refine ⟨f, h1, h2.turn (fun b hb => hlt b (h.pv j b hb).1 (h.pv j b hb).2.1) hsz (fun hnj => ?_) (fun hnj => ?_) (hebn hji) (hgi hji) (htn hji) (hpn hji) rfl⟩
    · have := (h.ck j c z hnj).gpos
      exact hseat _ (by omega)
    · exact hlt _ (h.ck j c z hnj).he.choose_spec.lt (h.side j hjl hnj).2.2.2
  · by_cases hji : j = i
    · subst hji
      obtain rfl := hnew c hc
      refine ⟨by rw [hti, habi, hebi]; exact hT, by rw [habi]; exact hA, ⟨false, by rw [hebi]; exact hE⟩, ⟨by rw [hgii]; exact h.npos, by rw [hgii]; exact Nat.lt_succ_self _⟩, by rw [hgii]; exact Go.ConcN.upd_same _ _ _, .inr rfl⟩
    · have z := hold j c hc hji
      have hk := h.ck j c z hnj
      have hjl := (List.getElem?_eq_some_iff.1 z).1
      have hs := h.side j hjl hnj
      refine ⟨by rw [htn hji, habn hji, hebn hji]; exact hk.top, by rw [habn hji]; exact (hlt _ hk.ha.lt hs.2.2.1).trans hk.ha, ?_, ⟨by rw [hgi hji]; exact hk.gpos.1, by rw [hgi hji]; exact Nat.lt_succ_of_lt hk.gpos.2⟩, by rw [hgi hji, hstay _ (hgn j hjl hnj)]; exact hk.stay, .inl hk.ch⟩
      obtain ⟨en, he⟩ := hk.he
      exact ⟨en, by rw [hebn hji]; exact (hlt _ he.lt hs.2.2.2).trans he⟩
  · rcases hfp b hb with z | z
    · exact h.fpB b z
    · exact Nat.le_trans h.size z
  · by_cases hji : j = i
    · subst hji
      rw [habi, hebi]
      exact ⟨Nat.le_trans h.size hab, Nat.le_trans h.size heb, hnA, hnE⟩
    · have hjl := hle j hj hji
      have hs := h.side j hjl hnj
      have hk := h.ck j _ (List.getElem?_eq_getElem hjl) hnj
      rw [habn hji, hebn hji]
      exact ⟨hs.1, hs.2.1, hnf _ hk.ha.lt hs.2.2.1, hnf _ hk.he.choose_spec.lt hs.2.2.2⟩
  · by_cases hji : j = i
    · subst hji; rw [hpi] at hb; exact hb.elim
    · rw [hpn hji] at hb
      have hp := h.pv j b hb
      refine ⟨Nat.lt_of_lt_of_le hp.1 hsz, hnf b hp.1 hp.2.1, hp.2.2.1, hsides b hp.1 hp.2.2.2.1, fun k hk hkp => ?_⟩
      by_cases hki : k = i
      · subst hki; rw [hpi] at hkp; exact hkp
      · rw [hpn hki] at hkp; exact hp.2.2.2.2 k hk hkp
  · have hm := h.mn b hb
    have hb' : b < w.heap.size := by
      rcases Nat.lt_or_ge b w.heap.size with z | z
      · exact z
      · exact absurd (hm.1.symm.trans (Array.getElem?_eq_none z)) hb
    exact ⟨(hlt b hb' hm.2.1).trans hm.1, hnf b hb' hm.2.1, hsides b hb' hm.2.2⟩
  · rw [hstay 0 (by have := h.npos; omega)]; exact h.stay0
  · rw [hseat g hg'] at hs'
    obtain ⟨j, c, h1, h2, h3, h4, _⟩ := h.seats g s' hg' hs'
    have hjl := (List.getElem?_eq_some_iff.1 h1).1
    have hji : j ≠ i := by omega
    exact ⟨j, c, by show (R.cl ++ [newC cb rc])[j]? = some c; rw [List.getElem?_append_left hjl]; exact h1, h2, by rw [hgi hji]; exact h3, h4, fun e => hji (Option.some.inj e)⟩
  · intro e
    by_cases hji : j = i <;> by_cases hki : k = i
    · rw [hji, hki]
    · rw [hji, hgii, hgi hki] at e; exact absurd e.symm (hgn k (hle k hk hki) hnk)
    · rw [hki, hgii, hgi hji] at e; exact absurd e (hgn j (hle j hj hji) hnj)
    · rw [hgi hji, hgi hki] at e; exact h.ginj j k (hle j hj hji) (hle k hk hki) hnj hnk e
  · have hlo : ∀ j, j < R.cl.length → Y.nil j = false → Γ.eb j < w.heap.size := fun j hj hnj => (h.ck j _ (List.getElem?_eq_getElem hj) hnj).he.choose_spec.lt
    intro e
    by_cases hji : j = i <;> by_cases hki : k = i
    · rw [hji, hki]
    · rw [hji, hebi, hebn hki] at e; have := hlo k (hle k hk hki) hnk; omega
    · rw [hki, hebi, hebn hji] at e; have := hlo j (hle j hj hji) hnj; omega
    · rw [hebn hji, hebn hki] at e; exact h.ebinj j k (hle j hj hji) (hle k hk hki) hnj hnk e
  · have hlo : ∀ j c, R.cl[j]? = some c → Y.nil j = false → c.rc < w.heap.size := fun j c hc hnj => h.under.chs _ (h.ck j c hc hnj).ch
    intro e
    by_cases hji : j = i <;> by_cases hki : k = i
    · rw [hji, hki]
    · subst hji
      obtain rfl := hnew c hc
      have := hlo k d (hold k d hd hki) hnk
      have e : rc = d.rc := e
      omega
    · subst hki
      obtain rfl := hnew d hd
      have := hlo j c (hold j c hc hji) hnj
      have e : c.rc = rc := e
      omega
    · exact h.rinj j k c d (hold j c hc hji) (hold k d hd hki) hnj hnk e
  · by_cases hji : j = i
    · subst hji
      obtain rfl := hnew c hc
      have := h.under.chs _ h.chy
      show rc ≠ R.yb
      omega
    · exact h.ry j c (hold j c hc hji) hnj
  · show X.cap + 1 ≤ (R.cl ++ [newC cb rc]).length
    have := h.cap
    simp; omega
  · have hu := h.under.mono hsz
    have hcl : cb < w1.heap.size := (hM.blk i (newC cb rc) (by show (R.cl ++ [newC cb rc])[i]? = _; rw [← hi]; simp)).lt
    refine ⟨fun g p hp => ?_, hu.hid, fun b hb => ?_, hu.grp, fun b hb => ?_⟩
    · by_cases hg : g = X.n
      · subst hg
        have hp' : p ∈ Go.ConcN.upd X.stay X.n [((⟨cb, 2, none⟩ : Addr), Value.chan (some rc))] X.n := hp
        rw [Go.ConcN.upd_same] at hp'
        simp at hp'
        rw [hp']; exact hcl
      · rw [hstay g hg] at hp; exact hu.stay g p hp
    · rcases hb with z | rfl
      · exact hu.chs b z
      · exact hrc.2
    · rcases hb with (z | rfl) | rfl
      · exact hu.low b z
      · exact hcl
      · exact hrc.2
  · have h1 := h.base.le
    have h2 := h.size
    rcases hb with (z | rfl) | rfl
    · exact h.base.low b z
    · omega
    · omega
end
end Go.Vy.Sc
end
/- The run that is told, and the run that is gone through: clients begin, are picked, are stopped. -/
section
namespace Go.Vy.Sc
open Go Go.Conc Go.Yc Go.RowKit Go.Proofs Go.Proofs.Ytfmoeemolgjodaa
open Go.Vc Go.Wg
attribute [local irreducible] KK
/-! ### The tape that a client is given -/
def tpT (w : World) (t n s : Nat) : Tape := (setGh (setGh (setGh w 0 t) 1 n) 2 s).tape
theorem tp1 (U w : World) (t n s d : Nat) : gh (Yc.onT U (tpT w t n s) d) 1 = n := rfl
/-- A client at its beginning. -/
structure Starts {P : Program} (K : Cfg P) (beg : K.S → Out' K.S K.L) (u : World) (F : Nat → Prop) : Prop where
  inv : K.Inv (K.sOf (gh u 0)) u F
  nts : gh u 1 = 0
  on : gh u 2 = 0
  out : K.out (gh u 0) = beg (K.sOf (gh u 0))
  os : u.os = K.base.os
  output : u.output = K.base.output
/-- What is asked of a run that is told. -/
structure RunOk (Y : Sys) (fb : Nat → FuncId) (caps : Nat → Array Value) (fv : Nat → Value) (ba sa : Option Addr) (sn : Nat) (sc : Nat → Int) : Prop where
  sys : SysOk Y
  m1 : Y.m ≤ 16
  sn1 : sn ≤ 262144
  bsl : SL ba Y.m
  ssl : SL sa sn
  fn : ∀ i, i < Y.m → (Y.nil i = true ∧ fv i = .nilFunc) ∨ (Y.nil i = false ∧ fv i = .func (.func (fb i)) #[] (caps i) ∧ ∃ fn, Try.prog.funcs[fb i]? = some fn ∧ fn.body.isSome = true ∧ (fn.name == "runtime.NumGoroutine") = false)
  nts : (Y.pn sc sn).nts.length ≤ 1000000000
  body : ∀ (base : World) (i cb : Nat) (top : List Frame) (u : World) (F : Nat → Prop), i < Y.m → Y.nil i = false → Starts (Y.cfg fb (Y.pn sc sn) base i cb top) (Y.beg i) u F → Proc (Y.cfg fb (Y.pn sc sn) base i cb top) (G (Frame.enter Try.prog (fb i) (#[] ++ #[.pointer (some ⟨cb, 0, none⟩)] ++ caps i) .normal) top) u
def endOf {L : Type} : Option (L ⊕ Nat) → Int
  | some (.inr x) => x
  | _ => 0
def wtOf (Y : Sys) (j : Nat) : Option (Y.L ⊕ Nat) → Stp
  | some (.inl l) => Y.stp j l
  | _ => sp0
def stopped {L : Type} : Option (L ⊕ Nat) → Option (L ⊕ Nat)
  | some (.inl _) => some (.inr 0)
  | x => x
/-- The run in memory is at state p. -/
structure Tie (Y : Sys) (rb0 : Nat) (p : PR Y) (R : Rn) : Prop where
  rb : R.rb = rb0
  evs : R.evs = p.evs
  nts : R.nts = p.nts
  used : R.used = p.used
  len : R.cl.length = p.ft.length
  picks : ∀ j c, R.cl[j]? = some c → c.picks = p.who.count (some j)
  ends : ∀ j, j < Y.m → R.ends[j]? = some (endOf p.ft[j]?)
namespace Sys
section
variable {Y : Sys}
theorem nts_bgn (p : PR Y) : p.nts <+: (Y.bgn p).nts := by
  unfold bgn
  split
  · exact List.prefix_refl _
  · exact List.prefix_append _ _
theorem nts_turn (p : PR Y) (i : Nat) : p.nts <+: (Y.turn p i).nts := by
  unfold turn
  split
  · exact List.prefix_append _ _
  · exact List.prefix_refl _
theorem nts_step (p : PR Y) (e : Int) : p.nts <+: (Y.step p e).nts := by
  unfold step
  split
  · exact nts_turn _ _
  · exact List.prefix_refl _
theorem nts_begs {n k : Nat} : (Y.begs n).nts <+: (Y.begs (n + k)).nts := by
  induction k with
  | zero => exact List.prefix_refl _
  | succ k ih => exact ih.trans (nts_bgn _)
theorem nts_pn {sc : Nat → Int} {n k : Nat} : (Y.pn sc n).nts <+: (Y.pn sc (n + k)).nts := by
  induction k with
  | zero => exact List.prefix_refl _
  | succ k ih => exact ih.trans (nts_step _ _)
theorem begs_who : ∀ (n j : Nat), (Y.begs n).who.count (some j) = 0
  | 0, _ => rfl
  | n + 1, j => by
    show (Y.bgn (Y.begs n)).who.count (some j) = 0
    unfold bgn
    split
    · exact begs_who n j
    · simp [begs_who n j]
theorem begs_evs : ∀ n, (Y.begs n).evs = [] ∧ (Y.begs n).used = 0
  | 0 => ⟨rfl, rfl⟩
  | n + 1 => by
    show (Y.bgn (Y.begs n)).evs = [] ∧ (Y.bgn (Y.begs n)).used = 0
    unfold bgn
    split <;> exact begs_evs n
theorem outs_begs : ∀ n, (Y.begs n).outs.length ≤ n
  | 0 => Nat.le_refl _
  | n + 1 => by
    show (Y.bgn (Y.begs n)).outs.length ≤ n + 1
    have := outs_begs n
    unfold bgn
    split <;> simp <;> omega
theorem evs_step (p : PR Y) (e : Int) : (Y.step p e).evs.length ≤ p.evs.length + 1 ∧ (Y.step p e).outs.length ≤ p.outs.length + 1 := by
  unfold step
  split
  · unfold turn
    split <;> simp
  · simp
theorem evs_pn (sc : Nat → Int) : ∀ n, (Y.pn sc n).evs.length ≤ n ∧ (Y.pn sc n).outs.length ≤ Y.m + n
  | 0 => by
    have h1 := (begs_evs (Y := Y) Y.m).1
    have h2 := outs_begs (Y := Y) Y.m
    show (Y.begs Y.m).evs.length ≤ 0 ∧ _
    rw [h1]
    exact ⟨Nat.le_refl _, by simpa [pn] using h2⟩
  | n + 1 => by
    have h1 := evs_pn sc n
    have h2 := evs_step (Y := Y) (Y.pn sc n) (sc n)
    show (Y.step (Y.pn sc n) (sc n)).evs.length ≤ _ ∧ (Y.step (Y.pn sc n) (sc n)).outs.length ≤ _
    omega
theorem pn_stuck {sc : Nat → Int} {n : Nat} (h : Y.rds (Y.pn sc n) = []) : ∀ k, Y.pn sc (n + k) = Y.pn sc n
  | 0 => rfl
  | k + 1 => by
    show Y.step (Y.pn sc (n + k)) (sc (n + k)) = _
    rw [pn_stuck h k]
    unfold step
    rw [h]; rfl
theorem mem_rds {p : PR Y} {j i : Nat} (h : (Y.rds p)[j]? = some i) : i < Y.m ∧ Y.isRdy p i = true := by
  have := List.mem_of_getElem? h
  simpa [rds] using this
end
end Sys
section
variable {Y : Sys} {fb : Nat → FuncId} {caps : Nat → Array Value} {fv : Nat → Value} {ba sa : Option Addr} {sn : Nat} {sc : Nat → Int} {Mn : Nat → Option Obj} {w0 : World} {rb0 : Nat}
variable (Y fb sn sc Mn w0 rb0) in
def JB (i : Nat) (X : Gh) (R : Rn) (w : World) : Prop :=
  i ≤ Y.m ∧ (∃ Γ, Main Y fb (Y.pn sc sn) w0 Γ X R w Mn (fun j => (Y.begs i).ft[j]?) (Y.begs i).s) ∧ Tie Y rb0 (Y.begs i) R ∧ R.wts = List.replicate Y.m sp0 ∧ R.stuck = false
variable (Y fb sn sc Mn w0 rb0) in
def J2 (n : Nat) (X : Gh) (R : Rn) (w : World) : Prop :=
  n ≤ sn ∧ (∃ Γ, Main Y fb (Y.pn sc sn) w0 Γ X R w Mn (fun j => (Y.pn sc n).ft[j]?) (Y.pn sc n).s) ∧ Tie Y rb0 (Y.pn sc n) R ∧ R.wts = List.replicate Y.m sp0 ∧ R.stuck = false
variable (Y fb sn sc Mn w0 rb0) in
def JE (i : Nat) (X : Gh) (R : Rn) (w : World) : Prop :=
  i ≤ Y.m ∧ (∃ Γ, Main Y fb (Y.pn sc sn) w0 Γ X R w Mn (fun j => if j < i then stopped ((Y.pn sc sn).ft[j]?) else (Y.pn sc sn).ft[j]?) (Y.pn sc sn).s) ∧ Tie Y rb0 (Y.pn sc sn) R ∧
    (∀ j, j < Y.m → R.wts[j]? = some (if j < i then wtOf Y j ((Y.pn sc sn).ft[j]?) else sp0)) ∧ R.stuck = ((Y.pn sc sn).ft.any (·.isLeft) && (Y.rds (Y.pn sc sn)).isEmpty)
theorem Main.get {Γ : Geo} {X : Gh} {R : Rn} {w : World} {q : PR Y} {ft : Nat → Option (Y.L ⊕ Nat)} {s : Y.S} (h : Main Y fb q w0 Γ X R w Mn ft s) : ∀ b, Mn b ≠ none → w.heap[b]? = Mn b := fun b hb => (h.fix.mn b hb).1
theorem le_begs_q {i : Nat} (hi : i ≤ Y.m) : Y.Le (Y.begs i) (Y.pn sc sn) := by
  have h1 : Y.Le (Y.begs i) (Y.begs Y.m) := by
    have := Sys.le_begs (Y := Y) (n := i) (k := Y.m - i)
    rwa [Nat.add_sub_cancel' hi] at this
  have h2 : Y.Le (Y.pn sc 0) (Y.pn sc (0 + sn)) := Sys.le_pn
  rw [Nat.zero_add] at h2
  exact h1.trans h2
theorem le_pn_q {n : Nat} (hi : n ≤ sn) : Y.Le (Y.pn sc n) (Y.pn sc sn) := by
  have := Sys.le_pn (Y := Y) (sc := sc) (n := n) (k := sn - n)
  rwa [Nat.add_sub_cancel' hi] at this
theorem nts_begs_q {i : Nat} (hi : i ≤ Y.m) : (Y.begs i).nts <+: (Y.pn sc sn).nts := by
  have h1 : (Y.begs i).nts <+: (Y.begs Y.m).nts := by
    have := Sys.nts_begs (Y := Y) (n := i) (k := Y.m - i)
    rwa [Nat.add_sub_cancel' hi] at this
  have h2 : (Y.pn sc 0).nts <+: (Y.pn sc (0 + sn)).nts := Sys.nts_pn
  rw [Nat.zero_add] at h2
  exact h1.trans h2
theorem nts_pn_q {n : Nat} (hi : n ≤ sn) : (Y.pn sc n).nts <+: (Y.pn sc sn).nts := by
  have := Sys.nts_pn (Y := Y) (sc := sc) (n := n) (k := sn - n)
  rwa [Nat.add_sub_cancel' hi] at this
theorem tie_app {p : PR Y} {i : Nat} (hi : p.ft.length = i) (x : Y.L ⊕ Nat) : (fun j => if j = i then some x else p.ft[j]?) = fun j => (p.ft ++ [x])[j]? := by
  funext j
  subst hi
  rcases Nat.lt_trichotomy j p.ft.length with h | h | h
  · rw [if_neg (by omega), List.getElem?_append_left h]
  · subst h; simp
  · rw [if_neg (by omega), List.getElem?_eq_none (by omega), List.getElem?_eq_none (by simp; omega)]
theorem tie_set {p : PR Y} {i : Nat} (hi : i < p.ft.length) (x : Y.L ⊕ Nat) : (fun j => if j = i then some x else p.ft[j]?) = fun j => (p.ft.set i x)[j]? := by
  funext j
  by_cases h : j = i
  · subst h; simp [hi]
  · rw [if_neg h, List.getElem?_set_ne (Ne.symm h)]
theorem endsOf_at {e : List Int} {i : Nat} {f : Y.L ⊕ Nat} {g : Nat → Option (Y.L ⊕ Nat)} {m : Nat} (h : ∀ j, j < m → e[j]? = some (endOf (g j))) (hl : e.length = m) (h0 : endOf (g i) = 0) (j : Nat) (hj : j < m) : (endsOf e i f)[j]? = some (endOf (if j = i then some f else g j)) := by
  cases f with
  | inl l =>
    show e[j]? = _
    by_cases hji : j = i
    · subst hji; rw [h j hj, h0, if_pos rfl]; rfl
    · rw [h j hj, if_neg hji]
  | inr x =>
    show (e.set i (x : Int))[j]? = _
    by_cases hji : j = i
    · subst hji; rw [if_pos rfl]; simp [hl, hj]; rfl
    · rw [List.getElem?_set_ne (Ne.symm hji), h j hj, if_neg hji]
set_option maxRecDepth 20000 in
/-- A client begins. -/
theorem go_fin (hO : RunOk Y fb caps fv ba sa sn sc) {Post : Value → World → Prop} {i : Nat} {X : Gh} {R : Rn} {w w' : World} {a : Option Addr} {n cb rc : Nat} (hi : i < Y.m) (hJ : JB Y fb sn sc Mn w0 rb0 i X R w) (hf : fv i ≠ .nilFunc) (hcb : w.heap.size ≤ cb) (hrc : w.heap.size ≤ rc) (hne : cb ≠ rc) (hch : ChanAt w' rc)
    (hg : Rg R.fp w.heap.size w w' w0.heap.size { R with ca := a, cc := n, cl := R.cl ++ [newC cb rc] }) {me0 : Goroutine} (hk : ∀ X' R' u v, JB Y fb sn sc Mn w0 rb0 (i + 1) X' R' u → Fin Try.prog Post X' 0 (Go.Conc.served me0 v) u) :
    Fin Try.prog Post (Gh.hire { X.lower cb with pend := 1, cap := X.cap + 1, dn := 0 } ⟨R.yb, .int .i64 0, me0⟩) X.n (born Try.prog (dcall 45 #[.pointer (some ⟨cb, 0, none⟩), fv i])) w' := by
  obtain ⟨_, ⟨Γ, hM⟩, hT, hwts, hstk⟩ := hJ
  obtain ⟨hn, hfv, fn, hfn, hbd, hnm⟩ : Y.nil i = false ∧ fv i = .func (.func (fb i)) #[] (caps i) ∧ ∃ fn, Try.prog.funcs[fb i]? = some fn ∧ fn.body.isSome = true ∧ (fn.name == "runtime.NumGoroutine") = false := by
    rcases hO.fn i hi with h | h
    · exact absurd h.2 hf
    · exact h
  have hF := hM.fix
  have hlen : R.cl.length = i := hT.len.trans (Sys.len_begs i)
  have hok := Sys.ok_begs (Y := Y) i
  have hle : Y.Le (Y.begs (i + 1)) (Y.pn sc sn) := le_begs_q (by omega)
  have hbg : Y.begs (i + 1) = { Y.begs i with s := (Y.beg i (Y.begs i).s).s, ft := (Y.begs i).ft ++ [(Y.beg i (Y.begs i).s).fate], nts := (Y.begs i).nts ++ tell i (Y.begs i).evs.length (Y.beg i (Y.begs i).s).nts, outs := (Y.begs i).outs ++ [Y.beg i (Y.begs i).s], who := (Y.begs i).who ++ [none] } := by
    show Y.bgn (Y.begs i) = _
    unfold Sys.bgn
    rw [Sys.len_begs i, hn]; rfl
  generalize hp : Y.begs i = p at *
  have hs : Y.sAt (Y.pn sc sn) p.outs.length = p.s := Sys.s_at hok (by rw [← hp]; exact le_begs_q (by omega))
  have ho : Y.outAt (Y.pn sc sn) p.outs.length = Y.beg i p.s := Sys.out_at (p' := Y.begs (i + 1)) (by rw [hbg]) hle
  obtain ⟨F, hinv, hFf⟩ := hM.inv
  have hvis := hO.sys.vis _ _ _ hinv
  refine Fin.chan (b := rc) (k := 0) ⟨fun j x hx => ?_, (hF.under.loosed hrc).hid, (hF.under.loosed hrc).chs, (hF.under.loosed hrc).grp⟩ (fun z => ?_) (hF.plug rc hrc) hch ?_
  · exact (hF.under.loosed hrc).stay j x hx
  · rcases z with z | z
    · have := hF.under.low rc z; omega
    · exact hne z.symm
  have hrl := hch.lt
  have hcbB : BlkF w' cb ((newC cb rc).cells R.rb i) 76 (0, 3) := hg.m.blk i (newC cb rc) (by show (R.cl ++ [newC cb rc])[i]? = _; rw [← hlen]; simp)
  have hput : ∀ b, b ≠ rc → (putObj' w' rc nothing).heap[b]? = w'.heap[b]? := fun b hb => putObj'_ne _ _ (Ne.symm hb)
  have hcb2 : BlkF (putObj' w' rc nothing) cb ((newC cb rc).cells R.rb i) 76 (0, 3) := (hput cb hne).trans hcbB
  have hsz2 : (putObj' w' rc nothing).heap.size = w'.heap.size := by simp [putObj']
  have hrnf : ¬ Rn.fp { R with ca := a, cc := n, cl := R.cl ++ [newC cb rc] } rc := fun z => by
    have hx := hch
    have own : ∀ {E : TypeId} {s n c : Nat} {a : Option Addr} {xs : List Value}, Own w' w0.heap.size E s a n c xs → a ≠ none → rc = ab a → False := fun h ha e => by
      obtain ⟨cur, hB, _⟩ := h.row ha
      unfold ChanAt at hx
      rw [e] at hx
      unfold Blk at hB
      rw [hx] at hB; cases hB
    have blk : ∀ {b : Nat} {cs : Array Value} {T : TypeId} {f : Nat × Nat}, BlkF w' b cs T f → rc = b → False := fun h e => by
      unfold ChanAt at hx
      rw [e] at hx
      unfold BlkF at h
      rw [hx] at h; cases h
    rcases z with e | e | e | ⟨ha, e⟩ | ⟨ha, e⟩ | ⟨ha, e⟩ | ⟨j, c, hc, e⟩
    · exact blk hg.m.run e
    · exact blk hg.m.ends e
    · exact blk hg.m.wts e
    · exact own hg.m.cls ha e
    · exact own hg.m.evs ha e
    · exact own hg.m.nts ha e
    · exact blk (hg.m.blk j c hc) e
  have hM2 : RunM (putObj' w' rc nothing) w0.heap.size { R with ca := a, cc := n, cl := R.cl ++ [newC cb rc] } := hg.m.congr fun b hb => hput b fun e => hrnf (e ▸ hb)
  refine Fin.stay (l := [(⟨cb, 2, none⟩, .chan (some rc))]) (fun x hx => ?_) ?_
  · simp at hx
    subst hx
    exact ⟨hcb2.cellAt 2 rfl, by rw [hcb2.frozen]; rfl⟩
  show Fin Try.prog Post (hireX X cb rc ⟨R.yb, .int .i64 0, me0⟩) X.n _ _
  rw [hfv]
  refine body_fin (i := i) (c := newC cb rc) hfn hbd hnm hM2 (by show (R.cl ++ [newC cb rc])[i]? = _; rw [← hlen]; simp) fun w1 top ab0 eb0 hb1 lA lE hA hE hTop => ?_
  have hsz1 : w.heap.size ≤ w1.heap.size := Nat.le_trans hg.md.size (by have := hb1.size; omega)
  have hlt : ∀ b, b < w.heap.size → ¬ R.fp b → w1.heap[b]? = w.heap[b]? := fun b hb hf => by
    rw [hb1.block b (by have := hg.md.size; omega), hput b (by omega)]
    exact hg.md.block b hb hf
  have hM1 := hM2.keep hb1
  have hfpl : ∀ b, Rn.fp { R with ca := a, cc := n, cl := R.cl ++ [newC cb rc] } b → b < (putObj' w' rc nothing).heap.size := fun b hb => hM2.lt hb
  have hsA : w.heap.size ≤ (putObj' w' rc nothing).heap.size := by rw [hsz2]; exact hg.md.size
  have hfix := hF.hire (s := ⟨R.yb, .int .i64 0, me0⟩) (top := top) hn hlen rfl hM1 hsz1 ⟨hb1.os.trans hg.md.os, hb1.output.trans hg.md.output⟩ hlt hg.fp hcb ⟨hrc, by have := hb1.size; omega⟩ (by omega) (by omega) hA hE (fun z => by have := hfpl _ z; omega) (fun z => by have := hfpl _ z; omega) hTop
  refine fin_ign _ _ fun nv => ?_
  haveI : DecidablePred F := fun _ => Classical.propDecidable _
  refine fin_see F (finH_onT (τ := tpT w1 p.outs.length 0 0) (d := w1.drawn) ?_)
  have hkept : ∀ b, (Rn.fp { R with ca := a, cc := n, cl := R.cl ++ [newC cb rc] } b ∨ Kept Y (Γ.add i X.n ab0 eb0 top) { R with ca := a, cc := n, cl := R.cl ++ [newC cb rc] } Mn b) → ¬ F b := fun b hb hFb => by
    have hv := hvis b hFb
    have hff := hFf b hFb
    rcases hb with hb | hb | ⟨k, hk, hnk, hb⟩ | ⟨j, hb⟩
    · rcases hg.fp b hb with z | z
      · exact hff.1 z
      · omega
    · exact hff.2 (.inl hb)
    · by_cases hki : k = i
      · subst hki
        have h1 : (Γ.add k X.n ab0 eb0 top).ab k = ab0 := upN_eq
        have h2 : (Γ.add k X.n ab0 eb0 top).eb k = eb0 := upN_eq
        rw [h1, h2] at hb
        omega
      · have h1 : (Γ.add i X.n ab0 eb0 top).ab k = Γ.ab k := upN_ne hki
        have h2 : (Γ.add i X.n ab0 eb0 top).eb k = Γ.eb k := upN_ne hki
        rw [h1, h2] at hb
        refine hff.2 (.inr (.inl ⟨k, ?_, hnk, hb⟩))
        have hk' : k < (R.cl ++ [newC cb rc]).length := hk
        rw [List.length_append, List.length_singleton] at hk'; omega
    · by_cases hji : j = i
      · subst hji
        have h1 : (Γ.add j X.n ab0 eb0 top).pv j = fun _ => False := upN_eq
        rw [h1] at hb; exact hb
      · have h1 : (Γ.add i X.n ab0 eb0 top).pv j = Γ.pv j := upN_ne hji
        rw [h1] at hb
        exact hff.2 (.inr (.inr ⟨j, hb⟩))
  have hgi : (Γ.add i X.n ab0 eb0 top).gi i = X.n := upN_eq
  have hti : (Γ.add i X.n ab0 eb0 top).top i = top := upN_eq
  have hebi : (Γ.add i X.n ab0 eb0 top).eb i = eb0 := upN_eq
  have hpk : Y.picks (Y.pn sc sn) i p.outs.length = 0 := by
    unfold Sys.picks
    obtain ⟨l, hl⟩ := hle.who
    have hw := hok.who
    rw [← hl, hbg]
    rw [List.take_append_of_le_length (by simp [hw]), List.take_of_length_le (by simp [hw])]
    have := Sys.begs_who (Y := Y) i i
    rw [hp] at this
    simp [this]
  have hrun := Run1.enter (q := Y.pn sc sn) (i := i) (t := p.outs.length) (at_ := p.evs.length) (cb := cb) (n0 := p.nts) (R0 := { R with ca := a, cc := n, cl := R.cl ++ [newC cb rc] }) (τ := tpT w1 p.outs.length 0 0) (d := w1.drawn) F hfix hkept nv rfl (congrArg List.length hT.evs) ⟨newC cb rc, by show (R.cl ++ [newC cb rc])[i]? = _; rw [← hlen]; simp, rfl, .inl ⟨rfl, rfl, by
    show R.nts = _
    rw [tp1, hT.nts]; simp [tell], hpk.symm⟩⟩ ⟨R.na, R.nc, R.nts, rfl⟩ hn (by rw [hebi]; exact hE)
  have hst : Starts (Y.cfg fb (Y.pn sc sn) w0 i cb top) (Y.beg i) (Yc.onT (seeOf F w1) (tpT w1 p.outs.length 0 0) w1.drawn) F := by
    refine ⟨?_, rfl, rfl, ?_, ?_, ?_⟩
    · show Y.Inv (Y.sAt (Y.pn sc sn) p.outs.length) _ _
      rw [hs]
      refine hO.sys.loc _ w _ F hinv fun b hb => ?_
      show (seeOf F w1).heap[b]? = _
      rw [seeOf_hit _ hb, hlt b (hvis b hb).1 (hFf b hb).1]
    · show Y.outAt (Y.pn sc sn) p.outs.length = Y.beg i (Y.sAt (Y.pn sc sn) p.outs.length)
      rw [hs, ho]
    · exact (hb1.os.trans hg.md.os).trans (hF.os rfl)
    · exact (hb1.output.trans hg.md.output).trans (hF.output rfl)
  have hpr := hO.body w0 i cb top _ F hi hn hst
  have key := client_fin (Post := Post) (z0 := .int .i64 0) (me0 := me0) (st := false) (X := hireX X cb rc ⟨R.yb, .int .i64 0, me0⟩) (Γ := Γ.add i X.n ab0 eb0 top) (Mn := Mn) (ft := fun j => p.ft[j]?) (t := p.outs.length) (at_ := p.evs.length) (n0 := p.nts) (R0 := { R with ca := a, cc := n, cl := R.cl ++ [newC cb rc] }) hO.sys (show Go.ConcN.upd X.seat 0 _ 0 = _ from Go.ConcN.upd_same _ _ _) (by
      have h1 := (nts_begs_q (Y := Y) (sc := sc) (sn := sn) (i := i + 1) (by omega)).length_le
      have h2 := hO.nts
      rw [hbg] at h1
      rw [ho]
      simp [tell] at h1
      omega) (fun Γ' X' R' w2 hA => ?_) (by rw [hti]; exact hpr) _ _ hrun (fun c hc => by
        have hc' : (R.cl ++ [newC cb rc])[i]? = some c := hc
        rw [← hlen] at hc'; simp at hc'; rw [← hc'])
  · rw [hgi] at key; exact key
  · rcases hA with ⟨_, hM', na, nc, c, c', hc, hcp, hR⟩ | ⟨z, _⟩
    · have hc : (R.cl ++ [newC cb rc])[i]? = some c := hc
      have hc0 : c = newC cb rc := by rw [← hlen] at hc; simp at hc; exact hc.symm
      rw [ho, tie_app (by rw [← hp]; exact Sys.len_begs i)] at hM'
      refine hk X' R' w2 _ ?_
      subst hR
      refine ⟨by omega, ⟨Γ', by rw [hbg]; exact hM'⟩, ?_, hwts, hstk⟩
      rw [hbg]
      refine ⟨hT.rb, hT.evs, ?_, hT.used, ?_, fun j d hd => ?_, fun j hj => ?_⟩
      · show p.nts ++ tell i R.evs.length (Y.outAt (Y.pn sc sn) p.outs.length).nts = _
        rw [hT.evs, ho]
      · show ((R.cl ++ [newC cb rc]).set i c').length = _
        simp [hT.len]
      · have hd' : ((R.cl ++ [newC cb rc]).set i c')[j]? = some d := hd
        show d.picks = (p.who ++ [none]).count (some j)
        have hz : p.who.count (some j) = 0 := by rw [← hp]; exact Sys.begs_who i j
        rw [List.getElem?_set] at hd'
        by_cases hji : i = j
        · subst hji
          rw [if_pos rfl, if_pos (by simp [hlen])] at hd'
          obtain rfl := Option.some.inj hd'
          rw [hcp, hc0]
          simp [hz]
        · rw [if_neg hji] at hd'
          rcases app_some hd' with z | ⟨z, _⟩
          · rw [hT.picks j d z]; simp
          · omega
      · show (endsOf R.ends i (Y.outAt (Y.pn sc sn) p.outs.length).fate)[j]? = some (endOf ((p.ft ++ [(Y.beg i p.s).fate])[j]?))
        have hpl : p.ft.length = i := by rw [← hp]; exact Sys.len_begs i
        have h0 := endsOf_at (Y := Y) (f := (Y.beg i p.s).fate) (g := fun j => p.ft[j]?) (i := i) hT.ends (by rw [hF.mem.lend, hF.m]) (by show endOf p.ft[i]? = 0; rw [List.getElem?_eq_none (by omega)]; rfl) j hj
        rw [ho, h0]
        exact congrArg (fun f : Nat → Option (Y.L ⊕ Nat) => some (endOf (f j))) (tie_app hpl (Y.beg i p.s).fate)
    · cases z
end
end Go.Vy.Sc
end
