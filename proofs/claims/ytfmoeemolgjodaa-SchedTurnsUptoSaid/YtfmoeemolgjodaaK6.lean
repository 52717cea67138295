/- What the claim leans on, part 6. Two runs that are alike are found to be so. -/
import Derived.Test.YtfmoeemolgjodaaK5
import Derived.Conc.LeavingOf
import Derived.JoinedCond
import Derived.Deep.CondSized
set_option linter.unusedVariables false
section
namespace Go.Vy.Sc
open Go Go.Conc Go.Yc Go.RowKit Go.Proofs Go.Proofs.Ytfmoeemolgjodaa
open Go.Vc Go.Wg
section
variable [Ctx Try.prog]


set_option maxHeartbeats 1000000 in
theorem same_c {m : Nat} {evs : List (Nat × Stp)} {nts : List (Nat × Nat × Nte)} {ens : List Int} {wts : List Stp} {ea na za wa ea' na' za' wa' : Option Addr} {ec nc zc wc ec' nc' zc' wc' : Nat} {st : Bool} {us : Int} (w0 : World) (hl : evs.length ≤ 1000000000000 ∧ nts.length ≤ 1000000000000 ∧ m ≤ 1000000000000) (h1 : RunAt w0 ea na za wa m evs nts ens wts) (h2 : RunAt w0 ea' na' za' wa' m evs nts ens wts) :
    C Try.prog 16 #[.agg #[.slice ea evs.length ec, .slice na nts.length nc, .slice za m zc, .slice wa m wc, .bool st, .int .i64 us], .agg #[.slice ea' evs.length ec', .slice na' nts.length nc', .slice za' m zc', .slice wa' m wc', .bool st, .int .i64 us]] w0 fun v w => v = .bool true ∧ Below w0.heap.size w0 w := by
  refine C.enter (n := 123) Try.func16 rfl rfl ?_
  have hb : Below w0.heap.size w0 w0 := Below.refl _ _
  refine W.seq ?_
  refine W.region rfl ?_
  refine L.box (cs := #[.slice ea (evs.length) ec, .slice na (nts.length) nc, .slice za m zc, .slice wa m wc, .bool st, .int .i64 us]) rfl rfl (fun w b2 F2 => ?_)
  have lt2 : w0.heap.size ≤ b2 := by have h9 := F2.here; have h8 := hb.size; omega
  have hb := cl_step hb F2.below
  have h1 := h1.keep F2.below
  have h2 := h2.keep F2.below
  have hB2 := F2.blk
  refine L.box (cs := #[.slice ea' (evs.length) ec', .slice na' (nts.length) nc', .slice za' m zc', .slice wa' m wc', .bool st, .int .i64 us]) rfl rfl (fun w b3 F3 => ?_)
  have lt3 : w0.heap.size ≤ b3 := by have h9 := F3.here; have h8 := hb.size; omega
  have ne3hB2 := F3.ne hB2
  have hb := cl_step hb F3.below
  have h1 := h1.keep F3.below
  have h2 := h2.keep F3.below
  have hB2 := hB2.keep F3.below
  have hB3 := F3.blk
  refine L.va (x_asB rfl) ?_
  refine L.nil ?_
  show W _ _ _ _ _ _
  refine W.seq ?_
  refine W.seq ?_
  refine W.region rfl ?_
  refine L.va (x_field rfl Try.underlying31 rfl sz27 (by decide)) ?_
  refine L.va (x_load rfl Try.underlying27 rfl (hB2.cellAt 0 (v := .slice ea (evs.length) ec) rfl)) ?_
  refine L.va (x_len rfl Try.underlying27 rfl) ?_
  refine L.va (x_field rfl Try.underlying31 rfl sz27 (by decide)) ?_
  refine L.va (x_load rfl Try.underlying27 rfl (hB3.cellAt 0 (v := .slice ea' (evs.length) ec') rfl)) ?_
  refine L.va (x_len rfl Try.underlying27 rfl) ?_
  refine L.va (d_bool (r := false) (decide_eq_false (fun h => h rfl)) (x_neq (m := (evs.length : Int)) (k := (evs.length : Int)) rfl rfl)) ?_
  refine L.va (x_mvB rfl) ?_
  refine L.on rfl ?_
  refine L.va (x_field rfl Try.underlying31 rfl sz28 (by decide)) ?_
  refine L.on rfl ?_
  refine L.va (x_load rfl Try.underlying28 rfl (hB2.cellAt 1 (v := .slice na (nts.length) nc) rfl)) ?_
  refine L.on rfl ?_
  refine L.va (x_len rfl Try.underlying28 rfl) ?_
  refine L.on rfl ?_
  refine L.va (x_field rfl Try.underlying31 rfl sz28 (by decide)) ?_
  refine L.on rfl ?_
  refine L.va (x_load rfl Try.underlying28 rfl (hB3.cellAt 1 (v := .slice na' (nts.length) nc') rfl)) ?_
  refine L.on rfl ?_
  refine L.va (x_len rfl Try.underlying28 rfl) ?_
  refine L.on rfl ?_
  refine L.va (d_bool (r := false) (decide_eq_false (fun h => h rfl)) (x_neq (m := (nts.length : Int)) (k := (nts.length : Int)) rfl rfl)) ?_
  refine L.va (x_pickF rfl) ?_
  refine L.va (x_mvB rfl) ?_
  refine L.on rfl ?_
  refine L.va (x_field rfl Try.underlying31 rfl sz26 (by decide)) ?_
  refine L.on rfl ?_
  refine L.va (x_load rfl Try.underlying26 rfl (hB2.cellAt 2 (v := .slice za m zc) rfl)) ?_
  refine L.on rfl ?_
  refine L.va (x_len rfl Try.underlying26 rfl) ?_
  refine L.on rfl ?_
  refine L.va (x_field rfl Try.underlying31 rfl sz26 (by decide)) ?_
  refine L.on rfl ?_
  refine L.va (x_load rfl Try.underlying26 rfl (hB3.cellAt 2 (v := .slice za' m zc') rfl)) ?_
  refine L.on rfl ?_
  refine L.va (x_len rfl Try.underlying26 rfl) ?_
  refine L.on rfl ?_
  refine L.va (d_bool (r := false) (decide_eq_false (fun h => h rfl)) (x_neq (m := (m : Int)) (k := (m : Int)) rfl rfl)) ?_
  refine L.va (x_pickF rfl) ?_
  refine L.va (x_mvB rfl) ?_
  refine L.on rfl ?_
  refine L.va (x_field rfl Try.underlying31 rfl sz29 (by decide)) ?_
  refine L.on rfl ?_
  refine L.va (x_load rfl Try.underlying29 rfl (hB2.cellAt 3 (v := .slice wa m wc) rfl)) ?_
  refine L.on rfl ?_
  refine L.va (x_len rfl Try.underlying29 rfl) ?_
  refine L.on rfl ?_
  refine L.va (x_field rfl Try.underlying31 rfl sz29 (by decide)) ?_
  refine L.on rfl ?_
  refine L.va (x_load rfl Try.underlying29 rfl (hB3.cellAt 3 (v := .slice wa' m wc') rfl)) ?_
  refine L.on rfl ?_
  refine L.va (x_len rfl Try.underlying29 rfl) ?_
  refine L.on rfl ?_
  refine L.va (d_bool (r := false) (decide_eq_false (fun h => h rfl)) (x_neq (m := (m : Int)) (k := (m : Int)) rfl rfl)) ?_
  refine L.va (x_pickF rfl) ?_
  refine L.va (x_mvB rfl) ?_
  refine L.on rfl ?_
  refine L.va (x_field rfl Try.underlying31 rfl sz4 (by decide)) ?_
  refine L.on rfl ?_
  refine L.va (x_load rfl Try.underlying4 rfl (hB2.cellAt 4 (v := .bool st) rfl)) ?_
  refine L.on rfl ?_
  refine L.va (x_field rfl Try.underlying31 rfl sz4 (by decide)) ?_
  refine L.on rfl ?_
  refine L.va (x_load rfl Try.underlying4 rfl (hB3.cellAt 4 (v := .bool st) rfl)) ?_
  refine L.on rfl ?_
  refine L.va (x_neqBoolSame rfl rfl Try.underlying4) ?_
  refine L.va (x_pickF rfl) ?_
  refine L.va (x_mvB rfl) ?_
  refine L.on rfl ?_
  refine L.va (x_field rfl Try.underlying31 rfl sz3 (by decide)) ?_
  refine L.on rfl ?_
  refine L.va (x_load rfl Try.underlying3 rfl (hB2.cellAt 5 (v := .int .i64 us) rfl)) ?_
  refine L.on rfl ?_
  refine L.va (x_field rfl Try.underlying31 rfl sz3 (by decide)) ?_
  refine L.on rfl ?_
  refine L.va (x_load rfl Try.underlying3 rfl (hB3.cellAt 5 (v := .int .i64 us) rfl)) ?_
  refine L.on rfl ?_
  refine L.va (d_bool (r := false) (decide_eq_false (fun h => h rfl)) (x_neq (m := (us : Int)) (k := (us : Int)) rfl rfl)) ?_
  refine L.va (x_pickF rfl) ?_
  refine L.nil ?_
  show W _ _ _ _ _ _
  refine W.condF rfl ?_
  refine W.skip ?_
  show W _ _ _ _ _ _
  refine W.seq ?_
  refine W.seq ?_
  refine W.region rfl ?_
  refine L.va (x_asI rfl) ?_
  refine L.nil ?_
  show W _ _ _ _ _ _
  refine W.block ?_
  refine W.loop (fun k e w => ∃ (i : Nat), k = evs.length - i ∧ e 2 = .pointer (some ⟨b2, 0, none⟩) ∧ e 3 = .pointer (some ⟨b3, 0, none⟩) ∧ e 5 = .int .i64 (i : Int) ∧ i ≤ evs.length ∧ RunAt w ea na za wa m evs nts ens wts ∧ RunAt w ea' na' za' wa' m evs nts ens wts ∧ Blk w b2 #[.slice ea evs.length ec, .slice na nts.length nc, .slice za m zc, .slice wa m wc, .bool st, .int .i64 us] 31 ∧ Blk w b3 #[.slice ea' evs.length ec', .slice na' nts.length nc', .slice za' m zc', .slice wa' m wc', .bool st, .int .i64 us] 31 ∧ Below w0.heap.size w0 w) _ ⟨0, rfl, rfl, rfl, rfl, Nat.zero_le _, h1, h2, hB2, hB3, hb⟩ ?_
  rintro k e w ⟨i, hk, s2, s3, s5, hi, h1, h2, hB2, hB3, hb⟩
  rw [upd_id s2, upd_id s3, upd_id s5]
  clear s2 s3 s5
  refine W.seq ?_
  refine W.seq ?_
  refine W.region rfl ?_
  refine L.va (x_mvI rfl) ?_
  refine L.va (x_field rfl Try.underlying31 rfl sz27 (by decide)) ?_
  refine L.va (x_load rfl Try.underlying27 rfl (hB2.cellAt 0 (v := .slice ea (evs.length) ec) rfl)) ?_
  refine L.va (x_len rfl Try.underlying27 rfl) ?_
  refine L.va (x_lss rfl rfl) ?_
  refine L.nil ?_
  show W _ _ _ _ _ _
  refine W.condP rfl (fun h60 => ?_) (fun h60 => ?_)
  · have hlt : i < evs.length := by omega
    obtain ⟨x, hx⟩ : ∃ x, evs[i]? = some x := ⟨_, List.getElem?_eq_getElem hlt⟩
    refine W.skip ?_
    show W _ _ _ _ _ _
    refine W.seq ?_
    refine W.block ?_
    refine W.seq ?_
    refine W.quiet (fun w' => Below w.heap.size w w') (by kernel_rfl) (by kernel_rfl) ((Below.refl w.heap.size w).drew) ?_
    refine D.va (fun w' hw' => (x_field rfl Try.underlying31 rfl sz27 (by decide))) ?_
    refine D.va (fun w' hw' => (x_load rfl Try.underlying27 rfl ((hB2.keep hw').cellAt 0 (v := .slice ea (evs.length) ec) rfl))) ?_
    refine D.va (fun w' hw' => (x_mvI rfl)) ?_
    refine D.va (fun w' hw' => (x_idx (i := i) rfl rfl Try.underlying27 sz45 h1.esl hlt)) ?_
    refine D.va (fun w' hw' => (x_loadAgg (cs := [.int .i64 (x.1 : Int), .int .i64 (x.2.kind), .int .i64 (x.2.obj), .int .i64 (x.2.num)]) rfl Try.underlying45 rfl sz45 rfl (fun j v hv => (h1.keep hw').ev i x j v hx hv))) ?_
    refine D.va (fun w' hw' => (x_field rfl Try.underlying31 rfl sz27 (by decide))) ?_
    refine D.va (fun w' hw' => (x_load rfl Try.underlying27 rfl ((hB3.keep hw').cellAt 0 (v := .slice ea' (evs.length) ec') rfl))) ?_
    refine D.va (fun w' hw' => (x_mvI rfl)) ?_
    refine D.va (fun w' hw' => (x_idx (i := i) rfl rfl Try.underlying27 sz45 h2.esl hlt)) ?_
    refine D.va (fun w' hw' => (x_loadAgg (cs := [.int .i64 (x.1 : Int), .int .i64 (x.2.kind), .int .i64 (x.2.obj), .int .i64 (x.2.num)]) rfl Try.underlying45 rfl sz45 rfl (fun j v hv => (h2.keep hw').ev i x j v hx hv))) ?_
    refine D.va (fun w' hw' => (x_neqSame rfl rfl (eqEv 9997 _ _ _ _) (by kernel_rfl) (noAddr4 ⟨rfl, rfl, rfl, rfl⟩))) ?_
    refine D.nil (fun w hbw => ?_)
    have hb := cl_step hb hbw
    have h1 := h1.keep hbw
    have h2 := h2.keep hbw
    have hB2 := hB2.keep hbw
    have hB3 := hB3.keep hbw
    clear hbw
    show W _ _ _ _ _ _
    refine W.condF rfl ?_
    refine W.skip ?_
    refine B.nrm ?_
    show W _ _ _ _ _ _
    refine W.region rfl ?_
    refine L.va (x_mvI rfl) ?_
    refine L.va (x_inc rfl rfl (by omega)) ?_
    refine L.va (x_asI rfl) ?_
    refine L.nil ?_
    refine T.nrm ?_
    exact ⟨_, by omega, ⟨i + 1, rfl, rfl, rfl, rfl, (by omega), h1, h2, hB2, hB3, hb⟩⟩
  · refine W.exit ?_
    repeat (first | refine T.exit ?_ | refine N.exit ?_ | refine B.exitNe (by decide) ?_)
    refine B.exitEq ?_
    show W _ _ _ _ _ _
    refine W.seq ?_
    refine W.seq ?_
    refine W.region rfl ?_
    refine L.va (x_asI rfl) ?_
    refine L.nil ?_
    show W _ _ _ _ _ _
    refine W.block ?_
    refine W.loop (fun k e w => ∃ (i : Nat), k = nts.length - i ∧ e 2 = .pointer (some ⟨b2, 0, none⟩) ∧ e 3 = .pointer (some ⟨b3, 0, none⟩) ∧ e 6 = .int .i64 (i : Int) ∧ i ≤ nts.length ∧ RunAt w ea na za wa m evs nts ens wts ∧ RunAt w ea' na' za' wa' m evs nts ens wts ∧ Blk w b2 #[.slice ea evs.length ec, .slice na nts.length nc, .slice za m zc, .slice wa m wc, .bool st, .int .i64 us] 31 ∧ Blk w b3 #[.slice ea' evs.length ec', .slice na' nts.length nc', .slice za' m zc', .slice wa' m wc', .bool st, .int .i64 us] 31 ∧ Below w0.heap.size w0 w) _ ⟨0, rfl, rfl, rfl, rfl, Nat.zero_le _, h1, h2, hB2, hB3, hb⟩ ?_
    rintro k e w ⟨i, hk, s2, s3, s6, hi, h1, h2, hB2, hB3, hb⟩
    rw [upd_id s2, upd_id s3, upd_id s6]
    clear s2 s3 s6
    refine W.seq ?_
    refine W.seq ?_
    refine W.region rfl ?_
    refine L.va (x_mvI rfl) ?_
    refine L.va (x_field rfl Try.underlying31 rfl sz28 (by decide)) ?_
    refine L.va (x_load rfl Try.underlying28 rfl (hB2.cellAt 1 (v := .slice na (nts.length) nc) rfl)) ?_
    refine L.va (x_len rfl Try.underlying28 rfl) ?_
    refine L.va (x_lss rfl rfl) ?_
    refine L.nil ?_
    show W _ _ _ _ _ _
    refine W.condP rfl (fun h78 => ?_) (fun h78 => ?_)
    · have hlt : i < nts.length := by omega
      obtain ⟨x, hx⟩ : ∃ x, nts[i]? = some x := ⟨_, List.getElem?_eq_getElem hlt⟩
      refine W.skip ?_
      show W _ _ _ _ _ _
      refine W.seq ?_
      refine W.block ?_
      refine W.seq ?_
      refine W.quiet (fun w' => Below w.heap.size w w') (by kernel_rfl) (by kernel_rfl) ((Below.refl w.heap.size w).drew) ?_
      refine D.va (fun w' hw' => (x_field rfl Try.underlying31 rfl sz28 (by decide))) ?_
      refine D.va (fun w' hw' => (x_load rfl Try.underlying28 rfl ((hB2.keep hw').cellAt 1 (v := .slice na (nts.length) nc) rfl))) ?_
      refine D.va (fun w' hw' => (x_mvI rfl)) ?_
      refine D.va (fun w' hw' => (x_idx (i := i) rfl rfl Try.underlying28 sz47 h1.nsl hlt)) ?_
      refine D.va (fun w' hw' => (x_loadAgg (cs := [.int .i64 (x.1 : Int), .int .i64 (x.2.1 : Int), .int .i64 (x.2.2.kind), .string (x.2.2.text)]) rfl Try.underlying47 rfl sz47 rfl (fun j v hv => (h1.keep hw').nt i x j v hx hv))) ?_
      refine D.va (fun w' hw' => (x_field rfl Try.underlying31 rfl sz28 (by decide))) ?_
      refine D.va (fun w' hw' => (x_load rfl Try.underlying28 rfl ((hB3.keep hw').cellAt 1 (v := .slice na' (nts.length) nc') rfl))) ?_
      refine D.va (fun w' hw' => (x_mvI rfl)) ?_
      refine D.va (fun w' hw' => (x_idx (i := i) rfl rfl Try.underlying28 sz47 h2.nsl hlt)) ?_
      refine D.va (fun w' hw' => (x_loadAgg (cs := [.int .i64 (x.1 : Int), .int .i64 (x.2.1 : Int), .int .i64 (x.2.2.kind), .string (x.2.2.text)]) rfl Try.underlying47 rfl sz47 rfl (fun j v hv => (h2.keep hw').nt i x j v hx hv))) ?_
      refine D.va (fun w' hw' => (x_neqSame rfl rfl (eqNt 9998 _ _ _ _) (by kernel_rfl) (noAddr4 ⟨rfl, rfl, rfl, rfl⟩))) ?_
      refine D.nil (fun w hbw => ?_)
      have hb := cl_step hb hbw
      have h1 := h1.keep hbw
      have h2 := h2.keep hbw
      have hB2 := hB2.keep hbw
      have hB3 := hB3.keep hbw
      clear hbw
      show W _ _ _ _ _ _
      refine W.condF rfl ?_
      refine W.skip ?_
      refine B.nrm ?_
      show W _ _ _ _ _ _
      refine W.region rfl ?_
      refine L.va (x_mvI rfl) ?_
      refine L.va (x_inc rfl rfl (by omega)) ?_
      refine L.va (x_asI rfl) ?_
      refine L.nil ?_
      refine T.nrm ?_
      exact ⟨_, by omega, ⟨i + 1, rfl, rfl, rfl, rfl, (by omega), h1, h2, hB2, hB3, hb⟩⟩
    · refine W.exit ?_
      repeat (first | refine T.exit ?_ | refine N.exit ?_ | refine B.exitNe (by decide) ?_)
      refine B.exitEq ?_
      show W _ _ _ _ _ _
      refine W.seq ?_
      refine W.seq ?_
      refine W.region rfl ?_
      refine L.va (x_asI rfl) ?_
      refine L.nil ?_
      show W _ _ _ _ _ _
      refine W.block ?_
      refine W.loop (fun k e w => ∃ (i : Nat), k = m - i ∧ e 2 = .pointer (some ⟨b2, 0, none⟩) ∧ e 3 = .pointer (some ⟨b3, 0, none⟩) ∧ e 7 = .int .i64 (i : Int) ∧ i ≤ m ∧ RunAt w ea na za wa m evs nts ens wts ∧ RunAt w ea' na' za' wa' m evs nts ens wts ∧ Blk w b2 #[.slice ea evs.length ec, .slice na nts.length nc, .slice za m zc, .slice wa m wc, .bool st, .int .i64 us] 31 ∧ Blk w b3 #[.slice ea' evs.length ec', .slice na' nts.length nc', .slice za' m zc', .slice wa' m wc', .bool st, .int .i64 us] 31 ∧ Below w0.heap.size w0 w) _ ⟨0, rfl, rfl, rfl, rfl, Nat.zero_le _, h1, h2, hB2, hB3, hb⟩ ?_
      rintro k e w ⟨i, hk, s2, s3, s7, hi, h1, h2, hB2, hB3, hb⟩
      rw [upd_id s2, upd_id s3, upd_id s7]
      clear s2 s3 s7
      refine W.seq ?_
      refine W.seq ?_
      refine W.region rfl ?_
      refine L.va (x_mvI rfl) ?_
      refine L.va (x_field rfl Try.underlying31 rfl sz26 (by decide)) ?_
      refine L.va (x_load rfl Try.underlying26 rfl (hB2.cellAt 2 (v := .slice za m zc) rfl)) ?_
      refine L.va (x_len rfl Try.underlying26 rfl) ?_
      refine L.va (x_lss rfl rfl) ?_
      refine L.nil ?_
      show W _ _ _ _ _ _
      refine W.condP rfl (fun h96 => ?_) (fun h96 => ?_)
      · have hlt : i < m := by omega
        obtain ⟨x, hx⟩ : ∃ x, ens[i]? = some x := ⟨_, List.getElem?_eq_getElem (by rw [h1.hz]; exact hlt)⟩
        obtain ⟨y, hy⟩ : ∃ y, wts[i]? = some y := ⟨_, List.getElem?_eq_getElem (by rw [h1.hw]; exact hlt)⟩
        refine W.skip ?_
        show W _ _ _ _ _ _
        refine W.seq ?_
        refine W.block ?_
        refine W.seq ?_
        refine W.quiet (fun w' => Below w.heap.size w w') (by kernel_rfl) (by kernel_rfl) ((Below.refl w.heap.size w).drew) ?_
        refine D.va (fun w' hw' => (x_field rfl Try.underlying31 rfl sz26 (by decide))) ?_
        refine D.va (fun w' hw' => (x_load rfl Try.underlying26 rfl ((hB2.keep hw').cellAt 2 (v := .slice za m zc) rfl))) ?_
        refine D.va (fun w' hw' => (x_mvI rfl)) ?_
        refine D.va (fun w' hw' => (x_idx (i := i) rfl rfl Try.underlying26 sz3 h1.zsl hlt)) ?_
        refine D.va (fun w' hw' => (x_load (v := .int .i64 x) rfl Try.underlying3 rfl ((h1.keep hw').en i x hx))) ?_
        refine D.va (fun w' hw' => (x_field rfl Try.underlying31 rfl sz26 (by decide))) ?_
        refine D.va (fun w' hw' => (x_load rfl Try.underlying26 rfl ((hB3.keep hw').cellAt 2 (v := .slice za' m zc') rfl))) ?_
        refine D.va (fun w' hw' => (x_mvI rfl)) ?_
        refine D.va (fun w' hw' => (x_idx (i := i) rfl rfl Try.underlying26 sz3 h2.zsl hlt)) ?_
        refine D.va (fun w' hw' => (x_load (v := .int .i64 x) rfl Try.underlying3 rfl ((h2.keep hw').en i x hx))) ?_
        refine D.va (fun w' hw' => (d_bool (r := false) (decide_eq_false (fun h => h rfl)) (x_neq (m := (x : Int)) (k := (x : Int)) rfl rfl))) ?_
        refine D.va (fun w' hw' => (x_mvB rfl)) ?_
        refine D.on rfl ?_
        refine D.va (fun w' hw' => (x_field rfl Try.underlying31 rfl sz29 (by decide))) ?_
        refine D.on rfl ?_
        refine D.va (fun w' hw' => (x_load rfl Try.underlying29 rfl ((hB2.keep hw').cellAt 3 (v := .slice wa m wc) rfl))) ?_
        refine D.on rfl ?_
        refine D.va (fun w' hw' => (x_mvI rfl)) ?_
        refine D.on rfl ?_
        refine D.va (fun w' hw' => (x_idx (i := i) rfl rfl Try.underlying29 sz43 h1.wsl hlt)) ?_
        refine D.on rfl ?_
        refine D.va (fun w' hw' => (x_loadAgg (cs := [.int .i64 (y.kind), .int .i64 (y.obj), .int .i64 (y.num)]) rfl Try.underlying43 rfl sz43 rfl (fun j v hv => (h1.keep hw').wt i y j v hy hv))) ?_
        refine D.on rfl ?_
        refine D.va (fun w' hw' => (x_field rfl Try.underlying31 rfl sz29 (by decide))) ?_
        refine D.on rfl ?_
        refine D.va (fun w' hw' => (x_load rfl Try.underlying29 rfl ((hB3.keep hw').cellAt 3 (v := .slice wa' m wc') rfl))) ?_
        refine D.on rfl ?_
        refine D.va (fun w' hw' => (x_mvI rfl)) ?_
        refine D.on rfl ?_
        refine D.va (fun w' hw' => (x_idx (i := i) rfl rfl Try.underlying29 sz43 h2.wsl hlt)) ?_
        refine D.on rfl ?_
        refine D.va (fun w' hw' => (x_loadAgg (cs := [.int .i64 (y.kind), .int .i64 (y.obj), .int .i64 (y.num)]) rfl Try.underlying43 rfl sz43 rfl (fun j v hv => (h2.keep hw').wt i y j v hy hv))) ?_
        refine D.on rfl ?_
        refine D.va (fun w' hw' => (x_neqSame rfl rfl (eqStp 9998 _ _ _) (by kernel_rfl) (noAddr3 ⟨rfl, rfl, rfl⟩))) ?_
        refine D.va (fun w' hw' => (x_pickF rfl)) ?_
        refine D.nil (fun w hbw => ?_)
        have hb := cl_step hb hbw
        have h1 := h1.keep hbw
        have h2 := h2.keep hbw
        have hB2 := hB2.keep hbw
        have hB3 := hB3.keep hbw
        clear hbw
        show W _ _ _ _ _ _
        refine W.condF rfl ?_
        refine W.skip ?_
        refine B.nrm ?_
        show W _ _ _ _ _ _
        refine W.region rfl ?_
        refine L.va (x_mvI rfl) ?_
        refine L.va (x_inc rfl rfl (by omega)) ?_
        refine L.va (x_asI rfl) ?_
        refine L.nil ?_
        refine T.nrm ?_
        exact ⟨_, by omega, ⟨i + 1, rfl, rfl, rfl, rfl, (by omega), h1, h2, hB2, hB3, hb⟩⟩
      · refine W.exit ?_
        repeat (first | refine T.exit ?_ | refine N.exit ?_ | refine B.exitNe (by decide) ?_)
        refine B.exitEq ?_
        show W _ _ _ _ _ _
        refine W.seq ?_
        refine W.region rfl ?_
        refine L.va (x_asB rfl) ?_
        refine L.nil ?_
        show W _ _ _ _ _ _
        refine W.ret ?_
        repeat (first | refine T.ret ?_ | refine B.ret ?_ | refine N.ret ?_)
        refine ends.one (.inr rfl) rfl ?_
        exact ⟨rfl, hb⟩

end
end Go.Vy.Sc
end
/- From one good run of a call that starts goroutines to a statement with a bound on what comes in. Nothing here speaks of a program. -/
section
namespace Go.Vy
open Go Go.Conc
theorem leaving_of_cond {H : Type} {enc : TypeId × Value → H} {a : Assume} {C : Checked} {os : Os} {f : FuncId} {fn : Func} {s : OpenSpec} {k : (H : Type) → List (DataW H) → Bool} (hk : s.cond = some k) {F : Stop.Interp} {conds : List PathCond} {apart fresh handsOn again : Bool}
    (own : ownKnob C.prog.godebug = none) (started : os.Started) (hfn : C.prog.funcs[f]? = some fn)
    (wit : ∃ (w : World) (tape : Tape) (i : Input), w.os = os ∧ (w.forCall tape i).Shaped C.prog ∧ i.vars = [] ∧ Input.okWide C.prog (w.forCall tape i) .any w.heap.size f i ∧ s.pre6 enc C.prog fn conds apart (w.forCall tape i).memory i.args ∧ a.holds C.prog (lone (Frame.enter C.prog f i.args .normal) [] (w.forCall tape i)))
    (runs : ∀ (W : World) (base : Nat) (args : Array Value) (ds gs : List (DataW H)) (before : List MemPlace), (∀ (j : Nat) t v, fn.params[j]? = some t → args[j]? = some v → Value.okWide C.prog W .any base t v) → DataW.Whole enc C.prog fn.params.toList s.vars apart W args.toList ds gs before → k H (ds ++ gs) = true →
      ∃ M last o w' t', runNT C.prog (M + 1) (solo (G (Frame.enter C.prog f args .normal) []) W) #[] = (.ended o w', t') ∧ runN C.prog M (solo (G (Frame.enter C.prog f args .normal) []) W) = .next last ∧ step C.prog last = .ended o w' ∧ Conc.Good C.prog (fun v W' => (s.at F).post enc C.prog fn apart fresh handsOn again W args v W') last o w' t') :
    ReturnsInLeavingWide a C os f .any (s.pre6 enc C.prog fn conds apart) ((s.at F).post enc C.prog fn apart fresh handsOn again) := by
  refine returnsInLeavingWide_of_good own started wit fun w tape i _ _ _ hok hpre _ => ?_
  obtain ⟨_, _, _, fn', hfn', _, _, _, _, hval⟩ := hok
  rw [hfn] at hfn'
  obtain rfl := Option.some.inj hfn'
  obtain ⟨ds, gs, before, hw, _, hkk⟩ := (OpenSpec.pre_some hk conds apart _ _).1 hpre.1
  obtain ⟨M, last, o, w', t', h1, h2, h3, h4⟩ := runs (w.forCall tape i) w.heap.size i.args ds gs before hval (DataW.Whole.of_heap (w' := w.forCall tape i) (by rfl) hw) hkk
  exact ⟨M, last, o, w', t', h1, h2, h3, h4.mono fun v hp => ChangeSpec.post_blind hp⟩
theorem holds_leaving_cond {p : Pinned} {s : OpenSpec} {c : OpenClaim} (f : FuncId) (fn : Func) (hn : c.program = p.name) (hs : c.sum = p.sum) (hsp : c.spec = s.name) (hstart : c.start = .entering) (hout : c.outside = []) (hin : c.inits = []) (hun : c.under = none)
    (hi4 : c.initsInPlace = [] ∧ c.initsUnfollowed = false ∧ c.initsRecurse = false ∧ c.initsNamed = [] ∧ c.initsPassed = []) (hnb : c.noBlocks = false) (hlv : c.leaving = true) (hfo : c.followed = none) (hnar : c.narrowed = s.cond.isSome) (hstill : c.still = false)
    (hfn : p.checked.prog.funcNamed c.func = some f) (hf : p.checked.prog.funcs[f]? = some fn) (closed : joinedFacts p.checked.prog f fn s.bare c = true) (hinst : fn.isInstance p.checked.prog c.origin c.targs) (hwrap : fn.isWrapper p.checked.prog c.wrapper c.mainSum)
    (h : ∀ os : Os, os.Started → ∀ (H : Type) (enc : TypeId × Value → H), (∀ a b, enc a = enc b → a = b) → ∀ F : Stop.Interp, ReturnsInLeavingWide c.assume p.checked os f .any (c.pre enc p.checked.prog fn s) ((s.at F).post enc p.checked.prog fn c.apart c.fresh c.handsOn c.again)) : c.holds p s := by
  simp only [joinedFacts, Bool.and_eq_true, beq_iff_eq, Array.all_eq_true_iff_forall_mem, List.all_eq_true, decide_eq_true_eq] at closed
  obtain ⟨⟨⟨⟨⟨⟨⟨⟨⟨⟨⟨⟨⟨⟨⟨⟨⟨⟨⟨⟨⟨⟨⟨⟨⟨⟨⟨⟨⟨⟨⟨q1, q2⟩, q3⟩, q4⟩, q5⟩, q6⟩, q7⟩, q8⟩, q9⟩, q10⟩, q11⟩, q12⟩, q13⟩, q14⟩, q15⟩, q16⟩, q17⟩, q17b⟩, q18⟩, q19⟩, q20⟩, q21⟩, q22⟩, q23⟩, q23b⟩, q24⟩, q24b⟩, q24c⟩, q25⟩, q26⟩, q27⟩, q28⟩ := closed
  have hq : ∀ os : Os, Stop.quiet p.checked.prog os := fun os k hk => by rw [q9] at hk; cases hk
  have hex : ∃ os : Os, c.world os ∧ Stop.quiet p.checked.prog os := ⟨_, by unfold OpenClaim.world; rw [hout, hstart]; exact WideRow.started_initial, hq _⟩
  refine ⟨q1, hn, hs, hsp, q2, q3, ?_, ?_, f, fn, hfn, hf, ⟨q4, q19⟩, (fun hb => by rw [hnb] at hb; cases hb), ?_, hinst, hwrap, q6.trans q7.symm, ⟨q8.trans q9.symm, ?_, q23b⟩, q10, q11, q12, q13, q14, ⟨q15, q27, q28⟩, ⟨q16, q20⟩, ⟨q17, q21, q25, q26⟩, ⟨q22, q24b, q24c, q17b⟩, ?_, fun n hn' => varReadable_some (q18 n hn'), hex, [], ?_, fun os st _ H enc inj => ?_⟩
  · unfold OpenClaim.startFits; rw [hstart]; exact q24
  · unfold OpenClaim.startTold; rw [hstart]; exact ⟨hin, hun, hi4⟩
  · unfold OpenClaim.namedList; rw [hfo]; exact q5
  · unfold Program.envWorded; rw [q9]; rfl
  · rw [hout, hnar]
    cases hsh : c.shortTexts with
    | none => simp
    | some _ => rw [hsh] at q23; cases q23
  · unfold OpenClaim.lists; rw [hfo]
  · have st' : os.Started := by unfold OpenClaim.world at st; rw [hout, hstart] at st; exact st
    rw [OpenClaim.post_not_still hstill]
    unfold OpenClaim.form
    rw [hstart, q6]
    intro F
    have e1 : c.okInput = Input.okWide := by unfold OpenClaim.okInput; rw [hnb]
    have e2 : c.atReturn p.checked.prog = leavingAtReturn p.checked.prog := by unfold OpenClaim.atReturn; rw [hlv]
    have e3 : c.always p.checked.prog [] = nothingAlways := by unfold OpenClaim.always; rw [hfo]
    have e4 : s.post enc p.checked.prog fn F c.outside c.apart c.fresh c.handsOn c.again = (s.at F).post enc p.checked.prog fn c.apart c.fresh c.handsOn c.again := by rw [hout]; rfl
    rw [e1, e2, e3]
    show ReturnsInOpen _ _ _ _ _ _ _ _ (s.post enc p.checked.prog fn F c.outside c.apart c.fresh c.handsOn c.again) _ _
    rw [e4]
    exact h os st' H enc inj F q24
end Go.Vy
end
/- Bodies and scripts that come in, read; what their bulk bounds. -/
section
namespace Go.Vy.Sc
open Go Go.Conc Go.Yc Go.RowKit Go.Proofs Go.Proofs.Ytfmoeemolgjodaa
open Go.Vc Go.Wg Go.ChangeShapes Go.WideShapes Go.ChangeAt Go.Deep
/-! ### Bulk -/
theorem bulk_one {H : Type} (d : DataW H) : 1 ≤ Rows.uptoBulk d := by
  cases d with
  | lit l => cases l <;> simp [Rows.uptoBulk]
  | _ => simp [Rows.uptoBulk]
theorem bulk_part {H : Type} {d : DataW H} : ∀ {l : List (DataW H)}, d ∈ l → Rows.uptoBulk d ≤ Rows.uptoBulkAll l
  | x :: r, h => by
    simp only [Rows.uptoBulkAll]
    rcases List.mem_cons.1 h with rfl | h
    · omega
    · have := bulk_part h; omega
theorem bulk_len {H : Type} : ∀ (l : List (DataW H)), l.length ≤ Rows.uptoBulkAll l
  | [] => Nat.zero_le _
  | x :: r => by
    have := bulk_one x
    have := bulk_len r
    simp only [Rows.uptoBulkAll, List.length_cons]; omega
theorem bulk_small {H : Type} {l : List (DataW H)} (h : Rows.uptoSmall H l = true) : Rows.uptoBulkAll l ≤ 1048576 := of_decide_eq_true h
section
variable {H : Type} {enc : TypeId × Value → H} {W : World} {base : Nat} {spare : Nat → Bool} {held : Bool} {P : Program}
/-- A slice, element by element, with its reading. -/
theorem open_slD {t e : TypeId} {s : Nat} {a : Option Addr} {len cap fuel : Nat} {x : DataW H × List MemPlace} (ht : P.underlying t = some (.slice e)) (hs : P.cellsOf e = s) (h0 : 0 < s) (h : DataW.trod enc P W base spare held fuel t [.slice a len cap] = some x) :
    SL a len ∧ (a = none → len = 0 ∧ cap = 0) ∧ (len ≤ cap ∧ len ≤ Rows.uptoBulk x.1) ∧ ∃ n, ∀ i, i < len → ∃ cs y, Rows.uptoBulk y.1 ≤ Rows.uptoBulk x.1 ∧ cs.length = s ∧ (∀ (j : Nat) v, cs[j]? = some v → W.cell? ⟨ab a, ao a + i * s + j, none⟩ = some v) ∧ DataW.trod enc P W base spare held n e cs = some y := by
  rcases open_slice ht h with ⟨hcs, _⟩ | ⟨ad, l, c, m, n, D, Pl, hcs, hb, hl, hm, hmm, hx, hi⟩
  · simp at hcs
    obtain ⟨rfl, rfl, rfl⟩ := hcs
    exact ⟨SL.zero _, fun _ => ⟨rfl, rfl⟩, ⟨Nat.le_refl _, Nat.zero_le _⟩, 0, fun i hi => absurd hi (Nat.not_lt_zero _)⟩
  · simp at hcs
    obtain ⟨rfl, rfl, rfl⟩ := hcs
    have hlm : len ≤ m := by rw [hmm]; split <;> omega
    have hbk : Rows.uptoBulkAll ((List.range len).map D) ≤ Rows.uptoBulk x.1 := by
      rw [hx]
      simp only [Rows.uptoBulk]; omega
    have hE : ∀ i, i < len → ∃ cs y, Rows.uptoBulk y.1 ≤ Rows.uptoBulk x.1 ∧ cs.length = s ∧ (∀ (j : Nat) v, cs[j]? = some v → W.cell? ((ad.add (i * s)).add j) = some v) ∧ DataW.trod enc P W base spare held n e cs = some y := fun i hil => by
      obtain ⟨cs, h1, h2⟩ := hi i (by omega)
      rw [hs] at h1
      obtain ⟨_, h4, h3⟩ := World.cells?_some h1
      refine ⟨cs, _, Nat.le_trans (bulk_part (List.mem_map.2 ⟨i, by simpa using hil, rfl⟩)) hbk, h4, fun j v hj => ?_, h2⟩
      have : j < s := by rw [← h4]; exact (List.getElem?_eq_some_iff.1 hj).1
      rw [h3 j this]; exact hj
    have hsp : 0 < len → ad = ⟨ad.block, ad.off, none⟩ := fun hl0 => by
      obtain ⟨cs, y, _, h1, h2, _⟩ := hE 0 hl0
      obtain ⟨v, hv⟩ : ∃ v, cs[0]? = some v := ⟨_, List.getElem?_eq_getElem (by omega)⟩
      have := h2 0 v hv
      rw [Nat.zero_mul] at this
      have e1 : (ad.add 0).add 0 = ad := by simp [Addr.add]
      rw [e1] at this
      obtain ⟨b, o, sp⟩ := ad
      cases sp with
      | none => rfl
      | some sp => unfold World.cell? at this; simp at this; split at this <;> simp at this
    refine ⟨fun hl0 => by rw [hsp hl0]; rfl, (fun h => by cases h), ⟨hl, ?_⟩, n, fun i hil => ?_⟩
    · have := bulk_len ((List.range len).map D)
      rw [List.length_map, List.length_range] at this
      omega
    · obtain ⟨cs, y, h5, h1, h2, h3⟩ := hE i hil
      refine ⟨cs, y, h5, h1, fun j v hj => ?_, h3⟩
      have := h2 j v hj
      rw [hsp (by omega), Addr.add_lit, Addr.add_lit] at this
      exact this
end
section
variable {H : Type} {enc : TypeId × Value → H} {W : World} {base : Nat} {spare : Nat → Bool} {held : Bool}
theorem cellsOp : Try.prog.cellsOf 63 = 10 := by kernel_rfl
theorem cellsBool : Try.prog.cellsOf 4 = 1 := by kernel_rfl
theorem cellsI64 : Try.prog.cellsOf 2 = 1 := by kernel_rfl
theorem cellsStr : Try.prog.cellsOf 9 = 1 := by kernel_rfl
theorem cellsOps : Try.prog.cellsOf 64 = 1 := by kernel_rfl
theorem len10 {α : Type} : ∀ {cs : List α}, cs.length = 10 → ∃ a b c d e f g h i j, cs = [a, b, c, d, e, f, g, h, i, j]
  | [a, b, c, d, e, f, g, h, i, j], _ => ⟨a, b, c, d, e, f, g, h, i, j, rfl⟩
instance : Inhabited OpD := ⟨⟨0, ⟨0, 0, 0⟩, false, 0, 0, 0, 0, ByteArray.empty⟩⟩
set_option maxRecDepth 100000 in
theorem op_cells {n : Nat} {cs : List Value} {x : DataW H × List MemPlace} (h : DataW.trod enc Try.prog W base spare held n 63 cs = some x) : ∃ o : OpD, cs = opC o ∧ o.text.size ≤ Rows.uptoBulk x.1 := by
  obtain ⟨xs, m, _, hx0, hl, hxl, hf⟩ := DataW.trod_struct Try.underlying63 h
  rw [cellsOp] at hl
  obtain ⟨v0, v1, v2, v3, v4, v5, v6, v7, v8, v9, rfl⟩ := len10 hl
  have hln : xs.length = 8 := hxl
  have get : ∀ j, j < 8 → ∃ y, xs[j]? = some y ∧ y ∈ xs := fun j hj => ⟨xs[j]'(by omega), List.getElem?_eq_getElem (by omega), List.getElem_mem _⟩
  obtain ⟨y0, e0, _⟩ := get 0 (by decide)
  obtain ⟨y1, e1, _⟩ := get 1 (by decide)
  obtain ⟨y2, e2, _⟩ := get 2 (by decide)
  obtain ⟨y3, e3, _⟩ := get 3 (by decide)
  obtain ⟨y4, e4, _⟩ := get 4 (by decide)
  obtain ⟨y5, e5, _⟩ := get 5 (by decide)
  obtain ⟨y6, e6, _⟩ := get 6 (by decide)
  obtain ⟨y7, e7, m7⟩ := get 7 (by decide)
  have h0 : DataW.trod enc Try.prog W base spare held m 3 ([v0, v1, v2, v3, v4, v5, v6, v7, v8, v9].drop 0 |>.take (Try.prog.cellsOf 3)) = some y0 := (hf 0 _ rfl).trans e0
  have h1 : DataW.trod enc Try.prog W base spare held m 43 ([v0, v1, v2, v3, v4, v5, v6, v7, v8, v9].drop 1 |>.take (Try.prog.cellsOf 43)) = some y1 := (hf 1 _ rfl).trans e1
  have h2 : DataW.trod enc Try.prog W base spare held m 4 ([v0, v1, v2, v3, v4, v5, v6, v7, v8, v9].drop 4 |>.take (Try.prog.cellsOf 4)) = some y2 := (hf 2 _ rfl).trans e2
  have h3 : DataW.trod enc Try.prog W base spare held m 3 ([v0, v1, v2, v3, v4, v5, v6, v7, v8, v9].drop 5 |>.take (Try.prog.cellsOf 3)) = some y3 := (hf 3 _ rfl).trans e3
  have h4 : DataW.trod enc Try.prog W base spare held m 2 ([v0, v1, v2, v3, v4, v5, v6, v7, v8, v9].drop 6 |>.take (Try.prog.cellsOf 2)) = some y4 := (hf 4 _ rfl).trans e4
  have h5 : DataW.trod enc Try.prog W base spare held m 3 ([v0, v1, v2, v3, v4, v5, v6, v7, v8, v9].drop 7 |>.take (Try.prog.cellsOf 3)) = some y5 := (hf 5 _ rfl).trans e5
  have h6 : DataW.trod enc Try.prog W base spare held m 2 ([v0, v1, v2, v3, v4, v5, v6, v7, v8, v9].drop 8 |>.take (Try.prog.cellsOf 2)) = some y6 := (hf 6 _ rfl).trans e6
  have h7 : DataW.trod enc Try.prog W base spare held m 9 ([v0, v1, v2, v3, v4, v5, v6, v7, v8, v9].drop 9 |>.take (Try.prog.cellsOf 9)) = some y7 := (hf 7 _ rfl).trans e7
  rw [cellsInt] at h0 h3 h5
  rw [cellsStep] at h1
  rw [cellsBool] at h2
  rw [cellsI64] at h4 h6
  rw [cellsStr] at h7
  obtain ⟨z0, g0, _⟩ := DataW.trod_int Try.underlying3 h0
  obtain ⟨z1, g1⟩ := step_cells h1
  obtain ⟨z2, g2, _⟩ := DataW.trod_bool Try.underlying4 h2
  obtain ⟨z3, g3, _⟩ := DataW.trod_int Try.underlying3 h3
  obtain ⟨z4, g4, _⟩ := DataW.trod_int Try.underlying2 h4
  obtain ⟨z5, g5, _⟩ := DataW.trod_int Try.underlying3 h5
  obtain ⟨z6, g6, _⟩ := DataW.trod_int Try.underlying2 h6
  obtain ⟨z7, g7, q7, _⟩ := DataW.trod_string Try.underlying9 h7
  refine ⟨⟨z0, z1, z2, z3, z4, z5, z6, z7⟩, ?_, ?_⟩
  · have g1 : [v1, v2, v3] = [.int .i64 z1.kind, .int .i64 z1.obj, .int .i64 z1.num] := g1
    simp at g0 g1 g2 g3 g4 g5 g6 g7
    obtain ⟨g1, g1', g1''⟩ := g1
    rw [g0, g1, g1', g1'', g2, g3, g4, g5, g6, g7]; rfl
  · show z7.size ≤ _
    have h8 : Rows.uptoBulk y7.1 = z7.size + 1 := by
      rw [q7]
      simp [Rows.uptoBulk]
    have h9 : Rows.uptoBulk y7.1 ≤ Rows.uptoBulk x.1 := by
      rw [hx0]
      simp only [Rows.uptoBulk]
      have := bulk_part (List.mem_map.2 ⟨y7, m7, rfl⟩ : y7.1 ∈ xs.map (·.1))
      omega
    omega
theorem ops_at {n len cap : Nat} {a : Option Addr} {x : DataW H × List MemPlace} (h : DataW.trod enc Try.prog W base spare held n 64 [.slice a len cap] = some x) (hx : Rows.uptoBulk x.1 ≤ 1048576) : ∃ l : List OpD, l.length = len ∧ SL a len ∧ len ≤ 1048576 ∧ (∀ (k : Nat) (o : OpD), l[k]? = some o → o.text.size ≤ 1048576 ∧ ∀ (j : Nat) (v : Value), (opC o)[j]? = some v → W.cell? ⟨ab a, ao a + k * 10 + j, none⟩ = some v) := by
  obtain ⟨h1, _, ⟨_, h2⟩, m, h3⟩ := open_slD Try.underlying64 cellsOp (by decide) h
  obtain ⟨f, hf⟩ := chooseLt (α := OpD) (n := len) (p := fun i o => o.text.size ≤ 1048576 ∧ ∀ (j : Nat) (v : Value), (opC o)[j]? = some v → W.cell? ⟨ab a, ao a + i * 10 + j, none⟩ = some v) fun i hi => by
    obtain ⟨cs, y, g0, _, g2, g3⟩ := h3 i hi
    obtain ⟨o, rfl, ho⟩ := op_cells g3
    exact ⟨o, by omega, g2⟩
  refine ⟨(List.range len).map f, by simp, h1, by omega, fun k o hk => ?_⟩
  have hkl : k < len := by
    have := (List.getElem?_eq_some_iff.1 hk).1
    simpa using this
  simp [hkl] at hk
  rw [← hk]
  exact hf k hkl
/-- A script. -/
theorem open_scriptU {a : Option Addr} {len cap : Nat} {d : DataW H} {p : List MemPlace} (h : DataW.Trod enc Try.prog W base spare held 26 (.slice a len cap) d p) (hd : Rows.uptoBulk d ≤ 1048576) : ∃ sc, ScAt (veil W) a len cap sc ∧ len ≤ 1048576 := by
  obtain ⟨fuel, hf⟩ := h
  obtain ⟨h1, h2, h4, n, h3⟩ := open_slD Try.underlying26 cellsInt Nat.one_pos (show DataW.trod enc Try.prog W base spare held fuel 26 [.slice a len cap] = _ from hf)
  have h4c := h4.1
  have h4 : len ≤ Rows.uptoBulk d := h4.2
  obtain ⟨sc, hsc⟩ := chooseLt (α := Int) (n := len) (p := fun i z => W.cell? ⟨ab a, ao a + i * 1, none⟩ = some (.int .i64 z)) fun i hi => by
    obtain ⟨cs, y, _, _, g2, g3⟩ := h3 i hi
    obtain ⟨z, rfl, _⟩ := DataW.trod_int Try.underlying3 g3
    exact ⟨z, g2 0 _ rfl⟩
  exact ⟨sc, ⟨h1, h2, h4c, fun j hj => veil_cell (hsc j hj)⟩, by omega⟩
/-- Bodies. -/
theorem open_bodies {a : Option Addr} {len cap : Nat} {d : DataW H} {p : List MemPlace} (h : DataW.Trod enc Try.prog W base spare held 25 (.slice a len cap) d p) (hd : Rows.uptoBulk d ≤ 1048576) : ∃ bo aa cc, BodsAt (veil W) a len bo aa cc ∧ len ≤ 1048576 ∧ (a = none → len = 0 ∧ cap = 0) := by
  obtain ⟨fuel, hf⟩ := h
  obtain ⟨h1, h2, h4, n, h3⟩ := open_slD Try.underlying25 cellsOps Nat.one_pos (show DataW.trod enc Try.prog W base spare held fuel 25 [.slice a len cap] = _ from hf)
  have h4c := h4.1
  have h4 : len ≤ Rows.uptoBulk d := h4.2
  obtain ⟨F, hF⟩ := chooseLt (α := List OpD × Option Addr × Nat) (n := len) (p := fun i z => W.cell? ⟨ab a, ao a + i * 1, none⟩ = some (.slice z.2.1 z.1.length z.2.2) ∧ SL z.2.1 z.1.length ∧ z.1.length ≤ 1048576 ∧ ∀ (k : Nat) (o : OpD), z.1[k]? = some o → o.text.size ≤ 1048576 ∧ ∀ (j : Nat) (v : Value), (opC o)[j]? = some v → W.cell? ⟨ab z.2.1, ao z.2.1 + k * 10 + j, none⟩ = some v) fun i hi => by
    obtain ⟨cs, y, g0, g1, g2, g3⟩ := h3 i hi
    have g0 : Rows.uptoBulk y.1 ≤ Rows.uptoBulk d := g0
    have hcs : ∃ a' len' cap', cs = [.slice a' len' cap'] := by
      rcases DataW.trod_slice Try.underlying64 g3 with ⟨h0, _⟩ | ⟨a', len', cap', _, _, _, _, h0, _⟩
      · exact ⟨_, _, _, h0⟩
      · exact ⟨_, _, _, h0⟩
    obtain ⟨a', len', cap', rfl⟩ := hcs
    obtain ⟨l, rfl, q1, q2, q3⟩ := ops_at g3 (by omega)
    exact ⟨(l, a', cap'), g2 0 _ rfl, q1, q2, q3⟩
  refine ⟨fun i => (F i).1, fun i => (F i).2.1, fun i => (F i).2.2, ⟨h1, fun i hi => veil_cell (hF i hi).1, fun i hi => (hF i hi).2.1, fun i hi k o ho j v hv => veil_cell (((hF i hi).2.2.2 k o ho).2 j v hv), fun i hi => (hF i hi).2.2.1, fun i hi k o ho => ?_⟩, by omega, h2⟩
  have := ((hF i hi).2.2.2 k o ho).1
  omega
end
end Go.Vy.Sc
end
/- A play, whatever comes in: what it answers. -/
section
namespace Go.Vy.Sc
open Go Go.Conc Go.Yc Go.RowKit Go.Proofs Go.Proofs.Ytfmoeemolgjodaa
open Go.Vc Go.Wg
section
variable {P : Program} [Ctx P] {n : Nat} {Q : Exit → Env → World → Prop} {e : Env} {w : World} {ops : Array Oper} {rest : List Oper} {d : Nat} {ty : TypeId} {ps : String} {af : Array Edge} {T E : TypeId} {x y : Operand}
end
/-- What a play answers. -/
structure PD where
  e : Int
  mm : Nat
  evs : List (Nat × Stp)
  nts : List (Nat × Nat × Nte)
  ens : List Int
  wts : List Stp
  st : Bool
  us : Int
noncomputable def pd (m : Nat) (bo : Nat → List OpD) (sn : Nat) (sc : Nat → Int) : PD :=
  if 16 < m then ⟨90, 0, [], [], [], [], false, 0⟩ else if 262144 < sn then ⟨1, 0, [], [], [], [], false, 0⟩ else
    ⟨0, m, (PB m bo sc sn).evs, (PB m bo sc sn).nts, (List.range m).map fun j => endOf (PB m bo sc sn).ft[j]?, (List.range m).map fun j => wtOf (pSys m bo) j (PB m bo sc sn).ft[j]?, (PB m bo sc sn).ft.any (·.isLeft) && ((pSys m bo).rds (PB m bo sc sn)).isEmpty, ((PB m bo sc sn).used : Int)⟩
/-- Where a run does not lie. -/
structure Off (b : Nat) (ea na za wa : Option Addr) (d : PD) : Prop where
  ev : d.evs ≠ [] → ab ea ≠ b
  nt : d.nts ≠ [] → ab na ≠ b
  en : 0 < d.mm → ab za ≠ b
  wt : 0 < d.mm → ab wa ≠ b
/-- A run that lies behind B. -/
structure Lo (B : Nat) (ea na za wa : Option Addr) (d : PD) : Prop where
  ev : d.evs ≠ [] → B ≤ ab ea
  nt : d.nts ≠ [] → B ≤ ab na
  en : 0 < d.mm → B ≤ ab za
  wt : 0 < d.mm → B ≤ ab wa
abbrev RunD (w : World) (ea na za wa : Option Addr) (d : PD) : Prop := RunAt w ea na za wa d.mm d.evs d.nts d.ens d.wts
section
variable {w w' : World} {ea na za wa : Option Addr} {d : PD} {b : Nat}
theorem ne_nil_of_get {α : Type} {l : List α} {i : Nat} {x : α} (h : l[i]? = some x) : l ≠ [] := fun e => by rw [e] at h; cases h
theorem RunD.lt (h : RunD w ea na za wa d) : (d.evs ≠ [] → ab ea < w.heap.size) ∧ (d.nts ≠ [] → ab na < w.heap.size) ∧ (0 < d.mm → ab za < w.heap.size) ∧ (0 < d.mm → ab wa < w.heap.size) := by
  refine ⟨fun hn => ?_, fun hn => ?_, fun hn => ?_, fun hn => ?_⟩
  · obtain ⟨x, l, hx⟩ := List.exists_cons_of_ne_nil hn
    exact cell_lt (h.ev 0 x 0 _ (by rw [hx]; rfl) rfl)
  · obtain ⟨x, l, hx⟩ := List.exists_cons_of_ne_nil hn
    exact cell_lt (h.nt 0 x 0 _ (by rw [hx]; rfl) rfl)
  · obtain ⟨x, hx⟩ : ∃ x, d.ens[0]? = some x := ⟨_, List.getElem?_eq_getElem (by rw [h.hz]; exact hn)⟩
    exact cell_lt (h.en 0 x hx)
  · obtain ⟨x, hx⟩ : ∃ x, d.wts[0]? = some x := ⟨_, List.getElem?_eq_getElem (by rw [h.hw]; exact hn)⟩
    exact cell_lt (h.wt 0 x 0 _ hx rfl)
theorem RunD.off (h : RunD w ea na za wa d) (hb : w.heap.size ≤ b) : Off b ea na za wa d := by
  obtain ⟨h1, h2, h3, h4⟩ := RunD.lt h
  exact ⟨fun z => by have := h1 z; omega, fun z => by have := h2 z; omega, fun z => by have := h3 z; omega, fun z => by have := h4 z; omega⟩
theorem cell_other {a : Addr} {v : Value} (h : w.cell? a = some v) (hg : w.grownBy w' (some b)) (hn : a.block ≠ b) : w'.cell? a = some v := by
  rw [(cell_of_heap (u := w) (u' := w') (a := a) (hg.block _ (cell_lt h) (by simpa using hn))).1]; exact h
theorem RunD.otherB (h : RunD w ea na za wa d) (hg : w.grownBy w' (some b)) (ho : Off b ea na za wa d) : RunD w' ea na za wa d :=
  ⟨h.esl, h.nsl, h.zsl, h.wsl, h.hz, h.hw, fun i x k v h1 h2 => cell_other (h.ev i x k v h1 h2) hg (ho.ev (ne_nil_of_get h1)), fun i x k v h1 h2 => cell_other (h.nt i x k v h1 h2) hg (ho.nt (ne_nil_of_get h1)),
    fun i x h1 => cell_other (h.en i x h1) hg (ho.en (by have := (List.getElem?_eq_some_iff.1 h1).1; rw [h.hz] at this; omega)), fun i x k v h1 h2 => cell_other (h.wt i x k v h1 h2) hg (ho.wt (by have := (List.getElem?_eq_some_iff.1 h1).1; rw [h.hw] at this; omega))⟩
end
theorem RunAt.otherB {w w' : World} {ea na za wa : Option Addr} {d : PD} {b : Nat} (h : RunAt w ea na za wa d.mm d.evs d.nts d.ens d.wts) (hg : w.grownBy w' (some b)) (ho : Off b ea na za wa d) : RunAt w' ea na za wa d.mm d.evs d.nts d.ens d.wts := RunD.otherB h hg ho
theorem PlayM.lists {B m sn : Nat} {bo : Nat → List OpD} {sc : Nat → Int} {w : World} {R : Rn} (h : PlayM B m bo sn sc w R) : R.ends = (List.range m).map (fun j => endOf (PB m bo sc sn).ft[j]?) ∧ R.wts = (List.range m).map (fun j => wtOf (pSys m bo) j (PB m bo sc sn).ft[j]?) := by
  have h1 := h.mem.lend
  have h2 := h.mem.lwts
  rw [h.hm] at h1 h2
  constructor
  · apply List.ext_getElem?
    intro j
    rcases Nat.lt_or_ge j m with hj | hj
    · rw [h.ends j hj]; simp [hj]
    · rw [List.getElem?_eq_none (by omega), List.getElem?_eq_none (by simpa using hj)]
  · apply List.ext_getElem?
    intro j
    rcases Nat.lt_or_ge j m with hj | hj
    · rw [h.wts j hj]; simp [hj]
    · rw [List.getElem?_eq_none (by omega), List.getElem?_eq_none (by simpa using hj)]
theorem runAt_nil (w : World) : RunAt w none none none none 0 [] [] [] [] :=
  ⟨SL.zero _, SL.zero _, SL.zero _, SL.zero _, rfl, rfl, fun i x k v h => by simp at h, fun i x k v h => by simp at h, fun i x h => by simp at h, fun i x k v h => by simp at h⟩
/-- A play. -/
theorem playd_c {lb : Nat} {pl : Nat → Plug} {m bc sn scp : Nat} {bo : Nat → List OpD} {sc : Nat → Int} {ba sa : Option Addr} {aa : Nat → Option Addr} {cc : Nat → Nat} (w0 : World) (hBo : BodsAt w0 ba m bo aa cc) (hSc : ScAt w0 sa sn scp sc) (hm : m ≤ 1048576) (hsn : sn ≤ 1048576) :
    @C Try.prog (loneCtx lb pl) 14 #[.slice ba m bc, .slice sa sn scp] w0 fun v w => ∃ ea na za wa ec nc zc wc sb, v = .tuple #[.agg #[.slice ea (pd m bo sn sc).evs.length ec, .slice na (pd m bo sn sc).nts.length nc, .slice za (pd m bo sn sc).mm zc, .slice wa (pd m bo sn sc).mm wc, .bool (pd m bo sn sc).st, .int .i64 (pd m bo sn sc).us], .pointer (some ⟨sb, 0, none⟩), .int .i64 (pd m bo sn sc).e] ∧
      RunD w ea na za wa (pd m bo sn sc) ∧ Lo w0.heap.size ea na za wa (pd m bo sn sc) ∧ Own w w0.heap.size 45 4 ea (pd m bo sn sc).evs.length ec ((pd m bo sn sc).evs.flatMap evC) ∧ Own w w0.heap.size 47 4 na (pd m bo sn sc).nts.length nc ((pd m bo sn sc).nts.flatMap ntC) ∧ Below w0.heap.size w0 w ∧
      w0.heap.size ≤ sb ∧ Off sb ea na za wa (pd m bo sn sc) ∧ ∃ ov, BlkF w sb #[.int .i64 (if 16 < m ∨ 262144 < sn then 0 else (PB m bo sc sn).s 0), .int .i64 (if 16 < m ∨ 262144 < sn then 0 else (PB m bo sc sn).s 1), .int .i64 (if 16 < m ∨ 262144 < sn then 0 else (PB m bo sc sn).s 2), .int .i64 (if 16 < m ∨ 262144 < sn then 0 else (PB m bo sc sn).s 3), .bool false, .bool ov] 39 (0, 0) := by
  by_cases h1 : 16 < m
  · have hp : pd m bo sn sc = ⟨90, 0, [], [], [], [], false, 0⟩ := if_pos h1
    rw [hp]
    refine @Calls.mono _ (loneCtx lb pl) _ _ _ _ _ (play_big_c w0 hBo hSc (by omega) (by omega) h1) fun e w he => ?_
    cases e with
    | panicked ch => exact he.elim
    | outgrown => exact he.elim
    | returned v =>
      obtain ⟨sb, rfl, hS, hle, hb⟩ := he
      refine ⟨none, none, none, none, 0, 0, 0, 0, sb, rfl, runAt_nil w, ⟨fun z => absurd rfl z, fun z => absurd rfl z, fun z => absurd z (Nat.not_lt_zero _), fun z => absurd z (Nat.not_lt_zero _)⟩, Own.nil _ _ _ _, Own.nil _ _ _ _, hb, hle, ⟨fun z => absurd rfl z, fun z => absurd rfl z, fun z => absurd z (Nat.not_lt_zero _), fun z => absurd z (Nat.not_lt_zero _)⟩, true, ?_⟩
      rw [if_pos (.inl h1), if_pos (.inl h1), if_pos (.inl h1), if_pos (.inl h1)]; exact hS
  by_cases h2 : 262144 < sn
  · have hp : pd m bo sn sc = ⟨1, 0, [], [], [], [], false, 0⟩ := (if_neg h1).trans (if_pos h2)
    rw [hp]
    refine @Calls.mono _ (loneCtx lb pl) _ _ _ _ _ (play_long_c w0 hBo hSc (by omega) (by omega) h2) fun e w he => ?_
    cases e with
    | panicked ch => exact he.elim
    | outgrown => exact he.elim
    | returned v =>
      obtain ⟨sb, rfl, hS, hle, hb⟩ := he
      refine ⟨none, none, none, none, 0, 0, 0, 0, sb, rfl, runAt_nil w, ⟨fun z => absurd rfl z, fun z => absurd rfl z, fun z => absurd z (Nat.not_lt_zero _), fun z => absurd z (Nat.not_lt_zero _)⟩, Own.nil _ _ _ _, Own.nil _ _ _ _, hb, hle, ⟨fun z => absurd rfl z, fun z => absurd rfl z, fun z => absurd z (Nat.not_lt_zero _), fun z => absurd z (Nat.not_lt_zero _)⟩, true, ?_⟩
      rw [if_pos (.inr h2), if_pos (.inr h2), if_pos (.inr h2), if_pos (.inr h2)]; exact hS
  have hno : ¬ (16 < m ∨ 262144 < sn) := fun z => z.elim h1 h2
  have hp : pd m bo sn sc = ⟨0, m, (PB m bo sc sn).evs, (PB m bo sc sn).nts, (List.range m).map fun j => endOf (PB m bo sc sn).ft[j]?, (List.range m).map fun j => wtOf (pSys m bo) j (PB m bo sc sn).ft[j]?, (PB m bo sc sn).ft.any (·.isLeft) && ((pSys m bo).rds (PB m bo sc sn)).isEmpty, ((PB m bo sc sn).used : Int)⟩ := (if_neg h1).trans (if_neg h2)
  rw [hp, if_neg hno, if_neg hno, if_neg hno, if_neg hno]
  refine @Calls.mono _ (loneCtx lb pl) _ _ _ _ _ (play_c w0 hBo hSc (by omega) (by omega)) fun e w he => ?_
  cases e with
  | panicked ch => exact he.elim
  | outgrown => exact he.elim
  | returned v =>
    obtain ⟨R, sb, rfl, hP, hns, hS, hle, hb⟩ := he
    obtain ⟨l1, l2⟩ := hP.lists
    have hr := hP.mem.runAt
    rw [l1, l2, hP.evs, hP.nts, hP.hm] at hr
    have hE := hP.mem.evs
    have hN := hP.mem.nts
    rw [hP.evs] at hE
    rw [hP.nts] at hN
    have fE : (PB m bo sc sn).evs ≠ [] → R.fp (ab R.ea) := fun z => by
      have := hE.some_of (List.length_pos_iff.2 z)
      exact .inr (.inr (.inr (.inr (.inl ⟨this, rfl⟩))))
    have fN : (PB m bo sc sn).nts ≠ [] → R.fp (ab R.na) := fun z => by
      have := hN.some_of (List.length_pos_iff.2 z)
      exact .inr (.inr (.inr (.inr (.inr (.inl ⟨this, rfl⟩)))))
    refine ⟨R.ea, R.na, some ⟨R.eb, 0, none⟩, some ⟨R.wb, 0, none⟩, R.ec, R.nc, m, m, sb, ?_, hr, ⟨fun z => hP.fp _ (fE z), fun z => hP.fp _ (fN z), fun _ => hP.fp _ (.inr (.inl rfl)), fun _ => hP.fp _ (.inr (.inr (.inl rfl)))⟩, hE, hN, hb, hle,
      ⟨fun z e => hns (e ▸ fE z), fun z e => hns (e ▸ fN z), fun _ e => hns (e ▸ (.inr (.inl rfl) : R.fp R.eb)), fun _ e => hns (e ▸ (.inr (.inr (.inl rfl)) : R.fp R.wb))⟩, true, hS⟩
    show Value.tuple #[.agg #[.slice R.ea R.evs.length R.ec, .slice R.na R.nts.length R.nc, .slice (some ⟨R.eb, 0, none⟩) R.m R.m, .slice (some ⟨R.wb, 0, none⟩) R.m R.m, .bool R.stuck, .int .i64 (R.used : Int)], .pointer (some ⟨sb, 0, none⟩), .int .i64 0] = _
    rw [hP.hm, hP.evs, hP.nts, hP.stuck, hP.used]
end Go.Vy.Sc
end
/- Laws of plays under one script, and under several. -/
section
namespace Go.Vy.Sc
open Go Go.Conc Go.Yc Go.RowKit Go.Proofs Go.Proofs.Ytfmoeemolgjodaa
open Go.Vc Go.Wg
theorem evs_len16 (m : Nat) (bo : Nat → List OpD) (sc : Nat → Int) (n : Nat) : (PB m bo sc n).evs.length ≤ n := (Sys.evs_pn (Y := pSys m bo) sc n).1
theorem pd_len {m sn : Nat} {bo : Nat → List OpD} (hl : ∀ i, i < m → (bo i).length ≤ 1048576) (hm : m ≤ 1048576) (hsn : sn ≤ 1048576) (sc : Nat → Int) : (pd m bo sn sc).evs.length ≤ 1000000000000 ∧ (pd m bo sn sc).nts.length ≤ 1000000000000 ∧ (pd m bo sn sc).mm ≤ 1000000000000 := by
  unfold pd
  split
  · exact ⟨Nat.zero_le _, Nat.zero_le _, Nat.zero_le _⟩
  split
  · exact ⟨Nat.zero_le _, Nat.zero_le _, Nat.zero_le _⟩
  · have h1 := evs_len16 m bo sc sn
    have h2 := nts_len (m := m) (bo := bo) (by omega) hl sc sn
    exact ⟨Nat.le_trans h1 (by omega), Nat.le_trans h2 (by omega), by show m ≤ _; omega⟩


end Go.Vy.Sc
end
/- A beginning of a script. -/
section
namespace Go.Vy.Sc
open Go Go.Conc Go.Yc Go.RowKit Go.Proofs Go.Proofs.Ytfmoeemolgjodaa
open Go.Vc Go.Wg
section
variable {Y : Sys}
theorem Sys.mem_rdy {p : PR Y} {i : Nat} (h : i ∈ Y.rds p) : ∃ l, p.ft[i]? = some (.inl l) := by
  unfold Sys.rds at h
  rw [List.mem_filter] at h
  have hr := h.2
  unfold Sys.isRdy at hr
  cases hf : p.ft[i]? with
  | none => rw [hf] at hr; cases hr
  | some f =>
    cases f with
    | inl l => exact ⟨l, rfl⟩
    | inr x => rw [hf] at hr; cases hr
theorem Sys.step_nil {p : PR Y} {e : Int} (h : Y.rds p = []) : Y.step p e = p := by
  unfold Sys.step; rw [h]; rfl
theorem Sys.step_some {p : PR Y} {e : Int} (h : Y.rds p ≠ []) : ∃ i l, p.ft[i]? = some (.inl l) ∧ (Y.rds p)[pickIx e (Y.rds p).length]? = some i ∧ Y.step p e = Y.turn p i := by
  have hl : pickIx e (Y.rds p).length < (Y.rds p).length := pickIx_lt e (List.length_pos_iff.2 h)
  obtain ⟨i, hi⟩ : ∃ i, (Y.rds p)[pickIx e (Y.rds p).length]? = some i := ⟨_, List.getElem?_eq_getElem hl⟩
  obtain ⟨l, hf⟩ := Sys.mem_rdy (List.mem_of_getElem? hi)
  refine ⟨i, l, hf, hi, ?_⟩
  unfold Sys.step; rw [hi]
theorem Sys.turn_len {p : PR Y} {i : Nat} {l : Y.L} (h : p.ft[i]? = some (.inl l)) : (Y.turn p i).evs.length = p.evs.length + 1 ∧ (Y.turn p i).used = p.used + 1 := by
  unfold Sys.turn; rw [h]
  exact ⟨by show (p.evs ++ [_]).length = _; rw [List.length_append]; rfl, rfl⟩
theorem Sys.evs_begs : ∀ n, (Y.begs n).evs = [] ∧ (Y.begs n).used = 0
  | 0 => ⟨rfl, rfl⟩
  | n + 1 => by
    show (Y.bgn (Y.begs n)).evs = [] ∧ (Y.bgn (Y.begs n)).used = 0
    unfold Sys.bgn
    split <;> exact Sys.evs_begs n
/-- As many events as entries, unless nobody is ready. -/
theorem Sys.evs_or (sc : Nat → Int) : ∀ n, (Y.pn sc n).evs.length = n ∨ Y.rds (Y.pn sc n) = []
  | 0 => .inl (by show (Y.begs Y.m).evs.length = 0; rw [(Sys.evs_begs _).1]; rfl)
  | n + 1 => by
    show (Y.step (Y.pn sc n) (sc n)).evs.length = n + 1 ∨ Y.rds (Y.step (Y.pn sc n) (sc n)) = []
    by_cases h : Y.rds (Y.pn sc n) = []
    · rw [Sys.step_nil h]; exact .inr h
    · obtain ⟨i, l, h1, _, h2⟩ := Sys.step_some (e := sc n) h
      rw [h2, (Sys.turn_len h1).1]
      rcases Sys.evs_or sc n with h3 | h3
      · exact .inl (by rw [h3])
      · exact absurd h3 h
end
section
variable {m sn k : Nat} {bo : Nat → List OpD} {sc : Nat → Int}
end
end Go.Vy.Sc
end
/- Entries that pick the same; when a script is used up. -/
section
namespace Go.Vy.Sc
open Go Go.Conc Go.Yc Go.RowKit Go.Proofs Go.Proofs.Ytfmoeemolgjodaa
open Go.Vc Go.Wg
theorem dvd720720 (n : Nat) (h1 : 0 < n) (h2 : n ≤ 16) : n ∣ 720720 := by
  have h : ∀ k : Fin 17, 0 < k.val → k.val ∣ 720720 := by decide
  exact h ⟨n, by omega⟩ h1
theorem pickIx_add (e z : Int) {n : Nat} (h0 : 0 < n) (h : n ≤ 16) : pickIx (e + 720720 * z) n = pickIx e n := by
  obtain ⟨k, hk⟩ := dvd720720 n h0 h
  unfold pickIx
  congr 1
  have hk' : (720720 : Int) = (n : Int) * (k : Int) := (congrArg (fun x : Nat => (x : Int)) hk).trans (Int.natCast_mul n k)
  rw [hk', Int.mul_assoc, Int.add_mul_emod_self_left]
/-- The other script. -/
def oth (sc by_ : Nat → Int) (yn : Nat) (j : Nat) : Int := if j < yn ∧ -1099511627776 < sc j ∧ sc j < 1099511627776 then sc j + 720720 * (by_ j).tmod 1000 else sc j
section
variable {m sn yn : Nat} {bo : Nat → List OpD} {sc by_ : Nat → Int}
theorem rds_len {Y : Sys} (p : PR Y) : (Y.rds p).length ≤ Y.m := by
  unfold Sys.rds
  exact Nat.le_trans (List.length_filter_le _ _) (by simp)
theorem oth_pick (j : Nat) {n : Nat} (h0 : 0 < n) (h : n ≤ 16) : pickIx (oth sc by_ yn j) n = pickIx (sc j) n := by
  unfold oth
  split
  · exact pickIx_add _ _ h0 h
  · rfl
theorem oth_pn (hm : m ≤ 16) : ∀ n, PB m bo (oth sc by_ yn) n = PB m bo sc n
  | 0 => rfl
  | n + 1 => by
    show (pSys m bo).step (PB m bo (oth sc by_ yn) n) (oth sc by_ yn n) = (pSys m bo).step (PB m bo sc n) (sc n)
    rw [oth_pn hm n]
    by_cases hr : (pSys m bo).rds (PB m bo sc n) = []
    · rw [Sys.step_nil hr, Sys.step_nil hr]
    · unfold Sys.step
      rw [oth_pick n (List.length_pos_iff.2 hr) (Nat.le_trans (rds_len _) hm)]
theorem pd_oth (hm : m ≤ 16) : pd m bo sn (oth sc by_ yn) = pd m bo sn sc := by
  unfold pd
  rw [oth_pn hm]
/-- No client has ended with 0. -/
theorem opsGo_fate (ops : List OpD) : ∀ (μ i j : Nat) (c : Cells), meas ops i j = μ → (opsGo ops i j c).fate ≠ .inr 0 := by
  intro μ
  induction μ using Nat.strongRecOn with
  | _ μ ih =>
  intro i j c hμ
  rcases Nat.lt_or_ge i ops.length with hi | hi
  · obtain ⟨o, ho⟩ : ∃ o, ops[i]? = some o := ⟨_, List.getElem?_eq_getElem hi⟩
    have hn := meas_next (j := j) hi
    have hstep : ∀ c', (opsGo ops (i + 1) j c').fate ≠ .inr 0 := fun c' => ih _ (by omega) (i + 1) j c' rfl
    rw [opsGo_at ho]
    split
    · exact fun h => by cases h
    split
    · exact hstep c
    split
    · exact hstep _
    split
    · exact fun h => by cases h
    split
    · exact fun h => by cases h
    split
    · rename_i hj
      have hj' : j < 50 := by
        simp only [jumps, Bool.and_eq_true, decide_eq_true_eq] at hj
        exact hj.1.1.2
      have hm := meas_jump (ops := ops) (i := i) (k := o.cell.toNat) hj'
      exact ih _ (by omega) o.cell.toNat (j + 1) c rfl
    · exact hstep c
  · rw [opsGo_end (by omega)]
    exact fun h => by cases h
theorem no_zero (n : Nat) : ∀ (j : Nat) (f : (Nat × Nat) ⊕ Nat), (PB m bo sc n).ft[j]? = some f → f ≠ .inr 0 := by
  refine Sys.ind (Y := pSys m bo) (fun p => ∀ (j : Nat) (f : (Nat × Nat) ⊕ Nat), p.ft[j]? = some f → f ≠ .inr 0) (fun j f h => ?_) (fun p hp _ j f h => ?_) (fun p i l hp _ hf _ j f h => ?_) sc n
  · have h : ([] : List ((Nat × Nat) ⊕ Nat))[j]? = some f := h
    simp at h
  · have h : (p.ft ++ [(opsGo (bo p.ft.length) 0 0 p.s).fate])[j]? = some f := h
    rcases app_some h with h | ⟨_, h⟩
    · exact hp j f h
    · rw [← h]; exact opsGo_fate _ _ _ _ _ rfl
  · have ht : ((pSys m bo).turn p i).ft = p.ft.set i ((pSys m bo).go i l p.s).fate := by
      unfold Sys.turn; rw [hf]
    rw [ht, List.getElem?_set] at h
    split at h
    · split at h
      · obtain rfl := Option.some.inj h
        obtain ⟨k, q⟩ := l
        show (match (bo i)[k]? with | some o => opsGo (bo i) (k + 1) q (addC p.s (at4 o.to) o.by_) | none => ⟨p.s, [], .inr 1⟩ : Out' Cells (Nat × Nat)).fate ≠ .inr 0
        cases (bo i)[k]? with
        | none => exact fun h => by cases h
        | some o => exact opsGo_fate _ _ _ _ _ rfl
      · cases h
    · exact hp j f h
theorem pd_ok (hm : m ≤ 16) (hs : sn ≤ 262144) : pd m bo sn sc = ⟨0, m, (PB m bo sc sn).evs, (PB m bo sc sn).nts, (List.range m).map fun j => endOf (PB m bo sc sn).ft[j]?, (List.range m).map fun j => wtOf (pSys m bo) j (PB m bo sc sn).ft[j]?, (PB m bo sc sn).ft.any (·.isLeft) && ((pSys m bo).rds (PB m bo sc sn)).isEmpty, ((PB m bo sc sn).used : Int)⟩ :=
  (if_neg (by omega)).trans (if_neg (by omega))
theorem pd_used (hm : m ≤ 16) (hs : sn ≤ 262144) : (pd m bo sn sc).e = 0 ∧ (pd m bo sn sc).us = ((pd m bo sn sc).evs.length : Int) ∧ ((pd m bo sn sc).us = (sn : Int) ∨ (pd m bo sn sc).st = true ∨ ∀ x ∈ (pd m bo sn sc).ens, x ≠ 0) := by
  rw [pd_ok hm hs]
  have hu := (Sys.ok_pn (Y := pSys m bo) sc sn).used
  have hu : (PB m bo sc sn).evs.length = (PB m bo sc sn).used := hu
  refine ⟨rfl, by show ((PB m bo sc sn).used : Int) = ((PB m bo sc sn).evs.length : Int); rw [hu], ?_⟩
  rcases Sys.evs_or (Y := pSys m bo) sc sn with h1 | h1
  · exact .inl (by show ((PB m bo sc sn).used : Int) = _; rw [← hu]; exact congrArg Int.ofNat h1)
  · right
    cases ha : (PB m bo sc sn).ft.any (·.isLeft) with
    | true => exact .inl (by show (true && ((pSys m bo).rds (PB m bo sc sn)).isEmpty) = true; rw [h1]; rfl)
    | false =>
      right
      intro x hx
      have hx : x ∈ (List.range m).map fun j => endOf (PB m bo sc sn).ft[j]? := hx
      obtain ⟨j, hj, rfl⟩ := List.mem_map.1 hx
      have hj : j < m := by simpa using hj
      have hl : j < (PB m bo sc sn).ft.length := by rw [Sys.len_pn]; exact hj
      obtain ⟨f, hf⟩ : ∃ f, (PB m bo sc sn).ft[j]? = some f := ⟨_, List.getElem?_eq_getElem hl⟩
      rw [hf]
      rw [List.any_eq_false] at ha
      have hfl := ha f (List.mem_of_getElem? hf)
      cases f with
      | inl l => exact absurd rfl hfl
      | inr x =>
        intro e
        have e : (x : Int) = 0 := e
        have : x = 0 := by omega
        subst this
        exact no_zero sn j _ hf rfl
end
theorem Own.scAt {w : World} {B sn c : Nat} {a : Option Addr} {f : Nat → Int} (h : Own w B 3 1 a sn c ((List.range sn).map fun j => .int .i64 (f j))) : ScAt w a sn c f := by
  refine ⟨h.sl, fun z => ?_, ?_, fun j hj => ?_⟩
  · subst z
    rcases h.2 with ⟨hv, h0⟩ | ⟨g, cap, cur, hv, _⟩
    · cases hv; exact ⟨rfl, rfl⟩
    · cases hv
  · rcases Nat.eq_zero_or_pos sn with h0 | h0
    · omega
    · obtain ⟨_, _, _, h1, _⟩ := h.row (h.some_of h0)
      exact h1
  · rw [h.off, Nat.zero_add, Nat.mul_one]
    exact h.cell (by simp [hj])
end Go.Vy.Sc
end
/- The law of entries that pick the same. -/
section
namespace Go.Vy.Sc
open Go Go.Conc Go.Yc Go.RowKit Go.Proofs Go.Proofs.Ytfmoeemolgjodaa
open Go.Vc Go.Wg
theorem d_val' {P : Program} {S : Sem Next} {w : World} {v r : Value} (h : v = r) (hd : Does P S w (.val v) w) : Does P S w (.val r) w := h ▸ hd
theorem oth_yes {sc by_ : Nat → Int} {yn j : Nat} (h : j < yn ∧ -1099511627776 < sc j ∧ sc j < 1099511627776) : IntKind.i64.wrap (sc j + IntKind.i64.wrap (720720 * (by_ j).tmod 1000)) = oth sc by_ yn j := by
  have h1 := Int.tmod_lt_of_pos (by_ j) (b := 1000) (by decide)
  have h2 : -1000 < (by_ j).tmod 1000 := by
    have := Int.lt_tmod_of_pos (by_ j) (b := 1000) (by decide)
    omega
  unfold oth
  rw [if_pos h, wrap_small (z := 720720 * (by_ j).tmod 1000) (by omega)]
  have h3 : -9223372036854775808 ≤ sc j + 720720 * (by_ j).tmod 1000 ∧ sc j + 720720 * (by_ j).tmod 1000 ≤ 9223372036854775807 := by omega
  simp [IntKind.wrap, IntKind.signed, IntKind.bits]
  split <;> omega
theorem oth_no {sc by_ : Nat → Int} {yn j : Nat} (h : ¬ (j < yn ∧ -1099511627776 < sc j ∧ sc j < 1099511627776)) : sc j = oth sc by_ yn j := by
  unfold oth
  rw [if_neg h]
theorem range_int (f : Nat → Int) (i : Nat) : (List.range (i + 1)).map (fun j => Value.int .i64 (f j)) = (List.range i).map (fun j => Value.int .i64 (f j)) ++ [.int .i64 (f i)] := by
  rw [List.range_succ, List.map_append]; rfl


section
variable [Ctx Try.prog]

theorem all_c {za : Option Addr} {zc m : Nat} {ens : List Int} (w0 : World) (hz : ens.length = m) (hm : m ≤ 1000000000) (hsl : SL za m) (hen : ∀ (i : Nat) (x : Int), ens[i]? = some x → w0.cell? ⟨ab za, ao za + i * 1, none⟩ = some (.int .i64 x)) (hno : ∀ x ∈ ens, x ≠ 0) : C Try.prog 20 #[.slice za m zc] w0 fun v w => v = .bool true ∧ w = w0 := by
  refine C.enter (n := 15) Try.func20 rfl rfl ?_
  refine W.seq ?_
  refine W.region rfl ?_
  refine L.va (x_asB rfl) ?_
  refine L.nil ?_
  show W _ _ _ _ _ _
  refine W.seq ?_
  refine W.seq ?_
  refine W.region rfl ?_
  refine L.va (x_asI rfl) ?_
  refine L.nil ?_
  show W _ _ _ _ _ _
  refine W.block ?_
  refine W.loop (fun k e w => ∃ (i : Nat), k = m - i ∧ e 0 = .slice za m zc ∧ e 3 = .int .i64 (i : Int) ∧ i ≤ m ∧ w = w0) _ ⟨0, rfl, rfl, rfl, Nat.zero_le _, rfl⟩ ?_
  rintro k e w ⟨i, hk, s0, s3, hi, hw⟩
  rw [upd_id s0, upd_id s3]
  clear s0 s3
  subst hw
  refine W.seq ?_
  refine W.seq ?_
  refine W.region rfl ?_
  refine L.va (x_mvI rfl) ?_
  refine L.va (x_mvS rfl) ?_
  refine L.va (x_len rfl Try.underlying26 rfl) ?_
  refine L.va (x_lss rfl rfl) ?_
  refine L.nil ?_
  show W _ _ _ _ _ _
  refine W.condP rfl (fun h7 => ?_) (fun h7 => ?_)
  · have hlt : i < m := by omega
    obtain ⟨x, hx⟩ : ∃ x, ens[i]? = some x := ⟨_, List.getElem?_eq_getElem (by rw [hz]; exact hlt)⟩
    refine W.skip ?_
    show W _ _ _ _ _ _
    refine W.seq ?_
    refine W.block ?_
    refine W.seq ?_
    refine W.region rfl ?_
    refine L.va (x_mvS rfl) ?_
    refine L.va (x_mvI rfl) ?_
    refine L.va (x_idx (i := i) rfl rfl Try.underlying26 sz3 hsl hlt) ?_
    refine L.va (x_load (v := .int .i64 x) rfl Try.underlying3 rfl (hen i x hx)) ?_
    refine L.va (d_bool (r := false) (decide_eq_false (hno x (List.mem_of_getElem? hx))) (x_eql (m := x) (k := 0) rfl rfl)) ?_
    refine L.nil ?_
    show W _ _ _ _ _ _
    refine W.condF rfl ?_
    refine W.skip ?_
    refine B.nrm ?_
    show W _ _ _ _ _ _
    refine W.region rfl ?_
    refine L.va (x_mvI rfl) ?_
    refine L.va (x_addI rfl rfl (by omega)) ?_
    refine L.va (x_asI rfl) ?_
    refine L.nil ?_
    refine T.nrm ?_
    exact ⟨_, by omega, ⟨i + 1, rfl, rfl, rfl, (by omega), rfl⟩⟩
  · refine W.exit ?_
    repeat (first | refine T.exit ?_ | refine N.exit ?_ | refine B.exitNe (by decide) ?_)
    refine B.exitEq ?_
    show W _ _ _ _ _ _
    refine W.seq ?_
    refine W.region rfl ?_
    refine L.va (x_asB rfl) ?_
    refine L.nil ?_
    show W _ _ _ _ _ _
    refine W.ret ?_
    repeat (first | refine T.ret ?_ | refine B.ret ?_ | refine N.ret ?_)
    refine ends.one (.inr rfl) rfl ?_
    exact ⟨rfl, rfl⟩

end

set_option maxHeartbeats 4000000 in
theorem turns_ok {lb : Nat} {pl : Nat → Plug} {m bc sn scp yn yc : Nat} {bo : Nat → List OpD} {sc by_ : Nat → Int} {ba sa ya : Option Addr} {aa : Nat → Option Addr} {cc : Nat → Nat} (w0 : World) (hBo : BodsAt w0 ba m bo aa cc) (hSc : ScAt w0 sa sn scp sc) (hY : ScAt w0 ya yn yc by_) (hm6 : m ≤ 16) (hs : sn ≤ 262144) : @C Try.prog (loneCtx lb pl) 8 #[.slice ba m bc, .slice sa sn scp, .slice ya yn yc] w0 fun v w => v = .bool true ∧ Below w0.heap.size w0 w := by
  letI : Ctx Try.prog := loneCtx lb pl
  refine C.enter (n := 113) Try.func8 rfl rfl ?_
  have hb : Below w0.heap.size w0 w0 := Below.refl _ _
  have hm : m ≤ 1048576 := by omega
  have hsn : sn ≤ 1048576 := by omega
  have hlen := pd_len (bo := bo) hBo.len hm hsn sc
  have hpd := pd_oth (m := m) (sn := sn) (yn := yn) (bo := bo) (sc := sc) (by_ := by_) hm6
  obtain ⟨he0, hu0, hor⟩ := pd_used (bo := bo) (sc := sc) hm6 hs
  have hmm : (pd m bo sn sc).mm ≤ 1000000000 := by rw [pd_ok hm6 hs]; show m ≤ _; omega
  refine W.seq ?_
  refine W.region rfl ?_
  refine L.va (x_asB rfl) ?_
  refine L.nil ?_
  show W _ _ _ _ _ _
  refine W.seq ?_
  refine W.seq ?_
  refine W.region rfl ?_
  refine L.va (x_mvS rfl) ?_
  refine L.va (x_len rfl Try.underlying25 rfl) ?_
  refine L.va (d_bool (r := false) (decide_eq_false (by omega)) (x_gtr (m := (m : Int)) (k := 16) rfl rfl)) ?_
  refine L.va (x_mvB rfl) ?_
  refine L.on rfl ?_
  refine L.va (x_mvS rfl) ?_
  refine L.on rfl ?_
  refine L.va (x_len rfl Try.underlying26 rfl) ?_
  refine L.on rfl ?_
  refine L.va (d_bool (r := false) (decide_eq_false (by omega)) (x_gtr (m := (sn : Int)) (k := 262144) rfl rfl)) ?_
  refine L.va (x_pickF rfl) ?_
  refine L.nil ?_
  show W _ _ _ _ _ _
  refine W.condF rfl ?_
  refine W.skip ?_
  show W _ _ _ _ _ _
  refine W.seq ?_
  refine W.region rfl ?_
  refine L.va (x_asS rfl) ?_
  refine L.nil ?_
  show W _ _ _ _ _ _
  refine W.seq ?_
  refine W.seq ?_
  refine W.region rfl ?_
  refine L.va (x_asI rfl) ?_
  refine L.nil ?_
  show W _ _ _ _ _ _
  refine W.block ?_
  refine W.loop (fun k e w => ∃ (i : Nat), ∃ (o : Option Addr), ∃ (oc : Nat), k = sn - i ∧ e 0 = .slice ba m bc ∧ e 1 = .slice sa sn scp ∧ e 2 = .slice ya yn yc ∧ e 7 = .slice o i oc ∧ e 8 = .int .i64 (i : Int) ∧ i ≤ sn ∧ Own w w0.heap.size 3 1 o i oc ((List.range i).map fun j => .int .i64 (oth sc by_ yn j)) ∧ Below w0.heap.size w0 w) _ ⟨0, none, 0, rfl, rfl, rfl, rfl, rfl, rfl, Nat.zero_le _, Own.nil _ _ _ _, hb⟩ ?_
  rintro k e w ⟨i, o, oc, hk, s0, s1, s2, s7, s8, hi, hO, hb⟩
  rw [upd_id s0, upd_id s1, upd_id s2, upd_id s7, upd_id s8]
  clear s0 s1 s2 s7 s8
  refine W.seq ?_
  refine W.seq ?_
  refine W.region rfl ?_
  refine L.va (x_mvI rfl) ?_
  refine L.va (x_mvS rfl) ?_
  refine L.va (x_len rfl Try.underlying26 rfl) ?_
  refine L.va (x_lss rfl rfl) ?_
  refine L.nil ?_
  show W _ _ _ _ _ _
  refine W.condP rfl (fun h28 => ?_) (fun h28 => ?_)
  · have hlt : i < sn := by omega
    refine W.skip ?_
    show W _ _ _ _ _ _
    refine W.seq ?_
    refine W.block ?_
    refine W.seq ?_
    refine W.region rfl ?_
    refine L.va (x_mvS rfl) ?_
    refine L.va (x_mvI rfl) ?_
    refine L.va (x_idx (i := i) rfl rfl Try.underlying26 sz3 hSc.sl hlt) ?_
    refine L.va (x_load (v := .int .i64 (sc i)) rfl Try.underlying3 rfl ((hSc.keep hb).cell i hlt)) ?_
    refine L.va (x_asI rfl) ?_
    refine L.nil ?_
    show W _ _ _ _ _ _
    refine W.seq ?_
    refine W.seq ?_
    refine W.region rfl ?_
    refine L.va (x_mvI rfl) ?_
    refine L.va (x_mvS rfl) ?_
    refine L.va (x_len rfl Try.underlying26 rfl) ?_
    refine L.va (x_lss rfl rfl) ?_
    refine L.va (x_mvB rfl) ?_
    refine L.meetB 3 [39,40,41,42] 42 (.bool (decide (i < yn ∧ -1099511627776 < sc i))) (tj := 39) rfl (fun hb39 => ?_) (fun hb39 => ?_) (fun f => ?_)
    · refine L.on rfl ?_
      refine L.va (x_mvI rfl) ?_
      refine L.on rfl ?_
      refine L.va (x_gtr rfl rfl) ?_
      refine L.va (x_pickT rfl) ?_
      refine L.nil ?_
      refine ⟨rfl, congrArg Value.bool (by first | exact and_t hb39 | rfl | (simp_all; done) | (rw [Bool.eq_iff_iff]; simp_all; omega)), ?_⟩
      exact Agree.upd rfl (Agree.upd rfl (Agree.upd rfl (Agree.upd rfl (Agree.refl _ _))))
    · refine L.off rfl ?_
      refine L.off rfl ?_
      refine L.va (x_pickF rfl) ?_
      refine L.nil ?_
      refine ⟨rfl, congrArg Value.bool (by first | exact and_f hb39 | rfl | (simp_all; done) | (rw [Bool.eq_iff_iff]; simp_all; omega)), ?_⟩
      exact Agree.upd rfl (Agree.upd rfl (Agree.upd rfl (Agree.upd rfl (Agree.refl _ _))))
    refine L.va (x_mvB rfl) ?_
    refine L.meetB 3 [43,44,45,46] 46 (.bool (decide (i < yn ∧ -1099511627776 < sc i ∧ sc i < 1099511627776))) (tj := 43) rfl (fun hb43 => ?_) (fun hb43 => ?_) (fun f => ?_)
    · refine L.on rfl ?_
      refine L.va (x_mvI rfl) ?_
      refine L.on rfl ?_
      refine L.va (x_lss rfl rfl) ?_
      refine L.va (x_pickT rfl) ?_
      refine L.nil ?_
      refine ⟨rfl, congrArg Value.bool (by first | exact and_t hb43 | rfl | (simp_all; done) | (rw [Bool.eq_iff_iff]; simp_all; omega)), ?_⟩
      exact Agree.upd rfl (Agree.upd rfl (Agree.upd rfl (Agree.upd rfl (Agree.refl _ _))))
    · refine L.off rfl ?_
      refine L.off rfl ?_
      refine L.va (x_pickF rfl) ?_
      refine L.nil ?_
      refine ⟨rfl, congrArg Value.bool (by first | exact and_f hb43 | rfl | (simp_all; done) | (rw [Bool.eq_iff_iff]; simp_all; omega)), ?_⟩
      exact Agree.upd rfl (Agree.upd rfl (Agree.upd rfl (Agree.upd rfl (Agree.refl _ _))))
    refine L.nil ?_
    show W _ _ _ _ _ _
    refine W.condP rfl (fun h46 => ?_) (fun h46 => ?_)
    · have hyes : i < yn ∧ -1099511627776 < sc i ∧ sc i < 1099511627776 := h46
      refine W.region rfl ?_
      refine L.va (x_mvI rfl) ?_
      refine L.va (x_mvS rfl) ?_
      refine L.va (x_mvI rfl) ?_
      refine L.va (x_idx (i := i) rfl rfl Try.underlying26 sz3 hY.sl hyes.1) ?_
      refine L.va (x_load (v := .int .i64 (by_ i)) rfl Try.underlying3 rfl ((hY.keep hb).cell i hyes.1)) ?_
      refine L.va (x_rem (κ := .i64) (m := by_ i) (k := 1000) rfl rfl (by decide)) ?_
      refine L.va (x_mul (κ := .i64) (m := 720720) (k := (by_ i).tmod 1000) rfl rfl) ?_
      refine L.va (d_val' (congrArg (Value.int .i64) (oth_yes hyes)) (x_add (κ := .i64) (m := sc i) (k := IntKind.i64.wrap (720720 * (by_ i).tmod 1000)) rfl rfl)) ?_
      refine L.va (x_asI rfl) ?_
      refine L.nil ?_
      show W _ _ _ _ _ _
      refine W.region rfl ?_
      refine L.va (x_mvS rfl) ?_
      refine L.va (x_mvI rfl) ?_
      refine L.build1 (cs := #[.int .i64 (oth sc by_ yn i)]) rfl rfl Try.underlying26 sz3 rfl ⟨_, zr3⟩ (by decide) (fun w b57 F57 => ?_)
      have lt57 : w0.heap.size ≤ b57 := by have h9 := F57.here; have h8 := hb.size; omega
      have hb := cl_step hb F57.below
      have hO := hO.keep F57.below
      have hB57 := F57.blk
      refine L.appendAny (B := w0.heap.size) (m := 1) rfl rfl Try.underlying26 in3 rfl (by decide) hO (fun h => by cases h) (news := [.int .i64 (oth sc by_ yn i)]) rfl (fun ad had j u hj => by
        cases had
        rw [Addr.add_lit]
        match j, hj with
        | 0, hj => cases hj; exact hB57.cellAt 0 rfl) (fun u hu => by simp only [List.mem_cons, List.not_mem_nil, or_false] at hu; subst hu; rfl) (by omega) (by omega) hb.size (fun o2 oc2 w2 hO2 hg2 hbel _ => ?_)
      have hb := hb.trans hbel
      clear hg2 hbel hO hB57
      rename World => w
      refine L.va (x_asS rfl) ?_
      refine L.nil ?_
      refine B.nrm ?_
      show W _ _ _ _ _ _
      refine W.region rfl ?_
      refine L.va (x_mvI rfl) ?_
      refine L.va (x_addI rfl rfl (by omega)) ?_
      refine L.va (x_asI rfl) ?_
      refine L.nil ?_
      refine T.nrm ?_
      exact ⟨_, by omega, ⟨i + 1, o2, oc2, rfl, rfl, rfl, rfl, rfl, rfl, (by omega), (by rw [range_int]; exact hO2), hb⟩⟩
    · have hno2 : ¬ (i < yn ∧ -1099511627776 < sc i ∧ sc i < 1099511627776) := h46
      refine W.skip ?_
      show W _ _ _ _ _ _
      have hzz : sc i = oth sc by_ yn i := oth_no hno2
      refine W.region rfl ?_
      refine L.va (x_mvS rfl) ?_
      refine L.va (x_mvI rfl) ?_
      refine L.build1 (v := .int .i64 (oth sc by_ yn i)) (cs := #[.int .i64 (oth sc by_ yn i)]) (congrArg (Value.int .i64) hzz) rfl Try.underlying26 sz3 rfl ⟨_, zr3⟩ (by decide) (fun w b57 F57 => ?_)
      have lt57 : w0.heap.size ≤ b57 := by have h9 := F57.here; have h8 := hb.size; omega
      have hb := cl_step hb F57.below
      have hO := hO.keep F57.below
      have hB57 := F57.blk
      refine L.appendAny (B := w0.heap.size) (m := 1) rfl rfl Try.underlying26 in3 rfl (by decide) hO (fun h => by cases h) (news := [.int .i64 (oth sc by_ yn i)]) rfl (fun ad had j u hj => by
        cases had
        rw [Addr.add_lit]
        match j, hj with
        | 0, hj => cases hj; exact hB57.cellAt 0 rfl) (fun u hu => by simp only [List.mem_cons, List.not_mem_nil, or_false] at hu; subst hu; rfl) (by omega) (by omega) hb.size (fun o2 oc2 w2 hO2 hg2 hbel _ => ?_)
      have hb := hb.trans hbel
      clear hg2 hbel hO hB57
      rename World => w
      refine L.va (x_asS rfl) ?_
      refine L.nil ?_
      refine B.nrm ?_
      show W _ _ _ _ _ _
      refine W.region rfl ?_
      refine L.va (x_mvI rfl) ?_
      refine L.va (x_addI rfl rfl (by omega)) ?_
      refine L.va (x_asI rfl) ?_
      refine L.nil ?_
      refine T.nrm ?_
      exact ⟨_, by omega, ⟨i + 1, o2, oc2, rfl, rfl, rfl, rfl, rfl, rfl, (by omega), (by rw [range_int]; exact hO2), hb⟩⟩
  · obtain rfl : sn = i := by omega
    refine W.exit ?_
    repeat (first | refine T.exit ?_ | refine N.exit ?_ | refine B.exitNe (by decide) ?_)
    refine B.exitEq ?_
    show W _ _ _ _ _ _
    refine W.seq ?_
    refine W.region rfl ?_
    refine L.va (x_mvS rfl) ?_
    refine L.va (x_mvS rfl) ?_
    refine L.call (x_call2 rfl rfl Try.func14 rfl nm14 rfl) (playd_c _ (hBo.keep hb) (hSc.keep hb) hm hsn) ?_
    rintro _ w1 ⟨ea1, na1, za1, wa1, ec1, nc1, zc1, wc1, sb1, rfl, hR1, hL1, hE1, hN1, hbw, hsb1, hso1, ov1, hS1⟩
    have hs0 := hb.size
    have hb := cl_step hb hbw
    have hO := hO.keep hbw
    have hE1 := hE1.down hs0
    have hN1 := hN1.down hs0
    clear hbw hs0
    rename World => w
    refine L.va (x_mvT rfl) ?_
    refine L.va (x_extract rfl rfl) ?_
    refine L.va (x_extract rfl rfl) ?_
    refine L.va (x_extract rfl rfl) ?_
    refine L.alloc (cs := #[.slice none 0 0, .slice none 0 0, .slice none 0 0, .slice none 0 0, .bool false, .int .i64 0]) zr31 rfl (fun w b10 F10 => ?_)
    have lt10 : w0.heap.size ≤ b10 := by have h9 := F10.here; have h8 := hb.size; omega
    have ho10 := RunD.off hR1 (b := b10) (by have := F10.here; omega)
    have hb := cl_step hb F10.below
    have hO := hO.keep F10.below
    have hR1 := hR1.keep F10.below
    have hB10 := F10.blk
    refine L.put (b := b10) (o := 0) (vs := [.slice ea1 ((pd m bo sn sc).evs.length) ec1, .slice na1 ((pd m bo sn sc).nts.length) nc1, .slice za1 ((pd m bo sn sc).mm) zc1, .slice wa1 ((pd m bo sn sc).mm) wc1, .bool ((pd m bo sn sc).st), .int .i64 ((pd m bo sn sc).us)]) #[.slice ea1 ((pd m bo sn sc).evs.length) ec1, .slice na1 ((pd m bo sn sc).nts.length) nc1, .slice za1 ((pd m bo sn sc).mm) zc1, .slice wa1 ((pd m bo sn sc).mm) wc1, .bool ((pd m bo sn sc).st), .int .i64 ((pd m bo sn sc).us)] rfl rfl rfl sz31 rfl rfl hB10 (Nat.le_of_ble_eq_true rfl) rfl (fun w hnew hg hsz => ?_)
    have hm0 := ModT.put0 hB10 hg
    have hb := below_gr hb hb.size hg lt10
    have hO := hO.mod hm0 rfl
    have hR1 := hR1.otherB hg ho10
    have hB10 := hnew
    clear hm0
    refine L.va (x_asP rfl) ?_
    refine L.va (x_asI rfl) ?_
    refine L.nil ?_
    show W _ _ _ _ _ _
    refine W.seq ?_
    refine W.region rfl ?_
    refine L.va (x_mvS rfl) ?_
    refine L.va (x_mvS rfl) ?_
    have hc2 := playd_c (lb := lb) (pl := pl) (bc := bc) (scp := oc) w (hBo.keep hb) (Own.scAt hO) hm hsn
    rw [hpd] at hc2
    refine L.call (x_call2 rfl rfl Try.func14 rfl nm14 rfl) hc2 ?_
    rintro _ w1 ⟨ea2, na2, za2, wa2, ec2, nc2, zc2, wc2, sb2, rfl, hR2, hL2, hE2, hN2, hbw, hsb2, hso2, ov2, hS2⟩
    have hb := cl_step hb hbw
    have hO := hO.keep hbw
    have hR1 := hR1.keep hbw
    have hB10 := hB10.keep hbw
    clear hbw hc2
    rename World => w
    refine L.va (x_mvT rfl) ?_
    refine L.va (x_extract rfl rfl) ?_
    refine L.va (x_extract rfl rfl) ?_
    refine L.va (x_extract rfl rfl) ?_
    refine L.alloc (cs := #[.slice none 0 0, .slice none 0 0, .slice none 0 0, .slice none 0 0, .bool false, .int .i64 0]) zr31 rfl (fun w b13 F13 => ?_)
    have lt13 : w0.heap.size ≤ b13 := by have h9 := F13.here; have h8 := hb.size; omega
    have ne13hB10 := F13.ne hB10
    have ho131 := RunD.off hR1 (b := b13) (by have := F13.here; omega)
    have ho132 := RunD.off hR2 (b := b13) (by have := F13.here; omega)
    have hb := cl_step hb F13.below
    have hO := hO.keep F13.below
    have hR1 := hR1.keep F13.below
    have hB10 := hB10.keep F13.below
    have hR2 := hR2.keep F13.below
    have hB13 := F13.blk
    refine L.put (b := b13) (o := 0) (vs := [.slice ea2 ((pd m bo sn sc).evs.length) ec2, .slice na2 ((pd m bo sn sc).nts.length) nc2, .slice za2 ((pd m bo sn sc).mm) zc2, .slice wa2 ((pd m bo sn sc).mm) wc2, .bool ((pd m bo sn sc).st), .int .i64 ((pd m bo sn sc).us)]) #[.slice ea2 ((pd m bo sn sc).evs.length) ec2, .slice na2 ((pd m bo sn sc).nts.length) nc2, .slice za2 ((pd m bo sn sc).mm) zc2, .slice wa2 ((pd m bo sn sc).mm) wc2, .bool ((pd m bo sn sc).st), .int .i64 ((pd m bo sn sc).us)] rfl rfl rfl sz31 rfl rfl hB13 (Nat.le_of_ble_eq_true rfl) rfl (fun w hnew hg hsz => ?_)
    have hm0 := ModT.put0 hB13 hg
    have hb := below_gr hb hb.size hg lt13
    have hO := hO.mod hm0 rfl
    have hR1 := hR1.otherB hg ho131
    have hB10 := hB10.other hg ne13hB10
    have hR2 := hR2.otherB hg ho132
    have hB13 := hnew
    clear hm0
    refine L.va (x_asP rfl) ?_
    refine L.va (x_asI rfl) ?_
    refine L.nil ?_
    show W _ _ _ _ _ _
    refine W.seq ?_
    by_cases hus : (pd m bo sn sc).us = (sn : Int)
    · refine W.region rfl ?_
      refine L.va (x_mvI rfl) ?_
      refine L.call (x_call1 rfl Try.func12 rfl nm12 rfl) (errno_c ((pd m bo sn sc).e) _) ?_
      rintro _ w1 ⟨rfl, hw1⟩
      rw [hw1]
      clear hw1 w1
      refine L.va (d_bool (r := true) (decide_eq_true (he0)) (x_eql (m := (pd m bo sn sc).e) (k := 0) rfl rfl)) ?_
      refine L.va (x_mvB rfl) ?_
      refine L.on rfl ?_
      refine L.va (x_mvI rfl) ?_
      refine L.on rfl ?_
      refine L.call (x_call1 rfl Try.func12 rfl nm12 rfl) (errno_c ((pd m bo sn sc).e) _) ?_
      rintro _ w1 ⟨rfl, hw1⟩
      rw [hw1]
      clear hw1 w1
      refine L.on rfl ?_
      refine L.va (d_bool (r := true) (decide_eq_true (he0)) (x_eql (m := (pd m bo sn sc).e) (k := 0) rfl rfl)) ?_
      refine L.va (x_pickT rfl) ?_
      refine L.va (x_mvB rfl) ?_
      refine L.on rfl ?_
      refine L.va (x_loadAgg (cs := [.slice ea1 ((pd m bo sn sc).evs.length) ec1, .slice na1 ((pd m bo sn sc).nts.length) nc1, .slice za1 ((pd m bo sn sc).mm) zc1, .slice wa1 ((pd m bo sn sc).mm) wc1, .bool ((pd m bo sn sc).st), .int .i64 ((pd m bo sn sc).us)]) rfl Try.underlying31 rfl sz31 rfl (hB10.aggAt rfl)) ?_
      refine L.on rfl ?_
      refine L.va (x_loadAgg (cs := [.slice ea2 ((pd m bo sn sc).evs.length) ec2, .slice na2 ((pd m bo sn sc).nts.length) nc2, .slice za2 ((pd m bo sn sc).mm) zc2, .slice wa2 ((pd m bo sn sc).mm) wc2, .bool ((pd m bo sn sc).st), .int .i64 ((pd m bo sn sc).us)]) rfl Try.underlying31 rfl sz31 rfl (hB13.aggAt rfl)) ?_
      refine L.on rfl ?_
      refine L.call (x_call2 rfl rfl Try.func16 rfl nm16 rfl) (same_c _ hlen hR1 hR2) ?_
      rintro _ w1 ⟨rfl, hbw⟩
      have hb := cl_step hb hbw
      have hO := hO.keep hbw
      have hR1 := hR1.keep hbw
      have hB10 := hB10.keep hbw
      have hR2 := hR2.keep hbw
      have hB13 := hB13.keep hbw
      clear hbw
      rename World => w
      refine L.va (x_pickT rfl) ?_
      refine L.va (x_mvB rfl) ?_
      refine L.on rfl ?_
      refine L.va (x_field rfl Try.underlying31 rfl sz3 (by decide)) ?_
      refine L.on rfl ?_
      refine L.va (x_load rfl Try.underlying3 rfl (hB10.cellAt 5 (v := .int .i64 ((pd m bo sn sc).us)) rfl)) ?_
      refine L.on rfl ?_
      refine L.va (x_field rfl Try.underlying31 rfl sz27 (by decide)) ?_
      refine L.on rfl ?_
      refine L.va (x_load rfl Try.underlying27 rfl (hB10.cellAt 0 (v := .slice ea1 ((pd m bo sn sc).evs.length) ec1) rfl)) ?_
      refine L.on rfl ?_
      refine L.va (x_len rfl Try.underlying27 rfl) ?_
      refine L.on rfl ?_
      refine L.va (d_bool (r := true) (decide_eq_true (hu0)) (x_eql (m := (pd m bo sn sc).us) (k := ((pd m bo sn sc).evs.length : Int)) rfl rfl)) ?_
      refine L.va (x_pickT rfl) ?_
      refine L.va (x_mvB rfl) ?_
      refine L.on rfl ?_
      refine L.va (x_field rfl Try.underlying31 rfl sz3 (by decide)) ?_
      refine L.on rfl ?_
      refine L.va (x_load rfl Try.underlying3 rfl (hB10.cellAt 5 (v := .int .i64 ((pd m bo sn sc).us)) rfl)) ?_
      refine L.on rfl ?_
      refine L.va (x_mvS rfl) ?_
      refine L.on rfl ?_
      refine L.va (x_len rfl Try.underlying26 rfl) ?_
      refine L.on rfl ?_
      refine L.va (d_bool (r := true) (decide_eq_true (hus)) (x_eql (m := (pd m bo sn sc).us) (k := (sn : Int)) rfl rfl)) ?_
      refine L.on rfl ?_
      refine L.va (x_mvB rfl) ?_
      refine L.off rfl ?_
      refine L.off rfl ?_
      refine L.on rfl ?_
      refine L.va (x_pickT rfl) ?_
      refine L.on rfl ?_
      refine L.va (x_mvB rfl) ?_
      refine L.off rfl ?_
      refine L.off rfl ?_
      refine L.off rfl ?_
      refine L.on rfl ?_
      refine L.va (x_pickT rfl) ?_
      refine L.va (x_pickT rfl) ?_
      refine L.va (x_mvB rfl) ?_
      refine L.on rfl ?_
      refine L.call (x_call0 Try.func13 rfl nm13 rfl) (live_c _) ?_
      rintro _ w1 ⟨rfl, hbw⟩
      have hb := cl_step hb hbw
      have hO := hO.keep hbw
      have hR1 := hR1.keep hbw
      have hB10 := hB10.keep hbw
      have hR2 := hR2.keep hbw
      have hB13 := hB13.keep hbw
      clear hbw
      rename World => w
      refine L.va (x_pickT rfl) ?_
      refine L.va (x_asB rfl) ?_
      refine L.nil ?_
      show W _ _ _ _ _ _
      refine W.ret ?_
      repeat (first | refine T.ret ?_ | refine B.ret ?_ | refine N.ret ?_)
      refine ends.one (.inr rfl) rfl ?_
      exact ⟨rfl, hb⟩
    · cases hst : (pd m bo sn sc).st with
      | true =>
        refine W.region rfl ?_
        refine L.va (x_mvI rfl) ?_
        refine L.call (x_call1 rfl Try.func12 rfl nm12 rfl) (errno_c ((pd m bo sn sc).e) _) ?_
        rintro _ w1 ⟨rfl, hw1⟩
        rw [hw1]
        clear hw1 w1
        refine L.va (d_bool (r := true) (decide_eq_true (he0)) (x_eql (m := (pd m bo sn sc).e) (k := 0) rfl rfl)) ?_
        refine L.va (x_mvB rfl) ?_
        refine L.on rfl ?_
        refine L.va (x_mvI rfl) ?_
        refine L.on rfl ?_
        refine L.call (x_call1 rfl Try.func12 rfl nm12 rfl) (errno_c ((pd m bo sn sc).e) _) ?_
        rintro _ w1 ⟨rfl, hw1⟩
        rw [hw1]
        clear hw1 w1
        refine L.on rfl ?_
        refine L.va (d_bool (r := true) (decide_eq_true (he0)) (x_eql (m := (pd m bo sn sc).e) (k := 0) rfl rfl)) ?_
        refine L.va (x_pickT rfl) ?_
        refine L.va (x_mvB rfl) ?_
        refine L.on rfl ?_
        refine L.va (x_loadAgg (cs := [.slice ea1 ((pd m bo sn sc).evs.length) ec1, .slice na1 ((pd m bo sn sc).nts.length) nc1, .slice za1 ((pd m bo sn sc).mm) zc1, .slice wa1 ((pd m bo sn sc).mm) wc1, .bool ((pd m bo sn sc).st), .int .i64 ((pd m bo sn sc).us)]) rfl Try.underlying31 rfl sz31 rfl (hB10.aggAt rfl)) ?_
        refine L.on rfl ?_
        refine L.va (x_loadAgg (cs := [.slice ea2 ((pd m bo sn sc).evs.length) ec2, .slice na2 ((pd m bo sn sc).nts.length) nc2, .slice za2 ((pd m bo sn sc).mm) zc2, .slice wa2 ((pd m bo sn sc).mm) wc2, .bool ((pd m bo sn sc).st), .int .i64 ((pd m bo sn sc).us)]) rfl Try.underlying31 rfl sz31 rfl (hB13.aggAt rfl)) ?_
        refine L.on rfl ?_
        refine L.call (x_call2 rfl rfl Try.func16 rfl nm16 rfl) (same_c _ hlen hR1 hR2) ?_
        rintro _ w1 ⟨rfl, hbw⟩
        have hb := cl_step hb hbw
        have hO := hO.keep hbw
        have hR1 := hR1.keep hbw
        have hB10 := hB10.keep hbw
        have hR2 := hR2.keep hbw
        have hB13 := hB13.keep hbw
        clear hbw
        rename World => w
        refine L.va (x_pickT rfl) ?_
        refine L.va (x_mvB rfl) ?_
        refine L.on rfl ?_
        refine L.va (x_field rfl Try.underlying31 rfl sz3 (by decide)) ?_
        refine L.on rfl ?_
        refine L.va (x_load rfl Try.underlying3 rfl (hB10.cellAt 5 (v := .int .i64 ((pd m bo sn sc).us)) rfl)) ?_
        refine L.on rfl ?_
        refine L.va (x_field rfl Try.underlying31 rfl sz27 (by decide)) ?_
        refine L.on rfl ?_
        refine L.va (x_load rfl Try.underlying27 rfl (hB10.cellAt 0 (v := .slice ea1 ((pd m bo sn sc).evs.length) ec1) rfl)) ?_
        refine L.on rfl ?_
        refine L.va (x_len rfl Try.underlying27 rfl) ?_
        refine L.on rfl ?_
        refine L.va (d_bool (r := true) (decide_eq_true (hu0)) (x_eql (m := (pd m bo sn sc).us) (k := ((pd m bo sn sc).evs.length : Int)) rfl rfl)) ?_
        refine L.va (x_pickT rfl) ?_
        refine L.va (x_mvB rfl) ?_
        refine L.on rfl ?_
        refine L.va (x_field rfl Try.underlying31 rfl sz3 (by decide)) ?_
        refine L.on rfl ?_
        refine L.va (x_load rfl Try.underlying3 rfl (hB10.cellAt 5 (v := .int .i64 ((pd m bo sn sc).us)) rfl)) ?_
        refine L.on rfl ?_
        refine L.va (x_mvS rfl) ?_
        refine L.on rfl ?_
        refine L.va (x_len rfl Try.underlying26 rfl) ?_
        refine L.on rfl ?_
        refine L.va (d_bool (r := false) (decide_eq_false (hus)) (x_eql (m := (pd m bo sn sc).us) (k := (sn : Int)) rfl rfl)) ?_
        refine L.on rfl ?_
        refine L.va (x_mvB rfl) ?_
        refine L.on rfl ?_
        refine L.va (x_field rfl Try.underlying31 rfl sz4 (by decide)) ?_
        refine L.on rfl ?_
        refine L.va (x_load (v := .bool true) rfl Try.underlying4 rfl (by have h9 := hB10.cellAt 4 (v := .bool (pd m bo sn sc).st) rfl; rw [hst] at h9; exact h9)) ?_
        refine L.on rfl ?_
        refine L.va (x_pickF rfl) ?_
        refine L.on rfl ?_
        refine L.va (x_mvB rfl) ?_
        refine L.off rfl ?_
        refine L.off rfl ?_
        refine L.off rfl ?_
        refine L.on rfl ?_
        refine L.va (x_pickT rfl) ?_
        refine L.va (x_pickT rfl) ?_
        refine L.va (x_mvB rfl) ?_
        refine L.on rfl ?_
        refine L.call (x_call0 Try.func13 rfl nm13 rfl) (live_c _) ?_
        rintro _ w1 ⟨rfl, hbw⟩
        have hb := cl_step hb hbw
        have hO := hO.keep hbw
        have hR1 := hR1.keep hbw
        have hB10 := hB10.keep hbw
        have hR2 := hR2.keep hbw
        have hB13 := hB13.keep hbw
        clear hbw
        rename World => w
        refine L.va (x_pickT rfl) ?_
        refine L.va (x_asB rfl) ?_
        refine L.nil ?_
        show W _ _ _ _ _ _
        refine W.ret ?_
        repeat (first | refine T.ret ?_ | refine B.ret ?_ | refine N.ret ?_)
        refine ends.one (.inr rfl) rfl ?_
        exact ⟨rfl, hb⟩
      | false =>
        have hall : ∀ x ∈ (pd m bo sn sc).ens, x ≠ 0 := (hor.resolve_left hus).resolve_left (by rw [hst]; decide)
        refine W.region rfl ?_
        refine L.va (x_mvI rfl) ?_
        refine L.call (x_call1 rfl Try.func12 rfl nm12 rfl) (errno_c ((pd m bo sn sc).e) _) ?_
        rintro _ w1 ⟨rfl, hw1⟩
        rw [hw1]
        clear hw1 w1
        refine L.va (d_bool (r := true) (decide_eq_true (he0)) (x_eql (m := (pd m bo sn sc).e) (k := 0) rfl rfl)) ?_
        refine L.va (x_mvB rfl) ?_
        refine L.on rfl ?_
        refine L.va (x_mvI rfl) ?_
        refine L.on rfl ?_
        refine L.call (x_call1 rfl Try.func12 rfl nm12 rfl) (errno_c ((pd m bo sn sc).e) _) ?_
        rintro _ w1 ⟨rfl, hw1⟩
        rw [hw1]
        clear hw1 w1
        refine L.on rfl ?_
        refine L.va (d_bool (r := true) (decide_eq_true (he0)) (x_eql (m := (pd m bo sn sc).e) (k := 0) rfl rfl)) ?_
        refine L.va (x_pickT rfl) ?_
        refine L.va (x_mvB rfl) ?_
        refine L.on rfl ?_
        refine L.va (x_loadAgg (cs := [.slice ea1 ((pd m bo sn sc).evs.length) ec1, .slice na1 ((pd m bo sn sc).nts.length) nc1, .slice za1 ((pd m bo sn sc).mm) zc1, .slice wa1 ((pd m bo sn sc).mm) wc1, .bool ((pd m bo sn sc).st), .int .i64 ((pd m bo sn sc).us)]) rfl Try.underlying31 rfl sz31 rfl (hB10.aggAt rfl)) ?_
        refine L.on rfl ?_
        refine L.va (x_loadAgg (cs := [.slice ea2 ((pd m bo sn sc).evs.length) ec2, .slice na2 ((pd m bo sn sc).nts.length) nc2, .slice za2 ((pd m bo sn sc).mm) zc2, .slice wa2 ((pd m bo sn sc).mm) wc2, .bool ((pd m bo sn sc).st), .int .i64 ((pd m bo sn sc).us)]) rfl Try.underlying31 rfl sz31 rfl (hB13.aggAt rfl)) ?_
        refine L.on rfl ?_
        refine L.call (x_call2 rfl rfl Try.func16 rfl nm16 rfl) (same_c _ hlen hR1 hR2) ?_
        rintro _ w1 ⟨rfl, hbw⟩
        have hb := cl_step hb hbw
        have hO := hO.keep hbw
        have hR1 := hR1.keep hbw
        have hB10 := hB10.keep hbw
        have hR2 := hR2.keep hbw
        have hB13 := hB13.keep hbw
        clear hbw
        rename World => w
        refine L.va (x_pickT rfl) ?_
        refine L.va (x_mvB rfl) ?_
        refine L.on rfl ?_
        refine L.va (x_field rfl Try.underlying31 rfl sz3 (by decide)) ?_
        refine L.on rfl ?_
        refine L.va (x_load rfl Try.underlying3 rfl (hB10.cellAt 5 (v := .int .i64 ((pd m bo sn sc).us)) rfl)) ?_
        refine L.on rfl ?_
        refine L.va (x_field rfl Try.underlying31 rfl sz27 (by decide)) ?_
        refine L.on rfl ?_
        refine L.va (x_load rfl Try.underlying27 rfl (hB10.cellAt 0 (v := .slice ea1 ((pd m bo sn sc).evs.length) ec1) rfl)) ?_
        refine L.on rfl ?_
        refine L.va (x_len rfl Try.underlying27 rfl) ?_
        refine L.on rfl ?_
        refine L.va (d_bool (r := true) (decide_eq_true (hu0)) (x_eql (m := (pd m bo sn sc).us) (k := ((pd m bo sn sc).evs.length : Int)) rfl rfl)) ?_
        refine L.va (x_pickT rfl) ?_
        refine L.va (x_mvB rfl) ?_
        refine L.on rfl ?_
        refine L.va (x_field rfl Try.underlying31 rfl sz3 (by decide)) ?_
        refine L.on rfl ?_
        refine L.va (x_load rfl Try.underlying3 rfl (hB10.cellAt 5 (v := .int .i64 ((pd m bo sn sc).us)) rfl)) ?_
        refine L.on rfl ?_
        refine L.va (x_mvS rfl) ?_
        refine L.on rfl ?_
        refine L.va (x_len rfl Try.underlying26 rfl) ?_
        refine L.on rfl ?_
        refine L.va (d_bool (r := false) (decide_eq_false (hus)) (x_eql (m := (pd m bo sn sc).us) (k := (sn : Int)) rfl rfl)) ?_
        refine L.on rfl ?_
        refine L.va (x_mvB rfl) ?_
        refine L.on rfl ?_
        refine L.va (x_field rfl Try.underlying31 rfl sz4 (by decide)) ?_
        refine L.on rfl ?_
        refine L.va (x_load (v := .bool false) rfl Try.underlying4 rfl (by have h9 := hB10.cellAt 4 (v := .bool (pd m bo sn sc).st) rfl; rw [hst] at h9; exact h9)) ?_
        refine L.on rfl ?_
        refine L.va (x_pickF rfl) ?_
        refine L.on rfl ?_
        refine L.va (x_mvB rfl) ?_
        refine L.on rfl ?_
        refine L.va (x_field rfl Try.underlying31 rfl sz26 (by decide)) ?_
        refine L.on rfl ?_
        refine L.va (x_load rfl Try.underlying26 rfl (hB10.cellAt 2 (v := .slice za1 ((pd m bo sn sc).mm) zc1) rfl)) ?_
        refine L.on rfl ?_
        refine L.call (x_call1 rfl Try.func20 rfl nm20 rfl) (all_c _ hR1.hz (by omega) hR1.zsl hR1.en hall) ?_
        rintro _ w1 ⟨rfl, hw1⟩
        rw [hw1]
        clear hw1 w1
        refine L.on rfl ?_
        refine L.va (x_pickF rfl) ?_
        refine L.va (x_pickT rfl) ?_
        refine L.va (x_mvB rfl) ?_
        refine L.on rfl ?_
        refine L.call (x_call0 Try.func13 rfl nm13 rfl) (live_c _) ?_
        rintro _ w1 ⟨rfl, hbw⟩
        have hb := cl_step hb hbw
        have hO := hO.keep hbw
        have hR1 := hR1.keep hbw
        have hB10 := hB10.keep hbw
        have hR2 := hR2.keep hbw
        have hB13 := hB13.keep hbw
        clear hbw
        rename World => w
        refine L.va (x_pickT rfl) ?_
        refine L.va (x_asB rfl) ?_
        refine L.nil ?_
        show W _ _ _ _ _ _
        refine W.ret ?_
        repeat (first | refine T.ret ?_ | refine B.ret ?_ | refine N.ret ?_)
        refine ends.one (.inr rfl) rfl ?_
        exact ⟨rfl, hb⟩

theorem turns_no {lb : Nat} {pl : Nat → Plug} {m bc sn scp yn yc : Nat} {ba sa ya : Option Addr} (w0 : World) (hno : 16 < m ∨ 262144 < sn) : @C Try.prog (loneCtx lb pl) 8 #[.slice ba m bc, .slice sa sn scp, .slice ya yn yc] w0 fun v w => v = .bool true ∧ Below w0.heap.size w0 w := by
  letI : Ctx Try.prog := loneCtx lb pl
  refine C.enter (n := 113) Try.func8 rfl rfl ?_
  have hb : Below w0.heap.size w0 w0 := Below.refl _ _
  refine W.seq ?_
  refine W.region rfl ?_
  refine L.va (x_asB rfl) ?_
  refine L.nil ?_
  show W _ _ _ _ _ _
  refine W.seq ?_
  refine W.seq ?_
  refine W.region rfl ?_
  refine L.va (x_mvS rfl) ?_
  refine L.va (x_len rfl Try.underlying25 rfl) ?_
  refine L.va (x_gtr rfl rfl) ?_
  refine L.va (x_mvB rfl) ?_
  refine L.meetB 4 [19,20,21,22,23] 23 (.bool (decide (16 < m ∨ 262144 < sn))) (tj := 19) rfl (fun hb19 => ?_) (fun hb19 => ?_) (fun f => ?_)
  · refine L.off rfl ?_
    refine L.off rfl ?_
    refine L.off rfl ?_
    refine L.va (x_pickT rfl) ?_
    refine L.nil ?_
    refine ⟨rfl, congrArg Value.bool (by first | exact or_t hb19 | rfl | (simp_all; done) | (rw [Bool.eq_iff_iff]; simp_all; omega)), ?_⟩
    exact Agree.upd rfl (Agree.upd rfl (Agree.upd rfl (Agree.upd rfl (Agree.upd rfl (Agree.refl _ _)))))
  · refine L.on rfl ?_
    refine L.va (x_mvS rfl) ?_
    refine L.on rfl ?_
    refine L.va (x_len rfl Try.underlying26 rfl) ?_
    refine L.on rfl ?_
    refine L.va (x_gtr rfl rfl) ?_
    refine L.va (x_pickF rfl) ?_
    refine L.nil ?_
    refine ⟨rfl, congrArg Value.bool (by first | exact or_f hb19 | rfl | (simp_all; done) | (rw [Bool.eq_iff_iff]; simp_all; omega)), ?_⟩
    exact Agree.upd rfl (Agree.upd rfl (Agree.upd rfl (Agree.upd rfl (Agree.upd rfl (Agree.refl _ _)))))
  refine L.nil ?_
  show W _ _ _ _ _ _
  refine W.condP rfl (fun h23 => ?_) (fun h23 => ?_)
  · refine W.seq ?_
    refine W.region rfl ?_
    refine L.call (x_call0 Try.func13 rfl nm13 rfl) (live_c _) ?_
    rintro _ w1 ⟨rfl, hbw⟩
    have hb := cl_step hb hbw
    clear hbw
    rename World => w
    refine L.va (x_asB rfl) ?_
    refine L.nil ?_
    show W _ _ _ _ _ _
    refine W.ret ?_
    repeat (first | refine T.ret ?_ | refine B.ret ?_ | refine N.ret ?_)
    refine ends.one (.inr rfl) rfl ?_
    exact ⟨rfl, hb⟩
  · exact absurd hno h23

theorem turns_l {lb : Nat} {pl : Nat → Plug} {m bc sn scp yn yc : Nat} {bo : Nat → List OpD} {sc by_ : Nat → Int} {ba sa ya : Option Addr} {aa : Nat → Option Addr} {cc : Nat → Nat} (w0 : World) (hBo : BodsAt w0 ba m bo aa cc) (hSc : ScAt w0 sa sn scp sc) (hY : ScAt w0 ya yn yc by_) : @C Try.prog (loneCtx lb pl) 8 #[.slice ba m bc, .slice sa sn scp, .slice ya yn yc] w0 fun v w => v = .bool true ∧ Below w0.heap.size w0 w := by
  by_cases h : 16 < m ∨ 262144 < sn
  · exact turns_no w0 h
  · exact turns_ok w0 hBo hSc hY (by omega) (by omega)

end Go.Vy.Sc
end
