/- A keeper's calls in the law's own story. -/
import Derived.Test.YtahcjihhkmolpaaH10
namespace Go.Proofs.Ytahcjihhkmolpaa
open Go.Vc Go.RowKit

theorem buK_0 (x0 : Int) (x1 : Int) (x2 : Int) : Try.prog.built 110 [(0, .agg #[.int .i64 x0, .int .i64 x1]), (1, .int .i64 x2)] = some #[.int .i64 x0, .int .i64 x1, .int .i64 x2] := by kernel_rfl
theorem pub_0 (Bs kb hp : Nat) (obj : Int) (pin : Nat → Int) (r : Rt) (w0 : World) (hS : KT w0 Bs kb hp obj 2 pin r none 0 0) (hBs : Bs ≤ w0.heap.size) (s : Int) (a : Option Addr) (n c : Nat) (tg : Int) : C Try.prog 23 #[.pointer (some ⟨kb, 0, none⟩), .pointer none, .agg #[.int .i64 s, .slice a n c, .int .i64 tg], .slice none 0 0] w0 fun v w => v = .int .i64 0 ∧ KT w Bs kb hp obj 2 pin ⟨s, a, n, c, tg⟩ none 0 0 ∧ ModT w0 w Bs [139] := by
  refine C.enter (n := 69) Try.func23 rfl rfl ?_
  have hm : ModT w0 w0 Bs [139] := ModT.refl _ _ _
  obtain ⟨rob, wb, lb, psa, psc, PX, av, hK, hW, hR, hL, hP, hX, lK, lR, lL, hnp⟩ := hS
  refine W.seq ?_
  refine W.region rfl ?_
  refine L.box (cs := #[.int .i64 s, .slice a n c, .int .i64 tg]) rfl rfl (fun w b6 F6 => ?_)
  have lt6 : w0.heap.size ≤ b6 := by have h9 := F6.here; have h8 := hm.size; omega
  have hm := hm.step F6.below (Nat.le_trans hBs hm.size)
  have hK := hK.keep F6.below
  have hW := hW.keep F6.below
  have hR := hR.keep F6.below
  have hL := hL.keep F6.below
  have hP := hP.keep F6.below
  have hX := hX.keep F6.below
  have hB6 := F6.blk
  refine L.va (x_asI rfl) ?_
  refine L.nil ?_
  show W _ _ _ _ _ _
  refine W.seq ?_
  refine W.seq ?_
  refine W.region rfl ?_
  refine L.va (x_mvP rfl) ?_
  refine L.va (x_eqPtrNil rfl rfl Try.underlying57) ?_
  refine L.nil ?_
  show W _ _ _ _ _ _
  refine W.condF rfl ?_
  refine W.skip ?_
  show W _ _ _ _ _ _
  refine W.seq ?_
  refine W.lastL 6 (fun w' => Below w.heap.size w w') (by kernel_rfl) (by kernel_rfl) (by kernel_rfl) (by kernel_rfl) ((Below.refl w.heap.size w).drew) ?_
  refine D.va (fun w' hw' => (x_mvP rfl)) ?_
  refine D.va (fun w' hw' => (x_nilCheck rfl)) ?_
  refine D.va (fun w' hw' => (x_field rfl Try.underlying101 rfl sz94 (by decide))) ?_
  refine D.va (fun w' hw' => (x_load rfl Try.underlying94 rfl ((hK.keep hw').cellAt 1 (v := .pointer (some ⟨rob, 0, none⟩)) rfl))) ?_
  refine D.va (fun w' hw' => (x_mvP rfl)) ?_
  refine D.va (fun w' hw' => (x_loadAgg (cs := [.int .i64 s, .slice a n c, .int .i64 tg]) rfl Try.underlying61 rfl sz61 rfl ((hB6.keep hw').aggAt rfl))) ?_
  refine D.nil (fun w hbw => ?_)
  have hm := hm.step hbw (Nat.le_trans hBs hm.size)
  have hK := hK.keep hbw
  have hW := hW.keep hbw
  have hR := hR.keep hbw
  have hL := hL.keep hbw
  have hP := hP.keep hbw
  have hX := hX.keep hbw
  have hB6 := hB6.keep hbw
  clear hbw
  refine L.call (x_call3 rfl rfl rfl Try.func44 rfl nm44 rfl) (arset rob wb obj 0 av s a n c tg r.s r.a r.n r.c r.tg w hR hW) ?_
  rintro _ w ⟨hnew, hg⟩
  have hm0 := ModT.put0 hR hg
  have hm := hm.trans (ModT.put hR hg lR rfl)
  have hK := hK.mod hm0 rfl
  have hW := hW.mod hm0 rfl
  have hL := hL.mod hm0 rfl
  have hP := hP.mod hm0 rfl
  have hX := hX.mod hm0 rfl
  have hB6 := hB6.mod hm0 rfl
  have hR := hnew
  clear hm0
  refine L.nil ?_
  show W _ _ _ _ _ _
  refine W.seq ?_
  refine W.region rfl ?_
  refine L.va (x_mvP rfl) ?_
  refine L.va (x_nilCheck rfl) ?_
  refine L.va (x_field rfl Try.underlying101 rfl sz96 (by decide)) ?_
  refine L.va (x_load rfl Try.underlying96 rfl (hK.cellAt 3 (v := .pointer (some ⟨lb, 0, none⟩)) rfl)) ?_
  refine L.va (x_mvP rfl) ?_
  refine L.call (x_call2 rfl rfl Try.func45 rfl nm45 rfl) (rlget lb wb obj _ none 0 0 w hL hW) ?_
  rintro _ w ⟨rfl, hbw⟩
  have hm := hm.step hbw (Nat.le_trans hBs hm.size)
  have hK := hK.keep hbw
  have hW := hW.keep hbw
  have hR := hR.keep hbw
  have hL := hL.keep hbw
  have hP := hP.keep hbw
  have hX := hX.keep hbw
  have hB6 := hB6.keep hbw
  refine L.va (x_asS rfl) ?_
  refine L.nil ?_
  show W _ _ _ _ _ _
  refine W.seq ?_
  refine W.seq ?_
  refine W.region rfl ?_
  refine L.va (x_mvS rfl) ?_
  refine L.va (x_lenK (m := 0) rfl rfl Try.underlying31 rfl) ?_
  refine L.va (x_boolK (r := false) (by decide) (x_gtr (m := 0) (k := 0) rfl rfl)) ?_
  refine L.nil ?_
  show W _ _ _ _ _ _
  refine W.condF rfl ?_
  refine W.skip ?_
  show W _ _ _ _ _ _
  refine W.seq ?_
  refine W.region rfl ?_
  refine L.va (x_mvP rfl) ?_
  refine L.va (x_mvP rfl) ?_
  refine L.va (x_mvS rfl) ?_
  refine L.call (x_call3 rfl rfl rfl Try.func47 rfl nm47 rfl) (pass_none kb w) ?_
  rintro _ w ⟨rfl, hbw⟩
  have hm := hm.step hbw (Nat.le_trans hBs hm.size)
  have hK := hK.keep hbw
  have hW := hW.keep hbw
  have hR := hR.keep hbw
  have hL := hL.keep hbw
  have hP := hP.keep hbw
  have hX := hX.keep hbw
  have hB6 := hB6.keep hbw
  refine L.va (x_asI rfl) ?_
  refine L.nil ?_
  show W _ _ _ _ _ _
  refine W.ret ?_
  repeat (first | refine T.ret ?_ | refine B.ret ?_ | refine N.ret ?_)
  refine ends.one (.inr rfl) rfl ?_
  exact ⟨rfl, ⟨rob, wb, lb, psa, psc, PX, av, hK, hW, hR, hL, hP, hX, lK, lR, lL, hnp⟩, hm⟩

set_option maxHeartbeats 800000 in
theorem pub_1 (Bs kb hp : Nat) (obj : Int) (pin : Nat → Int) (r : Rt) (w0 : World) (hS : KT w0 Bs kb hp obj 2 pin r none 0 0) (hBs : Bs ≤ w0.heap.size) (hp0 : pin 0 = 2) (hp1 : pin 1 = 0) (a : Option Addr) (n c : Nat) (tg num gen : Int) (fa : Option Addr) (fc : Nat) {Bf : Nat} (hF : Own w0 Bf 35 2 fa 1 fc [.int .i64 num, .int .i64 gen]) : C Try.prog 23 #[.pointer (some ⟨kb, 0, none⟩), .pointer none, .agg #[.int .i64 2, .slice a n c, .int .i64 tg], .slice fa 1 fc] w0 fun v w => ∃ la lc, v = .int .i64 0 ∧ KT w Bs kb hp obj 2 pin ⟨2, a, n, c, tg⟩ la 1 lc ∧ Own w w0.heap.size 110 3 la 1 lc [.int .i64 num, .int .i64 gen, .int .i64 2] ∧ ModT w0 w Bs [139, 142] := by
  refine C.enter (n := 69) Try.func23 rfl rfl ?_
  have hm : ModT w0 w0 Bs [139, 142] := ModT.refl _ _ _
  obtain ⟨rob, wb, lb, psa, psc, PX, av, hK, hW, hR, hL, hP, hX, lK, lR, lL, hnp⟩ := hS
  refine W.seq ?_
  refine W.region rfl ?_
  refine L.box (cs := #[.int .i64 2, .slice a n c, .int .i64 tg]) rfl rfl (fun w b6 F6 => ?_)
  have lt6 : w0.heap.size ≤ b6 := by have h9 := F6.here; have h8 := hm.size; omega
  have hm := hm.step F6.below (Nat.le_trans hBs hm.size)
  have hK := hK.keep F6.below
  have hW := hW.keep F6.below
  have hR := hR.keep F6.below
  have hL := hL.keep F6.below
  have hF := hF.keep F6.below
  have hP := hP.keep F6.below
  have hX := hX.keep F6.below
  have hB6 := F6.blk
  refine L.va (x_asI rfl) ?_
  refine L.nil ?_
  show W _ _ _ _ _ _
  refine W.seq ?_
  refine W.seq ?_
  refine W.region rfl ?_
  refine L.va (x_mvP rfl) ?_
  refine L.va (x_eqPtrNil rfl rfl Try.underlying57) ?_
  refine L.nil ?_
  show W _ _ _ _ _ _
  refine W.condF rfl ?_
  refine W.skip ?_
  show W _ _ _ _ _ _
  refine W.seq ?_
  refine W.lastL 6 (fun w' => Below w.heap.size w w') (by kernel_rfl) (by kernel_rfl) (by kernel_rfl) (by kernel_rfl) ((Below.refl w.heap.size w).drew) ?_
  refine D.va (fun w' hw' => (x_mvP rfl)) ?_
  refine D.va (fun w' hw' => (x_nilCheck rfl)) ?_
  refine D.va (fun w' hw' => (x_field rfl Try.underlying101 rfl sz94 (by decide))) ?_
  refine D.va (fun w' hw' => (x_load rfl Try.underlying94 rfl ((hK.keep hw').cellAt 1 (v := .pointer (some ⟨rob, 0, none⟩)) rfl))) ?_
  refine D.va (fun w' hw' => (x_mvP rfl)) ?_
  refine D.va (fun w' hw' => (x_loadAgg (cs := [.int .i64 2, .slice a n c, .int .i64 tg]) rfl Try.underlying61 rfl sz61 rfl ((hB6.keep hw').aggAt rfl))) ?_
  refine D.nil (fun w hbw => ?_)
  have hm := hm.step hbw (Nat.le_trans hBs hm.size)
  have hK := hK.keep hbw
  have hW := hW.keep hbw
  have hR := hR.keep hbw
  have hL := hL.keep hbw
  have hF := hF.keep hbw
  have hP := hP.keep hbw
  have hX := hX.keep hbw
  have hB6 := hB6.keep hbw
  clear hbw
  refine L.call (x_call3 rfl rfl rfl Try.func44 rfl nm44 rfl) (arset rob wb obj 0 av 2 a n c tg r.s r.a r.n r.c r.tg w hR hW) ?_
  rintro _ w ⟨hnew, hg⟩
  have hm0 := ModT.put0 hR hg
  have hm := hm.trans (ModT.put hR hg lR rfl)
  have hK := hK.mod hm0 rfl
  have hW := hW.mod hm0 rfl
  have hL := hL.mod hm0 rfl
  have hF := hF.mod hm0 rfl
  have hP := hP.mod hm0 rfl
  have hX := hX.mod hm0 rfl
  have hB6 := hB6.mod hm0 rfl
  have hR := hnew
  clear hm0
  refine L.nil ?_
  show W _ _ _ _ _ _
  refine W.seq ?_
  refine W.region rfl ?_
  refine L.va (x_mvP rfl) ?_
  refine L.va (x_nilCheck rfl) ?_
  refine L.va (x_field rfl Try.underlying101 rfl sz96 (by decide)) ?_
  refine L.va (x_load rfl Try.underlying96 rfl (hK.cellAt 3 (v := .pointer (some ⟨lb, 0, none⟩)) rfl)) ?_
  refine L.va (x_mvP rfl) ?_
  refine L.call (x_call2 rfl rfl Try.func45 rfl nm45 rfl) (rlget lb wb obj _ none 0 0 w hL hW) ?_
  rintro _ w ⟨rfl, hbw⟩
  have hm := hm.step hbw (Nat.le_trans hBs hm.size)
  have hK := hK.keep hbw
  have hW := hW.keep hbw
  have hR := hR.keep hbw
  have hL := hL.keep hbw
  have hF := hF.keep hbw
  have hP := hP.keep hbw
  have hX := hX.keep hbw
  have hB6 := hB6.keep hbw
  refine L.va (x_asS rfl) ?_
  refine L.nil ?_
  show W _ _ _ _ _ _
  refine W.seq ?_
  refine W.seq ?_
  refine W.region rfl ?_
  refine L.va (x_mvS rfl) ?_
  refine L.va (x_lenK (m := 1) rfl rfl Try.underlying31 rfl) ?_
  refine L.va (x_boolK (r := true) (by decide) (x_gtr (m := 1) (k := 0) rfl rfl)) ?_
  refine L.nil ?_
  show W _ _ _ _ _ _
  refine W.condT rfl ?_
  refine W.seq ?_
  refine W.region rfl ?_
  refine L.va (x_mvS rfl) ?_
  refine L.va (x_lenK (m := 0) rfl rfl Try.underlying98 rfl) ?_
  refine L.va (x_mvS rfl) ?_
  refine L.va (x_lenK (m := 0) rfl rfl Try.underlying98 rfl) ?_
  refine L.va (x_mvS rfl) ?_
  refine L.va (x_lenK (m := 1) rfl rfl Try.underlying31 rfl) ?_
  refine L.va (x_addK (r := 1) (by decide) (by decide) rfl rfl) ?_
  refine L.makeCap (m := 0) (c := 1) rfl rfl Try.underlying98 in110 rfl (by decide) (by decide) (by decide) (by decide) (fun w b38 F38 => ?_)
  have lt38 : w0.heap.size ≤ b38 := by have h9 := F38.here; have h8 := hm.size; omega
  have hm := hm.step F38.below (Nat.le_trans hBs hm.size)
  have hK := hK.keep F38.below
  have hW := hW.keep F38.below
  have hR := hR.keep F38.below
  have hL := hL.keep F38.below
  have hF := hF.keep F38.below
  have hP := hP.keep F38.below
  have hX := hX.keep F38.below
  have hB6 := hB6.keep F38.below
  have hB38 := F38.blk
  have hB38 : Blk w b38 #[.int .i64 0, .int .i64 0, .int .i64 0] 110 := hB38
  have hO38 : Own w w0.heap.size 110 3 (some ⟨b38, 0, none⟩) 0 1 [] := Own.ofBlk hB38 rfl lt38 (by decide) (by decide)
  clear hB38
  refine L.va (x_asS rfl) ?_
  refine L.nil ?_
  show W _ _ _ _ _ _
  refine W.seq ?_
  refine W.region rfl ?_
  refine L.va (x_mvS rfl) ?_
  refine L.va (x_mvS rfl) ?_
  refine L.va (x_copyNil rfl rfl Try.underlying98 sz110) ?_
  refine L.nil ?_
  show W _ _ _ _ _ _
  refine W.seq ?_
  refine W.seq ?_
  refine W.region rfl ?_
  refine L.va (x_mvS rfl) ?_
  refine L.va (x_lenK (m := 1) rfl rfl Try.underlying31 rfl) ?_
  refine L.va (x_mvI rfl) ?_
  refine L.nil ?_
  show W _ _ _ _ _ _
  refine W.block ?_
  refine W.rounds 2 ?_
  refine Rounds.go ?_
  refine W.seq ?_
  refine W.region rfl ?_
  refine L.va (x_boolK (r := true) (by decide) (x_lss (m := 0) (k := 1) rfl rfl)) ?_
  refine L.nil ?_
  show W _ _ _ _ _ _
  refine W.seq ?_
  refine W.condT rfl ?_
  refine W.skip ?_
  show W _ _ _ _ _ _
  refine W.seq ?_
  refine W.block ?_
  refine W.seq ?_
  refine W.region rfl ?_
  refine L.va (x_idx (i := 0) rfl rfl Try.underlying31 sz35 hF.sl (by decide)) ?_
  refine L.va (x_loadAgg (cs := [.int .i64 num, .int .i64 gen]) rfl Try.underlying35 rfl sz35 rfl (hF.aggK (k := 0) rfl rfl)) ?_
  refine L.alloc (cs := #[.int .i64 0, .int .i64 0]) zr35 rfl (fun w b12 F12 => ?_)
  have lt12 : w0.heap.size ≤ b12 := by have h9 := F12.here; have h8 := hm.size; omega
  have hto12_hF := Own.ne F12 hF
  have hm := hm.step F12.below (Nat.le_trans hBs hm.size)
  have hK := hK.keep F12.below
  have hW := hW.keep F12.below
  have hR := hR.keep F12.below
  have hL := hL.keep F12.below
  have hF := hF.keep F12.below
  have hP := hP.keep F12.below
  have hX := hX.keep F12.below
  have hB6 := hB6.keep F12.below
  have hO38 := hO38.keep F12.below
  have hB12 := F12.blk
  refine L.put (b := b12) (o := 0) (vs := [.int .i64 num, .int .i64 gen]) #[.int .i64 num, .int .i64 gen] rfl rfl rfl sz35 rfl rfl hB12 (Nat.le_of_ble_eq_true rfl) rfl (fun w hnew hg hsz => ?_)
  have hm0 := ModT.put0 hB12 hg
  have hm := hm.own hg lt12 hBs
  have hK := hK.mod hm0 rfl
  have hW := hW.mod hm0 rfl
  have hR := hR.mod hm0 rfl
  have hL := hL.mod hm0 rfl
  have hF := hF.otherB hg hto12_hF
  have hP := hP.mod hm0 rfl
  have hX := hX.mod hm0 rfl
  have hB6 := hB6.mod hm0 rfl
  have hO38 := hO38.mod hm0 rfl
  have hB12 := hnew
  clear hm0
  refine L.nil ?_
  show W _ _ _ _ _ _
  refine W.fl 7 [4,6] [0,1,2,3,4,5,6] (fun w' => Blk w' b12 #[.int .i64 num, .int .i64 gen] 35 ∧ Blk w' b6 #[.int .i64 2, .slice a n c, .int .i64 tg] 61) (by kernel_rfl) (by kernel_rfl) (by kernel_rfl) (by kernel_rfl) (by kernel_rfl) (⟨hB12.keep (Below.refl w.heap.size w).drew, hB6.keep (Below.refl w.heap.size w).drew⟩) ?_
  have hdr : Below w.heap.size w w.drew := (Below.refl w.heap.size w).drew
  have hm := hm.step hdr (Nat.le_trans hBs hm.size)
  have hK := hK.keep hdr
  have hW := hW.keep hdr
  have hR := hR.keep hdr
  have hL := hL.keep hdr
  have hF := hF.keep hdr
  have hP := hP.keep hdr
  have hX := hX.keep hdr
  have hB6 := hB6.keep hdr
  have hO38 := hO38.keep hdr
  have hB12 := hB12.keep hdr
  clear hdr
  generalize w.drew = w at *
  refine F.va rfl rfl (fun w' hw' => (x_mvS rfl)) ?_
  refine F.va rfl rfl (fun w' hw' => (x_loadAgg (cs := [.int .i64 num, .int .i64 gen]) rfl Try.underlying35 rfl sz35 rfl (hw'.1.aggAt rfl))) ?_
  refine F.va rfl rfl (fun w' hw' => (x_loadAgg (cs := [.int .i64 2, .slice a n c, .int .i64 tg]) rfl Try.underlying61 rfl sz61 rfl (hw'.2.aggAt rfl))) ?_
  refine F.va rfl rfl (fun w' hw' => (x_makeIface (v := .agg #[.int .i64 2, .slice a n c, .int .i64 tg]) rfl Try.underlying61 rfl)) ?_
  refine F.doo rfl rfl ?_
  refine L.call (x_invoke0 rfl mt61 Try.func88 rfl nm88) (stamp_c 2 a n c tg w) ?_
  rintro _ w ⟨rfl, hbw⟩
  have hm := hm.step hbw (Nat.le_trans hBs hm.size)
  have hK := hK.keep hbw
  have hW := hW.keep hbw
  have hR := hR.keep hbw
  have hL := hL.keep hbw
  have hF := hF.keep hbw
  have hP := hP.keep hbw
  have hX := hX.keep hbw
  have hB6 := hB6.keep hbw
  have hO38 := hO38.keep hbw
  have hB12 := hB12.keep hbw
  refine L.nil ⟨rfl, ⟨hB12, hB6⟩, ?_⟩
  refine F.va rfl rfl (fun w' hw' => (x_build (parts := [(0, .tmp 49), (1, .tmp 52)]) rfl (buK_0 num gen 2))) ?_
  refine F.doo rfl rfl ?_
  refine L.build1 (cs := #[.int .i64 num, .int .i64 gen, .int .i64 2]) rfl rfl Try.underlying98 sz110 rfl ⟨_, zr110⟩ (by decide) (fun w b54 F54 => ?_)
  have lt54 : w0.heap.size ≤ b54 := by have h9 := F54.here; have h8 := hm.size; omega
  have hto54_hO38 := Own.ne F54 hO38
  have hm := hm.step F54.below (Nat.le_trans hBs hm.size)
  have hK := hK.keep F54.below
  have hW := hW.keep F54.below
  have hR := hR.keep F54.below
  have hL := hL.keep F54.below
  have hF := hF.keep F54.below
  have hP := hP.keep F54.below
  have hX := hX.keep F54.below
  have hB6 := hB6.keep F54.below
  have hO38 := hO38.keep F54.below
  have hB12 := hB12.keep F54.below
  have hB54 := F54.blk
  refine L.nil ⟨rfl, ⟨hB12, hB6⟩, ?_⟩
  refine F.nil ?_
  show L _ _ _ _ _ _ _
  have hsz55 := hm.size
  refine L.appendAny (B := w0.heap.size) rfl rfl Try.underlying98 in110 rfl (by decide) hO38 (fun h => by cases h) (news := [.int .i64 num, .int .i64 gen, .int .i64 2]) rfl (fun ad had j u hj => by
    cases had
    rw [Addr.add_lit]
    match j, hj with
    | 0, hj => cases hj; exact hB54.cellAt 0 rfl
    | 1, hj => cases hj; exact hB54.cellAt 1 rfl
    | 2, hj => cases hj; exact hB54.cellAt 2 rfl) (fun u hu => by simp only [List.mem_cons, List.not_mem_nil, or_false] at hu; rcases hu with rfl | rfl | rfl <;> rfl) (by decide) (by decide) (by omega) (fun a55 c55 w2 hO55 hg hbel _ => ?_)
  have hO55 : Own w2 w0.heap.size 110 3 a55 1 c55 [.int .i64 num, .int .i64 gen, .int .i64 2] := hO55
  have hmo : ModT w w2 w0.heap.size [110] := ModT.app hO38 hg hbel rfl hO55
  have hm := ModT.appOwn hm hO38 hg hBs
  have hK := hK.mod hmo rfl
  have hW := hW.mod hmo rfl
  have hR := hR.mod hmo rfl
  have hL := hL.mod hmo rfl
  have hF := hF.mod hmo rfl
  have hP := hP.mod hmo rfl
  have hX := hX.mod hmo rfl
  have hB6 := hB6.mod hmo rfl
  -- LOST hO38
  have hB12 := hB12.mod hmo rfl
  -- LOST hB54
  clear hmo hbel hg hO38
  rename World => w
  refine L.va (x_asS rfl) ?_
  refine L.nil ?_
  refine B.nrm ?_
  show W _ _ _ _ _ _
  refine W.region rfl ?_
  refine L.va (x_addK (r := 1) (by decide) (by decide) rfl rfl) ?_
  refine L.va (x_mvI rfl) ?_
  refine L.nil ?_
  refine T.nrm ?_
  refine Rounds.go ?_
  refine W.seq ?_
  refine W.region rfl ?_
  refine L.va (x_boolK (r := false) (by decide) (x_lss (m := 1) (k := 1) rfl rfl)) ?_
  refine L.nil ?_
  show W _ _ _ _ _ _
  refine W.seq ?_
  refine W.condF rfl ?_
  refine W.exit ?_
  repeat (first | refine T.exit ?_ | refine N.exit ?_ | refine B.exitNe (by decide) ?_)
  refine B.exitEq ?_
  show W _ _ _ _ _ _
  refine W.seq ?_
  refine W.region rfl ?_
  refine L.va (x_mvS rfl) ?_
  refine L.va (x_asS rfl) ?_
  refine L.nil ?_
  show W _ _ _ _ _ _
  refine W.region rfl ?_
  refine L.va (x_mvP rfl) ?_
  refine L.va (x_nilCheck rfl) ?_
  refine L.va (x_field rfl Try.underlying101 rfl sz96 (by decide)) ?_
  refine L.va (x_load rfl Try.underlying96 rfl (hK.cellAt 3 (v := .pointer (some ⟨lb, 0, none⟩)) rfl)) ?_
  refine L.va (x_mvP rfl) ?_
  refine L.va (x_mvS rfl) ?_
  refine L.call (x_call3 rfl rfl rfl Try.func46 rfl nm46 rfl) (rlset lb wb obj _ a55 1 c55 none 0 0 w hL hW) ?_
  rintro _ w ⟨hnew, hg⟩
  have hm0 := ModT.put0 hL hg
  have hm := hm.trans (ModT.put hL hg lL rfl)
  have hK := hK.mod hm0 rfl
  have hW := hW.mod hm0 rfl
  have hR := hR.mod hm0 rfl
  have hF := hF.mod hm0 rfl
  have hP := hP.mod hm0 rfl
  have hX := hX.mod hm0 rfl
  have hB6 := hB6.mod hm0 rfl
  have hB12 := hB12.mod hm0 rfl
  have hO55 := hO55.mod hm0 rfl
  have hL := hnew
  clear hm0
  refine L.nil ?_
  show W _ _ _ _ _ _
  refine W.seq ?_
  refine W.region rfl ?_
  refine L.va (x_mvP rfl) ?_
  refine L.va (x_mvP rfl) ?_
  refine L.va (x_mvS rfl) ?_
  refine L.call (x_call3 rfl rfl rfl Try.func47 rfl nm47 rfl) (pass_stay Bs kb hp obj pin ⟨2, a, n, c, tg⟩ a55 1 c55 w ⟨rob, wb, lb, psa, psc, PX, av, hK, hW, hR, hL, hP, hX, lK, lR, lL, hnp⟩ hp0 hp1 num gen a55 c55 hO55) ?_
  rintro _ w ⟨rfl, hbw⟩
  have hm := hm.step hbw (Nat.le_trans hBs hm.size)
  have hK := hK.keep hbw
  have hW := hW.keep hbw
  have hR := hR.keep hbw
  have hL := hL.keep hbw
  have hF := hF.keep hbw
  have hP := hP.keep hbw
  have hX := hX.keep hbw
  have hB6 := hB6.keep hbw
  have hB12 := hB12.keep hbw
  have hO55 := hO55.keep hbw
  refine L.va (x_asI rfl) ?_
  refine L.nil ?_
  show W _ _ _ _ _ _
  refine W.ret ?_
  repeat (first | refine T.ret ?_ | refine B.ret ?_ | refine N.ret ?_)
  refine ends.one (.inr rfl) rfl ?_
  exact ⟨_, _, rfl, ⟨rob, wb, lb, psa, psc, PX, av, hK, hW, hR, hL, hP, hX, lK, lR, lL, hnp⟩, hO55, hm⟩

theorem pass_1 (Bs kb hp : Nat) (obj : Int) (pin : Nat → Int) (r : Rt) (la : Option Addr) (lc : Nat) (w0 : World) (hS : KT w0 Bs kb hp obj 2 pin r la 1 lc) (hBs : Bs ≤ w0.heap.size) (hp0 : pin 0 = 0) (hp1 : pin 1 = 0) {Bl : Nat} (num gen : Int) (hLs : Own w0 Bl 110 3 la 1 lc [.int .i64 num, .int .i64 gen, .int .i64 2]) (most : Int) (s : Hs) (hH5 : HT w0 Bs hp 5 most s) (hm40 : s.m ≤ 1099511627776) (hgn : ∀ i, i < s.n → -4611686018427387904 ≤ (s.nd i).g ∧ (s.nd i).g ≤ 4611686018427387904) : C Try.prog 24 #[.pointer (some ⟨kb, 0, none⟩), .pointer none] w0 fun v w => v = .int .i64 1 ∧ KT w Bs kb hp obj 2 pin r none 0 0 ∧ HT w Bs hp 5 most (freeR s num gen) ∧ ModT w0 w Bs [142, 78, 126, 132, 85] := by
  refine C.enter (n := 16) Try.func24 rfl rfl ?_
  have hm : ModT w0 w0 Bs [142, 78, 126, 132, 85] := ModT.refl _ _ _
  obtain ⟨rob, wb, lb, psa, psc, PX, av, hK, hW, hR, hL, hP, hX, lK, lR, lL, hnp⟩ := hS
  refine W.seq ?_
  refine W.region rfl ?_
  refine L.va (x_asI rfl) ?_
  refine L.nil ?_
  show W _ _ _ _ _ _
  refine W.seq ?_
  refine W.seq ?_
  refine W.region rfl ?_
  refine L.va (x_mvP rfl) ?_
  refine L.va (x_eqPtrNil rfl rfl Try.underlying57) ?_
  refine L.nil ?_
  show W _ _ _ _ _ _
  refine W.condF rfl ?_
  refine W.skip ?_
  show W _ _ _ _ _ _
  refine W.seq ?_
  refine W.region rfl ?_
  refine L.va (x_mvP rfl) ?_
  refine L.va (x_mvP rfl) ?_
  refine L.va (x_mvP rfl) ?_
  refine L.va (x_nilCheck rfl) ?_
  refine L.va (x_field rfl Try.underlying101 rfl sz96 (by decide)) ?_
  refine L.va (x_load rfl Try.underlying96 rfl (hK.cellAt 3 (v := .pointer (some ⟨lb, 0, none⟩)) rfl)) ?_
  refine L.va (x_mvP rfl) ?_
  refine L.call (x_call2 rfl rfl Try.func45 rfl nm45 rfl) (rlget lb wb obj _ la 1 lc w0 hL hW) ?_
  rintro _ w ⟨rfl, hbw⟩
  have hm := hm.step hbw (Nat.le_trans hBs hm.size)
  have hK := hK.keep hbw
  have hW := hW.keep hbw
  have hR := hR.keep hbw
  have hL := hL.keep hbw
  have hLs := hLs.keep hbw
  have hP := hP.keep hbw
  have hX := hX.keep hbw
  have hH5 := hH5.keep hbw
  refine L.call (x_call3 rfl rfl rfl Try.func47 rfl nm47 rfl) (pass_gone Bs kb hp obj pin r la 1 lc w ⟨rob, wb, lb, psa, psc, PX, av, hK, hW, hR, hL, hP, hX, lK, lR, lL, hnp⟩ hp0 hp1 num gen la lc hLs most s hH5 (Nat.le_trans hBs hm.size) hm40 hgn) ?_
  rintro _ w ⟨rfl, hKT, hHT, hmo⟩
  have hm := hm.trans (hmo.wide rfl)
  have hK := hK.mod hmo rfl
  have hW := hW.mod hmo rfl
  have hR := hR.mod hmo rfl
  -- LOST hL
  have hLs := hLs.mod hmo rfl
  have hP := hP.mod hmo rfl
  have hX := hX.mod hmo rfl
  -- LOST hH5
  clear hmo
  refine L.va (x_asI rfl) ?_
  refine L.nil ?_
  show W _ _ _ _ _ _
  refine W.ret ?_
  repeat (first | refine T.ret ?_ | refine B.ret ?_ | refine N.ret ?_)
  refine ends.one (.inr rfl) rfl ?_
  exact ⟨rfl, hKT, hHT, hm⟩

theorem dropped_0 (w0 : World) : C Try.prog 71 #[.agg #[.int .i64 1, .int .i64 1, .int .i64 7, .slice none 0 0, .int .i64 1, .int .i64 0, .int .i64 0], .int .i64 0] w0 fun v w => ∃ a, v = .slice a 0 0 ∧ Below w0.heap.size w0 w := by
  refine C.enter (n := 34) Try.func71 rfl rfl ?_
  have hb : Below w0.heap.size w0 w0 := Below.refl _ _
  refine W.seq ?_
  refine W.region rfl ?_
  refine L.box (cs := #[.int .i64 1, .int .i64 1, .int .i64 7, .slice none 0 0, .int .i64 1, .int .i64 0, .int .i64 0]) rfl rfl (fun w b2 F2 => ?_)
  have lt2 : w0.heap.size ≤ b2 := by have h9 := F2.here; have h8 := hb.size; omega
  have hb := cl_step hb F2.below
  have hB2 := F2.blk
  refine L.va (x_asS rfl) ?_
  refine L.nil ?_
  show W _ _ _ _ _ _
  refine W.seq ?_
  refine W.region rfl ?_
  refine L.va (x_mvI rfl) ?_
  refine L.makeCap (m := 0) (c := 0) rfl rfl Try.underlying33 in4 rfl (by decide) (by decide) (by decide) (by decide) (fun w b8 F8 => ?_)
  have lt8 : w0.heap.size ≤ b8 := by have h9 := F8.here; have h8 := hb.size; omega
  have hb := cl_step hb F8.below
  have hB2 := hB2.keep F8.below
  have hB8 := F8.blk
  have hB8 : Blk w b8 #[] 4 := hB8
  refine L.va (x_asS rfl) ?_
  refine L.nil ?_
  show W _ _ _ _ _ _
  refine W.seq ?_
  refine W.seq ?_
  refine W.region rfl ?_
  refine L.va (x_asI rfl) ?_
  refine L.nil ?_
  show W _ _ _ _ _ _
  refine W.block ?_
  refine W.rounds 1 ?_
  refine Rounds.go ?_
  refine W.seq ?_
  refine W.seq ?_
  refine W.region rfl ?_
  refine L.va (x_mvI rfl) ?_
  refine L.va (x_field rfl Try.underlying122 rfl sz49 (by decide)) ?_
  refine L.va (x_load rfl Try.underlying49 rfl (hB2.cellAt 3 (v := .slice none 0 0) rfl)) ?_
  refine L.va (x_lenK (m := 0) rfl rfl Try.underlying49 rfl) ?_
  refine L.va (x_boolK (r := false) (by decide) (x_lss (m := 0) (k := 0) rfl rfl)) ?_
  refine L.va (x_mvB rfl) ?_
  refine L.off rfl ?_
  refine L.off rfl ?_
  refine L.va (x_pickF rfl) ?_
  refine L.nil ?_
  show W _ _ _ _ _ _
  refine W.condF rfl ?_
  refine W.exit ?_
  repeat (first | refine T.exit ?_ | refine N.exit ?_ | refine B.exitNe (by decide) ?_)
  refine B.exitEq ?_
  show W _ _ _ _ _ _
  refine W.seq ?_
  refine W.region rfl ?_
  refine L.va (x_mvS rfl) ?_
  refine L.va (x_asS rfl) ?_
  refine L.nil ?_
  show W _ _ _ _ _ _
  refine W.ret ?_
  repeat (first | refine T.ret ?_ | refine B.ret ?_ | refine N.ret ?_)
  refine ends.one (.inr rfl) rfl ?_
  exact ⟨_, rfl, hb⟩

theorem dropped_1 (db : Nat) (w0 : World) (hD : Blk w0 db #[.int .i64 0] 3) : C Try.prog 71 #[.agg #[.int .i64 1, .int .i64 0, .int .i64 0, .slice (some ⟨db, 0, none⟩) 1 1, .int .i64 1, .int .i64 0, .int .i64 0], .int .i64 1] w0 fun v w => ∃ b, v = .slice (some ⟨b, 0, none⟩) 1 1 ∧ w0.heap.size ≤ b ∧ Blk w b #[.bool true] 4 ∧ Below w0.heap.size w0 w := by
  refine C.enter (n := 34) Try.func71 rfl rfl ?_
  have hb : Below w0.heap.size w0 w0 := Below.refl _ _
  refine W.seq ?_
  refine W.region rfl ?_
  refine L.box (cs := #[.int .i64 1, .int .i64 0, .int .i64 0, .slice (some ⟨db, 0, none⟩) 1 1, .int .i64 1, .int .i64 0, .int .i64 0]) rfl rfl (fun w b2 F2 => ?_)
  have lt2 : w0.heap.size ≤ b2 := by have h9 := F2.here; have h8 := hb.size; omega
  have hb := cl_step hb F2.below
  have hD := hD.keep F2.below
  have hB2 := F2.blk
  refine L.va (x_asS rfl) ?_
  refine L.nil ?_
  show W _ _ _ _ _ _
  refine W.seq ?_
  refine W.region rfl ?_
  refine L.va (x_mvI rfl) ?_
  refine L.makeCap (m := 1) (c := 1) rfl rfl Try.underlying33 in4 rfl (by decide) (by decide) (by decide) (by decide) (fun w b8 F8 => ?_)
  have lt8 : w0.heap.size ≤ b8 := by have h9 := F8.here; have h8 := hb.size; omega
  have hb := cl_step hb F8.below
  have hD := hD.keep F8.below
  have hB2 := hB2.keep F8.below
  have hB8 := F8.blk
  have hB8 : Blk w b8 #[.bool false] 4 := hB8
  refine L.va (x_asS rfl) ?_
  refine L.nil ?_
  show W _ _ _ _ _ _
  refine W.seq ?_
  refine W.seq ?_
  refine W.region rfl ?_
  refine L.va (x_asI rfl) ?_
  refine L.nil ?_
  show W _ _ _ _ _ _
  refine W.block ?_
  refine W.rounds 2 ?_
  refine Rounds.go ?_
  refine W.seq ?_
  refine W.seq ?_
  refine W.region rfl ?_
  refine L.va (x_mvI rfl) ?_
  refine L.va (x_field rfl Try.underlying122 rfl sz49 (by decide)) ?_
  refine L.va (x_load rfl Try.underlying49 rfl (hB2.cellAt 3 (v := .slice (some ⟨db, 0, none⟩) 1 1) rfl)) ?_
  refine L.va (x_lenK (m := 1) rfl rfl Try.underlying49 rfl) ?_
  refine L.va (x_boolK (r := true) (by decide) (x_lss (m := 0) (k := 1) rfl rfl)) ?_
  refine L.va (x_mvB rfl) ?_
  refine L.on rfl ?_
  refine L.va (x_mvI rfl) ?_
  refine L.on rfl ?_
  refine L.va (x_boolK (r := true) (by decide) (x_gtr (m := 1) (k := 0) rfl rfl)) ?_
  refine L.va (x_pickT rfl) ?_
  refine L.nil ?_
  show W _ _ _ _ _ _
  refine W.condT rfl ?_
  refine W.skip ?_
  show W _ _ _ _ _ _
  refine W.seq ?_
  refine W.block ?_
  refine W.region rfl ?_
  refine L.va (x_mvS rfl) ?_
  refine L.va (x_field rfl Try.underlying122 rfl sz49 (by decide)) ?_
  refine L.va (x_load rfl Try.underlying49 rfl (hB2.cellAt 3 (v := .slice (some ⟨db, 0, none⟩) 1 1) rfl)) ?_
  refine L.va (x_mvI rfl) ?_
  refine L.va (x_index (i := 0) rfl rfl Try.underlying49 sz3 (by decide)) ?_
  refine L.va (x_load rfl Try.underlying3 rfl (hD.cellAt 0 (v := .int .i64 0) rfl)) ?_
  refine L.va (x_mvI rfl) ?_
  refine L.va (x_remK (r := 0) (by decide) (by decide) rfl rfl) ?_
  refine L.va (x_mvI rfl) ?_
  refine L.va (x_addK (r := 1) (by decide) (by decide) rfl rfl) ?_
  refine L.va (x_mvI rfl) ?_
  refine L.va (x_remK (r := 0) (by decide) (by decide) rfl rfl) ?_
  refine L.va (x_index (i := 0) rfl rfl Try.underlying33 sz4 (by decide)) ?_
  refine L.put (b := b8) (o := 0) (vs := [.bool true]) #[.bool true] rfl rfl rfl sz4 rfl rfl hB8 (Nat.le_of_ble_eq_true rfl) rfl (fun w hnew hg hsz => ?_)
  have hm0 := ModT.put0 hB8 hg
  have hb := below_gr hb hb.size hg lt8
  have hD := hD.mod hm0 rfl
  have hB2 := hB2.mod hm0 rfl
  have hB8 := hnew
  clear hm0
  refine L.nil ?_
  refine B.nrm ?_
  show W _ _ _ _ _ _
  refine W.region rfl ?_
  refine L.va (x_mvI rfl) ?_
  refine L.va (x_addK (r := 1) (by decide) (by decide) rfl rfl) ?_
  refine L.va (x_asI rfl) ?_
  refine L.nil ?_
  refine T.nrm ?_
  refine Rounds.go ?_
  refine W.seq ?_
  refine W.seq ?_
  refine W.region rfl ?_
  refine L.va (x_mvI rfl) ?_
  refine L.va (x_field rfl Try.underlying122 rfl sz49 (by decide)) ?_
  refine L.va (x_load rfl Try.underlying49 rfl (hB2.cellAt 3 (v := .slice (some ⟨db, 0, none⟩) 1 1) rfl)) ?_
  refine L.va (x_lenK (m := 1) rfl rfl Try.underlying49 rfl) ?_
  refine L.va (x_boolK (r := false) (by decide) (x_lss (m := 1) (k := 1) rfl rfl)) ?_
  refine L.va (x_mvB rfl) ?_
  refine L.off rfl ?_
  refine L.off rfl ?_
  refine L.va (x_pickF rfl) ?_
  refine L.nil ?_
  show W _ _ _ _ _ _
  refine W.condF rfl ?_
  refine W.exit ?_
  repeat (first | refine T.exit ?_ | refine N.exit ?_ | refine B.exitNe (by decide) ?_)
  refine B.exitEq ?_
  show W _ _ _ _ _ _
  refine W.seq ?_
  refine W.region rfl ?_
  refine L.va (x_mvS rfl) ?_
  refine L.va (x_asS rfl) ?_
  refine L.nil ?_
  show W _ _ _ _ _ _
  refine W.ret ?_
  repeat (first | refine T.ret ?_ | refine B.ret ?_ | refine N.ret ?_)
  refine ends.one (.inr rfl) rfl ?_
  exact ⟨_, rfl, lt8, hB8, hb⟩

theorem split_0 (w0 : World) : C Try.prog 69 #[.agg #[.int .i64 0, .slice none 0 0, .int .i64 0], .agg #[.int .i64 1, .int .i64 1, .int .i64 7, .slice none 0 0, .int .i64 1, .int .i64 0, .int .i64 0]] w0 fun v w => v = .tuple #[.slice none 0 0, .slice none 0 0] ∧ Below w0.heap.size w0 w := by
  refine C.enter (n := 43) Try.func69 rfl rfl ?_
  have hb : Below w0.heap.size w0 w0 := Below.refl _ _
  refine W.seq ?_
  refine W.region rfl ?_
  refine L.box (cs := #[.int .i64 0, .slice none 0 0, .int .i64 0]) rfl rfl (fun w b2 F2 => ?_)
  have lt2 : w0.heap.size ≤ b2 := by have h9 := F2.here; have h8 := hb.size; omega
  have hb := cl_step hb F2.below
  have hB2 := F2.blk
  refine L.box (cs := #[.int .i64 1, .int .i64 1, .int .i64 7, .slice none 0 0, .int .i64 1, .int .i64 0, .int .i64 0]) rfl rfl (fun w b3 F3 => ?_)
  have lt3 : w0.heap.size ≤ b3 := by have h9 := F3.here; have h8 := hb.size; omega
  have hb := cl_step hb F3.below
  have hB2 := hB2.keep F3.below
  have hB3 := F3.blk
  refine L.va (x_asS rfl) ?_
  refine L.va (x_asS rfl) ?_
  refine L.nil ?_
  show W _ _ _ _ _ _
  refine W.seq ?_
  refine W.region rfl ?_
  refine L.va (x_asS rfl) ?_
  refine L.va (x_asS rfl) ?_
  refine L.nil ?_
  show W _ _ _ _ _ _
  refine W.seq ?_
  refine W.region rfl ?_
  refine L.va (x_loadAgg (cs := [.int .i64 1, .int .i64 1, .int .i64 7, .slice none 0 0, .int .i64 1, .int .i64 0, .int .i64 0]) rfl Try.underlying122 rfl sz122 rfl (hB3.aggAt rfl)) ?_
  refine L.va (x_field rfl Try.underlying61 rfl sz31 (by decide)) ?_
  refine L.va (x_load rfl Try.underlying31 rfl (hB2.cellAt 1 (v := .slice none 0 0) rfl)) ?_
  refine L.va (x_lenK (m := 0) rfl rfl Try.underlying31 rfl) ?_
  refine L.call (x_call2 rfl rfl Try.func71 rfl nm71 rfl) (dropped_0 w) ?_
  rintro _ w ⟨da, rfl, hbw⟩
  have hb := cl_step hb hbw
  have hB2 := hB2.keep hbw
  have hB3 := hB3.keep hbw
  refine L.va (x_asS rfl) ?_
  refine L.nil ?_
  show W _ _ _ _ _ _
  refine W.seq ?_
  refine W.seq ?_
  refine W.region rfl ?_
  refine L.va (x_asI rfl) ?_
  refine L.nil ?_
  show W _ _ _ _ _ _
  refine W.block ?_
  refine W.rounds 1 ?_
  refine Rounds.go ?_
  refine W.seq ?_
  refine W.seq ?_
  refine W.region rfl ?_
  refine L.va (x_mvI rfl) ?_
  refine L.va (x_mvS rfl) ?_
  refine L.va (x_lenK (m := 0) rfl rfl Try.underlying33 rfl) ?_
  refine L.va (x_boolK (r := false) (by decide) (x_lss (m := 0) (k := 0) rfl rfl)) ?_
  refine L.nil ?_
  show W _ _ _ _ _ _
  refine W.condF rfl ?_
  refine W.exit ?_
  repeat (first | refine T.exit ?_ | refine N.exit ?_ | refine B.exitNe (by decide) ?_)
  refine B.exitEq ?_
  show W _ _ _ _ _ _
  refine W.seq ?_
  refine W.region rfl ?_
  refine L.va (x_mvS rfl) ?_
  refine L.va (x_mvS rfl) ?_
  refine L.va (x_asS rfl) ?_
  refine L.va (x_asS rfl) ?_
  refine L.nil ?_
  show W _ _ _ _ _ _
  refine W.ret ?_
  repeat (first | refine T.ret ?_ | refine B.ret ?_ | refine N.ret ?_)
  refine ends.two (.inr rfl) rfl ?_
  exact ⟨rfl, hb⟩

theorem split_1 (db : Nat) (num gen : Int) (na : Option Addr) (nc : Nat) {Bn : Nat} (w0 : World) (hD : Blk w0 db #[.int .i64 0] 3) (hN : Own w0 Bn 35 2 na 1 nc [.int .i64 num, .int .i64 gen]) : C Try.prog 69 #[.agg #[.int .i64 1, .slice na 1 nc, .int .i64 0], .agg #[.int .i64 1, .int .i64 0, .int .i64 0, .slice (some ⟨db, 0, none⟩) 1 1, .int .i64 1, .int .i64 0, .int .i64 0]] w0 fun v w => ∃ a c, v = .tuple #[.slice none 0 0, .slice a 1 c] ∧ Own w w0.heap.size 35 2 a 1 c [.int .i64 num, .int .i64 gen] ∧ Below w0.heap.size w0 w := by
  refine C.enter (n := 43) Try.func69 rfl rfl ?_
  have hb : Below w0.heap.size w0 w0 := Below.refl _ _
  refine W.seq ?_
  refine W.region rfl ?_
  refine L.box (cs := #[.int .i64 1, .slice na 1 nc, .int .i64 0]) rfl rfl (fun w b2 F2 => ?_)
  have lt2 : w0.heap.size ≤ b2 := by have h9 := F2.here; have h8 := hb.size; omega
  have hb := cl_step hb F2.below
  have hD := hD.keep F2.below
  have hN := hN.keep F2.below
  have hB2 := F2.blk
  refine L.box (cs := #[.int .i64 1, .int .i64 0, .int .i64 0, .slice (some ⟨db, 0, none⟩) 1 1, .int .i64 1, .int .i64 0, .int .i64 0]) rfl rfl (fun w b3 F3 => ?_)
  have lt3 : w0.heap.size ≤ b3 := by have h9 := F3.here; have h8 := hb.size; omega
  have hb := cl_step hb F3.below
  have hD := hD.keep F3.below
  have hN := hN.keep F3.below
  have hB2 := hB2.keep F3.below
  have hB3 := F3.blk
  refine L.va (x_asS rfl) ?_
  refine L.va (x_asS rfl) ?_
  refine L.nil ?_
  show W _ _ _ _ _ _
  refine W.seq ?_
  refine W.region rfl ?_
  refine L.va (x_asS rfl) ?_
  refine L.va (x_asS rfl) ?_
  refine L.nil ?_
  show W _ _ _ _ _ _
  refine W.seq ?_
  refine W.region rfl ?_
  refine L.va (x_loadAgg (cs := [.int .i64 1, .int .i64 0, .int .i64 0, .slice (some ⟨db, 0, none⟩) 1 1, .int .i64 1, .int .i64 0, .int .i64 0]) rfl Try.underlying122 rfl sz122 rfl (hB3.aggAt rfl)) ?_
  refine L.va (x_field rfl Try.underlying61 rfl sz31 (by decide)) ?_
  refine L.va (x_load rfl Try.underlying31 rfl (hB2.cellAt 1 (v := .slice na 1 nc) rfl)) ?_
  refine L.va (x_lenK (m := 1) rfl rfl Try.underlying31 rfl) ?_
  refine L.call (x_call2 rfl rfl Try.func71 rfl nm71 rfl) (dropped_1 db w hD) ?_
  rintro _ w ⟨bb, rfl, ltbb0, hBb, hbw⟩
  have ltbb := Nat.le_trans hb.size ltbb0
  have hb := cl_step hb hbw
  have hD := hD.keep hbw
  have hN := hN.keep hbw
  have hB2 := hB2.keep hbw
  have hB3 := hB3.keep hbw
  refine L.va (x_asS rfl) ?_
  refine L.nil ?_
  show W _ _ _ _ _ _
  refine W.seq ?_
  refine W.seq ?_
  refine W.region rfl ?_
  refine L.va (x_asI rfl) ?_
  refine L.nil ?_
  show W _ _ _ _ _ _
  refine W.block ?_
  refine W.rounds 2 ?_
  refine Rounds.go ?_
  refine W.seq ?_
  refine W.seq ?_
  refine W.region rfl ?_
  refine L.va (x_mvI rfl) ?_
  refine L.va (x_mvS rfl) ?_
  refine L.va (x_lenK (m := 1) rfl rfl Try.underlying33 rfl) ?_
  refine L.va (x_boolK (r := true) (by decide) (x_lss (m := 0) (k := 1) rfl rfl)) ?_
  refine L.nil ?_
  show W _ _ _ _ _ _
  refine W.condT rfl ?_
  refine W.skip ?_
  show W _ _ _ _ _ _
  refine W.seq ?_
  refine W.block ?_
  refine W.seq ?_
  refine W.region rfl ?_
  refine L.va (x_mvS rfl) ?_
  refine L.va (x_mvI rfl) ?_
  refine L.va (x_index (i := 0) rfl rfl Try.underlying33 sz4 (by decide)) ?_
  refine L.va (x_load rfl Try.underlying4 rfl (hBb.cellAt 0 (v := .bool true) rfl)) ?_
  refine L.nil ?_
  show W _ _ _ _ _ _
  refine W.condT rfl ?_
  refine W.region rfl ?_
  refine L.va (x_mvS rfl) ?_
  refine L.va (x_field rfl Try.underlying61 rfl sz31 (by decide)) ?_
  refine L.va (x_load rfl Try.underlying31 rfl (hB2.cellAt 1 (v := .slice na 1 nc) rfl)) ?_
  refine L.va (x_mvI rfl) ?_
  refine L.va (x_idx (i := 0) rfl rfl Try.underlying31 sz35 hN.sl (by decide)) ?_
  refine L.va (x_loadAgg (cs := [.int .i64 num, .int .i64 gen]) rfl Try.underlying35 rfl sz35 rfl (hN.aggK (k := 0) rfl rfl)) ?_
  refine L.build1 (cs := #[.int .i64 num, .int .i64 gen]) rfl rfl Try.underlying31 sz35 rfl ⟨_, zr35⟩ (by decide) (fun w b31 F31 => ?_)
  have lt31 : w0.heap.size ≤ b31 := by have h9 := F31.here; have h8 := hb.size; omega
  have hto31_hN := Own.ne F31 hN
  have hb := cl_step hb F31.below
  have hD := hD.keep F31.below
  have hN := hN.keep F31.below
  have hB2 := hB2.keep F31.below
  have hB3 := hB3.keep F31.below
  have hBb := hBb.keep F31.below
  have hB31 := F31.blk
  have hsz32 := hb.size
  refine L.appendAny (B := w0.heap.size) rfl rfl Try.underlying31 in35 rfl (by decide) (Own.nil w w0.heap.size 35 2) (fun h => by cases h) (news := [.int .i64 num, .int .i64 gen]) rfl (fun ad had j u hj => by
    cases had
    rw [Addr.add_lit]
    match j, hj with
    | 0, hj => cases hj; exact hB31.cellAt 0 rfl
    | 1, hj => cases hj; exact hB31.cellAt 1 rfl) (fun u hu => by simp only [List.mem_cons, List.not_mem_nil, or_false] at hu; rcases hu with rfl | rfl <;> rfl) (by decide) (by decide) (by omega) (fun a32 c32 w2 hO32 hg hbel _ => ?_)
  have hO32 : Own w2 w0.heap.size 35 2 a32 1 c32 [.int .i64 num, .int .i64 gen] := hO32
  have hbel2 := below_none hg
  have hb := cl_step hb hbel2
  have hD := hD.keep hbel2
  have hN := hN.keep hbel2
  have hB2 := hB2.keep hbel2
  have hB3 := hB3.keep hbel2
  have hBb := hBb.keep hbel2
  have hB31 := hB31.keep hbel2
  clear hbel2 hbel hg
  rename World => w
  refine L.va (x_asS rfl) ?_
  refine L.nil ?_
  refine B.nrm ?_
  show W _ _ _ _ _ _
  refine W.region rfl ?_
  refine L.va (x_mvI rfl) ?_
  refine L.va (x_addK (r := 1) (by decide) (by decide) rfl rfl) ?_
  refine L.va (x_asI rfl) ?_
  refine L.nil ?_
  refine T.nrm ?_
  refine Rounds.go ?_
  refine W.seq ?_
  refine W.seq ?_
  refine W.region rfl ?_
  refine L.va (x_mvI rfl) ?_
  refine L.va (x_mvS rfl) ?_
  refine L.va (x_lenK (m := 1) rfl rfl Try.underlying33 rfl) ?_
  refine L.va (x_boolK (r := false) (by decide) (x_lss (m := 1) (k := 1) rfl rfl)) ?_
  refine L.nil ?_
  show W _ _ _ _ _ _
  refine W.condF rfl ?_
  refine W.exit ?_
  repeat (first | refine T.exit ?_ | refine N.exit ?_ | refine B.exitNe (by decide) ?_)
  refine B.exitEq ?_
  show W _ _ _ _ _ _
  refine W.seq ?_
  refine W.region rfl ?_
  refine L.va (x_mvS rfl) ?_
  refine L.va (x_mvS rfl) ?_
  refine L.va (x_asS rfl) ?_
  refine L.va (x_asS rfl) ?_
  refine L.nil ?_
  show W _ _ _ _ _ _
  refine W.ret ?_
  repeat (first | refine T.ret ?_ | refine B.ret ?_ | refine N.ret ?_)
  refine ends.two (.inr rfl) rfl ?_
  exact ⟨_, _, rfl, hO32, hb⟩

end Go.Proofs.Ytahcjihhkmolpaa
