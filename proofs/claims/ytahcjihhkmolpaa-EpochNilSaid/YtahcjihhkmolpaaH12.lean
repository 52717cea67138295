/- The law's own story of a keeper; EpochNil: what the Go text returns. -/
import Derived.Test.YtahcjihhkmolpaaH11
namespace Go.Proofs.Ytahcjihhkmolpaa
open Go.Vc Go.RowKit
abbrev hE1 : Hs := ⟨1, upf hs0.nd 0 ⟨1, true, 7⟩, 0, hs0.pool⟩
theorem eA : allocR 1048576 hs0 7 = ((1, 1, 0), hE1) := by simp [allocR, hs0]
theorem eG : getR hE1 1 1 = (7, true) := by decide
theorem eF : freeR hE1 1 1 = ⟨1, upf hE1.nd 0 ⟨2, false, 0⟩, 1, upf hE1.pool 0 1⟩ := by simp [freeR, freeS, isR, inR, upf]
abbrev hE2 : Hs := ⟨1, upf hE1.nd 0 ⟨2, false, 0⟩, 1, upf hE1.pool 0 1⟩
theorem eG2 : getR hE2 1 1 = (0, false) := by decide
theorem KS.down {w : World} {B B' kb hp rb wb lb : Nat} {psa la : Option Addr} {psc lc : Nat} {PX : Nat → Nat} {av : Value} {obj : Int} {np : Nat} {pin : Nat → Int} {r : Rt} {ln : Nat} (h : KS w B' kb hp rb wb lb psa la psc lc PX av obj np pin r ln) (hB : B ≤ B') : KS w B kb hp rb wb lb psa la psc lc PX av obj np pin r ln :=
  ⟨h.hK, h.hW, h.hR, h.hL, h.hP.down hB, ⟨h.hX.blk, fun i hi => Nat.le_trans hB (h.hX.le i hi), h.hX.inj⟩, Nat.le_trans hB h.lK, Nat.le_trans hB h.lR, Nat.le_trans hB h.lL, h.hnp⟩
theorem KT.down {w : World} {B B' kb hp np ln lc : Nat} {obj : Int} {pin : Nat → Int} {r : Rt} {la : Option Addr} (h : KT w B' kb hp obj np pin r la ln lc) (hB : B ≤ B') : KT w B kb hp obj np pin r la ln lc := by
  obtain ⟨rb, wb, lb, psa, psc, PX, av, h⟩ := h
  exact ⟨rb, wb, lb, psa, psc, PX, av, h.down hB⟩
theorem HT.down {w : World} {B B' hb : Nat} {obj most : Int} {s : Hs} (h : HT w B' hb obj most s) (hB : B ≤ B') : HT w B hb obj most s := by
  obtain ⟨wb, pb, lb, la, pa, lc, pc, X, h⟩ := h
  exact ⟨wb, pb, lb, la, pa, lc, pc, X, h.hH, h.hW, h.hP, h.hL, h.hO.down hB, ⟨h.hX.blk, fun i hi => Nat.le_trans hB (h.hX.le i hi), h.hX.inj⟩, ⟨h.hPl.sl, fun h0 => let ⟨cs, h1, h2, h3⟩ := h.hPl.bl h0; ⟨cs, h1, Nat.le_trans hB h2, h3⟩⟩, h.hpc, Nat.le_trans hB h.lH, Nat.le_trans hB h.lP, Nat.le_trans hB h.lL, h.pl, h.hnil⟩
theorem smallE : Small hE1 1 := ⟨Nat.le_refl 1, Nat.zero_le 1, fun i hi => by
  have h9 : i < 1 := hi
  obtain rfl : i = 0 := by omega
  decide⟩

theorem buL_0 (x0 : Int) (x1 : Option Addr) (x2 : Nat) (x3 : Nat) : Try.prog.built 61 [(0, .int .i64 x0), (1, .slice x1 x2 x3)] = some #[.int .i64 x0, .slice x1 x2 x3, .int .i64 0] := by kernel_rfl
theorem buL_1 (x0 : Int) : Try.prog.built 158 [(2, .int .i64 x0)] = some #[.int .i64 0, .int .i64 0, .int .i64 x0, .int .i64 0, .bool false] := by kernel_rfl
theorem buL_2 : Try.prog.built 35 [] = some #[.int .i64 0, .int .i64 0] := by kernel_rfl
theorem buL_3 : Try.prog.built 61 [] = some #[.int .i64 0, .slice none 0 0, .int .i64 0] := by kernel_rfl
theorem buL_4 (x0 : Option Addr) (x1 : Option Addr) : Try.prog.built 119 [(0, .pointer x0), (1, .pointer x1)] = some #[.pointer x0, .pointer x1, .slice none 0 0] := by kernel_rfl
theorem buL_5 : Try.prog.built 154 [] = some #[.int .i64 0, .slice none 0 0, .int .i64 0, .slice none 0 0, .bool false] := by kernel_rfl
theorem buL_6 (x0 : Int) (x1 : Int) (x2 : Int) (x3 : Int) : Try.prog.built 122 [(0, .int .i64 x0), (1, .int .i64 x1), (4, .int .i64 x2), (2, .int .i64 x3)] = some #[.int .i64 x0, .int .i64 x1, .int .i64 x3, .slice none 0 0, .int .i64 x2, .int .i64 0, .int .i64 0] := by kernel_rfl
theorem buL_7 (x0 : Int) (x1 : Option Addr) (x2 : Nat) (x3 : Nat) (x4 : Int) : Try.prog.built 122 [(0, .int .i64 x0), (3, .slice x1 x2 x3), (4, .int .i64 x4)] = some #[.int .i64 x0, .int .i64 0, .int .i64 0, .slice x1 x2 x3, .int .i64 x4, .int .i64 0, .int .i64 0] := by kernel_rfl
theorem buL_8 (x0 : Int) : Try.prog.built 61 [(0, .int .i64 x0)] = some #[.int .i64 x0, .slice none 0 0, .int .i64 0] := by kernel_rfl
set_option maxHeartbeats 4000000 in
theorem does_1 (Bs kb hp wd xb : Nat) (pin : Nat → Int) (r : Rt) (wc : Option Addr) (wcc : Nat) (w0 : World) (hBs : Bs ≤ w0.heap.size) (lX : Bs ≤ xb) (hWd : Blk w0 wd #[.pointer (some (⟨hp, 0, none⟩)), .pointer (some (⟨kb, 0, none⟩)), .slice wc 1 wcc] 119) (hX : Blk w0 xb #[.int .i64 0, .slice none 0 0, .int .i64 0, .slice none 0 0, .bool false] 154) (hKT : KT w0 Bs kb hp 4 2 pin r none 0 0) (hH5 : HT w0 Bs hp 5 1048576 hs0) : C Try.prog 50 #[.pointer (some ⟨wd, 0, none⟩), .pointer none, .pointer (some ⟨xb, 0, none⟩), .agg #[.int .i64 1, .int .i64 1, .int .i64 7, .slice none 0 0, .int .i64 1, .int .i64 0, .int .i64 0], .agg #[.int .i64 0, .slice none 0 0, .int .i64 0]] w0 fun v w => ∃ a c al cl, v = .agg #[.int .i64 1, .slice a 1 c, .int .i64 0] ∧ Own w w0.heap.size 35 2 a 1 c [.int .i64 1, .int .i64 1] ∧ Own w w0.heap.size 158 5 al 1 cl [.int .i64 0, .int .i64 0, .int .i64 0, .int .i64 0, .bool false] ∧ Blk w xb #[.int .i64 0, .slice none 0 0, .int .i64 0, .slice al 1 cl, .bool false] 154 ∧ KT w Bs kb hp 4 2 pin ⟨1, a, 1, c, 0⟩ none 0 0 ∧ HT w Bs hp 5 1048576 hE1 ∧ ModT w0 w Bs [139, 142, 154, 158, 78, 126, 132, 85] := by
  refine C.enter (n := 239) Try.func50 rfl rfl ?_
  have hm : ModT w0 w0 Bs [139, 142, 154, 158, 78, 126, 132, 85] := ModT.refl _ _ _
  refine W.seq ?_
  refine W.region rfl ?_
  refine L.box (cs := #[.int .i64 1, .int .i64 1, .int .i64 7, .slice none 0 0, .int .i64 1, .int .i64 0, .int .i64 0]) rfl rfl (fun w b8 F8 => ?_)
  have lt8 : w0.heap.size ≤ b8 := by have h9 := F8.here; have h8 := hm.size; omega
  have hm := hm.step F8.below (Nat.le_trans hBs hm.size)
  have hWd := hWd.keep F8.below
  have hX := hX.keep F8.below
  have hKT := hKT.keep F8.below
  have hH5 := hH5.keep F8.below
  have hB8 := F8.blk
  refine L.box (cs := #[.int .i64 0, .slice none 0 0, .int .i64 0]) rfl rfl (fun w b9 F9 => ?_)
  have lt9 : w0.heap.size ≤ b9 := by have h9 := F9.here; have h8 := hm.size; omega
  have hm := hm.step F9.below (Nat.le_trans hBs hm.size)
  have hWd := hWd.keep F9.below
  have hX := hX.keep F9.below
  have hKT := hKT.keep F9.below
  have hH5 := hH5.keep F9.below
  have hB8 := hB8.keep F9.below
  have hB9 := F9.blk
  refine L.alloc (cs := #[.int .i64 0, .slice none 0 0, .int .i64 0]) zr61 rfl (fun w b10 F10 => ?_)
  have lt10 : w0.heap.size ≤ b10 := by have h9 := F10.here; have h8 := hm.size; omega
  have ne10hB9 := F10.ne hB9
  have hm := hm.step F10.below (Nat.le_trans hBs hm.size)
  have hWd := hWd.keep F10.below
  have hX := hX.keep F10.below
  have hKT := hKT.keep F10.below
  have hH5 := hH5.keep F10.below
  have hB8 := hB8.keep F10.below
  have hB9 := hB9.keep F10.below
  have hB10 := F10.blk
  refine L.nil ?_
  show W _ _ _ _ _ _
  refine W.seq ?_
  refine W.seq ?_
  refine W.region rfl ?_
  refine L.va (x_field rfl Try.underlying122 rfl sz3 (by decide)) ?_
  refine L.va (x_load rfl Try.underlying3 rfl (hB8.cellAt 0 (v := .int .i64 1) rfl)) ?_
  refine L.nil ?_
  show W _ _ _ _ _ _
  refine W.block ?_
  refine W.seq ?_
  refine W.region rfl ?_
  refine L.va (x_boolK (r := true) (by decide) (x_eql (m := 1) (k := 1) rfl rfl)) ?_
  refine L.va (x_asB rfl) ?_
  refine L.nil ?_
  show W _ _ _ _ _ _
  refine W.condT rfl ?_
  refine W.seq ?_
  refine W.region rfl ?_
  refine L.va (x_asS rfl) ?_
  refine L.nil ?_
  show W _ _ _ _ _ _
  refine W.seq ?_
  refine W.seq ?_
  refine W.region rfl ?_
  refine L.va (x_asI rfl) ?_
  refine L.nil ?_
  show W _ _ _ _ _ _
  refine W.block ?_
  refine W.rounds 2 ?_
  refine Rounds.go ?_
  refine W.seq ?_
  refine W.seq ?_
  refine W.region rfl ?_
  refine L.va (x_mvI rfl) ?_
  refine L.va (x_field rfl Try.underlying122 rfl sz3 (by decide)) ?_
  refine L.va (x_load rfl Try.underlying3 rfl (hB8.cellAt 1 (v := .int .i64 1) rfl)) ?_
  refine L.va (x_boolK (r := true) (by decide) (x_lss (m := 0) (k := 1) rfl rfl)) ?_
  refine L.nil ?_
  show W _ _ _ _ _ _
  refine W.condT rfl ?_
  refine W.skip ?_
  show W _ _ _ _ _ _
  refine W.seq ?_
  refine W.block ?_
  refine W.seq ?_
  refine W.fl2 15 [9,13,14] 9 13 [0,1,2,3,4,5,6,7,8,9,10,11,12,13,14] [0,1,2,3,4,5,6,7,8,13,9,10,11,12,14] (fun w' => Blk w' wd #[.pointer (some (⟨hp, 0, none⟩)), .pointer (some (⟨kb, 0, none⟩)), .slice wc 1 wcc] 119 ∧ Blk w' b8 #[.int .i64 1, .int .i64 1, .int .i64 7, .slice none 0 0, .int .i64 1, .int .i64 0, .int .i64 0] 122) (by kernel_rfl) (by kernel_rfl) (by kernel_rfl) (by kernel_rfl) (by kernel_rfl) (by kernel_rfl) (⟨hWd.keep (Below.refl w.heap.size w).drew, hB8.keep (Below.refl w.heap.size w).drew⟩) ?_ ?_
  · have hdr : Below w.heap.size w w.drew := (Below.refl w.heap.size w).drew
    have hm := hm.step hdr (Nat.le_trans hBs hm.size)
    have hWd := hWd.keep hdr
    have hX := hX.keep hdr
    have hKT := hKT.keep hdr
    have hH5 := hH5.keep hdr
    have hB8 := hB8.keep hdr
    have hB9 := hB9.keep hdr
    have hB10 := hB10.keep hdr
    clear hdr
    generalize w.drew = w at *
    refine F.va rfl rfl (fun w' hw' => (x_mvP rfl)) ?_
    refine F.va rfl rfl (fun w' hw' => (x_nilCheck rfl)) ?_
    refine F.va rfl rfl (fun w' hw' => (x_field rfl Try.underlying119 rfl sz24 (by decide))) ?_
    refine F.va rfl rfl (fun w' hw' => (x_load rfl Try.underlying24 rfl (hw'.1.cellAt 0 (v := .pointer (some (⟨hp, 0, none⟩))) rfl))) ?_
    refine F.va rfl rfl (fun w' hw' => (x_mvP rfl)) ?_
    refine F.va rfl rfl (fun w' hw' => (x_field rfl Try.underlying122 rfl sz2 (by decide))) ?_
    refine F.va rfl rfl (fun w' hw' => (x_load rfl Try.underlying2 rfl (hw'.2.cellAt 2 (v := .int .i64 7) rfl))) ?_
    refine F.va rfl rfl (fun w' hw' => (x_mvI rfl)) ?_
    refine F.va rfl rfl (fun w' hw' => (x_addK (r := 7) (by decide) (by decide) rfl rfl)) ?_
    refine F.doo rfl rfl ?_
    refine L.call (x_call3 rfl rfl rfl Try.func12 rfl nm12 rfl) (by have h9 := alloc_c Bs hp 5 1048576 7 hs0 w hH5 (Nat.le_trans hBs hm.size) (by decide) (by decide); rw [eA] at h9; exact h9) ?_
    rintro _ w ⟨rfl, hS2, hmo⟩
    have hm := hm.trans (hmo.wide rfl)
    have hWd := hWd.mod hmo rfl
    have hX := hX.mod hmo rfl
    have hKT := hKT.mod hmo rfl
    have hB8 := hB8.mod hmo rfl
    have hB9 := hB9.mod hmo rfl
    have hB10 := hB10.mod hmo rfl
    clear hmo
    have hH5 := hS2
    refine L.nil ⟨rfl, ⟨hWd, hB8⟩, ?_⟩
    refine F.va rfl rfl (fun w' hw' => (x_mvT rfl)) ?_
    refine F.va rfl rfl (fun w' hw' => (x_extract rfl rfl)) ?_
    refine F.va rfl rfl (fun w' hw' => (x_extract rfl rfl)) ?_
    refine F.doo rfl rfl ?_
    refine L.alloc (cs := #[.int .i64 0, .int .i64 0]) zr35 rfl (fun w b13 F13 => ?_)
    have lt13 : w0.heap.size ≤ b13 := by have h9 := F13.here; have h8 := hm.size; omega
    have hm := hm.step F13.below (Nat.le_trans hBs hm.size)
    have hWd := hWd.keep F13.below
    have hX := hX.keep F13.below
    have hKT := hKT.keep F13.below
    have hB8 := hB8.keep F13.below
    have hB9 := hB9.keep F13.below
    have hB10 := hB10.keep F13.below
    have hH5 := hH5.keep F13.below
    have hB13 := F13.blk
    refine L.nil ⟨rfl, ⟨hWd, hB8⟩, ?_⟩
    refine F.doo rfl rfl ?_
    refine L.put (b := b13) (o := 0) (vs := [.int .i64 1, .int .i64 1]) #[.int .i64 1, .int .i64 1] rfl rfl rfl sz35 rfl rfl hB13 (Nat.le_of_ble_eq_true rfl) rfl (fun w hnew hg hsz => ?_)
    have hm0 := ModT.put0 hB13 hg
    have hm := hm.own hg lt13 hBs
    have hWd := hWd.mod hm0 rfl
    have hX := hX.mod hm0 rfl
    have hKT := hKT.mod hm0 rfl
    have hB8 := hB8.mod hm0 rfl
    have hB9 := hB9.mod hm0 rfl
    have hB10 := hB10.mod hm0 rfl
    have hH5 := hH5.mod hm0 rfl
    have hB13 := hnew
    clear hm0
    refine L.nil ⟨rfl, ⟨hWd, hB8⟩, ?_⟩
    refine F.nil ?_
    show L _ _ _ _ _ _ _
    refine L.va (x_asI rfl) ?_
    refine L.nil ?_
    show W _ _ _ _ _ _
    refine W.region rfl ?_
    refine L.va (x_mvS rfl) ?_
    refine L.va (x_loadAgg (cs := [.int .i64 1, .int .i64 1]) rfl Try.underlying35 rfl sz35 rfl (hB13.aggAt rfl)) ?_
    refine L.build1 (cs := #[.int .i64 1, .int .i64 1]) rfl rfl Try.underlying31 sz35 rfl ⟨_, zr35⟩ (by decide) (fun w b47 F47 => ?_)
    have lt47 : w0.heap.size ≤ b47 := by have h9 := F47.here; have h8 := hm.size; omega
    have ne47hB13 := F47.ne hB13
    have hm := hm.step F47.below (Nat.le_trans hBs hm.size)
    have hWd := hWd.keep F47.below
    have hX := hX.keep F47.below
    have hKT := hKT.keep F47.below
    have hB8 := hB8.keep F47.below
    have hB9 := hB9.keep F47.below
    have hB10 := hB10.keep F47.below
    have hH5 := hH5.keep F47.below
    have hB13 := hB13.keep F47.below
    have hB47 := F47.blk
    have hsz48 := hm.size
    refine L.appendAny (B := w0.heap.size) rfl rfl Try.underlying31 in35 rfl (by decide) (Own.nil w w0.heap.size 35 2) (fun h => by cases h) (news := [.int .i64 1, .int .i64 1]) rfl (fun ad had j u hj => by
      cases had
      rw [Addr.add_lit]
      match j, hj with
      | 0, hj => cases hj; exact hB47.cellAt 0 rfl
      | 1, hj => cases hj; exact hB47.cellAt 1 rfl) (fun u hu => by simp only [List.mem_cons, List.not_mem_nil, or_false] at hu; rcases hu with rfl | rfl <;> rfl) (by decide) (by decide) (by omega) (fun a48 c48 w2 hO48 hg hbel _ => ?_)
    have hO48 : Own w2 w0.heap.size 35 2 a48 1 c48 [.int .i64 1, .int .i64 1] := hO48
    have hbel2 := below_none hg
    have hm := hm.step hbel2 (Nat.le_trans hBs hm.size)
    have hWd := hWd.keep hbel2
    have hX := hX.keep hbel2
    have hKT := hKT.keep hbel2
    have hB8 := hB8.keep hbel2
    have hB9 := hB9.keep hbel2
    have hB10 := hB10.keep hbel2
    have hH5 := hH5.keep hbel2
    have hB13 := hB13.keep hbel2
    have hB47 := hB47.keep hbel2
    clear hbel2 hbel hg
    rename World => w
    refine L.va (x_asS rfl) ?_
    refine L.nil ?_
    refine B.nrm ?_
    show W _ _ _ _ _ _
    refine W.region rfl ?_
    refine L.va (x_mvI rfl) ?_
    refine L.va (x_addK (r := 1) (by decide) (by decide) rfl rfl) ?_
    refine L.va (x_asI rfl) ?_
    refine L.nil ?_
    refine T.nrm ?_
    refine Rounds.go ?_
    refine W.seq ?_
    refine W.seq ?_
    refine W.region rfl ?_
    refine L.va (x_mvI rfl) ?_
    refine L.va (x_field rfl Try.underlying122 rfl sz3 (by decide)) ?_
    refine L.va (x_load rfl Try.underlying3 rfl (hB8.cellAt 1 (v := .int .i64 1) rfl)) ?_
    refine L.va (x_boolK (r := false) (by decide) (x_lss (m := 1) (k := 1) rfl rfl)) ?_
    refine L.nil ?_
    show W _ _ _ _ _ _
    refine W.condF rfl ?_
    refine W.exit ?_
    repeat (first | refine T.exit ?_ | refine N.exit ?_ | refine B.exitNe (by decide) ?_)
    refine B.exitEq ?_
    show W _ _ _ _ _ _
    refine W.seq ?_
    refine W.region rfl ?_
    refine L.va (x_loadAgg (cs := [.int .i64 0, .slice none 0 0, .int .i64 0]) rfl Try.underlying61 rfl sz61 rfl (hB9.aggAt rfl)) ?_
    refine L.va (x_loadAgg (cs := [.int .i64 1, .int .i64 1, .int .i64 7, .slice none 0 0, .int .i64 1, .int .i64 0, .int .i64 0]) rfl Try.underlying122 rfl sz122 rfl (hB8.aggAt rfl)) ?_
    refine L.call (x_call2 rfl rfl Try.func69 rfl nm69 rfl) (split_0 w) ?_
    rintro _ w ⟨rfl, hbw⟩
    have hm := hm.step hbw (Nat.le_trans hBs hm.size)
    have hWd := hWd.keep hbw
    have hX := hX.keep hbw
    have hKT := hKT.keep hbw
    have hB8 := hB8.keep hbw
    have hB9 := hB9.keep hbw
    have hB10 := hB10.keep hbw
    have hH5 := hH5.keep hbw
    have hB13 := hB13.keep hbw
    have hB47 := hB47.keep hbw
    have hO48 := hO48.keep hbw
    refine L.va (x_mvT rfl) ?_
    refine L.va (x_extract rfl rfl) ?_
    refine L.va (x_extract rfl rfl) ?_
    refine L.va (x_asS rfl) ?_
    refine L.va (x_asS rfl) ?_
    refine L.nil ?_
    show W _ _ _ _ _ _
    refine W.seq ?_
    refine W.fl 8 [7] [0,1,2,3,4,5,6,7] (fun w' => Blk w' b9 #[.int .i64 0, .slice none 0 0, .int .i64 0] 61 ∧ Blk w' b8 #[.int .i64 1, .int .i64 1, .int .i64 7, .slice none 0 0, .int .i64 1, .int .i64 0, .int .i64 0] 122) (by kernel_rfl) (by kernel_rfl) (by kernel_rfl) (by kernel_rfl) (by kernel_rfl) (⟨hB9.keep (Below.refl w.heap.size w).drew, hB8.keep (Below.refl w.heap.size w).drew⟩) ?_
    have hdr : Below w.heap.size w w.drew := (Below.refl w.heap.size w).drew
    have hm := hm.step hdr (Nat.le_trans hBs hm.size)
    have hWd := hWd.keep hdr
    have hX := hX.keep hdr
    have hKT := hKT.keep hdr
    have hB8 := hB8.keep hdr
    have hB9 := hB9.keep hdr
    have hB10 := hB10.keep hdr
    have hH5 := hH5.keep hdr
    have hB13 := hB13.keep hdr
    have hB47 := hB47.keep hdr
    have hO48 := hO48.keep hdr
    clear hdr
    generalize w.drew = w at *
    refine F.va rfl rfl (fun w' hw' => (x_field rfl Try.underlying61 rfl sz2 (by decide))) ?_
    refine F.va rfl rfl (fun w' hw' => (x_load rfl Try.underlying2 rfl (hw'.1.cellAt 0 (v := .int .i64 0) rfl))) ?_
    refine F.va rfl rfl (fun w' hw' => (x_field rfl Try.underlying122 rfl sz2 (by decide))) ?_
    refine F.va rfl rfl (fun w' hw' => (x_load rfl Try.underlying2 rfl (hw'.2.cellAt 4 (v := .int .i64 1) rfl))) ?_
    refine F.va rfl rfl (fun w' hw' => (x_addK (r := 1) (by decide) (by decide) rfl rfl)) ?_
    refine F.va rfl rfl (fun w' hw' => (x_mvS rfl)) ?_
    refine F.va rfl rfl (fun w' hw' => (x_mvS rfl)) ?_
    refine F.doo rfl rfl ?_
    have hsz62 := hm.size
    refine L.appendAny (B := w0.heap.size) rfl rfl Try.underlying31 in35 rfl (by decide) (Own.nil w w0.heap.size 35 2) (fun h => absurd h (hO48.some_of (by decide))) (news := [.int .i64 1, .int .i64 1]) rfl (hO48.src (by decide) (fun j u hj => hj)) (fun u hu => by simp only [List.mem_cons, List.not_mem_nil, or_false] at hu; rcases hu with rfl | rfl <;> rfl) (by decide) (by decide) (by omega) (fun a62 c62 w2 hO62 hg hbel _ => ?_)
    have hO62 : Own w2 w0.heap.size 35 2 a62 1 c62 [.int .i64 1, .int .i64 1] := hO62
    have hbel2 := below_none hg
    have hm := hm.step hbel2 (Nat.le_trans hBs hm.size)
    have hWd := hWd.keep hbel2
    have hX := hX.keep hbel2
    have hKT := hKT.keep hbel2
    have hB8 := hB8.keep hbel2
    have hB9 := hB9.keep hbel2
    have hB10 := hB10.keep hbel2
    have hH5 := hH5.keep hbel2
    have hB13 := hB13.keep hbel2
    have hB47 := hB47.keep hbel2
    have hO48 := hO48.keep hbel2
    clear hbel2 hbel hg
    rename World => w
    refine L.nil ⟨rfl, ⟨hB9, hB8⟩, ?_⟩
    refine F.nil ?_
    show L _ _ _ _ _ _ _
    refine L.va (x_build (parts := [(0, .tmp 59), (1, .tmp 62)]) rfl (buL_0 1 a62 1 c62)) ?_
    refine L.put (b := b9) (o := 0) (vs := [.int .i64 1, .slice a62 1 c62, .int .i64 0]) #[.int .i64 1, .slice a62 1 c62, .int .i64 0] rfl rfl rfl sz61 rfl rfl hB9 (Nat.le_of_ble_eq_true rfl) rfl (fun w hnew hg hsz => ?_)
    have hm0 := ModT.put0 hB9 hg
    have hm := hm.own hg lt9 hBs
    have hWd := hWd.mod hm0 rfl
    have hX := hX.mod hm0 rfl
    have hKT := hKT.mod hm0 rfl
    have hB8 := hB8.mod hm0 rfl
    have hB10 := hB10.other hg (Ne.symm ne10hB9)
    have hH5 := hH5.mod hm0 rfl
    have hB13 := hB13.mod hm0 rfl
    have hB47 := hB47.mod hm0 rfl
    have hO48 := hO48.mod hm0 rfl
    have hO62 := hO62.mod hm0 rfl
    have hB9 := hnew
    clear hm0
    refine L.nil ?_
    show W _ _ _ _ _ _
    refine W.seq ?_
    refine W.fl 16 [12,14,15] [0,1,2,3,4,5,6,7,8,9,10,11,12,13,14,15] (fun w' => Blk w' xb #[.int .i64 0, .slice none 0 0, .int .i64 0, .slice none 0 0, .bool false] 154 ∧ Blk w' wd #[.pointer (some (⟨hp, 0, none⟩)), .pointer (some (⟨kb, 0, none⟩)), .slice wc 1 wcc] 119 ∧ Blk w' b9 #[.int .i64 1, .slice a62 1 c62, .int .i64 0] 61) (by kernel_rfl) (by kernel_rfl) (by kernel_rfl) (by kernel_rfl) (by kernel_rfl) (⟨hX.keep (Below.refl w.heap.size w).drew, hWd.keep (Below.refl w.heap.size w).drew, hB9.keep (Below.refl w.heap.size w).drew⟩) ?_
    have hdr : Below w.heap.size w w.drew := (Below.refl w.heap.size w).drew
    have hm := hm.step hdr (Nat.le_trans hBs hm.size)
    have hWd := hWd.keep hdr
    have hX := hX.keep hdr
    have hKT := hKT.keep hdr
    have hB8 := hB8.keep hdr
    have hB9 := hB9.keep hdr
    have hB10 := hB10.keep hdr
    have hH5 := hH5.keep hdr
    have hB13 := hB13.keep hdr
    have hB47 := hB47.keep hdr
    have hO48 := hO48.keep hdr
    have hO62 := hO62.keep hdr
    clear hdr
    generalize w.drew = w at *
    refine F.va rfl rfl (fun w' hw' => (x_mvP rfl)) ?_
    refine F.va rfl rfl (fun w' hw' => (x_mvP rfl)) ?_
    refine F.va rfl rfl (fun w' hw' => (x_nilCheck rfl)) ?_
    refine F.va rfl rfl (fun w' hw' => (x_field rfl Try.underlying154 rfl sz152 (by decide))) ?_
    refine F.va rfl rfl (fun w' hw' => (x_load rfl Try.underlying152 rfl (hw'.1.cellAt 3 (v := .slice none 0 0) rfl))) ?_
    refine F.va rfl rfl (fun w' hw' => (x_mvP rfl)) ?_
    refine F.va rfl rfl (fun w' hw' => (x_nilCheck rfl)) ?_
    refine F.va rfl rfl (fun w' hw' => (x_field rfl Try.underlying119 rfl sz57 (by decide))) ?_
    refine F.va rfl rfl (fun w' hw' => (x_load rfl Try.underlying57 rfl (hw'.2.1.cellAt 1 (v := .pointer (some (⟨kb, 0, none⟩))) rfl))) ?_
    refine F.va rfl rfl (fun w' hw' => (x_mvP rfl)) ?_
    refine F.va rfl rfl (fun w' hw' => (x_loadAgg (cs := [.int .i64 1, .slice a62 1 c62, .int .i64 0]) rfl Try.underlying61 rfl sz61 rfl (hw'.2.2.aggAt rfl))) ?_
    refine F.va rfl rfl (fun w' hw' => (x_mvS rfl)) ?_
    refine F.doo rfl rfl ?_
    refine L.call (x_call4 rfl rfl rfl rfl Try.func23 rfl nm23 rfl) (pub_0 Bs kb hp 4 pin r w hKT (Nat.le_trans hBs hm.size) 1 a62 1 c62 0) ?_
    rintro _ w ⟨rfl, hKT2, hmo⟩
    have hm := hm.trans (hmo.wide rfl)
    have hWd := hWd.mod hmo rfl
    have hX := hX.mod hmo rfl
    have hB8 := hB8.mod hmo rfl
    have hB9 := hB9.mod hmo rfl
    have hB10 := hB10.mod hmo rfl
    have hH5 := hH5.mod hmo rfl
    have hB13 := hB13.mod hmo rfl
    have hB47 := hB47.mod hmo rfl
    have hO48 := hO48.mod hmo rfl
    have hO62 := hO62.mod hmo rfl
    clear hmo
    have hKT := hKT2
    refine L.nil ⟨rfl, ⟨hX, hWd, hB9⟩, ?_⟩
    refine F.va rfl rfl (fun w' hw' => (x_build (parts := [(2, .tmp 76)]) rfl (buL_1 0))) ?_
    refine F.doo rfl rfl ?_
    refine L.build1 (cs := #[.int .i64 0, .int .i64 0, .int .i64 0, .int .i64 0, .bool false]) rfl rfl Try.underlying152 sz158 rfl ⟨_, zr158⟩ (by decide) (fun w b78 F78 => ?_)
    have lt78 : w0.heap.size ≤ b78 := by have h9 := F78.here; have h8 := hm.size; omega
    have hm := hm.step F78.below (Nat.le_trans hBs hm.size)
    have hWd := hWd.keep F78.below
    have hX := hX.keep F78.below
    have hB8 := hB8.keep F78.below
    have hB9 := hB9.keep F78.below
    have hB10 := hB10.keep F78.below
    have hH5 := hH5.keep F78.below
    have hB13 := hB13.keep F78.below
    have hB47 := hB47.keep F78.below
    have hO48 := hO48.keep F78.below
    have hO62 := hO62.keep F78.below
    have hKT := hKT.keep F78.below
    have hB78 := F78.blk
    refine L.nil ⟨rfl, ⟨hX, hWd, hB9⟩, ?_⟩
    refine F.doo rfl rfl ?_
    have hsz79 := hm.size
    refine L.appendAny (B := w0.heap.size) rfl rfl Try.underlying152 in158 rfl (by decide) (Own.nil w w0.heap.size 158 5) (fun h => by cases h) (news := [.int .i64 0, .int .i64 0, .int .i64 0, .int .i64 0, .bool false]) rfl (fun ad had j u hj => by
      cases had
      rw [Addr.add_lit]
      match j, hj with
      | 0, hj => cases hj; exact hB78.cellAt 0 rfl
      | 1, hj => cases hj; exact hB78.cellAt 1 rfl
      | 2, hj => cases hj; exact hB78.cellAt 2 rfl
      | 3, hj => cases hj; exact hB78.cellAt 3 rfl
      | 4, hj => cases hj; exact hB78.cellAt 4 rfl) (fun u hu => by simp only [List.mem_cons, List.not_mem_nil, or_false] at hu; rcases hu with rfl | rfl | rfl | rfl | rfl <;> rfl) (by decide) (by decide) (by omega) (fun a79 c79 w2 hO79 hg hbel _ => ?_)
    have hO79 : Own w2 w0.heap.size 158 5 a79 1 c79 [.int .i64 0, .int .i64 0, .int .i64 0, .int .i64 0, .bool false] := hO79
    have hbel2 := below_none hg
    have hm := hm.step hbel2 (Nat.le_trans hBs hm.size)
    have hWd := hWd.keep hbel2
    have hX := hX.keep hbel2
    have hB8 := hB8.keep hbel2
    have hB9 := hB9.keep hbel2
    have hB10 := hB10.keep hbel2
    have hH5 := hH5.keep hbel2
    have hB13 := hB13.keep hbel2
    have hB47 := hB47.keep hbel2
    have hO48 := hO48.keep hbel2
    have hO62 := hO62.keep hbel2
    have hKT := hKT.keep hbel2
    have hB78 := hB78.keep hbel2
    clear hbel2 hbel hg
    rename World => w
    refine L.nil ⟨rfl, ⟨hX, hWd, hB9⟩, ?_⟩
    refine F.nil ?_
    show L _ _ _ _ _ _ _
    refine L.va (x_nilCheck rfl) ?_
    refine L.va (x_field rfl Try.underlying154 rfl sz152 (by decide)) ?_
    refine L.put (b := xb) (o := 3) (vs := [.slice a79 1 c79]) #[.int .i64 0, .slice none 0 0, .int .i64 0, .slice a79 1 c79, .bool false] rfl rfl rfl sz152 rfl rfl hX (Nat.le_of_ble_eq_true rfl) rfl (fun w hnew hg hsz => ?_)
    have hm0 := ModT.put0 hX hg
    have hm := hm.trans (ModT.put hX hg lX rfl)
    have hWd := hWd.mod hm0 rfl
    have hB8 := hB8.mod hm0 rfl
    have hB9 := hB9.mod hm0 rfl
    have hB10 := hB10.mod hm0 rfl
    have hH5 := hH5.mod hm0 rfl
    have hB13 := hB13.mod hm0 rfl
    have hB47 := hB47.mod hm0 rfl
    have hO48 := hO48.mod hm0 rfl
    have hO62 := hO62.mod hm0 rfl
    have hKT := hKT.mod hm0 rfl
    have hB78 := hB78.mod hm0 rfl
    have hO79 := hO79.mod hm0 rfl
    have hX := hnew
    clear hm0
    refine L.nil ?_
    show W _ _ _ _ _ _
    refine W.seq ?_
    refine W.region rfl ?_
    refine L.va (x_asI rfl) ?_
    refine L.nil ?_
    show W _ _ _ _ _ _
    refine W.block ?_
    refine W.rounds 1 ?_
    refine Rounds.go ?_
    refine W.seq ?_
    refine W.seq ?_
    refine W.region rfl ?_
    refine L.va (x_mvI rfl) ?_
    refine L.va (x_mvS rfl) ?_
    refine L.va (x_lenK (m := 0) rfl rfl Try.underlying31 rfl) ?_
    refine L.va (x_boolK (r := false) (by decide) (x_lss (m := 0) (k := 0) rfl rfl)) ?_
    refine L.nil ?_
    show W _ _ _ _ _ _
    refine W.condF rfl ?_
    refine W.exit ?_
    repeat (first | refine T.exit ?_ | refine N.exit ?_ | refine B.exitNe (by decide) ?_)
    refine B.exitEq ?_
    refine B.nrm ?_
    show W _ _ _ _ _ _
    refine W.seq ?_
    refine W.region rfl ?_
    refine L.va (x_loadAgg (cs := [.int .i64 1, .slice a62 1 c62, .int .i64 0]) rfl Try.underlying61 rfl sz61 rfl (hB9.aggAt rfl)) ?_
    refine L.put (b := b10) (o := 0) (vs := [.int .i64 1, .slice a62 1 c62, .int .i64 0]) #[.int .i64 1, .slice a62 1 c62, .int .i64 0] rfl rfl rfl sz61 rfl rfl hB10 (Nat.le_of_ble_eq_true rfl) rfl (fun w hnew hg hsz => ?_)
    have hm0 := ModT.put0 hB10 hg
    have hm := hm.own hg lt10 hBs
    have hWd := hWd.mod hm0 rfl
    have hX := hX.mod hm0 rfl
    have hB8 := hB8.mod hm0 rfl
    have hB9 := hB9.other hg ne10hB9
    have hH5 := hH5.mod hm0 rfl
    have hB13 := hB13.mod hm0 rfl
    have hB47 := hB47.mod hm0 rfl
    have hO48 := hO48.mod hm0 rfl
    have hO62 := hO62.mod hm0 rfl
    have hKT := hKT.mod hm0 rfl
    have hB78 := hB78.mod hm0 rfl
    have hO79 := hO79.mod hm0 rfl
    have hB10 := hnew
    clear hm0
    refine L.nil ?_
    show W _ _ _ _ _ _
    refine W.ret ?_
    repeat (first | refine T.ret ?_ | refine B.ret ?_ | refine N.ret ?_)
    refine ends.cell (cs := #[.int .i64 1, .slice a62 1 c62, .int .i64 0]) (.inr rfl) rfl rfl Try.underlying61 rfl sz61 hB10 ?_
    exact ⟨_, _, _, _, rfl, hO62, hO79, hX, hKT, hH5, hm⟩
  · have hdr : Below w.heap.size w w.drew := (Below.refl w.heap.size w).drew
    have hm := hm.step hdr (Nat.le_trans hBs hm.size)
    have hWd := hWd.keep hdr
    have hX := hX.keep hdr
    have hKT := hKT.keep hdr
    have hH5 := hH5.keep hdr
    have hB8 := hB8.keep hdr
    have hB9 := hB9.keep hdr
    have hB10 := hB10.keep hdr
    clear hdr
    generalize w.drew = w at *
    refine F.va rfl rfl (fun w' hw' => (x_mvP rfl)) ?_
    refine F.va rfl rfl (fun w' hw' => (x_nilCheck rfl)) ?_
    refine F.va rfl rfl (fun w' hw' => (x_field rfl Try.underlying119 rfl sz24 (by decide))) ?_
    refine F.va rfl rfl (fun w' hw' => (x_load rfl Try.underlying24 rfl (hw'.1.cellAt 0 (v := .pointer (some (⟨hp, 0, none⟩))) rfl))) ?_
    refine F.va rfl rfl (fun w' hw' => (x_mvP rfl)) ?_
    refine F.va rfl rfl (fun w' hw' => (x_field rfl Try.underlying122 rfl sz2 (by decide))) ?_
    refine F.va rfl rfl (fun w' hw' => (x_load rfl Try.underlying2 rfl (hw'.2.cellAt 2 (v := .int .i64 7) rfl))) ?_
    refine F.va rfl rfl (fun w' hw' => (x_mvI rfl)) ?_
    refine F.va rfl rfl (fun w' hw' => (x_addK (r := 7) (by decide) (by decide) rfl rfl)) ?_
    refine F.doo rfl rfl ?_
    refine L.alloc (cs := #[.int .i64 0, .int .i64 0]) zr35 rfl (fun w b13 F13 => ?_)
    have lt13 : w0.heap.size ≤ b13 := by have h9 := F13.here; have h8 := hm.size; omega
    have hm := hm.step F13.below (Nat.le_trans hBs hm.size)
    have hWd := hWd.keep F13.below
    have hX := hX.keep F13.below
    have hKT := hKT.keep F13.below
    have hH5 := hH5.keep F13.below
    have hB8 := hB8.keep F13.below
    have hB9 := hB9.keep F13.below
    have hB10 := hB10.keep F13.below
    have hB13 := F13.blk
    refine L.nil ⟨rfl, ⟨hWd, hB8⟩, ?_⟩
    refine F.doo rfl rfl ?_
    refine L.call (x_call3 rfl rfl rfl Try.func12 rfl nm12 rfl) (by have h9 := alloc_c Bs hp 5 1048576 7 hs0 w hH5 (Nat.le_trans hBs hm.size) (by decide) (by decide); rw [eA] at h9; exact h9) ?_
    rintro _ w ⟨rfl, hS2, hmo⟩
    have hm := hm.trans (hmo.wide rfl)
    have hWd := hWd.mod hmo rfl
    have hX := hX.mod hmo rfl
    have hKT := hKT.mod hmo rfl
    have hB8 := hB8.mod hmo rfl
    have hB9 := hB9.mod hmo rfl
    have hB10 := hB10.mod hmo rfl
    have hB13 := hB13.mod hmo rfl
    clear hmo
    have hH5 := hS2
    refine L.nil ⟨rfl, ⟨hWd, hB8⟩, ?_⟩
    refine F.va rfl rfl (fun w' hw' => (x_mvT rfl)) ?_
    refine F.va rfl rfl (fun w' hw' => (x_extract rfl rfl)) ?_
    refine F.va rfl rfl (fun w' hw' => (x_extract rfl rfl)) ?_
    refine F.doo rfl rfl ?_
    refine L.put (b := b13) (o := 0) (vs := [.int .i64 1, .int .i64 1]) #[.int .i64 1, .int .i64 1] rfl rfl rfl sz35 rfl rfl hB13 (Nat.le_of_ble_eq_true rfl) rfl (fun w hnew hg hsz => ?_)
    have hm0 := ModT.put0 hB13 hg
    have hm := hm.own hg lt13 hBs
    have hWd := hWd.mod hm0 rfl
    have hX := hX.mod hm0 rfl
    have hKT := hKT.mod hm0 rfl
    have hB8 := hB8.mod hm0 rfl
    have hB9 := hB9.mod hm0 rfl
    have hB10 := hB10.mod hm0 rfl
    have hH5 := hH5.mod hm0 rfl
    have hB13 := hnew
    clear hm0
    refine L.nil ⟨rfl, ⟨hWd, hB8⟩, ?_⟩
    refine F.nil ?_
    show L _ _ _ _ _ _ _
    refine L.va (x_asI rfl) ?_
    refine L.nil ?_
    show W _ _ _ _ _ _
    refine W.region rfl ?_
    refine L.va (x_mvS rfl) ?_
    refine L.va (x_loadAgg (cs := [.int .i64 1, .int .i64 1]) rfl Try.underlying35 rfl sz35 rfl (hB13.aggAt rfl)) ?_
    refine L.build1 (cs := #[.int .i64 1, .int .i64 1]) rfl rfl Try.underlying31 sz35 rfl ⟨_, zr35⟩ (by decide) (fun w b47 F47 => ?_)
    have lt47 : w0.heap.size ≤ b47 := by have h9 := F47.here; have h8 := hm.size; omega
    have ne47hB13 := F47.ne hB13
    have hm := hm.step F47.below (Nat.le_trans hBs hm.size)
    have hWd := hWd.keep F47.below
    have hX := hX.keep F47.below
    have hKT := hKT.keep F47.below
    have hB8 := hB8.keep F47.below
    have hB9 := hB9.keep F47.below
    have hB10 := hB10.keep F47.below
    have hB13 := hB13.keep F47.below
    have hH5 := hH5.keep F47.below
    have hB47 := F47.blk
    have hsz48 := hm.size
    refine L.appendAny (B := w0.heap.size) rfl rfl Try.underlying31 in35 rfl (by decide) (Own.nil w w0.heap.size 35 2) (fun h => by cases h) (news := [.int .i64 1, .int .i64 1]) rfl (fun ad had j u hj => by
      cases had
      rw [Addr.add_lit]
      match j, hj with
      | 0, hj => cases hj; exact hB47.cellAt 0 rfl
      | 1, hj => cases hj; exact hB47.cellAt 1 rfl) (fun u hu => by simp only [List.mem_cons, List.not_mem_nil, or_false] at hu; rcases hu with rfl | rfl <;> rfl) (by decide) (by decide) (by omega) (fun a48 c48 w2 hO48 hg hbel _ => ?_)
    have hO48 : Own w2 w0.heap.size 35 2 a48 1 c48 [.int .i64 1, .int .i64 1] := hO48
    have hbel2 := below_none hg
    have hm := hm.step hbel2 (Nat.le_trans hBs hm.size)
    have hWd := hWd.keep hbel2
    have hX := hX.keep hbel2
    have hKT := hKT.keep hbel2
    have hB8 := hB8.keep hbel2
    have hB9 := hB9.keep hbel2
    have hB10 := hB10.keep hbel2
    have hB13 := hB13.keep hbel2
    have hH5 := hH5.keep hbel2
    have hB47 := hB47.keep hbel2
    clear hbel2 hbel hg
    rename World => w
    refine L.va (x_asS rfl) ?_
    refine L.nil ?_
    refine B.nrm ?_
    show W _ _ _ _ _ _
    refine W.region rfl ?_
    refine L.va (x_mvI rfl) ?_
    refine L.va (x_addK (r := 1) (by decide) (by decide) rfl rfl) ?_
    refine L.va (x_asI rfl) ?_
    refine L.nil ?_
    refine T.nrm ?_
    refine Rounds.go ?_
    refine W.seq ?_
    refine W.seq ?_
    refine W.region rfl ?_
    refine L.va (x_mvI rfl) ?_
    refine L.va (x_field rfl Try.underlying122 rfl sz3 (by decide)) ?_
    refine L.va (x_load rfl Try.underlying3 rfl (hB8.cellAt 1 (v := .int .i64 1) rfl)) ?_
    refine L.va (x_boolK (r := false) (by decide) (x_lss (m := 1) (k := 1) rfl rfl)) ?_
    refine L.nil ?_
    show W _ _ _ _ _ _
    refine W.condF rfl ?_
    refine W.exit ?_
    repeat (first | refine T.exit ?_ | refine N.exit ?_ | refine B.exitNe (by decide) ?_)
    refine B.exitEq ?_
    show W _ _ _ _ _ _
    refine W.seq ?_
    refine W.region rfl ?_
    refine L.va (x_loadAgg (cs := [.int .i64 0, .slice none 0 0, .int .i64 0]) rfl Try.underlying61 rfl sz61 rfl (hB9.aggAt rfl)) ?_
    refine L.va (x_loadAgg (cs := [.int .i64 1, .int .i64 1, .int .i64 7, .slice none 0 0, .int .i64 1, .int .i64 0, .int .i64 0]) rfl Try.underlying122 rfl sz122 rfl (hB8.aggAt rfl)) ?_
    refine L.call (x_call2 rfl rfl Try.func69 rfl nm69 rfl) (split_0 w) ?_
    rintro _ w ⟨rfl, hbw⟩
    have hm := hm.step hbw (Nat.le_trans hBs hm.size)
    have hWd := hWd.keep hbw
    have hX := hX.keep hbw
    have hKT := hKT.keep hbw
    have hB8 := hB8.keep hbw
    have hB9 := hB9.keep hbw
    have hB10 := hB10.keep hbw
    have hB13 := hB13.keep hbw
    have hH5 := hH5.keep hbw
    have hB47 := hB47.keep hbw
    have hO48 := hO48.keep hbw
    refine L.va (x_mvT rfl) ?_
    refine L.va (x_extract rfl rfl) ?_
    refine L.va (x_extract rfl rfl) ?_
    refine L.va (x_asS rfl) ?_
    refine L.va (x_asS rfl) ?_
    refine L.nil ?_
    show W _ _ _ _ _ _
    refine W.seq ?_
    refine W.fl 8 [7] [0,1,2,3,4,5,6,7] (fun w' => Blk w' b9 #[.int .i64 0, .slice none 0 0, .int .i64 0] 61 ∧ Blk w' b8 #[.int .i64 1, .int .i64 1, .int .i64 7, .slice none 0 0, .int .i64 1, .int .i64 0, .int .i64 0] 122) (by kernel_rfl) (by kernel_rfl) (by kernel_rfl) (by kernel_rfl) (by kernel_rfl) (⟨hB9.keep (Below.refl w.heap.size w).drew, hB8.keep (Below.refl w.heap.size w).drew⟩) ?_
    have hdr : Below w.heap.size w w.drew := (Below.refl w.heap.size w).drew
    have hm := hm.step hdr (Nat.le_trans hBs hm.size)
    have hWd := hWd.keep hdr
    have hX := hX.keep hdr
    have hKT := hKT.keep hdr
    have hB8 := hB8.keep hdr
    have hB9 := hB9.keep hdr
    have hB10 := hB10.keep hdr
    have hB13 := hB13.keep hdr
    have hH5 := hH5.keep hdr
    have hB47 := hB47.keep hdr
    have hO48 := hO48.keep hdr
    clear hdr
    generalize w.drew = w at *
    refine F.va rfl rfl (fun w' hw' => (x_field rfl Try.underlying61 rfl sz2 (by decide))) ?_
    refine F.va rfl rfl (fun w' hw' => (x_load rfl Try.underlying2 rfl (hw'.1.cellAt 0 (v := .int .i64 0) rfl))) ?_
    refine F.va rfl rfl (fun w' hw' => (x_field rfl Try.underlying122 rfl sz2 (by decide))) ?_
    refine F.va rfl rfl (fun w' hw' => (x_load rfl Try.underlying2 rfl (hw'.2.cellAt 4 (v := .int .i64 1) rfl))) ?_
    refine F.va rfl rfl (fun w' hw' => (x_addK (r := 1) (by decide) (by decide) rfl rfl)) ?_
    refine F.va rfl rfl (fun w' hw' => (x_mvS rfl)) ?_
    refine F.va rfl rfl (fun w' hw' => (x_mvS rfl)) ?_
    refine F.doo rfl rfl ?_
    have hsz62 := hm.size
    refine L.appendAny (B := w0.heap.size) rfl rfl Try.underlying31 in35 rfl (by decide) (Own.nil w w0.heap.size 35 2) (fun h => absurd h (hO48.some_of (by decide))) (news := [.int .i64 1, .int .i64 1]) rfl (hO48.src (by decide) (fun j u hj => hj)) (fun u hu => by simp only [List.mem_cons, List.not_mem_nil, or_false] at hu; rcases hu with rfl | rfl <;> rfl) (by decide) (by decide) (by omega) (fun a62 c62 w2 hO62 hg hbel _ => ?_)
    have hO62 : Own w2 w0.heap.size 35 2 a62 1 c62 [.int .i64 1, .int .i64 1] := hO62
    have hbel2 := below_none hg
    have hm := hm.step hbel2 (Nat.le_trans hBs hm.size)
    have hWd := hWd.keep hbel2
    have hX := hX.keep hbel2
    have hKT := hKT.keep hbel2
    have hB8 := hB8.keep hbel2
    have hB9 := hB9.keep hbel2
    have hB10 := hB10.keep hbel2
    have hB13 := hB13.keep hbel2
    have hH5 := hH5.keep hbel2
    have hB47 := hB47.keep hbel2
    have hO48 := hO48.keep hbel2
    clear hbel2 hbel hg
    rename World => w
    refine L.nil ⟨rfl, ⟨hB9, hB8⟩, ?_⟩
    refine F.nil ?_
    show L _ _ _ _ _ _ _
    refine L.va (x_build (parts := [(0, .tmp 59), (1, .tmp 62)]) rfl (buL_0 1 a62 1 c62)) ?_
    refine L.put (b := b9) (o := 0) (vs := [.int .i64 1, .slice a62 1 c62, .int .i64 0]) #[.int .i64 1, .slice a62 1 c62, .int .i64 0] rfl rfl rfl sz61 rfl rfl hB9 (Nat.le_of_ble_eq_true rfl) rfl (fun w hnew hg hsz => ?_)
    have hm0 := ModT.put0 hB9 hg
    have hm := hm.own hg lt9 hBs
    have hWd := hWd.mod hm0 rfl
    have hX := hX.mod hm0 rfl
    have hKT := hKT.mod hm0 rfl
    have hB8 := hB8.mod hm0 rfl
    have hB10 := hB10.other hg (Ne.symm ne10hB9)
    have hB13 := hB13.mod hm0 rfl
    have hH5 := hH5.mod hm0 rfl
    have hB47 := hB47.mod hm0 rfl
    have hO48 := hO48.mod hm0 rfl
    have hO62 := hO62.mod hm0 rfl
    have hB9 := hnew
    clear hm0
    refine L.nil ?_
    show W _ _ _ _ _ _
    refine W.seq ?_
    refine W.fl 16 [12,14,15] [0,1,2,3,4,5,6,7,8,9,10,11,12,13,14,15] (fun w' => Blk w' xb #[.int .i64 0, .slice none 0 0, .int .i64 0, .slice none 0 0, .bool false] 154 ∧ Blk w' wd #[.pointer (some (⟨hp, 0, none⟩)), .pointer (some (⟨kb, 0, none⟩)), .slice wc 1 wcc] 119 ∧ Blk w' b9 #[.int .i64 1, .slice a62 1 c62, .int .i64 0] 61) (by kernel_rfl) (by kernel_rfl) (by kernel_rfl) (by kernel_rfl) (by kernel_rfl) (⟨hX.keep (Below.refl w.heap.size w).drew, hWd.keep (Below.refl w.heap.size w).drew, hB9.keep (Below.refl w.heap.size w).drew⟩) ?_
    have hdr : Below w.heap.size w w.drew := (Below.refl w.heap.size w).drew
    have hm := hm.step hdr (Nat.le_trans hBs hm.size)
    have hWd := hWd.keep hdr
    have hX := hX.keep hdr
    have hKT := hKT.keep hdr
    have hB8 := hB8.keep hdr
    have hB9 := hB9.keep hdr
    have hB10 := hB10.keep hdr
    have hB13 := hB13.keep hdr
    have hH5 := hH5.keep hdr
    have hB47 := hB47.keep hdr
    have hO48 := hO48.keep hdr
    have hO62 := hO62.keep hdr
    clear hdr
    generalize w.drew = w at *
    refine F.va rfl rfl (fun w' hw' => (x_mvP rfl)) ?_
    refine F.va rfl rfl (fun w' hw' => (x_mvP rfl)) ?_
    refine F.va rfl rfl (fun w' hw' => (x_nilCheck rfl)) ?_
    refine F.va rfl rfl (fun w' hw' => (x_field rfl Try.underlying154 rfl sz152 (by decide))) ?_
    refine F.va rfl rfl (fun w' hw' => (x_load rfl Try.underlying152 rfl (hw'.1.cellAt 3 (v := .slice none 0 0) rfl))) ?_
    refine F.va rfl rfl (fun w' hw' => (x_mvP rfl)) ?_
    refine F.va rfl rfl (fun w' hw' => (x_nilCheck rfl)) ?_
    refine F.va rfl rfl (fun w' hw' => (x_field rfl Try.underlying119 rfl sz57 (by decide))) ?_
    refine F.va rfl rfl (fun w' hw' => (x_load rfl Try.underlying57 rfl (hw'.2.1.cellAt 1 (v := .pointer (some (⟨kb, 0, none⟩))) rfl))) ?_
    refine F.va rfl rfl (fun w' hw' => (x_mvP rfl)) ?_
    refine F.va rfl rfl (fun w' hw' => (x_loadAgg (cs := [.int .i64 1, .slice a62 1 c62, .int .i64 0]) rfl Try.underlying61 rfl sz61 rfl (hw'.2.2.aggAt rfl))) ?_
    refine F.va rfl rfl (fun w' hw' => (x_mvS rfl)) ?_
    refine F.doo rfl rfl ?_
    refine L.call (x_call4 rfl rfl rfl rfl Try.func23 rfl nm23 rfl) (pub_0 Bs kb hp 4 pin r w hKT (Nat.le_trans hBs hm.size) 1 a62 1 c62 0) ?_
    rintro _ w ⟨rfl, hKT2, hmo⟩
    have hm := hm.trans (hmo.wide rfl)
    have hWd := hWd.mod hmo rfl
    have hX := hX.mod hmo rfl
    have hB8 := hB8.mod hmo rfl
    have hB9 := hB9.mod hmo rfl
    have hB10 := hB10.mod hmo rfl
    have hB13 := hB13.mod hmo rfl
    have hH5 := hH5.mod hmo rfl
    have hB47 := hB47.mod hmo rfl
    have hO48 := hO48.mod hmo rfl
    have hO62 := hO62.mod hmo rfl
    clear hmo
    have hKT := hKT2
    refine L.nil ⟨rfl, ⟨hX, hWd, hB9⟩, ?_⟩
    refine F.va rfl rfl (fun w' hw' => (x_build (parts := [(2, .tmp 76)]) rfl (buL_1 0))) ?_
    refine F.doo rfl rfl ?_
    refine L.build1 (cs := #[.int .i64 0, .int .i64 0, .int .i64 0, .int .i64 0, .bool false]) rfl rfl Try.underlying152 sz158 rfl ⟨_, zr158⟩ (by decide) (fun w b78 F78 => ?_)
    have lt78 : w0.heap.size ≤ b78 := by have h9 := F78.here; have h8 := hm.size; omega
    have hm := hm.step F78.below (Nat.le_trans hBs hm.size)
    have hWd := hWd.keep F78.below
    have hX := hX.keep F78.below
    have hB8 := hB8.keep F78.below
    have hB9 := hB9.keep F78.below
    have hB10 := hB10.keep F78.below
    have hB13 := hB13.keep F78.below
    have hH5 := hH5.keep F78.below
    have hB47 := hB47.keep F78.below
    have hO48 := hO48.keep F78.below
    have hO62 := hO62.keep F78.below
    have hKT := hKT.keep F78.below
    have hB78 := F78.blk
    refine L.nil ⟨rfl, ⟨hX, hWd, hB9⟩, ?_⟩
    refine F.doo rfl rfl ?_
    have hsz79 := hm.size
    refine L.appendAny (B := w0.heap.size) rfl rfl Try.underlying152 in158 rfl (by decide) (Own.nil w w0.heap.size 158 5) (fun h => by cases h) (news := [.int .i64 0, .int .i64 0, .int .i64 0, .int .i64 0, .bool false]) rfl (fun ad had j u hj => by
      cases had
      rw [Addr.add_lit]
      match j, hj with
      | 0, hj => cases hj; exact hB78.cellAt 0 rfl
      | 1, hj => cases hj; exact hB78.cellAt 1 rfl
      | 2, hj => cases hj; exact hB78.cellAt 2 rfl
      | 3, hj => cases hj; exact hB78.cellAt 3 rfl
      | 4, hj => cases hj; exact hB78.cellAt 4 rfl) (fun u hu => by simp only [List.mem_cons, List.not_mem_nil, or_false] at hu; rcases hu with rfl | rfl | rfl | rfl | rfl <;> rfl) (by decide) (by decide) (by omega) (fun a79 c79 w2 hO79 hg hbel _ => ?_)
    have hO79 : Own w2 w0.heap.size 158 5 a79 1 c79 [.int .i64 0, .int .i64 0, .int .i64 0, .int .i64 0, .bool false] := hO79
    have hbel2 := below_none hg
    have hm := hm.step hbel2 (Nat.le_trans hBs hm.size)
    have hWd := hWd.keep hbel2
    have hX := hX.keep hbel2
    have hB8 := hB8.keep hbel2
    have hB9 := hB9.keep hbel2
    have hB10 := hB10.keep hbel2
    have hB13 := hB13.keep hbel2
    have hH5 := hH5.keep hbel2
    have hB47 := hB47.keep hbel2
    have hO48 := hO48.keep hbel2
    have hO62 := hO62.keep hbel2
    have hKT := hKT.keep hbel2
    have hB78 := hB78.keep hbel2
    clear hbel2 hbel hg
    rename World => w
    refine L.nil ⟨rfl, ⟨hX, hWd, hB9⟩, ?_⟩
    refine F.nil ?_
    show L _ _ _ _ _ _ _
    refine L.va (x_nilCheck rfl) ?_
    refine L.va (x_field rfl Try.underlying154 rfl sz152 (by decide)) ?_
    refine L.put (b := xb) (o := 3) (vs := [.slice a79 1 c79]) #[.int .i64 0, .slice none 0 0, .int .i64 0, .slice a79 1 c79, .bool false] rfl rfl rfl sz152 rfl rfl hX (Nat.le_of_ble_eq_true rfl) rfl (fun w hnew hg hsz => ?_)
    have hm0 := ModT.put0 hX hg
    have hm := hm.trans (ModT.put hX hg lX rfl)
    have hWd := hWd.mod hm0 rfl
    have hB8 := hB8.mod hm0 rfl
    have hB9 := hB9.mod hm0 rfl
    have hB10 := hB10.mod hm0 rfl
    have hB13 := hB13.mod hm0 rfl
    have hH5 := hH5.mod hm0 rfl
    have hB47 := hB47.mod hm0 rfl
    have hO48 := hO48.mod hm0 rfl
    have hO62 := hO62.mod hm0 rfl
    have hKT := hKT.mod hm0 rfl
    have hB78 := hB78.mod hm0 rfl
    have hO79 := hO79.mod hm0 rfl
    have hX := hnew
    clear hm0
    refine L.nil ?_
    show W _ _ _ _ _ _
    refine W.seq ?_
    refine W.region rfl ?_
    refine L.va (x_asI rfl) ?_
    refine L.nil ?_
    show W _ _ _ _ _ _
    refine W.block ?_
    refine W.rounds 1 ?_
    refine Rounds.go ?_
    refine W.seq ?_
    refine W.seq ?_
    refine W.region rfl ?_
    refine L.va (x_mvI rfl) ?_
    refine L.va (x_mvS rfl) ?_
    refine L.va (x_lenK (m := 0) rfl rfl Try.underlying31 rfl) ?_
    refine L.va (x_boolK (r := false) (by decide) (x_lss (m := 0) (k := 0) rfl rfl)) ?_
    refine L.nil ?_
    show W _ _ _ _ _ _
    refine W.condF rfl ?_
    refine W.exit ?_
    repeat (first | refine T.exit ?_ | refine N.exit ?_ | refine B.exitNe (by decide) ?_)
    refine B.exitEq ?_
    refine B.nrm ?_
    show W _ _ _ _ _ _
    refine W.seq ?_
    refine W.region rfl ?_
    refine L.va (x_loadAgg (cs := [.int .i64 1, .slice a62 1 c62, .int .i64 0]) rfl Try.underlying61 rfl sz61 rfl (hB9.aggAt rfl)) ?_
    refine L.put (b := b10) (o := 0) (vs := [.int .i64 1, .slice a62 1 c62, .int .i64 0]) #[.int .i64 1, .slice a62 1 c62, .int .i64 0] rfl rfl rfl sz61 rfl rfl hB10 (Nat.le_of_ble_eq_true rfl) rfl (fun w hnew hg hsz => ?_)
    have hm0 := ModT.put0 hB10 hg
    have hm := hm.own hg lt10 hBs
    have hWd := hWd.mod hm0 rfl
    have hX := hX.mod hm0 rfl
    have hB8 := hB8.mod hm0 rfl
    have hB9 := hB9.other hg ne10hB9
    have hB13 := hB13.mod hm0 rfl
    have hH5 := hH5.mod hm0 rfl
    have hB47 := hB47.mod hm0 rfl
    have hO48 := hO48.mod hm0 rfl
    have hO62 := hO62.mod hm0 rfl
    have hKT := hKT.mod hm0 rfl
    have hB78 := hB78.mod hm0 rfl
    have hO79 := hO79.mod hm0 rfl
    have hB10 := hnew
    clear hm0
    refine L.nil ?_
    show W _ _ _ _ _ _
    refine W.ret ?_
    repeat (first | refine T.ret ?_ | refine B.ret ?_ | refine N.ret ?_)
    refine ends.cell (cs := #[.int .i64 1, .slice a62 1 c62, .int .i64 0]) (.inr rfl) rfl rfl Try.underlying61 rfl sz61 hB10 ?_
    exact ⟨_, _, _, _, rfl, hO62, hO79, hX, hKT, hH5, hm⟩

set_option maxHeartbeats 4000000 in
theorem does_2 (Bs kb hp wd xb : Nat) (pin : Nat → Int) (r : Rt) (wc : Option Addr) (wcc : Nat) (w0 : World) (hBs : Bs ≤ w0.heap.size) (lX : Bs ≤ xb) (hWd : Blk w0 wd #[.pointer (some (⟨hp, 0, none⟩)), .pointer (some (⟨kb, 0, none⟩)), .slice wc 1 wcc] 119) (db : Nat) (na : Option Addr) (nc : Nat) (al : Option Addr) (cl : Nat) {Bn : Nat} (hp0 : pin 0 = 2) (hp1 : pin 1 = 0) (hD : Blk w0 db #[.int .i64 0] 3) (hN : Own w0 Bn 35 2 na 1 nc [.int .i64 1, .int .i64 1]) (hLg : Own w0 Bs 158 5 al 1 cl [.int .i64 0, .int .i64 0, .int .i64 0, .int .i64 0, .bool false]) (hX : Blk w0 xb #[.int .i64 0, .slice none 0 0, .int .i64 0, .slice al 1 cl, .bool false] 154) (hKT : KT w0 Bs kb hp 4 2 pin r none 0 0) : C Try.prog 50 #[.pointer (some ⟨wd, 0, none⟩), .pointer none, .pointer (some ⟨xb, 0, none⟩), .agg #[.int .i64 1, .int .i64 0, .int .i64 0, .slice (some ⟨db, 0, none⟩) 1 1, .int .i64 1, .int .i64 0, .int .i64 0], .agg #[.int .i64 1, .slice na 1 nc, .int .i64 0]] w0 fun v w => ∃ a c la lc, v = .agg #[.int .i64 2, .slice a 0 c, .int .i64 0] ∧ KT w Bs kb hp 4 2 pin ⟨2, a, 0, c, 0⟩ la 1 lc ∧ Own w w0.heap.size 110 3 la 1 lc [.int .i64 1, .int .i64 1, .int .i64 2] ∧ ModT w0 w Bs [139, 142, 154, 158] := by
  refine C.enter (n := 239) Try.func50 rfl rfl ?_
  have hm : ModT w0 w0 Bs [139, 142, 154, 158] := ModT.refl _ _ _
  refine W.seq ?_
  refine W.region rfl ?_
  refine L.box (cs := #[.int .i64 1, .int .i64 0, .int .i64 0, .slice (some ⟨db, 0, none⟩) 1 1, .int .i64 1, .int .i64 0, .int .i64 0]) rfl rfl (fun w b8 F8 => ?_)
  have lt8 : w0.heap.size ≤ b8 := by have h9 := F8.here; have h8 := hm.size; omega
  have hm := hm.step F8.below (Nat.le_trans hBs hm.size)
  have hWd := hWd.keep F8.below
  have hX := hX.keep F8.below
  have hD := hD.keep F8.below
  have hN := hN.keep F8.below
  have hLg := hLg.keep F8.below
  have hKT := hKT.keep F8.below
  have hB8 := F8.blk
  refine L.box (cs := #[.int .i64 1, .slice na 1 nc, .int .i64 0]) rfl rfl (fun w b9 F9 => ?_)
  have lt9 : w0.heap.size ≤ b9 := by have h9 := F9.here; have h8 := hm.size; omega
  have hm := hm.step F9.below (Nat.le_trans hBs hm.size)
  have hWd := hWd.keep F9.below
  have hX := hX.keep F9.below
  have hD := hD.keep F9.below
  have hN := hN.keep F9.below
  have hLg := hLg.keep F9.below
  have hKT := hKT.keep F9.below
  have hB8 := hB8.keep F9.below
  have hB9 := F9.blk
  refine L.alloc (cs := #[.int .i64 0, .slice none 0 0, .int .i64 0]) zr61 rfl (fun w b10 F10 => ?_)
  have lt10 : w0.heap.size ≤ b10 := by have h9 := F10.here; have h8 := hm.size; omega
  have ne10hB9 := F10.ne hB9
  have hm := hm.step F10.below (Nat.le_trans hBs hm.size)
  have hWd := hWd.keep F10.below
  have hX := hX.keep F10.below
  have hD := hD.keep F10.below
  have hN := hN.keep F10.below
  have hLg := hLg.keep F10.below
  have hKT := hKT.keep F10.below
  have hB8 := hB8.keep F10.below
  have hB9 := hB9.keep F10.below
  have hB10 := F10.blk
  refine L.nil ?_
  show W _ _ _ _ _ _
  refine W.seq ?_
  refine W.seq ?_
  refine W.region rfl ?_
  refine L.va (x_field rfl Try.underlying122 rfl sz3 (by decide)) ?_
  refine L.va (x_load rfl Try.underlying3 rfl (hB8.cellAt 0 (v := .int .i64 1) rfl)) ?_
  refine L.nil ?_
  show W _ _ _ _ _ _
  refine W.block ?_
  refine W.seq ?_
  refine W.region rfl ?_
  refine L.va (x_boolK (r := true) (by decide) (x_eql (m := 1) (k := 1) rfl rfl)) ?_
  refine L.va (x_asB rfl) ?_
  refine L.nil ?_
  show W _ _ _ _ _ _
  refine W.condT rfl ?_
  refine W.seq ?_
  refine W.region rfl ?_
  refine L.va (x_asS rfl) ?_
  refine L.nil ?_
  show W _ _ _ _ _ _
  refine W.seq ?_
  refine W.seq ?_
  refine W.region rfl ?_
  refine L.va (x_asI rfl) ?_
  refine L.nil ?_
  show W _ _ _ _ _ _
  refine W.block ?_
  refine W.rounds 1 ?_
  refine Rounds.go ?_
  refine W.seq ?_
  refine W.seq ?_
  refine W.region rfl ?_
  refine L.va (x_mvI rfl) ?_
  refine L.va (x_field rfl Try.underlying122 rfl sz3 (by decide)) ?_
  refine L.va (x_load rfl Try.underlying3 rfl (hB8.cellAt 1 (v := .int .i64 0) rfl)) ?_
  refine L.va (x_boolK (r := false) (by decide) (x_lss (m := 0) (k := 0) rfl rfl)) ?_
  refine L.nil ?_
  show W _ _ _ _ _ _
  refine W.condF rfl ?_
  refine W.exit ?_
  repeat (first | refine T.exit ?_ | refine N.exit ?_ | refine B.exitNe (by decide) ?_)
  refine B.exitEq ?_
  show W _ _ _ _ _ _
  refine W.seq ?_
  refine W.region rfl ?_
  refine L.va (x_loadAgg (cs := [.int .i64 1, .slice na 1 nc, .int .i64 0]) rfl Try.underlying61 rfl sz61 rfl (hB9.aggAt rfl)) ?_
  refine L.va (x_loadAgg (cs := [.int .i64 1, .int .i64 0, .int .i64 0, .slice (some ⟨db, 0, none⟩) 1 1, .int .i64 1, .int .i64 0, .int .i64 0]) rfl Try.underlying122 rfl sz122 rfl (hB8.aggAt rfl)) ?_
  refine L.call (x_call2 rfl rfl Try.func69 rfl nm69 rfl) (split_1 db 1 1 na nc w hD hN) ?_
  rintro _ w ⟨sa, sc, rfl, hSp, hbw⟩
  have hszS := hm.size
  have hSp := Own.down hSp hszS
  have hm := hm.step hbw (Nat.le_trans hBs hm.size)
  have hWd := hWd.keep hbw
  have hX := hX.keep hbw
  have hD := hD.keep hbw
  have hN := hN.keep hbw
  have hLg := hLg.keep hbw
  have hKT := hKT.keep hbw
  have hB8 := hB8.keep hbw
  have hB9 := hB9.keep hbw
  have hB10 := hB10.keep hbw
  refine L.va (x_mvT rfl) ?_
  refine L.va (x_extract rfl rfl) ?_
  refine L.va (x_extract rfl rfl) ?_
  refine L.va (x_asS rfl) ?_
  refine L.va (x_asS rfl) ?_
  refine L.nil ?_
  show W _ _ _ _ _ _
  refine W.seq ?_
  refine W.fl 8 [7] [0,1,2,3,4,5,6,7] (fun w' => Blk w' b9 #[.int .i64 1, .slice na 1 nc, .int .i64 0] 61 ∧ Blk w' b8 #[.int .i64 1, .int .i64 0, .int .i64 0, .slice (some ⟨db, 0, none⟩) 1 1, .int .i64 1, .int .i64 0, .int .i64 0] 122) (by kernel_rfl) (by kernel_rfl) (by kernel_rfl) (by kernel_rfl) (by kernel_rfl) (⟨hB9.keep (Below.refl w.heap.size w).drew, hB8.keep (Below.refl w.heap.size w).drew⟩) ?_
  have hdr : Below w.heap.size w w.drew := (Below.refl w.heap.size w).drew
  have hm := hm.step hdr (Nat.le_trans hBs hm.size)
  have hWd := hWd.keep hdr
  have hX := hX.keep hdr
  have hD := hD.keep hdr
  have hN := hN.keep hdr
  have hLg := hLg.keep hdr
  have hKT := hKT.keep hdr
  have hB8 := hB8.keep hdr
  have hB9 := hB9.keep hdr
  have hB10 := hB10.keep hdr
  have hSp := hSp.keep hdr
  clear hdr
  generalize w.drew = w at *
  refine F.va rfl rfl (fun w' hw' => (x_field rfl Try.underlying61 rfl sz2 (by decide))) ?_
  refine F.va rfl rfl (fun w' hw' => (x_load rfl Try.underlying2 rfl (hw'.1.cellAt 0 (v := .int .i64 1) rfl))) ?_
  refine F.va rfl rfl (fun w' hw' => (x_field rfl Try.underlying122 rfl sz2 (by decide))) ?_
  refine F.va rfl rfl (fun w' hw' => (x_load rfl Try.underlying2 rfl (hw'.2.cellAt 4 (v := .int .i64 1) rfl))) ?_
  refine F.va rfl rfl (fun w' hw' => (x_addK (r := 2) (by decide) (by decide) rfl rfl)) ?_
  refine F.va rfl rfl (fun w' hw' => (x_mvS rfl)) ?_
  refine F.va rfl rfl (fun w' hw' => (x_mvS rfl)) ?_
  refine F.doo rfl rfl ?_
  have hsz62 := hm.size
  refine L.appendAny (B := w0.heap.size) rfl rfl Try.underlying31 in35 rfl (by decide) (Own.nil w w0.heap.size 35 2) (fun _ => ⟨rfl, rfl⟩) (news := []) rfl (fun ad h => by cases h) (fun u hu => by cases hu) (by decide) (by decide) (by omega) (fun a62 c62 w2 hO62 hg hbel _ => ?_)
  have hO62 : Own w2 w0.heap.size 35 2 a62 0 c62 [] := hO62
  have hbel2 := below_none hg
  have hm := hm.step hbel2 (Nat.le_trans hBs hm.size)
  have hWd := hWd.keep hbel2
  have hX := hX.keep hbel2
  have hD := hD.keep hbel2
  have hN := hN.keep hbel2
  have hLg := hLg.keep hbel2
  have hKT := hKT.keep hbel2
  have hB8 := hB8.keep hbel2
  have hB9 := hB9.keep hbel2
  have hB10 := hB10.keep hbel2
  have hSp := hSp.keep hbel2
  clear hbel2 hbel hg
  rename World => w
  refine L.nil ⟨rfl, ⟨hB9, hB8⟩, ?_⟩
  refine F.nil ?_
  show L _ _ _ _ _ _ _
  refine L.va (x_build (parts := [(0, .tmp 59), (1, .tmp 62)]) rfl (buL_0 2 a62 0 c62)) ?_
  refine L.put (b := b9) (o := 0) (vs := [.int .i64 2, .slice a62 0 c62, .int .i64 0]) #[.int .i64 2, .slice a62 0 c62, .int .i64 0] rfl rfl rfl sz61 rfl rfl hB9 (Nat.le_of_ble_eq_true rfl) rfl (fun w hnew hg hsz => ?_)
  have hm0 := ModT.put0 hB9 hg
  have hm := hm.own hg lt9 hBs
  have hWd := hWd.mod hm0 rfl
  have hX := hX.mod hm0 rfl
  have hD := hD.mod hm0 rfl
  have hN := hN.mod hm0 rfl
  have hLg := hLg.mod hm0 rfl
  have hKT := hKT.mod hm0 rfl
  have hB8 := hB8.mod hm0 rfl
  have hB10 := hB10.other hg (Ne.symm ne10hB9)
  have hSp := hSp.mod hm0 rfl
  have hO62 := hO62.mod hm0 rfl
  have hB9 := hnew
  clear hm0
  refine L.nil ?_
  show W _ _ _ _ _ _
  refine W.seq ?_
  refine W.fl 16 [12,14,15] [0,1,2,3,4,5,6,7,8,9,10,11,12,13,14,15] (fun w' => Blk w' xb #[.int .i64 0, .slice none 0 0, .int .i64 0, .slice al 1 cl, .bool false] 154 ∧ Blk w' wd #[.pointer (some (⟨hp, 0, none⟩)), .pointer (some (⟨kb, 0, none⟩)), .slice wc 1 wcc] 119 ∧ Blk w' b9 #[.int .i64 2, .slice a62 0 c62, .int .i64 0] 61) (by kernel_rfl) (by kernel_rfl) (by kernel_rfl) (by kernel_rfl) (by kernel_rfl) (⟨hX.keep (Below.refl w.heap.size w).drew, hWd.keep (Below.refl w.heap.size w).drew, hB9.keep (Below.refl w.heap.size w).drew⟩) ?_
  have hdr : Below w.heap.size w w.drew := (Below.refl w.heap.size w).drew
  have hm := hm.step hdr (Nat.le_trans hBs hm.size)
  have hWd := hWd.keep hdr
  have hX := hX.keep hdr
  have hD := hD.keep hdr
  have hN := hN.keep hdr
  have hLg := hLg.keep hdr
  have hKT := hKT.keep hdr
  have hB8 := hB8.keep hdr
  have hB9 := hB9.keep hdr
  have hB10 := hB10.keep hdr
  have hSp := hSp.keep hdr
  have hO62 := hO62.keep hdr
  clear hdr
  generalize w.drew = w at *
  refine F.va rfl rfl (fun w' hw' => (x_mvP rfl)) ?_
  refine F.va rfl rfl (fun w' hw' => (x_mvP rfl)) ?_
  refine F.va rfl rfl (fun w' hw' => (x_nilCheck rfl)) ?_
  refine F.va rfl rfl (fun w' hw' => (x_field rfl Try.underlying154 rfl sz152 (by decide))) ?_
  refine F.va rfl rfl (fun w' hw' => (x_load rfl Try.underlying152 rfl (hw'.1.cellAt 3 (v := .slice al 1 cl) rfl))) ?_
  refine F.va rfl rfl (fun w' hw' => (x_mvP rfl)) ?_
  refine F.va rfl rfl (fun w' hw' => (x_nilCheck rfl)) ?_
  refine F.va rfl rfl (fun w' hw' => (x_field rfl Try.underlying119 rfl sz57 (by decide))) ?_
  refine F.va rfl rfl (fun w' hw' => (x_load rfl Try.underlying57 rfl (hw'.2.1.cellAt 1 (v := .pointer (some (⟨kb, 0, none⟩))) rfl))) ?_
  refine F.va rfl rfl (fun w' hw' => (x_mvP rfl)) ?_
  refine F.va rfl rfl (fun w' hw' => (x_loadAgg (cs := [.int .i64 2, .slice a62 0 c62, .int .i64 0]) rfl Try.underlying61 rfl sz61 rfl (hw'.2.2.aggAt rfl))) ?_
  refine F.va rfl rfl (fun w' hw' => (x_mvS rfl)) ?_
  refine F.doo rfl rfl ?_
  refine L.call (x_call4 rfl rfl rfl rfl Try.func23 rfl nm23 rfl) (pub_1 Bs kb hp 4 pin r w hKT (Nat.le_trans hBs hm.size) hp0 hp1 a62 0 c62 0 1 1 sa sc hSp) ?_
  rintro _ w ⟨la, lc, rfl, hKT2, hRl, hmo⟩
  have hszP := hm.size
  have hm := hm.trans (hmo.wide rfl)
  have hWd := hWd.mod hmo rfl
  have hX := hX.mod hmo rfl
  have hD := hD.mod hmo rfl
  have hN := hN.mod hmo rfl
  have hLg := hLg.mod hmo rfl
  have hB8 := hB8.mod hmo rfl
  have hB9 := hB9.mod hmo rfl
  have hB10 := hB10.mod hmo rfl
  have hSp := hSp.mod hmo rfl
  have hO62 := hO62.mod hmo rfl
  clear hmo
  have hRl := Own.down hRl hszP
  have hKT := hKT2
  refine L.nil ⟨rfl, ⟨hX, hWd, hB9⟩, ?_⟩
  refine F.va rfl rfl (fun w' hw' => (x_build (parts := [(2, .tmp 76)]) rfl (buL_1 0))) ?_
  refine F.doo rfl rfl ?_
  refine L.build1 (cs := #[.int .i64 0, .int .i64 0, .int .i64 0, .int .i64 0, .bool false]) rfl rfl Try.underlying152 sz158 rfl ⟨_, zr158⟩ (by decide) (fun w b78 F78 => ?_)
  have lt78 : w0.heap.size ≤ b78 := by have h9 := F78.here; have h8 := hm.size; omega
  have hto78_hLg := Own.ne F78 hLg
  have hm := hm.step F78.below (Nat.le_trans hBs hm.size)
  have hWd := hWd.keep F78.below
  have hX := hX.keep F78.below
  have hD := hD.keep F78.below
  have hN := hN.keep F78.below
  have hLg := hLg.keep F78.below
  have hB8 := hB8.keep F78.below
  have hB9 := hB9.keep F78.below
  have hB10 := hB10.keep F78.below
  have hSp := hSp.keep F78.below
  have hO62 := hO62.keep F78.below
  have hKT := hKT.keep F78.below
  have hRl := hRl.keep F78.below
  have hB78 := F78.blk
  refine L.nil ⟨rfl, ⟨hX, hWd, hB9⟩, ?_⟩
  refine F.doo rfl rfl ?_
  have hsz79 := hm.size
  refine L.appendAny (B := Bs) rfl rfl Try.underlying152 in158 rfl (by decide) hLg (fun h => by cases h) (news := [.int .i64 0, .int .i64 0, .int .i64 0, .int .i64 0, .bool false]) rfl (fun ad had j u hj => by
    cases had
    rw [Addr.add_lit]
    match j, hj with
    | 0, hj => cases hj; exact hB78.cellAt 0 rfl
    | 1, hj => cases hj; exact hB78.cellAt 1 rfl
    | 2, hj => cases hj; exact hB78.cellAt 2 rfl
    | 3, hj => cases hj; exact hB78.cellAt 3 rfl
    | 4, hj => cases hj; exact hB78.cellAt 4 rfl) (fun u hu => by simp only [List.mem_cons, List.not_mem_nil, or_false] at hu; rcases hu with rfl | rfl | rfl | rfl | rfl <;> rfl) (by decide) (by decide) (by omega) (fun a79 c79 w2 hO79 hg hbel _ => ?_)
  have hO79 : Own w2 Bs 158 5 a79 2 c79 [.int .i64 0, .int .i64 0, .int .i64 0, .int .i64 0, .bool false, .int .i64 0, .int .i64 0, .int .i64 0, .int .i64 0, .bool false] := hO79
  have hmo : ModT w w2 Bs [158] := ModT.app hLg hg hbel rfl hO79
  have hm := hm.trans (hmo.wide rfl)
  have hWd := hWd.mod hmo rfl
  have hX := hX.mod hmo rfl
  have hD := hD.mod hmo rfl
  have hN := hN.mod hmo rfl
  -- LOST hLg
  have hB8 := hB8.mod hmo rfl
  have hB9 := hB9.mod hmo rfl
  have hB10 := hB10.mod hmo rfl
  have hSp := hSp.mod hmo rfl
  have hO62 := hO62.mod hmo rfl
  have hKT := hKT.mod hmo rfl
  have hRl := hRl.mod hmo rfl
  -- LOST hB78
  clear hmo hbel hg hLg
  rename World => w
  refine L.nil ⟨rfl, ⟨hX, hWd, hB9⟩, ?_⟩
  refine F.nil ?_
  show L _ _ _ _ _ _ _
  refine L.va (x_nilCheck rfl) ?_
  refine L.va (x_field rfl Try.underlying154 rfl sz152 (by decide)) ?_
  refine L.put (b := xb) (o := 3) (vs := [.slice a79 2 c79]) #[.int .i64 0, .slice none 0 0, .int .i64 0, .slice a79 2 c79, .bool false] rfl rfl rfl sz152 rfl rfl hX (Nat.le_of_ble_eq_true rfl) rfl (fun w hnew hg hsz => ?_)
  have hm0 := ModT.put0 hX hg
  have hm := hm.trans (ModT.put hX hg lX rfl)
  have hWd := hWd.mod hm0 rfl
  have hD := hD.mod hm0 rfl
  have hN := hN.mod hm0 rfl
  have hB8 := hB8.mod hm0 rfl
  have hB9 := hB9.mod hm0 rfl
  have hB10 := hB10.mod hm0 rfl
  have hSp := hSp.mod hm0 rfl
  have hO62 := hO62.mod hm0 rfl
  have hKT := hKT.mod hm0 rfl
  have hRl := hRl.mod hm0 rfl
  have hO79 := hO79.mod hm0 rfl
  have hX := hnew
  clear hm0
  refine L.nil ?_
  show W _ _ _ _ _ _
  refine W.seq ?_
  refine W.region rfl ?_
  refine L.va (x_asI rfl) ?_
  refine L.nil ?_
  show W _ _ _ _ _ _
  refine W.block ?_
  refine W.rounds 2 ?_
  refine Rounds.go ?_
  refine W.seq ?_
  refine W.seq ?_
  refine W.region rfl ?_
  refine L.va (x_mvI rfl) ?_
  refine L.va (x_mvS rfl) ?_
  refine L.va (x_lenK (m := 1) rfl rfl Try.underlying31 rfl) ?_
  refine L.va (x_boolK (r := true) (by decide) (x_lss (m := 0) (k := 1) rfl rfl)) ?_
  refine L.nil ?_
  show W _ _ _ _ _ _
  refine W.condT rfl ?_
  refine W.skip ?_
  show W _ _ _ _ _ _
  refine W.seq ?_
  refine W.block ?_
  refine W.region rfl ?_
  refine L.va (x_mvS rfl) ?_
  refine L.va (x_mvI rfl) ?_
  refine L.va (x_build (parts := []) rfl buL_2) ?_
  refine L.va (x_idx (i := 0) rfl rfl Try.underlying31 sz35 hSp.sl (by decide)) ?_
  obtain ⟨cur, hcur, hle, hnc, -, hcs, -⟩ := hSp.row (hSp.some_of (by decide))
  refine L.put (b := ab sa) (o := ao sa + 0 * 2) (vs := [.int .i64 0, .int .i64 0]) (setRow cur (ao sa + 0 * 2) [.int .i64 0, .int .i64 0]) rfl rfl rfl sz35 rfl rfl hcur (by rw [hSp.off, hcs]; omega) rfl (fun w hnew hg hsz => ?_)
  have hm0 := ModT.put0 hcur hg
  have hm := hm.own hg hle hBs
  have hWd := hWd.mod hm0 rfl
  have hX := hX.mod hm0 rfl
  have hD := hD.mod hm0 rfl
  -- LOST hN
  have hB8 := hB8.mod hm0 rfl
  have hB9 := hB9.mod hm0 rfl
  have hB10 := hB10.mod hm0 rfl
  -- LOST hO62
  have hKT := hKT.mod hm0 rfl
  have hRl := hRl.mod hm0 rfl
  have hO79 := hO79.mod hm0 rfl
  clear hm0 hcur hnew
  refine L.nil ?_
  refine B.nrm ?_
  show W _ _ _ _ _ _
  refine W.region rfl ?_
  refine L.va (x_mvI rfl) ?_
  refine L.va (x_addK (r := 1) (by decide) (by decide) rfl rfl) ?_
  refine L.va (x_asI rfl) ?_
  refine L.nil ?_
  refine T.nrm ?_
  refine Rounds.go ?_
  refine W.seq ?_
  refine W.seq ?_
  refine W.region rfl ?_
  refine L.va (x_mvI rfl) ?_
  refine L.va (x_mvS rfl) ?_
  refine L.va (x_lenK (m := 1) rfl rfl Try.underlying31 rfl) ?_
  refine L.va (x_boolK (r := false) (by decide) (x_lss (m := 1) (k := 1) rfl rfl)) ?_
  refine L.nil ?_
  show W _ _ _ _ _ _
  refine W.condF rfl ?_
  refine W.exit ?_
  repeat (first | refine T.exit ?_ | refine N.exit ?_ | refine B.exitNe (by decide) ?_)
  refine B.exitEq ?_
  refine B.nrm ?_
  show W _ _ _ _ _ _
  refine W.seq ?_
  refine W.region rfl ?_
  refine L.va (x_loadAgg (cs := [.int .i64 2, .slice a62 0 c62, .int .i64 0]) rfl Try.underlying61 rfl sz61 rfl (hB9.aggAt rfl)) ?_
  refine L.put (b := b10) (o := 0) (vs := [.int .i64 2, .slice a62 0 c62, .int .i64 0]) #[.int .i64 2, .slice a62 0 c62, .int .i64 0] rfl rfl rfl sz61 rfl rfl hB10 (Nat.le_of_ble_eq_true rfl) rfl (fun w hnew hg hsz => ?_)
  have hm0 := ModT.put0 hB10 hg
  have hm := hm.own hg lt10 hBs
  have hWd := hWd.mod hm0 rfl
  have hX := hX.mod hm0 rfl
  have hD := hD.mod hm0 rfl
  have hB8 := hB8.mod hm0 rfl
  have hB9 := hB9.other hg ne10hB9
  have hKT := hKT.mod hm0 rfl
  have hRl := hRl.mod hm0 rfl
  have hO79 := hO79.mod hm0 rfl
  have hB10 := hnew
  clear hm0
  refine L.nil ?_
  show W _ _ _ _ _ _
  refine W.ret ?_
  repeat (first | refine T.ret ?_ | refine B.ret ?_ | refine N.ret ?_)
  refine ends.cell (cs := #[.int .i64 2, .slice a62 0 c62, .int .i64 0]) (.inr rfl) rfl rfl Try.underlying61 rfl sz61 hB10 ?_
  exact ⟨_, _, _, _, rfl, hKT, hRl, hm⟩

theorem emade_c (w0 : World) : C Try.prog 49 #[.int .i64 2, .int .i64 1] w0 fun v w => ∃ wd hp kb xb wc wcc, v = .pointer (some ⟨wd, 0, none⟩) ∧ w0.heap.size ≤ xb ∧ Blk w wd #[.pointer (some (⟨hp, 0, none⟩)), .pointer (some (⟨kb, 0, none⟩)), .slice wc 1 wcc] 119 ∧ Own w w0.heap.size 116 1 wc 1 wcc [.pointer (some ⟨xb, 0, none⟩)] ∧ Blk w xb #[.int .i64 0, .slice none 0 0, .int .i64 0, .slice none 0 0, .bool false] 154 ∧ KT w w0.heap.size kb hp 4 2 (fun _ => 0) ⟨0, none, 0, 0, 0⟩ none 0 0 ∧ HT w w0.heap.size hp 5 1048576 hs0 ∧ Below w0.heap.size w0 w := by
  refine C.enter (n := 61) Try.func49 rfl rfl ?_
  obtain ⟨Bs, hBe⟩ : ∃ x, x = w0.heap.size := ⟨_, rfl⟩
  have hBs : Bs ≤ w0.heap.size := Nat.le_of_eq hBe
  have hm : ModT w0 w0 Bs [] := ModT.refl _ _ _
  refine W.seq ?_
  refine W.region rfl ?_
  refine L.va (x_asP rfl) ?_
  refine L.nil ?_
  show W _ _ _ _ _ _
  refine W.seq ?_
  refine W.region rfl ?_
  refine L.call (x_call0  Try.func9 rfl nm9 rfl) (scripted_c w0) ?_
  rintro _ w ⟨wb, rfl, _, hW, hbw⟩
  have hm := hm.step hbw (Nat.le_trans hBs hm.size)
  refine L.va (x_asP rfl) ?_
  refine L.nil ?_
  show W _ _ _ _ _ _
  refine W.seq ?_
  refine W.region rfl ?_
  refine L.va (x_mvP rfl) ?_
  refine L.call (x_call3 rfl rfl rfl Try.func8 rfl nm8 rfl) (new_ok w0.heap.size wb 5 1048576 w hm.size hW (by omega)) ?_
  rintro _ w ⟨hp, rfl, hH5, hbw⟩
  have hm := hm.step hbw (Nat.le_trans hBs hm.size)
  have hW := hW.keep hbw
  have hH5 : HT w w0.heap.size hp 5 1048576 hs0 := hH5
  refine L.va (x_mvT rfl) ?_
  refine L.va (x_extract rfl rfl) ?_
  refine L.va (x_extract rfl rfl) ?_
  refine L.va (x_asP rfl) ?_
  refine L.va (x_asI rfl) ?_
  refine L.nil ?_
  show W _ _ _ _ _ _
  refine W.seq ?_
  refine W.seq ?_
  refine W.region rfl ?_
  refine L.va (x_mvI rfl) ?_
  refine L.call (x_call1 rfl Try.func28 rfl nm28 rfl) (num14_c _ w) ?_
  rintro _ w1 ⟨rfl, hw⟩
  rw [hw]
  clear hw w1
  refine L.va (x_boolK (r := false) (by decide) (x_neq (m := 0) (k := 0) rfl rfl)) ?_
  refine L.va (x_mvB rfl) ?_
  refine L.on rfl ?_
  refine L.va (x_mvP rfl) ?_
  refine L.on rfl ?_
  refine L.va (x_eqPtrNil rfl rfl Try.underlying24) ?_
  refine L.va (x_pickF rfl) ?_
  refine L.nil ?_
  show W _ _ _ _ _ _
  refine W.condF rfl ?_
  refine W.skip ?_
  show W _ _ _ _ _ _
  refine W.seq ?_
  refine W.region rfl ?_
  refine L.va (x_mvP rfl) ?_
  refine L.va (x_mvP rfl) ?_
  refine L.va (x_mvI rfl) ?_
  refine L.va (x_build (parts := []) rfl buL_3) ?_
  refine L.call (x_call5 rfl rfl rfl rfl rfl Try.func19 rfl nm19 rfl) (enew_c wb hp 4 w hW) ?_
  rintro _ w ⟨kb, rfl, hKT, hbw⟩
  have hKT := KT.down hKT hm.size
  have hm := hm.step hbw (Nat.le_trans hBs hm.size)
  have hW := hW.keep hbw
  have hH5 := hH5.keep hbw
  refine L.va (x_mvT rfl) ?_
  refine L.va (x_extract rfl rfl) ?_
  refine L.va (x_extract rfl rfl) ?_
  refine L.va (x_asP rfl) ?_
  refine L.va (x_asI rfl) ?_
  refine L.nil ?_
  show W _ _ _ _ _ _
  refine W.seq ?_
  refine W.seq ?_
  refine W.region rfl ?_
  refine L.va (x_mvI rfl) ?_
  refine L.call (x_call1 rfl Try.func28 rfl nm28 rfl) (num14_c _ w) ?_
  rintro _ w1 ⟨rfl, hw⟩
  rw [hw]
  clear hw w1
  refine L.va (x_boolK (r := false) (by decide) (x_neq (m := 0) (k := 0) rfl rfl)) ?_
  refine L.va (x_mvB rfl) ?_
  refine L.on rfl ?_
  refine L.va (x_mvP rfl) ?_
  refine L.on rfl ?_
  refine L.va (x_eqPtrNil rfl rfl Try.underlying57) ?_
  refine L.va (x_pickF rfl) ?_
  refine L.nil ?_
  show W _ _ _ _ _ _
  refine W.condF rfl ?_
  refine W.skip ?_
  show W _ _ _ _ _ _
  refine W.seq ?_
  refine W.region rfl ?_
  refine L.va (x_mvP rfl) ?_
  refine L.va (x_mvP rfl) ?_
  refine L.va (x_build (parts := [(0, .tmp 40), (1, .tmp 41)]) rfl (buL_4 ((some (⟨hp, 0, none⟩))) ((some (⟨kb, 0, none⟩))))) ?_
  refine L.box (cs := #[.pointer (some (⟨hp, 0, none⟩)), .pointer (some (⟨kb, 0, none⟩)), .slice none 0 0]) rfl rfl (fun w b43 F43 => ?_)
  have lt43 : w0.heap.size ≤ b43 := by have h9 := F43.here; have h8 := hm.size; omega
  have hm := hm.step F43.below (Nat.le_trans hBs hm.size)
  have hW := hW.keep F43.below
  have hH5 := hH5.keep F43.below
  have hKT := hKT.keep F43.below
  have hB43 := F43.blk
  refine L.va (x_asP rfl) ?_
  refine L.nil ?_
  show W _ _ _ _ _ _
  refine W.seq ?_
  refine W.seq ?_
  refine W.region rfl ?_
  refine L.va (x_asI rfl) ?_
  refine L.nil ?_
  show W _ _ _ _ _ _
  refine W.block ?_
  refine W.rounds 2 ?_
  refine Rounds.go ?_
  refine W.seq ?_
  refine W.seq ?_
  refine W.region rfl ?_
  refine L.va (x_mvI rfl) ?_
  refine L.va (x_mvI rfl) ?_
  refine L.va (x_boolK (r := true) (by decide) (x_lss (m := 0) (k := 1) rfl rfl)) ?_
  refine L.nil ?_
  show W _ _ _ _ _ _
  refine W.condT rfl ?_
  refine W.skip ?_
  show W _ _ _ _ _ _
  refine W.seq ?_
  refine W.block ?_
  refine W.region rfl ?_
  refine L.va (x_mvP rfl) ?_
  refine L.va (x_mvP rfl) ?_
  refine L.va (x_nilCheck rfl) ?_
  refine L.va (x_field rfl Try.underlying119 rfl sz117 (by decide)) ?_
  refine L.va (x_load rfl Try.underlying117 rfl (hB43.cellAt 2 (v := .slice none 0 0) rfl)) ?_
  refine L.va (x_build (parts := []) rfl buL_5) ?_
  refine L.box (cs := #[.int .i64 0, .slice none 0 0, .int .i64 0, .slice none 0 0, .bool false]) rfl rfl (fun w b55 F55 => ?_)
  have lt55 : w0.heap.size ≤ b55 := by have h9 := F55.here; have h8 := hm.size; omega
  have hm := hm.step F55.below (Nat.le_trans hBs hm.size)
  have hW := hW.keep F55.below
  have hH5 := hH5.keep F55.below
  have hKT := hKT.keep F55.below
  have hB43 := hB43.keep F55.below
  have hB55 := F55.blk
  refine L.build1 (cs := #[.pointer (some ⟨b55, 0, none⟩)]) rfl rfl Try.underlying117 sz116 rfl ⟨_, zr116⟩ (by decide) (fun w b56 F56 => ?_)
  have lt56 : w0.heap.size ≤ b56 := by have h9 := F56.here; have h8 := hm.size; omega
  have hm := hm.step F56.below (Nat.le_trans hBs hm.size)
  have hW := hW.keep F56.below
  have hH5 := hH5.keep F56.below
  have hKT := hKT.keep F56.below
  have hB43 := hB43.keep F56.below
  have hB55 := hB55.keep F56.below
  have hB56 := F56.blk
  have hsz57 := hm.size
  refine L.appendAny (B := w0.heap.size) rfl rfl Try.underlying117 in116 rfl (by decide) (Own.nil w w0.heap.size 116 1) (fun h => by cases h) (news := [.pointer (some ⟨b55, 0, none⟩)]) rfl (fun ad had j u hj => by
    cases had
    rw [Addr.add_lit]
    match j, hj with
    | 0, hj => cases hj; exact hB56.cellAt 0 rfl) (fun u hu => by simp only [List.mem_cons, List.not_mem_nil, or_false] at hu; subst hu; rfl) (by decide) (by decide) (by omega) (fun a57 c57 w2 hO57 hg hbel _ => ?_)
  have hO57 : Own w2 w0.heap.size 116 1 a57 1 c57 [.pointer (some ⟨b55, 0, none⟩)] := hO57
  have hbel2 := below_none hg
  have hm := hm.step hbel2 (Nat.le_trans hBs hm.size)
  have hW := hW.keep hbel2
  have hH5 := hH5.keep hbel2
  have hKT := hKT.keep hbel2
  have hB43 := hB43.keep hbel2
  have hB55 := hB55.keep hbel2
  have hB56 := hB56.keep hbel2
  clear hbel2 hbel hg
  rename World => w
  refine L.va (x_nilCheck rfl) ?_
  refine L.va (x_field rfl Try.underlying119 rfl sz117 (by decide)) ?_
  refine L.put (b := b43) (o := 2) (vs := [.slice a57 1 c57]) #[.pointer (some (⟨hp, 0, none⟩)), .pointer (some (⟨kb, 0, none⟩)), .slice a57 1 c57] rfl rfl rfl sz117 rfl rfl hB43 (Nat.le_of_ble_eq_true rfl) rfl (fun w hnew hg hsz => ?_)
  have hm0 := ModT.put0 hB43 hg
  have hm := hm.own hg lt43 hBs
  have hW := hW.mod hm0 rfl
  have hH5 := hH5.mod hm0 rfl
  have hKT := hKT.mod hm0 rfl
  have hB55 := hB55.mod hm0 rfl
  have hB56 := hB56.mod hm0 rfl
  have hO57 := hO57.mod hm0 rfl
  have hB43 := hnew
  clear hm0
  refine L.nil ?_
  refine B.nrm ?_
  show W _ _ _ _ _ _
  refine W.region rfl ?_
  refine L.va (x_mvI rfl) ?_
  refine L.va (x_addK (r := 1) (by decide) (by decide) rfl rfl) ?_
  refine L.va (x_asI rfl) ?_
  refine L.nil ?_
  refine T.nrm ?_
  refine Rounds.go ?_
  refine W.seq ?_
  refine W.seq ?_
  refine W.region rfl ?_
  refine L.va (x_mvI rfl) ?_
  refine L.va (x_mvI rfl) ?_
  refine L.va (x_boolK (r := false) (by decide) (x_lss (m := 1) (k := 1) rfl rfl)) ?_
  refine L.nil ?_
  show W _ _ _ _ _ _
  refine W.condF rfl ?_
  refine W.exit ?_
  repeat (first | refine T.exit ?_ | refine N.exit ?_ | refine B.exitNe (by decide) ?_)
  refine B.exitEq ?_
  show W _ _ _ _ _ _
  refine W.seq ?_
  refine W.region rfl ?_
  refine L.va (x_mvP rfl) ?_
  refine L.va (x_asP rfl) ?_
  refine L.nil ?_
  show W _ _ _ _ _ _
  refine W.ret ?_
  repeat (first | refine T.ret ?_ | refine B.ret ?_ | refine N.ret ?_)
  refine ends.one (.inr rfl) rfl ?_
  exact ⟨_, _, _, _, _, _, rfl, lt55, hB43, hO57, hB55, hKT, hH5, hm.toBelow hBe⟩

set_option maxHeartbeats 4000000 in
theorem elive_c (w0 : World) : C Try.prog 27 #[] w0 fun v w => v = .bool true ∧ Below w0.heap.size w0 w := by
  refine C.enter (n := 109) Try.func27 rfl rfl ?_
  obtain ⟨Bs, hBe⟩ : ∃ x, x = w0.heap.size := ⟨_, rfl⟩
  have hBs : Bs ≤ w0.heap.size := Nat.le_of_eq hBe
  have hm : ModT w0 w0 Bs [139, 142, 154, 158, 78, 126, 132, 85, 148] := ModT.refl _ _ _
  refine W.seq ?_
  refine W.region rfl ?_
  refine L.va (x_asB rfl) ?_
  refine L.nil ?_
  show W _ _ _ _ _ _
  refine W.seq ?_
  refine W.region rfl ?_
  refine L.call (x_call2 rfl rfl Try.func49 rfl nm49 rfl) (emade_c w0) ?_
  rintro _ w ⟨wd, hp, kb, xb, wc, wcc, rfl, lX0, hWd, hWc, hX, hKT, hH5, hbw⟩
  have lX : Bs ≤ xb := Nat.le_trans hBs lX0
  have hKT := KT.down hKT hBs
  have hH5 := HT.down hH5 hBs
  have hm := hm.step hbw (Nat.le_trans hBs hm.size)
  refine L.va (x_asP rfl) ?_
  refine L.nil ?_
  show W _ _ _ _ _ _
  refine W.seq ?_
  refine W.seq ?_
  refine W.region rfl ?_
  refine L.va (x_mvP rfl) ?_
  refine L.va (x_eqPtrNil rfl rfl Try.underlying114) ?_
  refine L.nil ?_
  show W _ _ _ _ _ _
  refine W.condF rfl ?_
  refine W.skip ?_
  show W _ _ _ _ _ _
  refine W.seq ?_
  refine W.region rfl ?_
  refine L.va (x_mvP rfl) ?_
  refine L.va (x_nilCheck rfl) ?_
  refine L.va (x_field rfl Try.underlying119 rfl sz117 (by decide)) ?_
  refine L.va (x_load rfl Try.underlying117 rfl (hWd.cellAt 2 (v := .slice wc 1 wcc) rfl)) ?_
  refine L.va (x_idx (i := 0) rfl rfl Try.underlying117 sz116 hWc.sl (by decide)) ?_
  refine L.va (x_load (v := .pointer (some ⟨xb, 0, none⟩)) rfl Try.underlying116 rfl (hWc.cellK (k := 0) rfl rfl)) ?_
  refine L.va (x_asP rfl) ?_
  refine L.nil ?_
  show W _ _ _ _ _ _
  refine W.seq ?_
  refine W.region rfl ?_
  refine L.va (x_mvP rfl) ?_
  refine L.va (x_mvP rfl) ?_
  refine L.va (x_build (parts := [(0, .const (.int .i64 1)), (1, .const (.int .i64 1)), (4, .const (.int .i64 1)), (2, .const (.int .i64 7))]) rfl (buL_6 1 1 1 7)) ?_
  refine L.va (x_build (parts := []) rfl buL_3) ?_
  refine L.call (x_call5 rfl rfl rfl rfl rfl Try.func50 rfl nm50 rfl) (does_1 Bs kb hp wd xb (fun _ => 0) ⟨0, none, 0, 0, 0⟩ wc wcc w (Nat.le_trans hBs hm.size) lX hWd hX hKT hH5) ?_
  rintro _ w ⟨na, nc, al, cl, rfl, hN, hLg, hX2, hKT2, hH52, hmo⟩
  have hsz1 := hm.size
  have hm := hm.trans (hmo.wide rfl)
  have hWd := hWd.mod hmo rfl
  have hWc := hWc.mod hmo rfl
  clear hmo
  have hN := Own.down hN hsz1
  have hLg := Own.down hLg (Nat.le_trans hBs hsz1)
  have hKT := hKT2
  have hH5 := hH52
  have hX := hX2
  refine L.alloc (cs := #[.int .i64 0, .slice none 0 0, .int .i64 0]) zr61 rfl (fun w b3 F3 => ?_)
  have lt3 : w0.heap.size ≤ b3 := by have h9 := F3.here; have h8 := hm.size; omega
  have hm := hm.step F3.below (Nat.le_trans hBs hm.size)
  have hWd := hWd.keep F3.below
  have hWc := hWc.keep F3.below
  have hKT := hKT.keep F3.below
  have hH5 := hH5.keep F3.below
  have hLg := hLg.keep F3.below
  have hX := hX.keep F3.below
  have hN := hN.keep F3.below
  have hB3 := F3.blk
  refine L.put (b := b3) (o := 0) (vs := [.int .i64 1, .slice na 1 nc, .int .i64 0]) #[.int .i64 1, .slice na 1 nc, .int .i64 0] rfl rfl rfl sz61 rfl rfl hB3 (Nat.le_of_ble_eq_true rfl) rfl (fun w hnew hg hsz => ?_)
  have hm0 := ModT.put0 hB3 hg
  have hm := hm.own hg lt3 hBs
  have hWd := hWd.mod hm0 rfl
  have hWc := hWc.mod hm0 rfl
  have hKT := hKT.mod hm0 rfl
  have hH5 := hH5.mod hm0 rfl
  have hLg := hLg.mod hm0 rfl
  have hX := hX.mod hm0 rfl
  have hN := hN.mod hm0 rfl
  have hB3 := hnew
  clear hm0
  refine L.nil ?_
  show W _ _ _ _ _ _
  refine W.seq ?_
  refine W.region rfl ?_
  refine L.va (x_mvP rfl) ?_
  refine L.va (x_nilCheck rfl) ?_
  refine L.va (x_field rfl Try.underlying119 rfl sz57 (by decide)) ?_
  refine L.va (x_load rfl Try.underlying57 rfl (hWd.cellAt 1 (v := .pointer (some (⟨kb, 0, none⟩))) rfl)) ?_
  refine L.call (x_call3 rfl rfl rfl Try.func22 rfl nm22 rfl) (pin_c Bs kb hp 4 2 (fun _ => 0) ⟨1, na, 1, nc, 0⟩ none 0 0 w hKT 0 (by decide) (Nat.le_trans hBs hm.size) ⟨by show (-1000000000000 : Int) ≤ 1; decide, by show (1 : Int) ≤ 1000000000000000; decide⟩) ?_
  rintro _ w ⟨rfl, hKT2, hmo⟩
  have hm := hm.trans (hmo.wide rfl)
  have hWd := hWd.mod hmo rfl
  have hWc := hWc.mod hmo rfl
  have hH5 := hH5.mod hmo rfl
  have hLg := hLg.mod hmo rfl
  have hX := hX.mod hmo rfl
  have hN := hN.mod hmo rfl
  have hB3 := hB3.mod hmo rfl
  clear hmo
  have hKT := hKT2
  refine L.alloc (cs := #[.int .i64 0, .slice none 0 0, .int .i64 0]) zr61 rfl (fun w b4 F4 => ?_)
  have lt4 : w0.heap.size ≤ b4 := by have h9 := F4.here; have h8 := hm.size; omega
  have ne4hB3 := F4.ne hB3
  have hm := hm.step F4.below (Nat.le_trans hBs hm.size)
  have hWd := hWd.keep F4.below
  have hWc := hWc.keep F4.below
  have hH5 := hH5.keep F4.below
  have hLg := hLg.keep F4.below
  have hX := hX.keep F4.below
  have hN := hN.keep F4.below
  have hB3 := hB3.keep F4.below
  have hKT := hKT.keep F4.below
  have hB4 := F4.blk
  refine L.put (b := b4) (o := 0) (vs := [.int .i64 1, .slice na 1 nc, .int .i64 0]) #[.int .i64 1, .slice na 1 nc, .int .i64 0] rfl rfl rfl sz61 rfl rfl hB4 (Nat.le_of_ble_eq_true rfl) rfl (fun w hnew hg hsz => ?_)
  have hm0 := ModT.put0 hB4 hg
  have hm := hm.own hg lt4 hBs
  have hWd := hWd.mod hm0 rfl
  have hWc := hWc.mod hm0 rfl
  have hH5 := hH5.mod hm0 rfl
  have hLg := hLg.mod hm0 rfl
  have hX := hX.mod hm0 rfl
  have hN := hN.mod hm0 rfl
  have hB3 := hB3.other hg ne4hB3
  have hKT := hKT.mod hm0 rfl
  have hB4 := hnew
  clear hm0
  refine L.nil ?_
  show W _ _ _ _ _ _
  refine W.seq ?_
  refine W.region rfl ?_
  refine L.va (x_mvP rfl) ?_
  refine L.va (x_mvP rfl) ?_
  refine L.build1 (cs := #[.int .i64 0]) rfl rfl Try.underlying49 sz3 rfl ⟨_, zr3⟩ (by decide) (fun w b32 F32 => ?_)
  have lt32 : w0.heap.size ≤ b32 := by have h9 := F32.here; have h8 := hm.size; omega
  have hm := hm.step F32.below (Nat.le_trans hBs hm.size)
  have hWd := hWd.keep F32.below
  have hWc := hWc.keep F32.below
  have hH5 := hH5.keep F32.below
  have hLg := hLg.keep F32.below
  have hX := hX.keep F32.below
  have hN := hN.keep F32.below
  have hB3 := hB3.keep F32.below
  have hKT := hKT.keep F32.below
  have hB4 := hB4.keep F32.below
  have hB32 := F32.blk
  refine L.va (x_build (parts := [(0, .const (.int .i64 1)), (3, .tmp 32), (4, .const (.int .i64 1))]) rfl (buL_7 1 (some ⟨b32, 0, none⟩) 1 1 1)) ?_
  refine L.va (x_loadAgg (cs := [.int .i64 1, .slice na 1 nc, .int .i64 0]) rfl Try.underlying61 rfl sz61 rfl (hB3.aggAt rfl)) ?_
  refine L.call (x_call5 rfl rfl rfl rfl rfl Try.func50 rfl nm50 rfl) (does_2 Bs kb hp wd xb _ _ wc wcc w (Nat.le_trans hBs hm.size) lX hWd b32 na nc al cl rfl rfl hB32 hN hLg hX hKT) ?_
  rintro _ w ⟨ra, rc, la, lc, rfl, hKT2, hRl, hmo⟩
  have hsz2 := hm.size
  have hm := hm.trans (hmo.wide rfl)
  have hWd := hWd.mod hmo rfl
  have hWc := hWc.mod hmo rfl
  have hH5 := hH5.mod hmo rfl
  -- LOST hLg
  -- LOST hX
  have hN := hN.mod hmo rfl
  have hB3 := hB3.mod hmo rfl
  have hB4 := hB4.mod hmo rfl
  have hB32 := hB32.mod hmo rfl
  clear hmo
  have hRl := Own.down hRl hsz2
  have hKT := hKT2
  refine L.nil ?_
  show W _ _ _ _ _ _
  refine W.seq ?_
  refine W.seq ?_
  refine W.region rfl ?_
  refine L.va (x_field rfl Try.underlying61 rfl sz31 (by decide)) ?_
  refine L.va (x_load rfl Try.underlying31 rfl (hB4.cellAt 1 (v := .slice na 1 nc) rfl)) ?_
  refine L.va (x_lenK (m := 1) rfl rfl Try.underlying31 rfl) ?_
  refine L.va (x_boolK (r := false) (by decide) (x_neq (m := 1) (k := 1) rfl rfl)) ?_
  refine L.va (x_mvB rfl) ?_
  refine L.on rfl ?_
  refine L.va (x_field rfl Try.underlying61 rfl sz2 (by decide)) ?_
  refine L.on rfl ?_
  refine L.va (x_load rfl Try.underlying2 rfl (hB4.cellAt 0 (v := .int .i64 1) rfl)) ?_
  refine L.on rfl ?_
  refine L.va (x_boolK (r := false) (by decide) (x_neq (m := 1) (k := 1) rfl rfl)) ?_
  refine L.va (x_pickF rfl) ?_
  refine L.nil ?_
  show W _ _ _ _ _ _
  refine W.condF rfl ?_
  refine W.skip ?_
  show W _ _ _ _ _ _
  refine W.seq ?_
  refine W.fl 13 [8] [0,1,2,3,4,5,6,7,8,9,10,11,12] (fun w' => Blk w' wd #[.pointer (some (⟨hp, 0, none⟩)), .pointer (some (⟨kb, 0, none⟩)), .slice wc 1 wcc] 119 ∧ Blk w' b4 #[.int .i64 1, .slice na 1 nc, .int .i64 0] 61 ∧ Own w' w0.heap.size 35 2 na 1 nc [.int .i64 1, .int .i64 1]) (by kernel_rfl) (by kernel_rfl) (by kernel_rfl) (by kernel_rfl) (by kernel_rfl) (⟨hWd.keep (Below.refl w.heap.size w).drew, hB4.keep (Below.refl w.heap.size w).drew, hN.keep (Below.refl w.heap.size w).drew⟩) ?_
  have hdr : Below w.heap.size w w.drew := (Below.refl w.heap.size w).drew
  have hm := hm.step hdr (Nat.le_trans hBs hm.size)
  have hWd := hWd.keep hdr
  have hWc := hWc.keep hdr
  have hH5 := hH5.keep hdr
  have hN := hN.keep hdr
  have hB3 := hB3.keep hdr
  have hB4 := hB4.keep hdr
  have hB32 := hB32.keep hdr
  have hKT := hKT.keep hdr
  have hRl := hRl.keep hdr
  clear hdr
  generalize w.drew = w at *
  refine F.va rfl rfl (fun w' hw' => (x_mvP rfl)) ?_
  refine F.va rfl rfl (fun w' hw' => (x_nilCheck rfl)) ?_
  refine F.va rfl rfl (fun w' hw' => (x_field rfl Try.underlying119 rfl sz24 (by decide))) ?_
  refine F.va rfl rfl (fun w' hw' => (x_load rfl Try.underlying24 rfl (hw'.1.cellAt 0 (v := .pointer (some (⟨hp, 0, none⟩))) rfl))) ?_
  refine F.va rfl rfl (fun w' hw' => (x_field rfl Try.underlying61 rfl sz31 (by decide))) ?_
  refine F.va rfl rfl (fun w' hw' => (x_load rfl Try.underlying31 rfl (hw'.2.1.cellAt 1 (v := .slice na 1 nc) rfl))) ?_
  refine F.va rfl rfl (fun w' hw' => (x_idx (i := 0) rfl rfl Try.underlying31 sz35 hN.sl (by decide))) ?_
  refine F.va rfl rfl (fun w' hw' => (x_loadAgg (cs := [.int .i64 1, .int .i64 1]) rfl Try.underlying35 rfl sz35 rfl (hw'.2.2.aggK (k := 0) rfl rfl))) ?_
  refine F.doo rfl rfl ?_
  refine L.call (x_call3 rfl rfl rfl Try.func14 rfl nm14 rfl) (by have h9 := get_c Bs hp 5 1048576 1 1 hE1 w hH5; rw [eG] at h9; exact h9) ?_
  rintro _ w ⟨rfl, hbw⟩
  have hm := hm.step hbw (Nat.le_trans hBs hm.size)
  have hWd := hWd.keep hbw
  have hWc := hWc.keep hbw
  have hH5 := hH5.keep hbw
  have hN := hN.keep hbw
  have hB3 := hB3.keep hbw
  have hB4 := hB4.keep hbw
  have hB32 := hB32.keep hbw
  have hKT := hKT.keep hbw
  have hRl := hRl.keep hbw
  refine L.nil ⟨rfl, ⟨hWd, hB4, hN⟩, ?_⟩
  refine F.va rfl rfl (fun w' hw' => (x_mvT rfl)) ?_
  refine F.va rfl rfl (fun w' hw' => (x_extract rfl rfl)) ?_
  refine F.va rfl rfl (fun w' hw' => (x_extract rfl rfl)) ?_
  refine F.va rfl rfl (fun w' hw' => (x_asI rfl)) ?_
  refine F.nil ?_
  show L _ _ _ _ _ _ _
  refine L.va (x_asB rfl) ?_
  refine L.nil ?_
  show W _ _ _ _ _ _
  refine W.seq ?_
  refine W.region rfl ?_
  refine L.va (x_mvP rfl) ?_
  refine L.va (x_nilCheck rfl) ?_
  refine L.va (x_field rfl Try.underlying119 rfl sz57 (by decide)) ?_
  refine L.va (x_load rfl Try.underlying57 rfl (hWd.cellAt 1 (v := .pointer (some (⟨kb, 0, none⟩))) rfl)) ?_
  refine L.call (x_call1 rfl Try.func26 rfl nm26 rfl) (retired_c Bs kb hp 4 2 _ _ la 1 lc w hKT) ?_
  rintro _ w ⟨rfl, hbw⟩
  have hm := hm.step hbw (Nat.le_trans hBs hm.size)
  have hWd := hWd.keep hbw
  have hWc := hWc.keep hbw
  have hH5 := hH5.keep hbw
  have hN := hN.keep hbw
  have hB3 := hB3.keep hbw
  have hB4 := hB4.keep hbw
  have hB32 := hB32.keep hbw
  have hKT := hKT.keep hbw
  have hRl := hRl.keep hbw
  refine L.va (x_boolK (r := true) (by decide) (x_eql (m := 1) (k := 1) rfl rfl)) ?_
  refine L.va (x_asB rfl) ?_
  refine L.nil ?_
  show W _ _ _ _ _ _
  refine W.seq ?_
  refine W.region rfl ?_
  refine L.va (x_mvP rfl) ?_
  refine L.va (x_nilCheck rfl) ?_
  refine L.va (x_field rfl Try.underlying119 rfl sz57 (by decide)) ?_
  refine L.va (x_load rfl Try.underlying57 rfl (hWd.cellAt 1 (v := .pointer (some (⟨kb, 0, none⟩))) rfl)) ?_
  refine L.call (x_call3 rfl rfl rfl Try.func20 rfl nm20 rfl) (unpin_c Bs kb hp 4 2 _ _ la 1 lc w hKT 0 (by decide) (Nat.le_trans hBs hm.size)) ?_
  rintro _ w ⟨hKT2, hmo⟩
  have hm := hm.trans (hmo.wide rfl)
  have hWd := hWd.mod hmo rfl
  have hWc := hWc.mod hmo rfl
  have hH5 := hH5.mod hmo rfl
  have hN := hN.mod hmo rfl
  have hB3 := hB3.mod hmo rfl
  have hB4 := hB4.mod hmo rfl
  have hB32 := hB32.mod hmo rfl
  have hRl := hRl.mod hmo rfl
  clear hmo
  have hKT := hKT2
  refine L.nil ?_
  show W _ _ _ _ _ _
  refine W.seq ?_
  refine W.region rfl ?_
  refine L.va (x_mvP rfl) ?_
  refine L.va (x_nilCheck rfl) ?_
  refine L.va (x_field rfl Try.underlying119 rfl sz57 (by decide)) ?_
  refine L.va (x_load rfl Try.underlying57 rfl (hWd.cellAt 1 (v := .pointer (some (⟨kb, 0, none⟩))) rfl)) ?_
  refine L.call (x_call2 rfl rfl Try.func24 rfl nm24 rfl) (by have h9 := pass_1 Bs kb hp 4 _ _ la lc w hKT (Nat.le_trans hBs hm.size) rfl rfl 1 1 hRl 1048576 hE1 hH5 (by decide) (smallE.gens (by decide)); rw [eF] at h9; exact h9) ?_
  rintro _ w ⟨rfl, hKT2, hH52, hmo⟩
  have hm := hm.trans (hmo.wide rfl)
  have hWd := hWd.mod hmo rfl
  have hWc := hWc.mod hmo rfl
  have hN := hN.mod hmo rfl
  have hB3 := hB3.mod hmo rfl
  have hB4 := hB4.mod hmo rfl
  have hB32 := hB32.mod hmo rfl
  have hRl := hRl.mod hmo rfl
  clear hmo
  have hKT := hKT2
  have hH5 := hH52
  refine L.va (x_asI rfl) ?_
  refine L.nil ?_
  show W _ _ _ _ _ _
  refine W.seq ?_
  refine W.fl 13 [8] [0,1,2,3,4,5,6,7,8,9,10,11,12] (fun w' => Blk w' wd #[.pointer (some (⟨hp, 0, none⟩)), .pointer (some (⟨kb, 0, none⟩)), .slice wc 1 wcc] 119 ∧ Blk w' b4 #[.int .i64 1, .slice na 1 nc, .int .i64 0] 61 ∧ Own w' w0.heap.size 35 2 na 1 nc [.int .i64 1, .int .i64 1]) (by kernel_rfl) (by kernel_rfl) (by kernel_rfl) (by kernel_rfl) (by kernel_rfl) (⟨hWd.keep (Below.refl w.heap.size w).drew, hB4.keep (Below.refl w.heap.size w).drew, hN.keep (Below.refl w.heap.size w).drew⟩) ?_
  have hdr : Below w.heap.size w w.drew := (Below.refl w.heap.size w).drew
  have hm := hm.step hdr (Nat.le_trans hBs hm.size)
  have hWd := hWd.keep hdr
  have hWc := hWc.keep hdr
  have hN := hN.keep hdr
  have hB3 := hB3.keep hdr
  have hB4 := hB4.keep hdr
  have hB32 := hB32.keep hdr
  have hRl := hRl.keep hdr
  have hKT := hKT.keep hdr
  have hH5 := hH5.keep hdr
  clear hdr
  generalize w.drew = w at *
  refine F.va rfl rfl (fun w' hw' => (x_mvP rfl)) ?_
  refine F.va rfl rfl (fun w' hw' => (x_nilCheck rfl)) ?_
  refine F.va rfl rfl (fun w' hw' => (x_field rfl Try.underlying119 rfl sz24 (by decide))) ?_
  refine F.va rfl rfl (fun w' hw' => (x_load rfl Try.underlying24 rfl (hw'.1.cellAt 0 (v := .pointer (some (⟨hp, 0, none⟩))) rfl))) ?_
  refine F.va rfl rfl (fun w' hw' => (x_field rfl Try.underlying61 rfl sz31 (by decide))) ?_
  refine F.va rfl rfl (fun w' hw' => (x_load rfl Try.underlying31 rfl (hw'.2.1.cellAt 1 (v := .slice na 1 nc) rfl))) ?_
  refine F.va rfl rfl (fun w' hw' => (x_idx (i := 0) rfl rfl Try.underlying31 sz35 hN.sl (by decide))) ?_
  refine F.va rfl rfl (fun w' hw' => (x_loadAgg (cs := [.int .i64 1, .int .i64 1]) rfl Try.underlying35 rfl sz35 rfl (hw'.2.2.aggK (k := 0) rfl rfl))) ?_
  refine F.doo rfl rfl ?_
  refine L.call (x_call3 rfl rfl rfl Try.func14 rfl nm14 rfl) (by have h9 := get_c Bs hp 5 1048576 1 1 hE2 w hH5; rw [eG2] at h9; exact h9) ?_
  rintro _ w ⟨rfl, hbw⟩
  have hm := hm.step hbw (Nat.le_trans hBs hm.size)
  have hWd := hWd.keep hbw
  have hWc := hWc.keep hbw
  have hN := hN.keep hbw
  have hB3 := hB3.keep hbw
  have hB4 := hB4.keep hbw
  have hB32 := hB32.keep hbw
  have hRl := hRl.keep hbw
  have hKT := hKT.keep hbw
  have hH5 := hH5.keep hbw
  refine L.nil ⟨rfl, ⟨hWd, hB4, hN⟩, ?_⟩
  refine F.va rfl rfl (fun w' hw' => (x_mvT rfl)) ?_
  refine F.va rfl rfl (fun w' hw' => (x_extract rfl rfl)) ?_
  refine F.va rfl rfl (fun w' hw' => (x_extract rfl rfl)) ?_
  refine F.va rfl rfl (fun w' hw' => (x_asI rfl)) ?_
  refine F.nil ?_
  show L _ _ _ _ _ _ _
  refine L.va (x_asB rfl) ?_
  refine L.nil ?_
  show W _ _ _ _ _ _
  refine W.seq ?_
  refine W.region rfl ?_
  refine L.va (x_mvB rfl) ?_
  refine L.va (x_mvB rfl) ?_
  refine L.on rfl ?_
  refine L.va (x_mvI rfl) ?_
  refine L.on rfl ?_
  refine L.va (x_boolK (r := true) (by decide) (x_eql (m := 7) (k := 7) rfl rfl)) ?_
  refine L.va (x_pickT rfl) ?_
  refine L.va (x_mvB rfl) ?_
  refine L.on rfl ?_
  refine L.va (x_mvB rfl) ?_
  refine L.va (x_pickT rfl) ?_
  refine L.va (x_mvB rfl) ?_
  refine L.on rfl ?_
  refine L.va (x_mvI rfl) ?_
  refine L.on rfl ?_
  refine L.va (x_boolK (r := true) (by decide) (x_eql (m := 1) (k := 1) rfl rfl)) ?_
  refine L.va (x_pickT rfl) ?_
  refine L.va (x_mvB rfl) ?_
  refine L.on rfl ?_
  refine L.va (x_mvB rfl) ?_
  refine L.on rfl ?_
  refine L.va (x_not rfl) ?_
  refine L.va (x_pickT rfl) ?_
  refine L.va (x_mvB rfl) ?_
  refine L.on rfl ?_
  refine L.va (x_mvP rfl) ?_
  refine L.on rfl ?_
  refine L.va (x_nilCheck rfl) ?_
  refine L.on rfl ?_
  refine L.va (x_field rfl Try.underlying119 rfl sz57 (by decide)) ?_
  refine L.on rfl ?_
  refine L.va (x_load rfl Try.underlying57 rfl (hWd.cellAt 1 (v := .pointer (some (⟨kb, 0, none⟩))) rfl)) ?_
  refine L.on rfl ?_
  refine L.call (x_call1 rfl Try.func26 rfl nm26 rfl) (retired_c Bs kb hp 4 2 _ _ none 0 0 w hKT) ?_
  rintro _ w ⟨rfl, hbw⟩
  have hm := hm.step hbw (Nat.le_trans hBs hm.size)
  have hWd := hWd.keep hbw
  have hWc := hWc.keep hbw
  have hN := hN.keep hbw
  have hB3 := hB3.keep hbw
  have hB4 := hB4.keep hbw
  have hB32 := hB32.keep hbw
  have hRl := hRl.keep hbw
  have hKT := hKT.keep hbw
  have hH5 := hH5.keep hbw
  refine L.on rfl ?_
  refine L.va (x_boolK (r := true) (by decide) (x_eql (m := 0) (k := 0) rfl rfl)) ?_
  refine L.va (x_pickT rfl) ?_
  refine L.va (x_asB rfl) ?_
  refine L.nil ?_
  show W _ _ _ _ _ _
  refine W.ret ?_
  repeat (first | refine T.ret ?_ | refine B.ret ?_ | refine N.ret ?_)
  refine ends.one (.inr rfl) rfl ?_
  exact ⟨rfl, hm.toBelow hBe⟩

theorem epochnil_l (w0 : World) : C Try.prog 6 #[] w0 fun v w => v = .bool true ∧ Below w0.heap.size w0 w := by
  refine C.enter (n := 58) Try.func6 rfl rfl ?_
  have hb : Below w0.heap.size w0 w0 := Below.refl _ _
  refine W.seq ?_
  refine W.region rfl ?_
  refine L.va (x_asB rfl) ?_
  refine L.nil ?_
  show W _ _ _ _ _ _
  refine W.seq ?_
  refine W.region rfl ?_
  refine L.call (x_call0  Try.func9 rfl nm9 rfl) (scripted_c w0) ?_
  rintro _ w ⟨wb, rfl, _, hW, hbw⟩
  have hb := cl_step hb hbw
  refine L.va (x_build (parts := [(0, .const (.int .i64 5))]) rfl (buL_8 5)) ?_
  refine L.call (x_call5 rfl rfl rfl rfl rfl Try.func19 rfl nm19 rfl) (enew_nil wb 4 1 5 none 0 0 0 w) ?_
  rintro _ w ⟨rfl, hbw⟩
  have hb := cl_step hb hbw
  have hW := hW.keep hbw
  refine L.va (x_mvT rfl) ?_
  refine L.va (x_extract rfl rfl) ?_
  refine L.va (x_extract rfl rfl) ?_
  refine L.va (x_asP rfl) ?_
  refine L.va (x_asI rfl) ?_
  refine L.nil ?_
  show W _ _ _ _ _ _
  refine W.seq ?_
  refine W.region rfl ?_
  refine L.va (x_asP rfl) ?_
  refine L.nil ?_
  show W _ _ _ _ _ _
  refine W.seq ?_
  refine W.region rfl ?_
  refine L.va (x_mvP rfl) ?_
  refine L.call (x_call3 rfl rfl rfl Try.func20 rfl nm20 rfl) (unpin_nil 0 w) ?_
  rintro _ w hbw
  have hb := cl_step hb hbw
  have hW := hW.keep hbw
  refine L.nil ?_
  show W _ _ _ _ _ _
  refine W.seq ?_
  refine W.region rfl ?_
  refine L.va (x_mvP rfl) ?_
  refine L.call (x_call2 rfl rfl Try.func21 rfl nm21 rfl) (root_nil w) ?_
  rintro _ w ⟨rfl, hbw⟩
  have hb := cl_step hb hbw
  have hW := hW.keep hbw
  refine L.va (x_fieldV rfl Try.underlying61 rfl (by kernel_rfl) rfl) ?_
  refine L.va (x_boolK (r := true) (by decide) (x_eql (m := 0) (k := 0) rfl rfl)) ?_
  refine L.va (x_mvB rfl) ?_
  refine L.on rfl ?_
  refine L.va (x_mvP rfl) ?_
  refine L.on rfl ?_
  refine L.call (x_call3 rfl rfl rfl Try.func22 rfl nm22 rfl) (pin_nil 0 w) ?_
  rintro _ w ⟨rfl, hbw⟩
  have hb := cl_step hb hbw
  have hW := hW.keep hbw
  refine L.on rfl ?_
  refine L.va (x_fieldV rfl Try.underlying61 rfl (by kernel_rfl) rfl) ?_
  refine L.on rfl ?_
  refine L.va (x_boolK (r := true) (by decide) (x_eql (m := 0) (k := 0) rfl rfl)) ?_
  refine L.va (x_pickT rfl) ?_
  refine L.va (x_mvB rfl) ?_
  refine L.on rfl ?_
  refine L.va (x_mvP rfl) ?_
  refine L.on rfl ?_
  refine L.va (x_build (parts := [(0, .const (.int .i64 7))]) rfl (buL_8 7)) ?_
  refine L.on rfl ?_
  refine L.call (x_call4 rfl rfl rfl rfl Try.func23 rfl nm23 rfl) (publish_nil 7 none 0 0 0 none 0 0 w) ?_
  rintro _ w ⟨rfl, hbw⟩
  have hb := cl_step hb hbw
  have hW := hW.keep hbw
  refine L.on rfl ?_
  refine L.va (x_boolK (r := true) (by decide) (x_eql (m := 0) (k := 0) rfl rfl)) ?_
  refine L.va (x_pickT rfl) ?_
  refine L.va (x_mvB rfl) ?_
  refine L.on rfl ?_
  refine L.va (x_mvP rfl) ?_
  refine L.on rfl ?_
  refine L.call (x_call2 rfl rfl Try.func24 rfl nm24 rfl) (pass_nil w) ?_
  rintro _ w ⟨rfl, hbw⟩
  have hb := cl_step hb hbw
  have hW := hW.keep hbw
  refine L.on rfl ?_
  refine L.va (x_boolK (r := true) (by decide) (x_eql (m := 0) (k := 0) rfl rfl)) ?_
  refine L.va (x_pickT rfl) ?_
  refine L.va (x_mvB rfl) ?_
  refine L.on rfl ?_
  refine L.va (x_mvP rfl) ?_
  refine L.on rfl ?_
  refine L.call (x_call1 rfl Try.func25 rfl nm25 rfl) (pins_nil w) ?_
  rintro _ w ⟨rfl, hbw⟩
  have hb := cl_step hb hbw
  have hW := hW.keep hbw
  refine L.on rfl ?_
  refine L.va (x_lenK (m := 0) rfl rfl Try.underlying32 rfl) ?_
  refine L.on rfl ?_
  refine L.va (x_boolK (r := true) (by decide) (x_eql (m := 0) (k := 0) rfl rfl)) ?_
  refine L.va (x_pickT rfl) ?_
  refine L.va (x_mvB rfl) ?_
  refine L.on rfl ?_
  refine L.va (x_mvP rfl) ?_
  refine L.on rfl ?_
  refine L.call (x_call1 rfl Try.func26 rfl nm26 rfl) (retired_nil w) ?_
  rintro _ w ⟨rfl, hbw⟩
  have hb := cl_step hb hbw
  have hW := hW.keep hbw
  refine L.on rfl ?_
  refine L.va (x_boolK (r := true) (by decide) (x_eql (m := 0) (k := 0) rfl rfl)) ?_
  refine L.va (x_pickT rfl) ?_
  refine L.va (x_asB rfl) ?_
  refine L.nil ?_
  show W _ _ _ _ _ _
  refine W.seq ?_
  refine W.region rfl ?_
  refine L.call (x_call0  Try.func27 rfl nm27 rfl) (elive_c w) ?_
  rintro _ w ⟨rfl, hbw⟩
  have hb := cl_step hb hbw
  have hW := hW.keep hbw
  refine L.va (x_mvB rfl) ?_
  refine L.on rfl ?_
  refine L.va (x_mvP rfl) ?_
  refine L.on rfl ?_
  refine L.va (x_eqPtrNil rfl rfl Try.underlying57) ?_
  refine L.va (x_pickT rfl) ?_
  refine L.va (x_mvB rfl) ?_
  refine L.on rfl ?_
  refine L.va (x_mvI rfl) ?_
  refine L.on rfl ?_
  refine L.call (x_call1 rfl Try.func28 rfl nm28 rfl) (num14_c _ w) ?_
  rintro _ w1 ⟨rfl, hw⟩
  rw [hw]
  clear hw w1
  refine L.on rfl ?_
  refine L.va (x_boolK (r := true) (by decide) (x_eql (m := 2) (k := 2) rfl rfl)) ?_
  refine L.va (x_pickT rfl) ?_
  refine L.va (x_mvB rfl) ?_
  refine L.on rfl ?_
  refine L.va (x_mvB rfl) ?_
  refine L.va (x_pickT rfl) ?_
  refine L.va (x_asB rfl) ?_
  refine L.nil ?_
  show W _ _ _ _ _ _
  refine W.ret ?_
  repeat (first | refine T.ret ?_ | refine B.ret ?_ | refine N.ret ?_)
  refine ends.one (.inr rfl) rfl ?_
  exact ⟨rfl, hb⟩

end Go.Proofs.Ytahcjihhkmolpaa
