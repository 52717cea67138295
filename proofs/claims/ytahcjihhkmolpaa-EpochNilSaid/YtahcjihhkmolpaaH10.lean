/- A keeper of two slots: made; what is retired stays while it is pinned, and goes then. -/
import Derived.Test.YtahcjihhkmolpaaH9
import Derived.Test.YtahcjihhkmolpaaVc16
namespace Go.Proofs.Ytahcjihhkmolpaa
open Go.Vc Go.RowKit
theorem in102 : (Try.prog.info? 102).map (fun i => (i.zero, i.size, i.bytes)) = some (some (.pointer none), 1, 8) := by kernel_rfl
theorem in110 : (Try.prog.info? 110).map (fun i => (i.zero, i.size, i.bytes)) = some (some (.agg #[.int .i64 0, .int .i64 0, .int .i64 0]), 3, 24) := by kernel_rfl
theorem in158 : (Try.prog.info? 158).map (fun i => (i.zero, i.size, i.bytes)) = some (some (.agg #[.int .i64 0, .int .i64 0, .int .i64 0, .int .i64 0, .bool false]), 5, 40) := by kernel_rfl
theorem in116 : (Try.prog.info? 116).map (fun i => (i.zero, i.size, i.bytes)) = some (some (.pointer none), 1, 8) := by kernel_rfl

theorem buJ_0 (x0 : Option Addr) (x1 : Option Addr) (x2 : Option Addr) : Try.prog.built 101 [(0, .pointer x0), (1, .pointer x1), (3, .pointer x2)] = some #[.pointer x0, .pointer x1, .slice none 0 0, .pointer x2] := by kernel_rfl
theorem enew_c (wb hp : Nat) (obj : Int) (w0 : World) (hW : Blk w0 wb #[.bool false] 82) : C Try.prog 19 #[.pointer (some ⟨wb, 0, none⟩), .int .i64 obj, .pointer (some ⟨hp, 0, none⟩), .int .i64 2, .agg #[.int .i64 0, .slice none 0 0, .int .i64 0]] w0 fun v w => ∃ kb, v = .tuple #[.pointer (some ⟨kb, 0, none⟩), .int .i64 0] ∧ KT w w0.heap.size kb hp obj 2 (fun _ => 0) ⟨0, none, 0, 0, 0⟩ none 0 0 ∧ Below w0.heap.size w0 w := by
  refine C.enter (n := 56) Try.func19 rfl rfl ?_
  obtain ⟨Bs, hBe⟩ : ∃ x, x = w0.heap.size := ⟨_, rfl⟩
  have hBs : Bs ≤ w0.heap.size := Nat.le_of_eq hBe
  have hm : ModT w0 w0 Bs [] := ModT.refl _ _ _
  refine W.seq ?_
  refine W.region rfl ?_
  refine L.box (cs := #[.int .i64 0, .slice none 0 0, .int .i64 0]) rfl rfl (fun w b9 F9 => ?_)
  have lt9 : w0.heap.size ≤ b9 := by have h9 := F9.here; have h8 := hm.size; omega
  have hm := hm.step F9.below (Nat.le_trans hBs hm.size)
  have hW := hW.keep F9.below
  have hB9 := F9.blk
  refine L.va (x_asP rfl) ?_
  refine L.va (x_asI rfl) ?_
  refine L.nil ?_
  show W _ _ _ _ _ _
  refine W.seq ?_
  refine W.seq ?_
  refine W.region rfl ?_
  refine L.va (x_mvI rfl) ?_
  refine L.va (x_boolK (r := false) (by decide) (x_lss (m := 2) (k := 1) rfl rfl)) ?_
  refine L.va (x_mvB rfl) ?_
  refine L.on rfl ?_
  refine L.va (x_mvI rfl) ?_
  refine L.on rfl ?_
  refine L.va (x_boolK (r := false) (by decide) (x_gtr (m := 2) (k := 256) rfl rfl)) ?_
  refine L.va (x_pickF rfl) ?_
  refine L.va (x_mvB rfl) ?_
  refine L.on rfl ?_
  refine L.va (x_mvP rfl) ?_
  refine L.on rfl ?_
  refine L.va (x_eqPtrNil rfl rfl Try.underlying24) ?_
  refine L.va (x_pickF rfl) ?_
  refine L.nil ?_
  show W _ _ _ _ _ _
  refine W.condF rfl ?_
  refine W.skip ?_
  show W _ _ _ _ _ _
  refine W.seq ?_
  refine W.region rfl ?_
  refine L.va (x_mvP rfl) ?_
  refine L.va (x_mvP rfl) ?_
  refine L.va (x_mvI rfl) ?_
  refine L.va (x_loadAgg (cs := [.int .i64 0, .slice none 0 0, .int .i64 0]) rfl Try.underlying61 rfl sz61 rfl (hB9.aggAt rfl)) ?_
  refine L.call (x_call4 rfl rfl rfl rfl Try.func38 rfl nm38 rfl) (arnew wb obj 0 0 none 0 0 0 w) ?_
  rintro _ w ⟨rob, rav, rfl, ltr0, hR, hbw⟩
  have ltr := Nat.le_trans hm.size ltr0
  have hm := hm.step hbw (Nat.le_trans hBs hm.size)
  have hW := hW.keep hbw
  have hB9 := hB9.keep hbw
  refine L.va (x_mvP rfl) ?_
  refine L.va (x_mvI rfl) ?_
  refine L.va (x_mvI rfl) ?_
  refine L.va (x_addK (r := 3) (by decide) (by decide) rfl rfl) ?_
  refine L.call (x_call4 rfl rfl rfl rfl Try.func39 rfl nm39 rfl) (rlnew wb obj 3 none 0 0 w) ?_
  rintro _ w ⟨lb, rfl, ltl0, hL, hbw⟩
  have ltl := Nat.le_trans hm.size ltl0
  have hm := hm.step hbw (Nat.le_trans hBs hm.size)
  have hW := hW.keep hbw
  have hB9 := hB9.keep hbw
  have hR := hR.keep hbw
  refine L.va (x_build (parts := [(0, .tmp 24), (1, .tmp 28), (3, .tmp 33)]) rfl (buJ_0 ((some (⟨hp, 0, none⟩))) ((some ⟨rob, 0, none⟩)) ((some ⟨lb, 0, none⟩)))) ?_
  refine L.box (cs := #[.pointer (some (⟨hp, 0, none⟩)), .pointer (some ⟨rob, 0, none⟩), .slice none 0 0, .pointer (some ⟨lb, 0, none⟩)]) rfl rfl (fun w b35 F35 => ?_)
  have lt35 : w0.heap.size ≤ b35 := by have h9 := F35.here; have h8 := hm.size; omega
  have hm := hm.step F35.below (Nat.le_trans hBs hm.size)
  have hW := hW.keep F35.below
  have hB9 := hB9.keep F35.below
  have hR := hR.keep F35.below
  have hL := hL.keep F35.below
  have hB35 := F35.blk
  refine L.va (x_asP rfl) ?_
  refine L.nil ?_
  show W _ _ _ _ _ _
  refine W.seq ?_
  refine W.seq ?_
  refine W.region rfl ?_
  refine L.va (x_mvI rfl) ?_
  refine L.va (x_mvI rfl) ?_
  refine L.nil ?_
  show W _ _ _ _ _ _
  refine W.block ?_
  refine W.rounds 3 ?_
  refine Rounds.go ?_
  refine W.seq ?_
  refine W.region rfl ?_
  refine L.va (x_boolK (r := true) (by decide) (x_lss (m := 0) (k := 2) rfl rfl)) ?_
  refine L.nil ?_
  show W _ _ _ _ _ _
  refine W.seq ?_
  refine W.condT rfl ?_
  refine W.skip ?_
  show W _ _ _ _ _ _
  refine W.seq ?_
  refine W.block ?_
  refine W.seq ?_
  refine W.region rfl ?_
  refine L.va (x_mvI rfl) ?_
  refine L.va (x_asI rfl) ?_
  refine L.nil ?_
  show W _ _ _ _ _ _
  refine W.fl 12 [9,10,11] [0,1,2,3,4,5,6,7,8,9,10,11] (fun w' => Blk w' b35 #[.pointer (some (⟨hp, 0, none⟩)), .pointer (some ⟨rob, 0, none⟩), .slice none 0 0, .pointer (some ⟨lb, 0, none⟩)] 101) (by kernel_rfl) (by kernel_rfl) (by kernel_rfl) (by kernel_rfl) (by kernel_rfl) (hB35.keep (Below.refl w.heap.size w).drew) ?_
  have hdr : Below w.heap.size w w.drew := (Below.refl w.heap.size w).drew
  have hm := hm.step hdr (Nat.le_trans hBs hm.size)
  have hW := hW.keep hdr
  have hB9 := hB9.keep hdr
  have hR := hR.keep hdr
  have hL := hL.keep hdr
  have hB35 := hB35.keep hdr
  clear hdr
  generalize w.drew = w at *
  refine F.va rfl rfl (fun w' hw' => (x_mvP rfl)) ?_
  refine F.va rfl rfl (fun w' hw' => (x_mvP rfl)) ?_
  refine F.va rfl rfl (fun w' hw' => (x_nilCheck rfl)) ?_
  refine F.va rfl rfl (fun w' hw' => (x_field rfl Try.underlying101 rfl sz99 (by decide))) ?_
  refine F.va rfl rfl (fun w' hw' => (x_load rfl Try.underlying99 rfl (hw'.cellAt 2 (v := .slice none 0 0) rfl))) ?_
  refine F.va rfl rfl (fun w' hw' => (x_mvP rfl)) ?_
  refine F.va rfl rfl (fun w' hw' => (x_mvI rfl)) ?_
  refine F.va rfl rfl (fun w' hw' => (x_mvI rfl)) ?_
  refine F.va rfl rfl (fun w' hw' => (x_addK (r := 1) (by decide) (by decide) rfl rfl)) ?_
  refine F.doo rfl rfl ?_
  refine L.call (x_call4 rfl rfl rfl rfl Try.func40 rfl nm40 rfl) (ainew wb obj _ 0 w) ?_
  rintro _ w ⟨p0, pav0, rfl, ltp00, hP0, hbw⟩
  have ltp0 := Nat.le_trans hm.size ltp00
  have hm := hm.step hbw (Nat.le_trans hBs hm.size)
  have hW := hW.keep hbw
  have hB9 := hB9.keep hbw
  have hR := hR.keep hbw
  have hL := hL.keep hbw
  have hB35 := hB35.keep hbw
  refine L.nil ⟨rfl, hB35, ?_⟩
  refine F.doo rfl rfl ?_
  refine L.build1 (cs := #[.pointer (some ⟨p0, 0, none⟩)]) rfl rfl Try.underlying99 sz102 rfl ⟨_, zr102⟩ (by decide) (fun w b50 F50 => ?_)
  have lt50 : w0.heap.size ≤ b50 := by have h9 := F50.here; have h8 := hm.size; omega
  have hm := hm.step F50.below (Nat.le_trans hBs hm.size)
  have hW := hW.keep F50.below
  have hB9 := hB9.keep F50.below
  have hR := hR.keep F50.below
  have hL := hL.keep F50.below
  have hB35 := hB35.keep F50.below
  have hP0 := hP0.keep F50.below
  have hB50 := F50.blk
  refine L.nil ⟨rfl, hB35, ?_⟩
  refine F.doo rfl rfl ?_
  have hsz51 := hm.size
  refine L.appendAny (B := w0.heap.size) rfl rfl Try.underlying99 in102 rfl (by decide) (Own.nil w w0.heap.size 102 1) (fun h => by cases h) (news := [.pointer (some ⟨p0, 0, none⟩)]) rfl (fun ad had j u hj => by
    cases had
    rw [Addr.add_lit]
    match j, hj with
    | 0, hj => cases hj; exact hB50.cellAt 0 rfl) (fun u hu => by simp only [List.mem_cons, List.not_mem_nil, or_false] at hu; subst hu; rfl) (by decide) (by decide) (by omega) (fun a51 c51 w2 hO51 hg hbel _ => ?_)
  have hO51 : Own w2 w0.heap.size 102 1 a51 1 c51 [.pointer (some ⟨p0, 0, none⟩)] := hO51
  have hbel2 := below_none hg
  have hm := hm.step hbel2 (Nat.le_trans hBs hm.size)
  have hW := hW.keep hbel2
  have hB9 := hB9.keep hbel2
  have hR := hR.keep hbel2
  have hL := hL.keep hbel2
  have hB35 := hB35.keep hbel2
  have hP0 := hP0.keep hbel2
  have hB50 := hB50.keep hbel2
  clear hbel2 hbel hg
  rename World => w
  refine L.nil ⟨rfl, hB35, ?_⟩
  refine F.nil ?_
  show L _ _ _ _ _ _ _
  refine L.va (x_nilCheck rfl) ?_
  refine L.va (x_field rfl Try.underlying101 rfl sz99 (by decide)) ?_
  refine L.put (b := b35) (o := 2) (vs := [.slice a51 1 c51]) #[.pointer (some (⟨hp, 0, none⟩)), .pointer (some ⟨rob, 0, none⟩), .slice a51 1 c51, .pointer (some ⟨lb, 0, none⟩)] rfl rfl rfl sz99 rfl rfl hB35 (Nat.le_of_ble_eq_true rfl) rfl (fun w hnew hg hsz => ?_)
  have hm0 := ModT.put0 hB35 hg
  have hm := hm.own hg lt35 hBs
  have hW := hW.mod hm0 rfl
  have hB9 := hB9.mod hm0 rfl
  have hR := hR.mod hm0 rfl
  have hL := hL.mod hm0 rfl
  have hP0 := hP0.mod hm0 rfl
  have hB50 := hB50.mod hm0 rfl
  have hO51 := hO51.mod hm0 rfl
  have hB35 := hnew
  clear hm0
  refine L.nil ?_
  refine B.nrm ?_
  show W _ _ _ _ _ _
  refine W.region rfl ?_
  refine L.va (x_addK (r := 1) (by decide) (by decide) rfl rfl) ?_
  refine L.va (x_mvI rfl) ?_
  refine L.nil ?_
  refine T.nrm ?_
  refine Rounds.go ?_
  refine W.seq ?_
  refine W.region rfl ?_
  refine L.va (x_boolK (r := true) (by decide) (x_lss (m := 1) (k := 2) rfl rfl)) ?_
  refine L.nil ?_
  show W _ _ _ _ _ _
  refine W.seq ?_
  refine W.condT rfl ?_
  refine W.skip ?_
  show W _ _ _ _ _ _
  refine W.seq ?_
  refine W.block ?_
  refine W.seq ?_
  refine W.region rfl ?_
  refine L.va (x_mvI rfl) ?_
  refine L.va (x_asI rfl) ?_
  refine L.nil ?_
  show W _ _ _ _ _ _
  refine W.fl 12 [9,10,11] [0,1,2,3,4,5,6,7,8,9,10,11] (fun w' => Blk w' b35 #[.pointer (some (⟨hp, 0, none⟩)), .pointer (some ⟨rob, 0, none⟩), .slice a51 1 c51, .pointer (some ⟨lb, 0, none⟩)] 101) (by kernel_rfl) (by kernel_rfl) (by kernel_rfl) (by kernel_rfl) (by kernel_rfl) (hB35.keep (Below.refl w.heap.size w).drew) ?_
  have hdr : Below w.heap.size w w.drew := (Below.refl w.heap.size w).drew
  have hm := hm.step hdr (Nat.le_trans hBs hm.size)
  have hW := hW.keep hdr
  have hB9 := hB9.keep hdr
  have hR := hR.keep hdr
  have hL := hL.keep hdr
  have hB35 := hB35.keep hdr
  have hP0 := hP0.keep hdr
  have hB50 := hB50.keep hdr
  have hO51 := hO51.keep hdr
  clear hdr
  generalize w.drew = w at *
  refine F.va rfl rfl (fun w' hw' => (x_mvP rfl)) ?_
  refine F.va rfl rfl (fun w' hw' => (x_mvP rfl)) ?_
  refine F.va rfl rfl (fun w' hw' => (x_nilCheck rfl)) ?_
  refine F.va rfl rfl (fun w' hw' => (x_field rfl Try.underlying101 rfl sz99 (by decide))) ?_
  refine F.va rfl rfl (fun w' hw' => (x_load rfl Try.underlying99 rfl (hw'.cellAt 2 (v := .slice a51 1 c51) rfl))) ?_
  refine F.va rfl rfl (fun w' hw' => (x_mvP rfl)) ?_
  refine F.va rfl rfl (fun w' hw' => (x_mvI rfl)) ?_
  refine F.va rfl rfl (fun w' hw' => (x_mvI rfl)) ?_
  refine F.va rfl rfl (fun w' hw' => (x_addK (r := 2) (by decide) (by decide) rfl rfl)) ?_
  refine F.doo rfl rfl ?_
  refine L.call (x_call4 rfl rfl rfl rfl Try.func40 rfl nm40 rfl) (ainew wb obj _ 0 w) ?_
  rintro _ w ⟨p1, pav1, rfl, ltp10, hP1, hbw⟩
  have hne01 : p0 ≠ p1 := fun h => by have h9 := hP0.lt; omega
  have ltp1 := Nat.le_trans hm.size ltp10
  have hm := hm.step hbw (Nat.le_trans hBs hm.size)
  have hW := hW.keep hbw
  have hB9 := hB9.keep hbw
  have hR := hR.keep hbw
  have hL := hL.keep hbw
  have hB35 := hB35.keep hbw
  have hP0 := hP0.keep hbw
  have hB50 := hB50.keep hbw
  have hO51 := hO51.keep hbw
  refine L.nil ⟨rfl, hB35, ?_⟩
  refine F.doo rfl rfl ?_
  refine L.build1 (cs := #[.pointer (some ⟨p1, 0, none⟩)]) rfl rfl Try.underlying99 sz102 rfl ⟨_, zr102⟩ (by decide) (fun w b50 F50 => ?_)
  have lt50 : w0.heap.size ≤ b50 := by have h9 := F50.here; have h8 := hm.size; omega
  have hto50_hO51 := Own.ne F50 hO51
  have hm := hm.step F50.below (Nat.le_trans hBs hm.size)
  have hW := hW.keep F50.below
  have hB9 := hB9.keep F50.below
  have hR := hR.keep F50.below
  have hL := hL.keep F50.below
  have hB35 := hB35.keep F50.below
  have hP0 := hP0.keep F50.below
  have hB50 := hB50.keep F50.below
  have hO51 := hO51.keep F50.below
  have hP1 := hP1.keep F50.below
  have hB50 := F50.blk
  refine L.nil ⟨rfl, hB35, ?_⟩
  refine F.doo rfl rfl ?_
  have hsz51r1 := hm.size
  refine L.appendAny (B := w0.heap.size) rfl rfl Try.underlying99 in102 rfl (by decide) hO51 (fun h => by cases h) (news := [.pointer (some ⟨p1, 0, none⟩)]) rfl (fun ad had j u hj => by
    cases had
    rw [Addr.add_lit]
    match j, hj with
    | 0, hj => cases hj; exact hB50.cellAt 0 rfl) (fun u hu => by simp only [List.mem_cons, List.not_mem_nil, or_false] at hu; subst hu; rfl) (by decide) (by decide) (by omega) (fun a51r1 c51r1 w2 hO51r1 hg hbel _ => ?_)
  have hO51r1 : Own w2 w0.heap.size 102 1 a51r1 2 c51r1 [.pointer (some ⟨p0, 0, none⟩), .pointer (some ⟨p1, 0, none⟩)] := hO51r1
  have hmo : ModT w w2 w0.heap.size [102] := ModT.app hO51 hg hbel rfl hO51r1
  have hm := ModT.appOwn hm hO51 hg hBs
  have hW := hW.mod hmo rfl
  have hB9 := hB9.mod hmo rfl
  have hR := hR.mod hmo rfl
  have hL := hL.mod hmo rfl
  have hB35 := hB35.mod hmo rfl
  have hP0 := hP0.mod hmo rfl
  -- LOST hO51
  have hP1 := hP1.mod hmo rfl
  -- LOST hB50
  clear hmo hbel hg hO51
  rename World => w
  refine L.nil ⟨rfl, hB35, ?_⟩
  refine F.nil ?_
  show L _ _ _ _ _ _ _
  refine L.va (x_nilCheck rfl) ?_
  refine L.va (x_field rfl Try.underlying101 rfl sz99 (by decide)) ?_
  refine L.put (b := b35) (o := 2) (vs := [.slice a51r1 2 c51r1]) #[.pointer (some (⟨hp, 0, none⟩)), .pointer (some ⟨rob, 0, none⟩), .slice a51r1 2 c51r1, .pointer (some ⟨lb, 0, none⟩)] rfl rfl rfl sz99 rfl rfl hB35 (Nat.le_of_ble_eq_true rfl) rfl (fun w hnew hg hsz => ?_)
  have hm0 := ModT.put0 hB35 hg
  have hm := hm.own hg lt35 hBs
  have hW := hW.mod hm0 rfl
  have hB9 := hB9.mod hm0 rfl
  have hR := hR.mod hm0 rfl
  have hL := hL.mod hm0 rfl
  have hP0 := hP0.mod hm0 rfl
  have hP1 := hP1.mod hm0 rfl
  have hO51r1 := hO51r1.mod hm0 rfl
  have hB35 := hnew
  clear hm0
  refine L.nil ?_
  refine B.nrm ?_
  show W _ _ _ _ _ _
  refine W.region rfl ?_
  refine L.va (x_addK (r := 2) (by decide) (by decide) rfl rfl) ?_
  refine L.va (x_mvI rfl) ?_
  refine L.nil ?_
  refine T.nrm ?_
  refine Rounds.go ?_
  refine W.seq ?_
  refine W.region rfl ?_
  refine L.va (x_boolK (r := false) (by decide) (x_lss (m := 2) (k := 2) rfl rfl)) ?_
  refine L.nil ?_
  show W _ _ _ _ _ _
  refine W.seq ?_
  refine W.condF rfl ?_
  refine W.exit ?_
  repeat (first | refine T.exit ?_ | refine N.exit ?_ | refine B.exitNe (by decide) ?_)
  refine B.exitEq ?_
  show W _ _ _ _ _ _
  refine W.seq ?_
  refine W.region rfl ?_
  refine L.va (x_mvP rfl) ?_
  refine L.va (x_asP rfl) ?_
  refine L.va (x_asI rfl) ?_
  refine L.nil ?_
  show W _ _ _ _ _ _
  refine W.ret ?_
  repeat (first | refine T.ret ?_ | refine B.ret ?_ | refine N.ret ?_)
  refine ends.two (.inr rfl) rfl ?_
  have hX : PS w w0.heap.size 2 (fun i => if i = 0 then p0 else p1) obj wb (fun _ => 0) := ⟨fun i hi => by
    match i, hi with
    | 0, _ => exact ⟨_, hP0⟩
    | 1, _ => exact ⟨_, hP1⟩, fun i hi => by
    match i, hi with
    | 0, _ => exact ltp0
    | 1, _ => exact ltp1, fun i j hi hj => by
    match i, hi, j, hj with
    | 0, _, 0, _ => exact fun _ => rfl
    | 1, _, 1, _ => exact fun _ => rfl
    | 0, _, 1, _ => exact fun h => absurd h hne01
    | 1, _, 0, _ => exact fun h => absurd h.symm hne01⟩
  exact ⟨b35, rfl, ⟨rob, wb, lb, _, _, fun i => if i = 0 then p0 else p1, rav, hB35, hW, hR, hL, hO51r1, hX, lt35, ltr, ltl, by decide⟩, hm.toBelow hBe⟩

theorem pass_none (kb : Nat) (w0 : World) : C Try.prog 47 #[.pointer (some ⟨kb, 0, none⟩), .pointer none, .slice none 0 0] w0 fun v w => v = .int .i64 0 ∧ Below w0.heap.size w0 w := by
  refine C.enter (n := 95) Try.func47 rfl rfl ?_
  have hb : Below w0.heap.size w0 w0 := Below.refl _ _
  refine W.seq ?_
  refine W.region rfl ?_
  refine L.va (x_asI rfl) ?_
  refine L.nil ?_
  show W _ _ _ _ _ _
  refine W.scope ?_
  refine W.seq ?_
  refine W.seq ?_
  refine W.region rfl ?_
  refine L.va (x_mvS rfl) ?_
  refine L.va (x_lenK (m := 0) rfl rfl Try.underlying98 rfl) ?_
  refine L.va (x_boolK (r := true) (by decide) (x_eql (m := 0) (k := 0) rfl rfl)) ?_
  refine L.nil ?_
  show W _ _ _ _ _ _
  refine W.condT rfl ?_
  refine W.seq ?_
  refine W.region rfl ?_
  refine L.va (x_asI rfl) ?_
  refine L.nil ?_
  show W _ _ _ _ _ _
  refine W.ret ?_
  repeat (first | refine T.ret ?_ | refine B.ret ?_ | refine N.ret ?_)
  refine ends.one (.inr rfl) rfl ?_
  exact ⟨rfl, hb⟩

theorem pass_stay (Bs kb hp : Nat) (obj : Int) (pin : Nat → Int) (r : Rt) (ka : Option Addr) (kn kc : Nat) (w0 : World) (hS : KT w0 Bs kb hp obj 2 pin r ka kn kc) (hp0 : pin 0 = 2) (hp1 : pin 1 = 0) {Bl : Nat} (num gen : Int) (la : Option Addr) (lc : Nat) (hLs : Own w0 Bl 110 3 la 1 lc [.int .i64 num, .int .i64 gen, .int .i64 2]) : C Try.prog 47 #[.pointer (some ⟨kb, 0, none⟩), .pointer none, .slice la 1 lc] w0 fun v w => v = .int .i64 0 ∧ Below w0.heap.size w0 w := by
  refine C.enter (n := 95) Try.func47 rfl rfl ?_
  have hb : Below w0.heap.size w0 w0 := Below.refl _ _
  obtain ⟨rob, wb, lb, psa, psc, PX, av, hK, hW, hR, hL, hP, hX, lK, lR, lL, hnp⟩ := hS
  obtain ⟨pav0, hX0⟩ := hX.blk 0 (by decide)
  obtain ⟨pav1, hX1⟩ := hX.blk 1 (by decide)
  rw [hp0] at hX0
  rw [hp1] at hX1
  have hX0 : Blk w0 (PX 0) #[.int .i64 obj, .int .i64 1, .pointer (some ⟨wb, 0, none⟩), .int .i64 2, pav0] 148 := hX0
  have hX1 : Blk w0 (PX 1) #[.int .i64 obj, .int .i64 2, .pointer (some ⟨wb, 0, none⟩), .int .i64 0, pav1] 148 := hX1
  have hP : Own w0 Bs 102 1 psa 2 psc [.pointer (some ⟨PX 0, 0, none⟩), .pointer (some ⟨PX 1, 0, none⟩)] := hP
  refine W.seq ?_
  refine W.region rfl ?_
  refine L.va (x_asI rfl) ?_
  refine L.nil ?_
  show W _ _ _ _ _ _
  refine W.scope ?_
  refine W.seq ?_
  refine W.seq ?_
  refine W.region rfl ?_
  refine L.va (x_mvS rfl) ?_
  refine L.va (x_lenK (m := 1) rfl rfl Try.underlying98 rfl) ?_
  refine L.va (x_boolK (r := false) (by decide) (x_eql (m := 1) (k := 0) rfl rfl)) ?_
  refine L.nil ?_
  show W _ _ _ _ _ _
  refine W.condF rfl ?_
  refine W.skip ?_
  show W _ _ _ _ _ _
  refine W.seq ?_
  refine W.region rfl ?_
  refine L.va (x_asS rfl) ?_
  refine L.nil ?_
  show W _ _ _ _ _ _
  refine W.seq ?_
  refine W.seq ?_
  refine W.region rfl ?_
  refine L.va (x_mvP rfl) ?_
  refine L.va (x_nilCheck rfl) ?_
  refine L.va (x_field rfl Try.underlying101 rfl sz99 (by decide)) ?_
  refine L.va (x_load rfl Try.underlying99 rfl (hK.cellAt 2 (v := .slice psa 2 psc) rfl)) ?_
  refine L.va (x_lenK (m := 2) rfl rfl Try.underlying99 rfl) ?_
  refine L.va (x_mvI rfl) ?_
  refine L.nil ?_
  show W _ _ _ _ _ _
  refine W.block ?_
  refine W.rounds 3 ?_
  refine Rounds.go ?_
  refine W.seq ?_
  refine W.region rfl ?_
  refine L.va (x_boolK (r := true) (by decide) (x_lss (m := 0) (k := 2) rfl rfl)) ?_
  refine L.nil ?_
  show W _ _ _ _ _ _
  refine W.seq ?_
  refine W.condT rfl ?_
  refine W.skip ?_
  show W _ _ _ _ _ _
  refine W.seq ?_
  refine W.block ?_
  refine W.seq ?_
  refine W.region rfl ?_
  refine L.va (x_idx (i := 0) rfl rfl Try.underlying99 sz102 hP.sl (by decide)) ?_
  refine L.va (x_load (v := .pointer (some ⟨(PX 0), 0, none⟩)) rfl Try.underlying102 rfl (hP.cellK (k := 0) rfl rfl)) ?_
  refine L.va (x_asP rfl) ?_
  refine L.nil ?_
  show W _ _ _ _ _ _
  refine W.region rfl ?_
  refine L.va (x_mvS rfl) ?_
  refine L.va (x_mvP rfl) ?_
  refine L.va (x_mvP rfl) ?_
  refine L.call (x_call2 rfl rfl Try.func48 rfl nm48 rfl) (aiget (PX 0) wb obj _ pav0 2 w0 hX0 hW) ?_
  rintro _ w ⟨rfl, hbw⟩
  have hb := cl_step hb hbw
  have hK := hK.keep hbw
  have hW := hW.keep hbw
  have hR := hR.keep hbw
  have hL := hL.keep hbw
  have hX0 := hX0.keep hbw
  have hX1 := hX1.keep hbw
  have hP := hP.keep hbw
  have hLs := hLs.keep hbw
  have hX := hX.keep hbw
  refine L.build1 (cs := #[.int .i64 2]) rfl rfl Try.underlying32 sz2 rfl ⟨_, zr2⟩ (by decide) (fun w b34 F34 => ?_)
  have lt34 : w0.heap.size ≤ b34 := by have h9 := F34.here; have h8 := hb.size; omega
  have hb := cl_step hb F34.below
  have hK := hK.keep F34.below
  have hW := hW.keep F34.below
  have hR := hR.keep F34.below
  have hL := hL.keep F34.below
  have hX0 := hX0.keep F34.below
  have hX1 := hX1.keep F34.below
  have hP := hP.keep F34.below
  have hLs := hLs.keep F34.below
  have hX := hX.keep F34.below
  have hB34 := F34.blk
  have hsz35 := hb.size
  refine L.appendAny (B := w0.heap.size) rfl rfl Try.underlying32 in2 rfl (by decide) (Own.nil w w0.heap.size 2 1) (fun h => by cases h) (news := [.int .i64 2]) rfl (fun ad had j u hj => by
    cases had
    rw [Addr.add_lit]
    match j, hj with
    | 0, hj => cases hj; exact hB34.cellAt 0 rfl) (fun u hu => by simp only [List.mem_cons, List.not_mem_nil, or_false] at hu; subst hu; rfl) (by decide) (by decide) (by omega) (fun a35 c35 w2 hO35 hg hbel _ => ?_)
  have hO35 : Own w2 w0.heap.size 2 1 a35 1 c35 [.int .i64 2] := hO35
  have hbel2 := below_none hg
  have hb := cl_step hb hbel2
  have hK := hK.keep hbel2
  have hW := hW.keep hbel2
  have hR := hR.keep hbel2
  have hL := hL.keep hbel2
  have hX0 := hX0.keep hbel2
  have hX1 := hX1.keep hbel2
  have hP := hP.keep hbel2
  have hLs := hLs.keep hbel2
  have hX := hX.keep hbel2
  have hB34 := hB34.keep hbel2
  clear hbel2 hbel hg
  rename World => w
  refine L.va (x_asS rfl) ?_
  refine L.nil ?_
  refine B.nrm ?_
  show W _ _ _ _ _ _
  refine W.region rfl ?_
  refine L.va (x_addK (r := 1) (by decide) (by decide) rfl rfl) ?_
  refine L.va (x_mvI rfl) ?_
  refine L.nil ?_
  refine T.nrm ?_
  refine Rounds.go ?_
  refine W.seq ?_
  refine W.region rfl ?_
  refine L.va (x_boolK (r := true) (by decide) (x_lss (m := 1) (k := 2) rfl rfl)) ?_
  refine L.nil ?_
  show W _ _ _ _ _ _
  refine W.seq ?_
  refine W.condT rfl ?_
  refine W.skip ?_
  show W _ _ _ _ _ _
  refine W.seq ?_
  refine W.block ?_
  refine W.seq ?_
  refine W.region rfl ?_
  refine L.va (x_idx (i := 1) rfl rfl Try.underlying99 sz102 hP.sl (by decide)) ?_
  refine L.va (x_load (v := .pointer (some ⟨(PX 1), 0, none⟩)) rfl Try.underlying102 rfl (hP.cellK (k := 1) rfl rfl)) ?_
  refine L.va (x_asP rfl) ?_
  refine L.nil ?_
  show W _ _ _ _ _ _
  refine W.region rfl ?_
  refine L.va (x_mvS rfl) ?_
  refine L.va (x_mvP rfl) ?_
  refine L.va (x_mvP rfl) ?_
  refine L.call (x_call2 rfl rfl Try.func48 rfl nm48 rfl) (aiget (PX 1) wb obj _ pav1 0 w hX1 hW) ?_
  rintro _ w ⟨rfl, hbw⟩
  have hb := cl_step hb hbw
  have hK := hK.keep hbw
  have hW := hW.keep hbw
  have hR := hR.keep hbw
  have hL := hL.keep hbw
  have hX0 := hX0.keep hbw
  have hX1 := hX1.keep hbw
  have hP := hP.keep hbw
  have hLs := hLs.keep hbw
  have hX := hX.keep hbw
  have hB34 := hB34.keep hbw
  have hO35 := hO35.keep hbw
  refine L.build1 (cs := #[.int .i64 0]) rfl rfl Try.underlying32 sz2 rfl ⟨_, zr2⟩ (by decide) (fun w b34 F34 => ?_)
  have lt34 : w0.heap.size ≤ b34 := by have h9 := F34.here; have h8 := hb.size; omega
  have hto34_hO35 := Own.ne F34 hO35
  have hb := cl_step hb F34.below
  have hK := hK.keep F34.below
  have hW := hW.keep F34.below
  have hR := hR.keep F34.below
  have hL := hL.keep F34.below
  have hX0 := hX0.keep F34.below
  have hX1 := hX1.keep F34.below
  have hP := hP.keep F34.below
  have hLs := hLs.keep F34.below
  have hX := hX.keep F34.below
  have hB34 := hB34.keep F34.below
  have hO35 := hO35.keep F34.below
  have hB34 := F34.blk
  have hsz35r1 := hb.size
  refine L.appendAny (B := w0.heap.size) rfl rfl Try.underlying32 in2 rfl (by decide) hO35 (fun h => by cases h) (news := [.int .i64 0]) rfl (fun ad had j u hj => by
    cases had
    rw [Addr.add_lit]
    match j, hj with
    | 0, hj => cases hj; exact hB34.cellAt 0 rfl) (fun u hu => by simp only [List.mem_cons, List.not_mem_nil, or_false] at hu; subst hu; rfl) (by decide) (by decide) (by omega) (fun a35r1 c35r1 w2 hO35r1 hg hbel _ => ?_)
  have hO35r1 : Own w2 w0.heap.size 2 1 a35r1 2 c35r1 [.int .i64 2, .int .i64 0] := hO35r1
  have hmo : ModT w w2 w0.heap.size [2] := ModT.app hO35 hg hbel rfl hO35r1
  have hb := Below.modT hb hmo
  have hK := hK.mod hmo rfl
  have hW := hW.mod hmo rfl
  have hR := hR.mod hmo rfl
  have hL := hL.mod hmo rfl
  have hX0 := hX0.mod hmo rfl
  have hX1 := hX1.mod hmo rfl
  have hP := hP.mod hmo rfl
  have hLs := hLs.mod hmo rfl
  have hX := hX.mod hmo rfl
  -- LOST hO35
  -- LOST hB34
  clear hmo hbel hg hO35
  rename World => w
  refine L.va (x_asS rfl) ?_
  refine L.nil ?_
  refine B.nrm ?_
  show W _ _ _ _ _ _
  refine W.region rfl ?_
  refine L.va (x_addK (r := 2) (by decide) (by decide) rfl rfl) ?_
  refine L.va (x_mvI rfl) ?_
  refine L.nil ?_
  refine T.nrm ?_
  refine Rounds.go ?_
  refine W.seq ?_
  refine W.region rfl ?_
  refine L.va (x_boolK (r := false) (by decide) (x_lss (m := 2) (k := 2) rfl rfl)) ?_
  refine L.nil ?_
  show W _ _ _ _ _ _
  refine W.seq ?_
  refine W.condF rfl ?_
  refine W.exit ?_
  repeat (first | refine T.exit ?_ | refine N.exit ?_ | refine B.exitNe (by decide) ?_)
  refine B.exitEq ?_
  show W _ _ _ _ _ _
  refine W.seq ?_
  refine W.region rfl ?_
  refine L.va (x_asS rfl) ?_
  refine L.va (x_asS rfl) ?_
  refine L.nil ?_
  show W _ _ _ _ _ _
  refine W.seq ?_
  refine W.label ?_
  show W _ _ _ _ _ _
  refine W.seq ?_
  refine W.seq ?_
  refine W.region rfl ?_
  refine L.va (x_mvS rfl) ?_
  refine L.va (x_lenK (m := 1) rfl rfl Try.underlying98 rfl) ?_
  refine L.va (x_mvI rfl) ?_
  refine L.nil ?_
  show W _ _ _ _ _ _
  refine W.block ?_
  refine W.rounds 2 ?_
  refine Rounds.go ?_
  refine W.seq ?_
  refine W.region rfl ?_
  refine L.va (x_boolK (r := true) (by decide) (x_lss (m := 0) (k := 1) rfl rfl)) ?_
  refine L.nil ?_
  show W _ _ _ _ _ _
  refine W.seq ?_
  refine W.condT rfl ?_
  refine W.skip ?_
  show W _ _ _ _ _ _
  refine W.seq ?_
  refine W.block ?_
  refine W.seq ?_
  refine W.region rfl ?_
  refine L.va (x_idx (i := 0) rfl rfl Try.underlying98 sz110 hLs.sl (by decide)) ?_
  refine L.va (x_loadAgg (cs := [.int .i64 num, .int .i64 gen, .int .i64 2]) rfl Try.underlying110 rfl sz110 rfl (hLs.aggK (k := 0) rfl rfl)) ?_
  refine L.alloc (cs := #[.int .i64 0, .int .i64 0, .int .i64 0]) zr110 rfl (fun w b13 F13 => ?_)
  have lt13 : w0.heap.size ≤ b13 := by have h9 := F13.here; have h8 := hb.size; omega
  have hto13_hLs := Own.ne F13 hLs
  have hb := cl_step hb F13.below
  have hK := hK.keep F13.below
  have hW := hW.keep F13.below
  have hR := hR.keep F13.below
  have hL := hL.keep F13.below
  have hX0 := hX0.keep F13.below
  have hX1 := hX1.keep F13.below
  have hP := hP.keep F13.below
  have hLs := hLs.keep F13.below
  have hX := hX.keep F13.below
  have hO35r1 := hO35r1.keep F13.below
  have hB13 := F13.blk
  refine L.put (b := b13) (o := 0) (vs := [.int .i64 num, .int .i64 gen, .int .i64 2]) #[.int .i64 num, .int .i64 gen, .int .i64 2] rfl rfl rfl sz110 rfl rfl hB13 (Nat.le_of_ble_eq_true rfl) rfl (fun w hnew hg hsz => ?_)
  have hm0 := ModT.put0 hB13 hg
  have hb := below_gr hb hb.size hg lt13
  have hK := hK.mod hm0 rfl
  have hW := hW.mod hm0 rfl
  have hR := hR.mod hm0 rfl
  have hL := hL.mod hm0 rfl
  have hX0 := hX0.mod hm0 rfl
  have hX1 := hX1.mod hm0 rfl
  have hP := hP.mod hm0 rfl
  have hLs := hLs.otherB hg hto13_hLs
  have hX := hX.mod hm0 rfl
  have hO35r1 := hO35r1.mod hm0 rfl
  have hB13 := hnew
  clear hm0
  refine L.nil ?_
  show W _ _ _ _ _ _
  refine W.seq ?_
  refine W.seq ?_
  refine W.region rfl ?_
  refine L.va (x_mvS rfl) ?_
  refine L.va (x_lenK (m := 2) rfl rfl Try.underlying32 rfl) ?_
  refine L.va (x_mvI rfl) ?_
  refine L.nil ?_
  show W _ _ _ _ _ _
  refine W.block ?_
  refine W.rounds 2 ?_
  refine Rounds.go ?_
  refine W.seq ?_
  refine W.region rfl ?_
  refine L.va (x_boolK (r := true) (by decide) (x_lss (m := 0) (k := 2) rfl rfl)) ?_
  refine L.nil ?_
  show W _ _ _ _ _ _
  refine W.seq ?_
  refine W.condT rfl ?_
  refine W.skip ?_
  show W _ _ _ _ _ _
  refine W.seq ?_
  refine W.block ?_
  refine W.seq ?_
  refine W.region rfl ?_
  refine L.va (x_idx (i := 0) rfl rfl Try.underlying32 sz2 hO35r1.sl (by decide)) ?_
  refine L.va (x_load (v := .int .i64 2) rfl Try.underlying2 rfl (hO35r1.cellK (k := 0) rfl rfl)) ?_
  refine L.va (x_asI rfl) ?_
  refine L.nil ?_
  show W _ _ _ _ _ _
  refine W.seq ?_
  refine W.region rfl ?_
  refine L.va (x_mvI rfl) ?_
  refine L.va (x_boolK (r := true) (by decide) (x_neq (m := 2) (k := 0) rfl rfl)) ?_
  refine L.va (x_mvB rfl) ?_
  refine L.on rfl ?_
  refine L.va (x_mvI rfl) ?_
  refine L.on rfl ?_
  refine L.va (x_field rfl Try.underlying110 rfl sz2 (by decide)) ?_
  refine L.on rfl ?_
  refine L.va (x_load rfl Try.underlying2 rfl (hB13.cellAt 2 (v := .int .i64 2) rfl)) ?_
  refine L.on rfl ?_
  refine L.va (x_addK (r := 3) (by decide) (by decide) rfl rfl) ?_
  refine L.on rfl ?_
  refine L.va (x_boolK (r := true) (by decide) (x_lss (m := 2) (k := 3) rfl rfl)) ?_
  refine L.va (x_pickT rfl) ?_
  refine L.nil ?_
  show W _ _ _ _ _ _
  refine W.condT rfl ?_
  refine W.seq ?_
  refine W.region rfl ?_
  refine L.va (x_mvS rfl) ?_
  refine L.va (x_loadAgg (cs := [.int .i64 num, .int .i64 gen, .int .i64 2]) rfl Try.underlying110 rfl sz110 rfl (hB13.aggAt rfl)) ?_
  refine L.build1 (cs := #[.int .i64 num, .int .i64 gen, .int .i64 2]) rfl rfl Try.underlying98 sz110 rfl ⟨_, zr110⟩ (by decide) (fun w b60 F60 => ?_)
  have lt60 : w0.heap.size ≤ b60 := by have h9 := F60.here; have h8 := hb.size; omega
  have ne60hB13 := F60.ne hB13
  have hto60_hLs := Own.ne F60 hLs
  have hb := cl_step hb F60.below
  have hK := hK.keep F60.below
  have hW := hW.keep F60.below
  have hR := hR.keep F60.below
  have hL := hL.keep F60.below
  have hX0 := hX0.keep F60.below
  have hX1 := hX1.keep F60.below
  have hP := hP.keep F60.below
  have hLs := hLs.keep F60.below
  have hX := hX.keep F60.below
  have hO35r1 := hO35r1.keep F60.below
  have hB13 := hB13.keep F60.below
  have hB60 := F60.blk
  have hsz61 := hb.size
  refine L.appendAny (B := w0.heap.size) rfl rfl Try.underlying98 in110 rfl (by decide) (Own.nil w w0.heap.size 110 3) (fun h => by cases h) (news := [.int .i64 num, .int .i64 gen, .int .i64 2]) rfl (fun ad had j u hj => by
    cases had
    rw [Addr.add_lit]
    match j, hj with
    | 0, hj => cases hj; exact hB60.cellAt 0 rfl
    | 1, hj => cases hj; exact hB60.cellAt 1 rfl
    | 2, hj => cases hj; exact hB60.cellAt 2 rfl) (fun u hu => by simp only [List.mem_cons, List.not_mem_nil, or_false] at hu; rcases hu with rfl | rfl | rfl <;> rfl) (by decide) (by decide) (by omega) (fun a61 c61 w2 hO61 hg hbel _ => ?_)
  have hO61 : Own w2 w0.heap.size 110 3 a61 1 c61 [.int .i64 num, .int .i64 gen, .int .i64 2] := hO61
  have hbel2 := below_none hg
  have hb := cl_step hb hbel2
  have hK := hK.keep hbel2
  have hW := hW.keep hbel2
  have hR := hR.keep hbel2
  have hL := hL.keep hbel2
  have hX0 := hX0.keep hbel2
  have hX1 := hX1.keep hbel2
  have hP := hP.keep hbel2
  have hLs := hLs.keep hbel2
  have hX := hX.keep hbel2
  have hO35r1 := hO35r1.keep hbel2
  have hB13 := hB13.keep hbel2
  have hB60 := hB60.keep hbel2
  clear hbel2 hbel hg
  rename World => w
  refine L.va (x_asS rfl) ?_
  refine L.nil ?_
  show W _ _ _ _ _ _
  refine W.exit ?_
  repeat (first | refine T.exit ?_ | refine N.exit ?_ | refine B.exitNe (by decide) ?_)
  refine B.exitEq ?_
  show W _ _ _ _ _ _
  refine W.region rfl ?_
  refine L.va (x_addK (r := 1) (by decide) (by decide) rfl rfl) ?_
  refine L.va (x_mvI rfl) ?_
  refine L.nil ?_
  refine T.nrm ?_
  refine Rounds.go ?_
  refine W.seq ?_
  refine W.region rfl ?_
  refine L.va (x_boolK (r := false) (by decide) (x_lss (m := 1) (k := 1) rfl rfl)) ?_
  refine L.nil ?_
  show W _ _ _ _ _ _
  refine W.seq ?_
  refine W.condF rfl ?_
  refine W.exit ?_
  repeat (first | refine T.exit ?_ | refine N.exit ?_ | refine B.exitNe (by decide) ?_)
  refine B.exitEq ?_
  show W _ _ _ _ _ _
  refine W.seq ?_
  refine W.seq ?_
  refine W.region rfl ?_
  refine L.va (x_mvS rfl) ?_
  refine L.va (x_lenK (m := 0) rfl rfl Try.underlying98 rfl) ?_
  refine L.va (x_boolK (r := true) (by decide) (x_eql (m := 0) (k := 0) rfl rfl)) ?_
  refine L.nil ?_
  show W _ _ _ _ _ _
  refine W.condT rfl ?_
  refine W.seq ?_
  refine W.region rfl ?_
  refine L.va (x_asI rfl) ?_
  refine L.nil ?_
  show W _ _ _ _ _ _
  refine W.ret ?_
  repeat (first | refine T.ret ?_ | refine B.ret ?_ | refine N.ret ?_)
  refine ends.one (.inr rfl) rfl ?_
  exact ⟨rfl, hb⟩

theorem pass_gone (Bs kb hp : Nat) (obj : Int) (pin : Nat → Int) (r : Rt) (ka : Option Addr) (kn kc : Nat) (w0 : World) (hS : KT w0 Bs kb hp obj 2 pin r ka kn kc) (hp0 : pin 0 = 0) (hp1 : pin 1 = 0) {Bl : Nat} (num gen : Int) (la : Option Addr) (lc : Nat) (hLs : Own w0 Bl 110 3 la 1 lc [.int .i64 num, .int .i64 gen, .int .i64 2]) (most : Int) (s : Hs) (hS : HT w0 Bs hp 5 most s) (hBs : Bs ≤ w0.heap.size) (hm40 : s.m ≤ 1099511627776) (hgn : ∀ i, i < s.n → -4611686018427387904 ≤ (s.nd i).g ∧ (s.nd i).g ≤ 4611686018427387904) : C Try.prog 47 #[.pointer (some ⟨kb, 0, none⟩), .pointer none, .slice la 1 lc] w0 fun v w => v = .int .i64 1 ∧ KT w Bs kb hp obj 2 pin r none 0 0 ∧ HT w Bs hp 5 most (freeR s num gen) ∧ ModT w0 w Bs [142, 78, 126, 132, 85] := by
  refine C.enter (n := 95) Try.func47 rfl rfl ?_
  have hm : ModT w0 w0 Bs [142, 78, 126, 132, 85] := ModT.refl _ _ _
  rename HT w0 Bs hp 5 most s => hS5
  obtain ⟨rob, wb, lb, psa, psc, PX, av, hK, hW, hR, hL, hP, hX, lK, lR, lL, hnp⟩ := hS
  obtain ⟨pav0, hX0⟩ := hX.blk 0 (by decide)
  obtain ⟨pav1, hX1⟩ := hX.blk 1 (by decide)
  rw [hp0] at hX0
  rw [hp1] at hX1
  have hX0 : Blk w0 (PX 0) #[.int .i64 obj, .int .i64 1, .pointer (some ⟨wb, 0, none⟩), .int .i64 0, pav0] 148 := hX0
  have hX1 : Blk w0 (PX 1) #[.int .i64 obj, .int .i64 2, .pointer (some ⟨wb, 0, none⟩), .int .i64 0, pav1] 148 := hX1
  have hP : Own w0 Bs 102 1 psa 2 psc [.pointer (some ⟨PX 0, 0, none⟩), .pointer (some ⟨PX 1, 0, none⟩)] := hP
  have hXX := hX
  refine W.seq ?_
  refine W.region rfl ?_
  refine L.va (x_asI rfl) ?_
  refine L.nil ?_
  show W _ _ _ _ _ _
  refine W.scope ?_
  refine W.seq ?_
  refine W.seq ?_
  refine W.region rfl ?_
  refine L.va (x_mvS rfl) ?_
  refine L.va (x_lenK (m := 1) rfl rfl Try.underlying98 rfl) ?_
  refine L.va (x_boolK (r := false) (by decide) (x_eql (m := 1) (k := 0) rfl rfl)) ?_
  refine L.nil ?_
  show W _ _ _ _ _ _
  refine W.condF rfl ?_
  refine W.skip ?_
  show W _ _ _ _ _ _
  refine W.seq ?_
  refine W.region rfl ?_
  refine L.va (x_asS rfl) ?_
  refine L.nil ?_
  show W _ _ _ _ _ _
  refine W.seq ?_
  refine W.seq ?_
  refine W.region rfl ?_
  refine L.va (x_mvP rfl) ?_
  refine L.va (x_nilCheck rfl) ?_
  refine L.va (x_field rfl Try.underlying101 rfl sz99 (by decide)) ?_
  refine L.va (x_load rfl Try.underlying99 rfl (hK.cellAt 2 (v := .slice psa 2 psc) rfl)) ?_
  refine L.va (x_lenK (m := 2) rfl rfl Try.underlying99 rfl) ?_
  refine L.va (x_mvI rfl) ?_
  refine L.nil ?_
  show W _ _ _ _ _ _
  refine W.block ?_
  refine W.rounds 3 ?_
  refine Rounds.go ?_
  refine W.seq ?_
  refine W.region rfl ?_
  refine L.va (x_boolK (r := true) (by decide) (x_lss (m := 0) (k := 2) rfl rfl)) ?_
  refine L.nil ?_
  show W _ _ _ _ _ _
  refine W.seq ?_
  refine W.condT rfl ?_
  refine W.skip ?_
  show W _ _ _ _ _ _
  refine W.seq ?_
  refine W.block ?_
  refine W.seq ?_
  refine W.region rfl ?_
  refine L.va (x_idx (i := 0) rfl rfl Try.underlying99 sz102 hP.sl (by decide)) ?_
  refine L.va (x_load (v := .pointer (some ⟨(PX 0), 0, none⟩)) rfl Try.underlying102 rfl (hP.cellK (k := 0) rfl rfl)) ?_
  refine L.va (x_asP rfl) ?_
  refine L.nil ?_
  show W _ _ _ _ _ _
  refine W.region rfl ?_
  refine L.va (x_mvS rfl) ?_
  refine L.va (x_mvP rfl) ?_
  refine L.va (x_mvP rfl) ?_
  refine L.call (x_call2 rfl rfl Try.func48 rfl nm48 rfl) (aiget (PX 0) wb obj _ pav0 0 w0 hX0 hW) ?_
  rintro _ w ⟨rfl, hbw⟩
  have hm := hm.step hbw (Nat.le_trans hBs hm.size)
  have hK := hK.keep hbw
  have hW := hW.keep hbw
  have hR := hR.keep hbw
  have hL := hL.keep hbw
  have hX0 := hX0.keep hbw
  have hX1 := hX1.keep hbw
  have hP := hP.keep hbw
  have hLs := hLs.keep hbw
  have hS5 := hS5.keep hbw
  have hXX := hXX.keep hbw
  refine L.build1 (cs := #[.int .i64 0]) rfl rfl Try.underlying32 sz2 rfl ⟨_, zr2⟩ (by decide) (fun w b34 F34 => ?_)
  have lt34 : w0.heap.size ≤ b34 := by have h9 := F34.here; have h8 := hm.size; omega
  have hm := hm.step F34.below (Nat.le_trans hBs hm.size)
  have hK := hK.keep F34.below
  have hW := hW.keep F34.below
  have hR := hR.keep F34.below
  have hL := hL.keep F34.below
  have hX0 := hX0.keep F34.below
  have hX1 := hX1.keep F34.below
  have hP := hP.keep F34.below
  have hLs := hLs.keep F34.below
  have hS5 := hS5.keep F34.below
  have hXX := hXX.keep F34.below
  have hB34 := F34.blk
  have hsz35r2 := hm.size
  refine L.appendAny (B := w0.heap.size) rfl rfl Try.underlying32 in2 rfl (by decide) (Own.nil w w0.heap.size 2 1) (fun h => by cases h) (news := [.int .i64 0]) rfl (fun ad had j u hj => by
    cases had
    rw [Addr.add_lit]
    match j, hj with
    | 0, hj => cases hj; exact hB34.cellAt 0 rfl) (fun u hu => by simp only [List.mem_cons, List.not_mem_nil, or_false] at hu; subst hu; rfl) (by decide) (by decide) (by omega) (fun a35r2 c35r2 w2 hO35r2 hg hbel _ => ?_)
  have hO35r2 : Own w2 w0.heap.size 2 1 a35r2 1 c35r2 [.int .i64 0] := hO35r2
  have hbel2 := below_none hg
  have hm := hm.step hbel2 (Nat.le_trans hBs hm.size)
  have hK := hK.keep hbel2
  have hW := hW.keep hbel2
  have hR := hR.keep hbel2
  have hL := hL.keep hbel2
  have hX0 := hX0.keep hbel2
  have hX1 := hX1.keep hbel2
  have hP := hP.keep hbel2
  have hLs := hLs.keep hbel2
  have hS5 := hS5.keep hbel2
  have hXX := hXX.keep hbel2
  have hB34 := hB34.keep hbel2
  clear hbel2 hbel hg
  rename World => w
  refine L.va (x_asS rfl) ?_
  refine L.nil ?_
  refine B.nrm ?_
  show W _ _ _ _ _ _
  refine W.region rfl ?_
  refine L.va (x_addK (r := 1) (by decide) (by decide) rfl rfl) ?_
  refine L.va (x_mvI rfl) ?_
  refine L.nil ?_
  refine T.nrm ?_
  refine Rounds.go ?_
  refine W.seq ?_
  refine W.region rfl ?_
  refine L.va (x_boolK (r := true) (by decide) (x_lss (m := 1) (k := 2) rfl rfl)) ?_
  refine L.nil ?_
  show W _ _ _ _ _ _
  refine W.seq ?_
  refine W.condT rfl ?_
  refine W.skip ?_
  show W _ _ _ _ _ _
  refine W.seq ?_
  refine W.block ?_
  refine W.seq ?_
  refine W.region rfl ?_
  refine L.va (x_idx (i := 1) rfl rfl Try.underlying99 sz102 hP.sl (by decide)) ?_
  refine L.va (x_load (v := .pointer (some ⟨(PX 1), 0, none⟩)) rfl Try.underlying102 rfl (hP.cellK (k := 1) rfl rfl)) ?_
  refine L.va (x_asP rfl) ?_
  refine L.nil ?_
  show W _ _ _ _ _ _
  refine W.region rfl ?_
  refine L.va (x_mvS rfl) ?_
  refine L.va (x_mvP rfl) ?_
  refine L.va (x_mvP rfl) ?_
  refine L.call (x_call2 rfl rfl Try.func48 rfl nm48 rfl) (aiget (PX 1) wb obj _ pav1 0 w hX1 hW) ?_
  rintro _ w ⟨rfl, hbw⟩
  have hm := hm.step hbw (Nat.le_trans hBs hm.size)
  have hK := hK.keep hbw
  have hW := hW.keep hbw
  have hR := hR.keep hbw
  have hL := hL.keep hbw
  have hX0 := hX0.keep hbw
  have hX1 := hX1.keep hbw
  have hP := hP.keep hbw
  have hLs := hLs.keep hbw
  have hS5 := hS5.keep hbw
  have hXX := hXX.keep hbw
  have hB34 := hB34.keep hbw
  have hO35r2 := hO35r2.keep hbw
  refine L.build1 (cs := #[.int .i64 0]) rfl rfl Try.underlying32 sz2 rfl ⟨_, zr2⟩ (by decide) (fun w b34 F34 => ?_)
  have lt34 : w0.heap.size ≤ b34 := by have h9 := F34.here; have h8 := hm.size; omega
  have hto34_hO35r2 := Own.ne F34 hO35r2
  have hm := hm.step F34.below (Nat.le_trans hBs hm.size)
  have hK := hK.keep F34.below
  have hW := hW.keep F34.below
  have hR := hR.keep F34.below
  have hL := hL.keep F34.below
  have hX0 := hX0.keep F34.below
  have hX1 := hX1.keep F34.below
  have hP := hP.keep F34.below
  have hLs := hLs.keep F34.below
  have hS5 := hS5.keep F34.below
  have hXX := hXX.keep F34.below
  have hB34 := hB34.keep F34.below
  have hO35r2 := hO35r2.keep F34.below
  have hB34 := F34.blk
  have hsz35r3 := hm.size
  refine L.appendAny (B := w0.heap.size) rfl rfl Try.underlying32 in2 rfl (by decide) hO35r2 (fun h => by cases h) (news := [.int .i64 0]) rfl (fun ad had j u hj => by
    cases had
    rw [Addr.add_lit]
    match j, hj with
    | 0, hj => cases hj; exact hB34.cellAt 0 rfl) (fun u hu => by simp only [List.mem_cons, List.not_mem_nil, or_false] at hu; subst hu; rfl) (by decide) (by decide) (by omega) (fun a35r3 c35r3 w2 hO35r3 hg hbel _ => ?_)
  have hO35r3 : Own w2 w0.heap.size 2 1 a35r3 2 c35r3 [.int .i64 0, .int .i64 0] := hO35r3
  have hmo : ModT w w2 w0.heap.size [2] := ModT.app hO35r2 hg hbel rfl hO35r3
  have hm := ModT.appOwn hm hO35r2 hg hBs
  have hK := hK.mod hmo rfl
  have hW := hW.mod hmo rfl
  have hR := hR.mod hmo rfl
  have hL := hL.mod hmo rfl
  have hX0 := hX0.mod hmo rfl
  have hX1 := hX1.mod hmo rfl
  have hP := hP.mod hmo rfl
  have hLs := hLs.mod hmo rfl
  have hS5 := hS5.mod hmo rfl
  have hXX := hXX.mod hmo rfl
  -- LOST hO35r2
  -- LOST hB34
  clear hmo hbel hg hO35r2
  rename World => w
  refine L.va (x_asS rfl) ?_
  refine L.nil ?_
  refine B.nrm ?_
  show W _ _ _ _ _ _
  refine W.region rfl ?_
  refine L.va (x_addK (r := 2) (by decide) (by decide) rfl rfl) ?_
  refine L.va (x_mvI rfl) ?_
  refine L.nil ?_
  refine T.nrm ?_
  refine Rounds.go ?_
  refine W.seq ?_
  refine W.region rfl ?_
  refine L.va (x_boolK (r := false) (by decide) (x_lss (m := 2) (k := 2) rfl rfl)) ?_
  refine L.nil ?_
  show W _ _ _ _ _ _
  refine W.seq ?_
  refine W.condF rfl ?_
  refine W.exit ?_
  repeat (first | refine T.exit ?_ | refine N.exit ?_ | refine B.exitNe (by decide) ?_)
  refine B.exitEq ?_
  show W _ _ _ _ _ _
  refine W.seq ?_
  refine W.region rfl ?_
  refine L.va (x_asS rfl) ?_
  refine L.va (x_asS rfl) ?_
  refine L.nil ?_
  show W _ _ _ _ _ _
  refine W.seq ?_
  refine W.label ?_
  show W _ _ _ _ _ _
  refine W.seq ?_
  refine W.seq ?_
  refine W.region rfl ?_
  refine L.va (x_mvS rfl) ?_
  refine L.va (x_lenK (m := 1) rfl rfl Try.underlying98 rfl) ?_
  refine L.va (x_mvI rfl) ?_
  refine L.nil ?_
  show W _ _ _ _ _ _
  refine W.block ?_
  refine W.rounds 2 ?_
  refine Rounds.go ?_
  refine W.seq ?_
  refine W.region rfl ?_
  refine L.va (x_boolK (r := true) (by decide) (x_lss (m := 0) (k := 1) rfl rfl)) ?_
  refine L.nil ?_
  show W _ _ _ _ _ _
  refine W.seq ?_
  refine W.condT rfl ?_
  refine W.skip ?_
  show W _ _ _ _ _ _
  refine W.seq ?_
  refine W.block ?_
  refine W.seq ?_
  refine W.region rfl ?_
  refine L.va (x_idx (i := 0) rfl rfl Try.underlying98 sz110 hLs.sl (by decide)) ?_
  refine L.va (x_loadAgg (cs := [.int .i64 num, .int .i64 gen, .int .i64 2]) rfl Try.underlying110 rfl sz110 rfl (hLs.aggK (k := 0) rfl rfl)) ?_
  refine L.alloc (cs := #[.int .i64 0, .int .i64 0, .int .i64 0]) zr110 rfl (fun w b13 F13 => ?_)
  have lt13 : w0.heap.size ≤ b13 := by have h9 := F13.here; have h8 := hm.size; omega
  have hto13_hLs := Own.ne F13 hLs
  have hm := hm.step F13.below (Nat.le_trans hBs hm.size)
  have hK := hK.keep F13.below
  have hW := hW.keep F13.below
  have hR := hR.keep F13.below
  have hL := hL.keep F13.below
  have hX0 := hX0.keep F13.below
  have hX1 := hX1.keep F13.below
  have hP := hP.keep F13.below
  have hLs := hLs.keep F13.below
  have hS5 := hS5.keep F13.below
  have hXX := hXX.keep F13.below
  have hO35r3 := hO35r3.keep F13.below
  have hB13 := F13.blk
  refine L.put (b := b13) (o := 0) (vs := [.int .i64 num, .int .i64 gen, .int .i64 2]) #[.int .i64 num, .int .i64 gen, .int .i64 2] rfl rfl rfl sz110 rfl rfl hB13 (Nat.le_of_ble_eq_true rfl) rfl (fun w hnew hg hsz => ?_)
  have hm0 := ModT.put0 hB13 hg
  have hm := hm.own hg lt13 hBs
  have hK := hK.mod hm0 rfl
  have hW := hW.mod hm0 rfl
  have hR := hR.mod hm0 rfl
  have hL := hL.mod hm0 rfl
  have hX0 := hX0.mod hm0 rfl
  have hX1 := hX1.mod hm0 rfl
  have hP := hP.mod hm0 rfl
  have hLs := hLs.otherB hg hto13_hLs
  have hS5 := hS5.mod hm0 rfl
  have hXX := hXX.mod hm0 rfl
  have hO35r3 := hO35r3.mod hm0 rfl
  have hB13 := hnew
  clear hm0
  refine L.nil ?_
  show W _ _ _ _ _ _
  refine W.seq ?_
  refine W.seq ?_
  refine W.region rfl ?_
  refine L.va (x_mvS rfl) ?_
  refine L.va (x_lenK (m := 2) rfl rfl Try.underlying32 rfl) ?_
  refine L.va (x_mvI rfl) ?_
  refine L.nil ?_
  show W _ _ _ _ _ _
  refine W.block ?_
  refine W.rounds 3 ?_
  refine Rounds.go ?_
  refine W.seq ?_
  refine W.region rfl ?_
  refine L.va (x_boolK (r := true) (by decide) (x_lss (m := 0) (k := 2) rfl rfl)) ?_
  refine L.nil ?_
  show W _ _ _ _ _ _
  refine W.seq ?_
  refine W.condT rfl ?_
  refine W.skip ?_
  show W _ _ _ _ _ _
  refine W.seq ?_
  refine W.block ?_
  refine W.seq ?_
  refine W.region rfl ?_
  refine L.va (x_idx (i := 0) rfl rfl Try.underlying32 sz2 hO35r3.sl (by decide)) ?_
  refine L.va (x_load (v := .int .i64 0) rfl Try.underlying2 rfl (hO35r3.cellK (k := 0) rfl rfl)) ?_
  refine L.va (x_asI rfl) ?_
  refine L.nil ?_
  show W _ _ _ _ _ _
  refine W.seq ?_
  refine W.region rfl ?_
  refine L.va (x_mvI rfl) ?_
  refine L.va (x_boolK (r := false) (by decide) (x_neq (m := 0) (k := 0) rfl rfl)) ?_
  refine L.va (x_mvB rfl) ?_
  refine L.off rfl ?_
  refine L.off rfl ?_
  refine L.off rfl ?_
  refine L.off rfl ?_
  refine L.off rfl ?_
  refine L.va (x_pickF rfl) ?_
  refine L.nil ?_
  show W _ _ _ _ _ _
  refine W.condF rfl ?_
  refine W.skip ?_
  refine B.nrm ?_
  show W _ _ _ _ _ _
  refine W.region rfl ?_
  refine L.va (x_addK (r := 1) (by decide) (by decide) rfl rfl) ?_
  refine L.va (x_mvI rfl) ?_
  refine L.nil ?_
  refine T.nrm ?_
  refine Rounds.go ?_
  refine W.seq ?_
  refine W.region rfl ?_
  refine L.va (x_boolK (r := true) (by decide) (x_lss (m := 1) (k := 2) rfl rfl)) ?_
  refine L.nil ?_
  show W _ _ _ _ _ _
  refine W.seq ?_
  refine W.condT rfl ?_
  refine W.skip ?_
  show W _ _ _ _ _ _
  refine W.seq ?_
  refine W.block ?_
  refine W.seq ?_
  refine W.region rfl ?_
  refine L.va (x_idx (i := 1) rfl rfl Try.underlying32 sz2 hO35r3.sl (by decide)) ?_
  refine L.va (x_load (v := .int .i64 0) rfl Try.underlying2 rfl (hO35r3.cellK (k := 1) rfl rfl)) ?_
  refine L.va (x_asI rfl) ?_
  refine L.nil ?_
  show W _ _ _ _ _ _
  refine W.seq ?_
  refine W.region rfl ?_
  refine L.va (x_mvI rfl) ?_
  refine L.va (x_boolK (r := false) (by decide) (x_neq (m := 0) (k := 0) rfl rfl)) ?_
  refine L.va (x_mvB rfl) ?_
  refine L.off rfl ?_
  refine L.off rfl ?_
  refine L.off rfl ?_
  refine L.off rfl ?_
  refine L.off rfl ?_
  refine L.va (x_pickF rfl) ?_
  refine L.nil ?_
  show W _ _ _ _ _ _
  refine W.condF rfl ?_
  refine W.skip ?_
  refine B.nrm ?_
  show W _ _ _ _ _ _
  refine W.region rfl ?_
  refine L.va (x_addK (r := 2) (by decide) (by decide) rfl rfl) ?_
  refine L.va (x_mvI rfl) ?_
  refine L.nil ?_
  refine T.nrm ?_
  refine Rounds.go ?_
  refine W.seq ?_
  refine W.region rfl ?_
  refine L.va (x_boolK (r := false) (by decide) (x_lss (m := 2) (k := 2) rfl rfl)) ?_
  refine L.nil ?_
  show W _ _ _ _ _ _
  refine W.seq ?_
  refine W.condF rfl ?_
  refine W.exit ?_
  repeat (first | refine T.exit ?_ | refine N.exit ?_ | refine B.exitNe (by decide) ?_)
  refine B.exitEq ?_
  show W _ _ _ _ _ _
  refine W.region rfl ?_
  refine L.va (x_mvS rfl) ?_
  refine L.va (x_loadAgg (cs := [.int .i64 num, .int .i64 gen, .int .i64 2]) rfl Try.underlying110 rfl sz110 rfl (hB13.aggAt rfl)) ?_
  refine L.build1 (cs := #[.int .i64 num, .int .i64 gen, .int .i64 2]) rfl rfl Try.underlying98 sz110 rfl ⟨_, zr110⟩ (by decide) (fun w b65 F65 => ?_)
  have lt65 : w0.heap.size ≤ b65 := by have h9 := F65.here; have h8 := hm.size; omega
  have ne65hB13 := F65.ne hB13
  have hto65_hLs := Own.ne F65 hLs
  have hm := hm.step F65.below (Nat.le_trans hBs hm.size)
  have hK := hK.keep F65.below
  have hW := hW.keep F65.below
  have hR := hR.keep F65.below
  have hL := hL.keep F65.below
  have hX0 := hX0.keep F65.below
  have hX1 := hX1.keep F65.below
  have hP := hP.keep F65.below
  have hLs := hLs.keep F65.below
  have hS5 := hS5.keep F65.below
  have hXX := hXX.keep F65.below
  have hO35r3 := hO35r3.keep F65.below
  have hB13 := hB13.keep F65.below
  have hB65 := F65.blk
  have hsz66 := hm.size
  refine L.appendAny (B := w0.heap.size) rfl rfl Try.underlying98 in110 rfl (by decide) (Own.nil w w0.heap.size 110 3) (fun h => by cases h) (news := [.int .i64 num, .int .i64 gen, .int .i64 2]) rfl (fun ad had j u hj => by
    cases had
    rw [Addr.add_lit]
    match j, hj with
    | 0, hj => cases hj; exact hB65.cellAt 0 rfl
    | 1, hj => cases hj; exact hB65.cellAt 1 rfl
    | 2, hj => cases hj; exact hB65.cellAt 2 rfl) (fun u hu => by simp only [List.mem_cons, List.not_mem_nil, or_false] at hu; rcases hu with rfl | rfl | rfl <;> rfl) (by decide) (by decide) (by omega) (fun a66 c66 w2 hO66 hg hbel _ => ?_)
  have hO66 : Own w2 w0.heap.size 110 3 a66 1 c66 [.int .i64 num, .int .i64 gen, .int .i64 2] := hO66
  have hbel2 := below_none hg
  have hm := hm.step hbel2 (Nat.le_trans hBs hm.size)
  have hK := hK.keep hbel2
  have hW := hW.keep hbel2
  have hR := hR.keep hbel2
  have hL := hL.keep hbel2
  have hX0 := hX0.keep hbel2
  have hX1 := hX1.keep hbel2
  have hP := hP.keep hbel2
  have hLs := hLs.keep hbel2
  have hS5 := hS5.keep hbel2
  have hXX := hXX.keep hbel2
  have hO35r3 := hO35r3.keep hbel2
  have hB13 := hB13.keep hbel2
  have hB65 := hB65.keep hbel2
  clear hbel2 hbel hg
  rename World => w
  refine L.va (x_asS rfl) ?_
  refine L.nil ?_
  refine B.nrm ?_
  show W _ _ _ _ _ _
  refine W.region rfl ?_
  refine L.va (x_addK (r := 1) (by decide) (by decide) rfl rfl) ?_
  refine L.va (x_mvI rfl) ?_
  refine L.nil ?_
  refine T.nrm ?_
  refine Rounds.go ?_
  refine W.seq ?_
  refine W.region rfl ?_
  refine L.va (x_boolK (r := false) (by decide) (x_lss (m := 1) (k := 1) rfl rfl)) ?_
  refine L.nil ?_
  show W _ _ _ _ _ _
  refine W.seq ?_
  refine W.condF rfl ?_
  refine W.exit ?_
  repeat (first | refine T.exit ?_ | refine N.exit ?_ | refine B.exitNe (by decide) ?_)
  refine B.exitEq ?_
  show W _ _ _ _ _ _
  refine W.seq ?_
  refine W.seq ?_
  refine W.region rfl ?_
  refine L.va (x_mvS rfl) ?_
  refine L.va (x_lenK (m := 1) rfl rfl Try.underlying98 rfl) ?_
  refine L.va (x_boolK (r := false) (by decide) (x_eql (m := 1) (k := 0) rfl rfl)) ?_
  refine L.nil ?_
  show W _ _ _ _ _ _
  refine W.condF rfl ?_
  refine W.skip ?_
  show W _ _ _ _ _ _
  refine W.seq ?_
  refine W.region rfl ?_
  refine L.va (x_mvP rfl) ?_
  refine L.va (x_nilCheck rfl) ?_
  refine L.va (x_field rfl Try.underlying101 rfl sz96 (by decide)) ?_
  refine L.va (x_load rfl Try.underlying96 rfl (hK.cellAt 3 (v := .pointer (some ⟨lb, 0, none⟩)) rfl)) ?_
  refine L.va (x_mvP rfl) ?_
  refine L.va (x_mvS rfl) ?_
  refine L.call (x_call3 rfl rfl rfl Try.func46 rfl nm46 rfl) (rlset lb wb obj _ none 0 0 ka kn kc w hL hW) ?_
  rintro _ w ⟨hnew, hg⟩
  have hm0 := ModT.put0 hL hg
  have hm := hm.trans (ModT.put hL hg lL rfl)
  have hK := hK.mod hm0 rfl
  have hW := hW.mod hm0 rfl
  have hR := hR.mod hm0 rfl
  have hX0 := hX0.mod hm0 rfl
  have hX1 := hX1.mod hm0 rfl
  have hP := hP.mod hm0 rfl
  have hLs := hLs.mod hm0 rfl
  have hS5 := hS5.mod hm0 rfl
  have hXX := hXX.mod hm0 rfl
  have hO35r3 := hO35r3.mod hm0 rfl
  have hB13 := hB13.mod hm0 rfl
  have hB65 := hB65.mod hm0 rfl
  have hO66 := hO66.mod hm0 rfl
  have hL := hnew
  clear hm0
  refine L.nil ?_
  show W _ _ _ _ _ _
  refine W.seq ?_
  refine W.seq ?_
  refine W.region rfl ?_
  refine L.va (x_mvS rfl) ?_
  refine L.va (x_lenK (m := 1) rfl rfl Try.underlying98 rfl) ?_
  refine L.va (x_mvI rfl) ?_
  refine L.nil ?_
  show W _ _ _ _ _ _
  refine W.block ?_
  refine W.rounds 2 ?_
  refine Rounds.go ?_
  refine W.seq ?_
  refine W.region rfl ?_
  refine L.va (x_boolK (r := true) (by decide) (x_lss (m := 0) (k := 1) rfl rfl)) ?_
  refine L.nil ?_
  show W _ _ _ _ _ _
  refine W.seq ?_
  refine W.condT rfl ?_
  refine W.skip ?_
  show W _ _ _ _ _ _
  refine W.seq ?_
  refine W.block ?_
  refine W.seq ?_
  refine W.region rfl ?_
  refine L.va (x_idx (i := 0) rfl rfl Try.underlying98 sz110 hO66.sl (by decide)) ?_
  refine L.va (x_loadAgg (cs := [.int .i64 num, .int .i64 gen, .int .i64 2]) rfl Try.underlying110 rfl sz110 rfl (hO66.aggK (k := 0) rfl rfl)) ?_
  refine L.alloc (cs := #[.int .i64 0, .int .i64 0, .int .i64 0]) zr110 rfl (fun w b17 F17 => ?_)
  have lt17 : w0.heap.size ≤ b17 := by have h9 := F17.here; have h8 := hm.size; omega
  have ne17hB13 := F17.ne hB13
  have ne17hB65 := F17.ne hB65
  have hto17_hLs := Own.ne F17 hLs
  have hto17_hO66 := Own.ne F17 hO66
  have hm := hm.step F17.below (Nat.le_trans hBs hm.size)
  have hK := hK.keep F17.below
  have hW := hW.keep F17.below
  have hR := hR.keep F17.below
  have hL := hL.keep F17.below
  have hX0 := hX0.keep F17.below
  have hX1 := hX1.keep F17.below
  have hP := hP.keep F17.below
  have hLs := hLs.keep F17.below
  have hS5 := hS5.keep F17.below
  have hXX := hXX.keep F17.below
  have hO35r3 := hO35r3.keep F17.below
  have hB13 := hB13.keep F17.below
  have hB65 := hB65.keep F17.below
  have hO66 := hO66.keep F17.below
  have hB17 := F17.blk
  refine L.put (b := b17) (o := 0) (vs := [.int .i64 num, .int .i64 gen, .int .i64 2]) #[.int .i64 num, .int .i64 gen, .int .i64 2] rfl rfl rfl sz110 rfl rfl hB17 (Nat.le_of_ble_eq_true rfl) rfl (fun w hnew hg hsz => ?_)
  have hm0 := ModT.put0 hB17 hg
  have hm := hm.own hg lt17 hBs
  have hK := hK.mod hm0 rfl
  have hW := hW.mod hm0 rfl
  have hR := hR.mod hm0 rfl
  have hL := hL.mod hm0 rfl
  have hX0 := hX0.mod hm0 rfl
  have hX1 := hX1.mod hm0 rfl
  have hP := hP.mod hm0 rfl
  have hLs := hLs.otherB hg hto17_hLs
  have hS5 := hS5.mod hm0 rfl
  have hXX := hXX.mod hm0 rfl
  have hO35r3 := hO35r3.mod hm0 rfl
  have hB13 := hB13.other hg ne17hB13
  have hB65 := hB65.other hg ne17hB65
  have hO66 := hO66.otherB hg hto17_hO66
  have hB17 := hnew
  clear hm0
  refine L.nil ?_
  show W _ _ _ _ _ _
  refine W.lastL 7 (fun w' => Below w.heap.size w w') (by kernel_rfl) (by kernel_rfl) (by kernel_rfl) (by kernel_rfl) ((Below.refl w.heap.size w).drew) ?_
  refine D.va (fun w' hw' => (x_mvP rfl)) ?_
  refine D.va (fun w' hw' => (x_nilCheck rfl)) ?_
  refine D.va (fun w' hw' => (x_field rfl Try.underlying101 rfl sz24 (by decide))) ?_
  refine D.va (fun w' hw' => (x_load rfl Try.underlying24 rfl ((hK.keep hw').cellAt 0 (v := .pointer (some (⟨hp, 0, none⟩))) rfl))) ?_
  refine D.va (fun w' hw' => (x_mvP rfl)) ?_
  refine D.va (fun w' hw' => (x_field rfl Try.underlying110 rfl sz35 (by decide))) ?_
  refine D.va (fun w' hw' => (x_loadAgg (cs := [.int .i64 num, .int .i64 gen]) rfl Try.underlying35 rfl sz35 rfl ((hB17.keep hw').aggAt rfl))) ?_
  refine D.nil (fun w hbw => ?_)
  have hm := hm.step hbw (Nat.le_trans hBs hm.size)
  have hK := hK.keep hbw
  have hW := hW.keep hbw
  have hR := hR.keep hbw
  have hL := hL.keep hbw
  have hX0 := hX0.keep hbw
  have hX1 := hX1.keep hbw
  have hP := hP.keep hbw
  have hLs := hLs.keep hbw
  have hS5 := hS5.keep hbw
  have hXX := hXX.keep hbw
  have hO35r3 := hO35r3.keep hbw
  have hB13 := hB13.keep hbw
  have hB65 := hB65.keep hbw
  have hO66 := hO66.keep hbw
  have hB17 := hB17.keep hbw
  clear hbw
  refine L.call (x_call3 rfl rfl rfl Try.func13 rfl nm13 rfl) (free_x Bs hp 5 most num gen s w hS5 (Nat.le_trans hBs hm.size) hm40 hgn) ?_
  rintro _ w ⟨b, s3, hbv, hs3, rfl, hS2, hmo⟩
  have hm := hm.trans (hmo.wide rfl)
  have hK := hK.mod hmo rfl
  have hW := hW.mod hmo rfl
  have hR := hR.mod hmo rfl
  have hL := hL.mod hmo rfl
  have hX0 := hX0.mod hmo rfl
  have hX1 := hX1.mod hmo rfl
  have hP := hP.mod hmo rfl
  have hLs := hLs.mod hmo rfl
  have hXX := hXX.mod hmo rfl
  have hO35r3 := hO35r3.mod hmo rfl
  have hB13 := hB13.mod hmo rfl
  have hB65 := hB65.mod hmo rfl
  have hO66 := hO66.mod hmo rfl
  have hB17 := hB17.mod hmo rfl
  clear hmo
  have hS5 := hS2
  refine L.nil ?_
  refine B.nrm ?_
  show W _ _ _ _ _ _
  refine W.region rfl ?_
  refine L.va (x_addK (r := 1) (by decide) (by decide) rfl rfl) ?_
  refine L.va (x_mvI rfl) ?_
  refine L.nil ?_
  refine T.nrm ?_
  refine Rounds.go ?_
  refine W.seq ?_
  refine W.region rfl ?_
  refine L.va (x_boolK (r := false) (by decide) (x_lss (m := 1) (k := 1) rfl rfl)) ?_
  refine L.nil ?_
  show W _ _ _ _ _ _
  refine W.seq ?_
  refine W.condF rfl ?_
  refine W.exit ?_
  repeat (first | refine T.exit ?_ | refine N.exit ?_ | refine B.exitNe (by decide) ?_)
  refine B.exitEq ?_
  show W _ _ _ _ _ _
  refine W.seq ?_
  refine W.region rfl ?_
  refine L.va (x_mvS rfl) ?_
  refine L.va (x_lenK (m := 1) rfl rfl Try.underlying98 rfl) ?_
  refine L.va (x_asI rfl) ?_
  refine L.nil ?_
  show W _ _ _ _ _ _
  refine W.ret ?_
  repeat (first | refine T.ret ?_ | refine B.ret ?_ | refine N.ret ?_)
  refine ends.one (.inr rfl) rfl ?_
  exact ⟨rfl, ⟨rob, wb, lb, psa, psc, PX, av, hK, hW, hR, hL, hP, hXX, lK, lR, lL, hnp⟩, by rw [← hs3]; exact hS5, hm⟩

end Go.Proofs.Ytahcjihhkmolpaa
