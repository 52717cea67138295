/- What the claim leans on, part 6. The document's machine: a client goes on. -/
import Derived.Test.YtfmoeemolgjodaaK5
set_option linter.unusedVariables false
section
namespace Go.Vy.Sc
open Go Go.Conc Go.Yc Go.RowKit Go.Proofs Go.Proofs.Ytfmoeemolgjodaa
open Go.Vc Go.Wg
theorem jms_same {M:Mc} {k j:Nat} (h:M.jms[k]? = some j):{ M with jms:=M.jms.set k j } = M:=by
 have:M.jms.set k j = M.jms:=by
  apply List.ext_getElem?
  intro q
  by_cases hq:q = k
  ·subst hq; rw [set_same _ h,h]
  ·exact set_ne _ hq
 rw [this]
section
variable [Ctx Try.prog]
end
section
theorem buGo_0 (x0:Int) (x1:Int) (x2:Int) (x3:ByteArray):Try.prog.built 47 [(0,.int .i64 x0),(1,.int .i64 x1),(2,.int .i64 x2),(3,.string x3)] = some #[.int .i64 x0,.int .i64 x1,.int .i64 x2,.string x3]:=by kernel_rfl
end
section
variable [Ctx Try.prog]
set_option maxHeartbeats 1000000 in
theorem next_c {w0 wS w:World} {b m bc:Nat} {ba:Option Addr} {M:Mc} {bo:Nat->List OpD} {aa:Nat->Option Addr} {cc:Nat->Nat} (hBo:BodsAt w0 ba m bo aa cc) (hR:Rf w0 wS b m ba bc w M) {k i j:Nat} {x:OpD} (hk:k < m) (hp:M.pls[k]? = some i) (hj:M.jms[k]? = some j) (hi:i <= 1048576):C Try.prog 43 #[.pointer (some ⟨b,0,none⟩),.int .i64 (k:Int),.agg (opC x).toArray] w fun v w'=>v = .int .i64 ((nxt (bo k) x i j M.c).1:Nat)/\Rf w0 wS b m ba bc w' { M with jms:=M.jms.set k (nxt (bo k) x i j M.c).2 }:=by
 refine C.enter (n:=70) Try.func43 rfl rfl ?_
 refine W.seq ?_
 refine W.region rfl ?_
 refine L.box (cs:=#[.int .i64 (x.kind),.int .i64 (x.step.kind),.int .i64 (x.step.obj),.int .i64 (x.step.num),.bool (x.free),.int .i64 (x.cell),.int .i64 (x.least),.int .i64 (x.to),.int .i64 (x.by_),.string (x.text)]) rfl rfl (fun w b5 F5=>?_)
 have lt5:w.heap.size <= w.heap.size:=Nat.le_refl _
 have hR:=hR.keep F5.below
 have hB5:=F5.blk
 refine L.va (x_asI rfl) ?_
 refine L.nil ?_
 show W _ _ _ _ _ _
 refine W.seq ?_
 refine W.seq ?_
 by_cases hk6:x.kind = 6
 ·by_cases hA:M.c (at4 x.to) < x.least
  ·by_cases hB:(j:Int) < 50
   ·by_cases hC:0 <= x.cell
    ·by_cases hD:x.cell < (bo k).length
     ·have hjmp:jumps (bo k) x j M.c = true:=by
       have hB':j < 50:=by omega
       simp [jumps,hk6,hA,hB',hC,hD]
      have hnx:nxt (bo k) x i j M.c = (x.cell.toNat,j + 1):=if_pos hjmp
      rw [hnx]
      refine W.fl 42 [7] [0,1,2,3,4,5,6,8,9,12,13,7,10,11,14,15,16,17,18,19,20,21,22,23,24,25,26,27,28,29,30,31,32,33,34,35,36,37,38,39,40,41] (fun w'=>Blk w' b5 (opC x).toArray 63/\Rf w0 wS b m ba bc w' M) (by kernel_rfl) (by kernel_rfl) (by kernel_rfl) (by kernel_rfl) (by kernel_rfl) (⟨hB5.keep (Below.refl w.heap.size w).drew,hR.keep (Below.refl w.heap.size w).drew⟩) ?_
      have hdr:Below w.heap.size w w.drew:=(Below.refl w.heap.size w).drew
      have hR:=hR.keep hdr
      have hB5:=hB5.keep hdr
      clear hdr
      generalize w.drew = w at *
      refine F.va rfl rfl (fun w' hw'=>(x_field rfl Try.underlying63 rfl sz3 (by decide))) ?_
      refine F.va rfl rfl (fun w' hw'=>(x_load rfl Try.underlying3 rfl (hw'.1.cellAt 0 (v:=.int .i64 (x.kind)) rfl))) ?_
      refine F.va rfl rfl (fun w' hw'=>(d_boolK (r:=true) (decide_eq_true hk6) (x_eql (m:=x.kind) (k:=6) rfl rfl))) ?_
      refine F.va rfl rfl (fun w' hw'=>(x_mvB rfl)) ?_
      refine F.on rfl rfl rfl (fun w' hw'=>(x_mvP rfl)) ?_
      refine F.on rfl rfl rfl (fun w' hw'=>(x_field rfl Try.underlying63 rfl sz3 (by decide))) ?_
      refine F.on rfl rfl rfl (fun w' hw'=>(x_load rfl Try.underlying3 rfl (hw'.1.cellAt 7 (v:=.int .i64 (x.to)) rfl))) ?_
      refine F.on rfl rfl rfl (fun w' hw'=>(x_nilCheck rfl)) ?_
      refine F.on rfl rfl rfl (fun w' hw'=>(x_field rfl Try.underlying68 rfl sz35 (by decide))) ?_
      refine F.on rfl rfl rfl (fun w' hw'=>(x_field rfl Try.underlying63 rfl sz2 (by decide))) ?_
      refine F.on rfl rfl rfl (fun w' hw'=>(x_load rfl Try.underlying2 rfl (hw'.1.cellAt 6 (v:=.int .i64 (x.least)) rfl))) ?_
      refine F.doo rfl rfl ?_
      refine L.on rfl ?_
      refine L.call (x_call1 rfl Try.func34 rfl nm34 rfl) (at_c x.to w) ?_
      rintro _ w1 ⟨rfl,hw1⟩
      rw [hw1]
      clear hw1 w1
      refine L.nil ⟨rfl,⟨hB5,hR⟩,?_⟩
      refine F.on rfl rfl rfl (fun w' hw'=>(x_idxArr (i:=at4 x.to) rfl rfl Try.underlying35 sz2 (at4_lt _))) ?_
      refine F.on rfl rfl rfl (fun w' hw'=>(x_load (v:=.int .i64 (M.c (at4 x.to))) rfl Try.underlying2 rfl (mc_at (m:=m) (ba:=ba) (bc:=bc) (M:=M) hw'.2.run (at4_lt _)))) ?_
      refine F.on rfl rfl rfl (fun w' hw'=>(d_boolK (r:=true) (decide_eq_true hA) (x_lss (m:=M.c (at4 x.to)) (k:=x.least) rfl rfl))) ?_
      refine F.va rfl rfl (fun w' hw'=>(x_pickT rfl)) ?_
      refine F.va rfl rfl (fun w' hw'=>(x_mvB rfl)) ?_
      refine F.on rfl rfl rfl (fun w' hw'=>(x_mvP rfl)) ?_
      refine F.on rfl rfl rfl (fun w' hw'=>(x_nilCheck rfl)) ?_
      refine F.on rfl rfl rfl (fun w' hw'=>(x_field rfl Try.underlying68 rfl sz26 (by decide))) ?_
      refine F.on rfl rfl rfl (fun w' hw'=>(x_load rfl Try.underlying26 rfl (hw'.2.run.cellAt 2 (v:=.slice (some ⟨M.jb,0,none⟩) m m) rfl))) ?_
      refine F.on rfl rfl rfl (fun w' hw'=>(x_mvI rfl)) ?_
      refine F.on rfl rfl rfl (fun w' hw'=>(x_index (i:=k) rfl rfl Try.underlying26 sz3 hk)) ?_
      refine F.on rfl rfl rfl (fun w' hw'=>(x_load (v:=.int .i64 (j:Int)) rfl Try.underlying3 rfl ((hw'.2).jm_at hj))) ?_
      refine F.on rfl rfl rfl (fun w' hw'=>(d_boolK (r:=true) (decide_eq_true hB) (x_lss (m:=(j:Int)) (k:=50) rfl rfl))) ?_
      refine F.va rfl rfl (fun w' hw'=>(x_pickT rfl)) ?_
      refine F.va rfl rfl (fun w' hw'=>(x_mvB rfl)) ?_
      refine F.on rfl rfl rfl (fun w' hw'=>(x_field rfl Try.underlying63 rfl sz3 (by decide))) ?_
      refine F.on rfl rfl rfl (fun w' hw'=>(x_load rfl Try.underlying3 rfl (hw'.1.cellAt 5 (v:=.int .i64 (x.cell)) rfl))) ?_
      refine F.on rfl rfl rfl (fun w' hw'=>(d_boolK (r:=true) (decide_eq_true hC) (x_geq (m:=x.cell) (k:=0) rfl rfl))) ?_
      refine F.va rfl rfl (fun w' hw'=>(x_pickT rfl)) ?_
      refine F.va rfl rfl (fun w' hw'=>(x_mvB rfl)) ?_
      refine F.on rfl rfl rfl (fun w' hw'=>(x_field rfl Try.underlying63 rfl sz3 (by decide))) ?_
      refine F.on rfl rfl rfl (fun w' hw'=>(x_load rfl Try.underlying3 rfl (hw'.1.cellAt 5 (v:=.int .i64 (x.cell)) rfl))) ?_
      refine F.on rfl rfl rfl (fun w' hw'=>(x_mvP rfl)) ?_
      refine F.on rfl rfl rfl (fun w' hw'=>(x_nilCheck rfl)) ?_
      refine F.on rfl rfl rfl (fun w' hw'=>(x_field rfl Try.underlying68 rfl sz25 (by decide))) ?_
      refine F.on rfl rfl rfl (fun w' hw'=>(x_load rfl Try.underlying25 rfl (hw'.2.run.cellAt 0 (v:=.slice ba m bc) rfl))) ?_
      refine F.on rfl rfl rfl (fun w' hw'=>(x_mvI rfl)) ?_
      refine F.on rfl rfl rfl (fun w' hw'=>(x_idx (i:=k) rfl rfl Try.underlying25 sz64 hBo.sl hk)) ?_
      refine F.on rfl rfl rfl (fun w' hw'=>(x_load (v:=.slice (aa k) (bo k).length (cc k)) rfl Try.underlying64 rfl (cell_keep (hBo.row k hk) (hw'.2).hb))) ?_
      refine F.on rfl rfl rfl (fun w' hw'=>(x_len rfl Try.underlying64 rfl)) ?_
      refine F.nil ?_
      show L _ _ _ _ _ _ _
      refine L.on rfl ?_
      refine L.va (d_boolK (r:=true) (decide_eq_true hD) (x_lss (m:=x.cell) (k:=((bo k).length:Int)) rfl rfl)) ?_
      refine L.va (x_pickT rfl) ?_
      refine L.nil ?_
      show W _ _ _ _ _ _
      refine W.condT rfl ?_
      refine W.seq ?_
      refine W.region rfl ?_
      refine L.va (x_mvP rfl) ?_
      refine L.va (x_nilCheck rfl) ?_
      refine L.va (x_field rfl Try.underlying68 rfl sz26 (by decide)) ?_
      refine L.va (x_load rfl Try.underlying26 rfl (hR.run.cellAt 2 (v:=.slice (some ⟨M.jb,0,none⟩) m m) rfl)) ?_
      refine L.va (x_mvI rfl) ?_
      refine L.va (x_index (i:=k) rfl rfl Try.underlying26 sz3 hk) ?_
      refine L.va (x_load (v:=.int .i64 (j:Int)) rfl Try.underlying3 rfl (hR.jm_at hj)) ?_
      refine L.va (x_inc rfl rfl (by omega)) ?_
      refine L.va (x_index (i:=k) rfl rfl Try.underlying26 sz3 hk) ?_
      have hR0:=hR.base
      refine L.rJ (i:=k) (z:=j + 1) hR0 hk rfl rfl sz3 (fun w hR1 _=>?_)
      have hB5:Blk w b5 (opC x).toArray 63:=hR1.kp _ _ _ _ (blkF_of hB5) (by decide)
      have hR:=hR1.over hR.kp
      clear hR0 hR1
      refine L.nil ?_
      show W _ _ _ _ _ _
      refine W.seq ?_
      refine W.region rfl ?_
      refine L.va (x_field rfl Try.underlying63 rfl sz3 (by decide)) ?_
      have hcl:((x.cell.toNat:Nat):Int) = x.cell:=by omega
      refine L.va (x_load (v:=.int .i64 ((x.cell.toNat:Nat):Int)) rfl Try.underlying3 rfl (by rw [hcl]; exact hB5.cellAt 5 rfl)) ?_
      refine L.va (x_asI rfl) ?_
      refine L.nil ?_
      show W _ _ _ _ _ _
      refine W.ret ?_
      repeat (first | refine T.ret ?_ | refine B.ret ?_ | refine N.ret ?_)
      refine ends.one (.inr rfl) rfl ?_
      exact ⟨rfl,hR⟩
     ·have hjmp:jumps (bo k) x j M.c = false:=by
       have hB':j < 50:=by omega
       simp [jumps,hk6,hA,hB',hC,hD]
      have hnx:nxt (bo k) x i j M.c = (i + 1,j):=if_neg (by rw [hjmp]; decide)
      rw [hnx]
      refine W.fl 42 [7] [0,1,2,3,4,5,6,8,9,12,13,7,10,11,14,15,16,17,18,19,20,21,22,23,24,25,26,27,28,29,30,31,32,33,34,35,36,37,38,39,40,41] (fun w'=>Blk w' b5 (opC x).toArray 63/\Rf w0 wS b m ba bc w' M) (by kernel_rfl) (by kernel_rfl) (by kernel_rfl) (by kernel_rfl) (by kernel_rfl) (⟨hB5.keep (Below.refl w.heap.size w).drew,hR.keep (Below.refl w.heap.size w).drew⟩) ?_
      have hdr:Below w.heap.size w w.drew:=(Below.refl w.heap.size w).drew
      have hR:=hR.keep hdr
      have hB5:=hB5.keep hdr
      clear hdr
      generalize w.drew = w at *
      refine F.va rfl rfl (fun w' hw'=>(x_field rfl Try.underlying63 rfl sz3 (by decide))) ?_
      refine F.va rfl rfl (fun w' hw'=>(x_load rfl Try.underlying3 rfl (hw'.1.cellAt 0 (v:=.int .i64 (x.kind)) rfl))) ?_
      refine F.va rfl rfl (fun w' hw'=>(d_boolK (r:=true) (decide_eq_true hk6) (x_eql (m:=x.kind) (k:=6) rfl rfl))) ?_
      refine F.va rfl rfl (fun w' hw'=>(x_mvB rfl)) ?_
      refine F.on rfl rfl rfl (fun w' hw'=>(x_mvP rfl)) ?_
      refine F.on rfl rfl rfl (fun w' hw'=>(x_field rfl Try.underlying63 rfl sz3 (by decide))) ?_
      refine F.on rfl rfl rfl (fun w' hw'=>(x_load rfl Try.underlying3 rfl (hw'.1.cellAt 7 (v:=.int .i64 (x.to)) rfl))) ?_
      refine F.on rfl rfl rfl (fun w' hw'=>(x_nilCheck rfl)) ?_
      refine F.on rfl rfl rfl (fun w' hw'=>(x_field rfl Try.underlying68 rfl sz35 (by decide))) ?_
      refine F.on rfl rfl rfl (fun w' hw'=>(x_field rfl Try.underlying63 rfl sz2 (by decide))) ?_
      refine F.on rfl rfl rfl (fun w' hw'=>(x_load rfl Try.underlying2 rfl (hw'.1.cellAt 6 (v:=.int .i64 (x.least)) rfl))) ?_
      refine F.doo rfl rfl ?_
      refine L.on rfl ?_
      refine L.call (x_call1 rfl Try.func34 rfl nm34 rfl) (at_c x.to w) ?_
      rintro _ w1 ⟨rfl,hw1⟩
      rw [hw1]
      clear hw1 w1
      refine L.nil ⟨rfl,⟨hB5,hR⟩,?_⟩
      refine F.on rfl rfl rfl (fun w' hw'=>(x_idxArr (i:=at4 x.to) rfl rfl Try.underlying35 sz2 (at4_lt _))) ?_
      refine F.on rfl rfl rfl (fun w' hw'=>(x_load (v:=.int .i64 (M.c (at4 x.to))) rfl Try.underlying2 rfl (mc_at (m:=m) (ba:=ba) (bc:=bc) (M:=M) hw'.2.run (at4_lt _)))) ?_
      refine F.on rfl rfl rfl (fun w' hw'=>(d_boolK (r:=true) (decide_eq_true hA) (x_lss (m:=M.c (at4 x.to)) (k:=x.least) rfl rfl))) ?_
      refine F.va rfl rfl (fun w' hw'=>(x_pickT rfl)) ?_
      refine F.va rfl rfl (fun w' hw'=>(x_mvB rfl)) ?_
      refine F.on rfl rfl rfl (fun w' hw'=>(x_mvP rfl)) ?_
      refine F.on rfl rfl rfl (fun w' hw'=>(x_nilCheck rfl)) ?_
      refine F.on rfl rfl rfl (fun w' hw'=>(x_field rfl Try.underlying68 rfl sz26 (by decide))) ?_
      refine F.on rfl rfl rfl (fun w' hw'=>(x_load rfl Try.underlying26 rfl (hw'.2.run.cellAt 2 (v:=.slice (some ⟨M.jb,0,none⟩) m m) rfl))) ?_
      refine F.on rfl rfl rfl (fun w' hw'=>(x_mvI rfl)) ?_
      refine F.on rfl rfl rfl (fun w' hw'=>(x_index (i:=k) rfl rfl Try.underlying26 sz3 hk)) ?_
      refine F.on rfl rfl rfl (fun w' hw'=>(x_load (v:=.int .i64 (j:Int)) rfl Try.underlying3 rfl ((hw'.2).jm_at hj))) ?_
      refine F.on rfl rfl rfl (fun w' hw'=>(d_boolK (r:=true) (decide_eq_true hB) (x_lss (m:=(j:Int)) (k:=50) rfl rfl))) ?_
      refine F.va rfl rfl (fun w' hw'=>(x_pickT rfl)) ?_
      refine F.va rfl rfl (fun w' hw'=>(x_mvB rfl)) ?_
      refine F.on rfl rfl rfl (fun w' hw'=>(x_field rfl Try.underlying63 rfl sz3 (by decide))) ?_
      refine F.on rfl rfl rfl (fun w' hw'=>(x_load rfl Try.underlying3 rfl (hw'.1.cellAt 5 (v:=.int .i64 (x.cell)) rfl))) ?_
      refine F.on rfl rfl rfl (fun w' hw'=>(d_boolK (r:=true) (decide_eq_true hC) (x_geq (m:=x.cell) (k:=0) rfl rfl))) ?_
      refine F.va rfl rfl (fun w' hw'=>(x_pickT rfl)) ?_
      refine F.va rfl rfl (fun w' hw'=>(x_mvB rfl)) ?_
      refine F.on rfl rfl rfl (fun w' hw'=>(x_field rfl Try.underlying63 rfl sz3 (by decide))) ?_
      refine F.on rfl rfl rfl (fun w' hw'=>(x_load rfl Try.underlying3 rfl (hw'.1.cellAt 5 (v:=.int .i64 (x.cell)) rfl))) ?_
      refine F.on rfl rfl rfl (fun w' hw'=>(x_mvP rfl)) ?_
      refine F.on rfl rfl rfl (fun w' hw'=>(x_nilCheck rfl)) ?_
      refine F.on rfl rfl rfl (fun w' hw'=>(x_field rfl Try.underlying68 rfl sz25 (by decide))) ?_
      refine F.on rfl rfl rfl (fun w' hw'=>(x_load rfl Try.underlying25 rfl (hw'.2.run.cellAt 0 (v:=.slice ba m bc) rfl))) ?_
      refine F.on rfl rfl rfl (fun w' hw'=>(x_mvI rfl)) ?_
      refine F.on rfl rfl rfl (fun w' hw'=>(x_idx (i:=k) rfl rfl Try.underlying25 sz64 hBo.sl hk)) ?_
      refine F.on rfl rfl rfl (fun w' hw'=>(x_load (v:=.slice (aa k) (bo k).length (cc k)) rfl Try.underlying64 rfl (cell_keep (hBo.row k hk) (hw'.2).hb))) ?_
      refine F.on rfl rfl rfl (fun w' hw'=>(x_len rfl Try.underlying64 rfl)) ?_
      refine F.nil ?_
      show L _ _ _ _ _ _ _
      refine L.on rfl ?_
      refine L.va (d_boolK (r:=false) (decide_eq_false hD) (x_lss (m:=x.cell) (k:=((bo k).length:Int)) rfl rfl)) ?_
      refine L.va (x_pickT rfl) ?_
      refine L.nil ?_
      show W _ _ _ _ _ _
      refine W.condF rfl ?_
      refine W.skip ?_
      show W _ _ _ _ _ _
      refine W.seq ?_
      refine W.region rfl ?_
      refine L.va (x_mvP rfl) ?_
      refine L.va (x_nilCheck rfl) ?_
      refine L.va (x_field rfl Try.underlying68 rfl sz26 (by decide)) ?_
      refine L.va (x_load rfl Try.underlying26 rfl (hR.run.cellAt 1 (v:=.slice (some ⟨M.pb,0,none⟩) m m) rfl)) ?_
      refine L.va (x_mvI rfl) ?_
      refine L.va (x_index (i:=k) rfl rfl Try.underlying26 sz3 hk) ?_
      refine L.va (x_load (v:=.int .i64 (i:Int)) rfl Try.underlying3 rfl (hR.pl_at hp)) ?_
      refine L.va (x_inc rfl rfl (by omega)) ?_
      refine L.va (x_asI rfl) ?_
      refine L.nil ?_
      show W _ _ _ _ _ _
      refine W.ret ?_
      repeat (first | refine T.ret ?_ | refine B.ret ?_ | refine N.ret ?_)
      refine ends.one (.inr rfl) rfl ?_
      exact ⟨rfl,by rw [jms_same hj]; exact hR⟩
    ·have hjmp:jumps (bo k) x j M.c = false:=by
      have hB':j < 50:=by omega
      simp [jumps,hk6,hA,hB',hC]
     have hnx:nxt (bo k) x i j M.c = (i + 1,j):=if_neg (by rw [hjmp]; decide)
     rw [hnx]
     refine W.fl 42 [7] [0,1,2,3,4,5,6,8,9,12,13,7,10,11,14,15,16,17,18,19,20,21,22,23,24,25,26,27,28,29,30,31,32,33,34,35,36,37,38,39,40,41] (fun w'=>Blk w' b5 (opC x).toArray 63/\Rf w0 wS b m ba bc w' M) (by kernel_rfl) (by kernel_rfl) (by kernel_rfl) (by kernel_rfl) (by kernel_rfl) (⟨hB5.keep (Below.refl w.heap.size w).drew,hR.keep (Below.refl w.heap.size w).drew⟩) ?_
     have hdr:Below w.heap.size w w.drew:=(Below.refl w.heap.size w).drew
     have hR:=hR.keep hdr
     have hB5:=hB5.keep hdr
     clear hdr
     generalize w.drew = w at *
     refine F.va rfl rfl (fun w' hw'=>(x_field rfl Try.underlying63 rfl sz3 (by decide))) ?_
     refine F.va rfl rfl (fun w' hw'=>(x_load rfl Try.underlying3 rfl (hw'.1.cellAt 0 (v:=.int .i64 (x.kind)) rfl))) ?_
     refine F.va rfl rfl (fun w' hw'=>(d_boolK (r:=true) (decide_eq_true hk6) (x_eql (m:=x.kind) (k:=6) rfl rfl))) ?_
     refine F.va rfl rfl (fun w' hw'=>(x_mvB rfl)) ?_
     refine F.on rfl rfl rfl (fun w' hw'=>(x_mvP rfl)) ?_
     refine F.on rfl rfl rfl (fun w' hw'=>(x_field rfl Try.underlying63 rfl sz3 (by decide))) ?_
     refine F.on rfl rfl rfl (fun w' hw'=>(x_load rfl Try.underlying3 rfl (hw'.1.cellAt 7 (v:=.int .i64 (x.to)) rfl))) ?_
     refine F.on rfl rfl rfl (fun w' hw'=>(x_nilCheck rfl)) ?_
     refine F.on rfl rfl rfl (fun w' hw'=>(x_field rfl Try.underlying68 rfl sz35 (by decide))) ?_
     refine F.on rfl rfl rfl (fun w' hw'=>(x_field rfl Try.underlying63 rfl sz2 (by decide))) ?_
     refine F.on rfl rfl rfl (fun w' hw'=>(x_load rfl Try.underlying2 rfl (hw'.1.cellAt 6 (v:=.int .i64 (x.least)) rfl))) ?_
     refine F.doo rfl rfl ?_
     refine L.on rfl ?_
     refine L.call (x_call1 rfl Try.func34 rfl nm34 rfl) (at_c x.to w) ?_
     rintro _ w1 ⟨rfl,hw1⟩
     rw [hw1]
     clear hw1 w1
     refine L.nil ⟨rfl,⟨hB5,hR⟩,?_⟩
     refine F.on rfl rfl rfl (fun w' hw'=>(x_idxArr (i:=at4 x.to) rfl rfl Try.underlying35 sz2 (at4_lt _))) ?_
     refine F.on rfl rfl rfl (fun w' hw'=>(x_load (v:=.int .i64 (M.c (at4 x.to))) rfl Try.underlying2 rfl (mc_at (m:=m) (ba:=ba) (bc:=bc) (M:=M) hw'.2.run (at4_lt _)))) ?_
     refine F.on rfl rfl rfl (fun w' hw'=>(d_boolK (r:=true) (decide_eq_true hA) (x_lss (m:=M.c (at4 x.to)) (k:=x.least) rfl rfl))) ?_
     refine F.va rfl rfl (fun w' hw'=>(x_pickT rfl)) ?_
     refine F.va rfl rfl (fun w' hw'=>(x_mvB rfl)) ?_
     refine F.on rfl rfl rfl (fun w' hw'=>(x_mvP rfl)) ?_
     refine F.on rfl rfl rfl (fun w' hw'=>(x_nilCheck rfl)) ?_
     refine F.on rfl rfl rfl (fun w' hw'=>(x_field rfl Try.underlying68 rfl sz26 (by decide))) ?_
     refine F.on rfl rfl rfl (fun w' hw'=>(x_load rfl Try.underlying26 rfl (hw'.2.run.cellAt 2 (v:=.slice (some ⟨M.jb,0,none⟩) m m) rfl))) ?_
     refine F.on rfl rfl rfl (fun w' hw'=>(x_mvI rfl)) ?_
     refine F.on rfl rfl rfl (fun w' hw'=>(x_index (i:=k) rfl rfl Try.underlying26 sz3 hk)) ?_
     refine F.on rfl rfl rfl (fun w' hw'=>(x_load (v:=.int .i64 (j:Int)) rfl Try.underlying3 rfl ((hw'.2).jm_at hj))) ?_
     refine F.on rfl rfl rfl (fun w' hw'=>(d_boolK (r:=true) (decide_eq_true hB) (x_lss (m:=(j:Int)) (k:=50) rfl rfl))) ?_
     refine F.va rfl rfl (fun w' hw'=>(x_pickT rfl)) ?_
     refine F.va rfl rfl (fun w' hw'=>(x_mvB rfl)) ?_
     refine F.on rfl rfl rfl (fun w' hw'=>(x_field rfl Try.underlying63 rfl sz3 (by decide))) ?_
     refine F.on rfl rfl rfl (fun w' hw'=>(x_load rfl Try.underlying3 rfl (hw'.1.cellAt 5 (v:=.int .i64 (x.cell)) rfl))) ?_
     refine F.on rfl rfl rfl (fun w' hw'=>(d_boolK (r:=false) (decide_eq_false hC) (x_geq (m:=x.cell) (k:=0) rfl rfl))) ?_
     refine F.va rfl rfl (fun w' hw'=>(x_pickT rfl)) ?_
     refine F.va rfl rfl (fun w' hw'=>(x_mvB rfl)) ?_
     refine F.off rfl rfl rfl ?_
     refine F.off rfl rfl rfl ?_
     refine F.off rfl rfl rfl ?_
     refine F.off rfl rfl rfl ?_
     refine F.off rfl rfl rfl ?_
     refine F.off rfl rfl rfl ?_
     refine F.off rfl rfl rfl ?_
     refine F.off rfl rfl rfl ?_
     refine F.off rfl rfl rfl ?_
     refine F.off rfl rfl rfl ?_
     refine F.nil ?_
     show L _ _ _ _ _ _ _
     refine L.off rfl ?_
     refine L.va (x_pickF rfl) ?_
     refine L.nil ?_
     show W _ _ _ _ _ _
     refine W.condF rfl ?_
     refine W.skip ?_
     show W _ _ _ _ _ _
     refine W.seq ?_
     refine W.region rfl ?_
     refine L.va (x_mvP rfl) ?_
     refine L.va (x_nilCheck rfl) ?_
     refine L.va (x_field rfl Try.underlying68 rfl sz26 (by decide)) ?_
     refine L.va (x_load rfl Try.underlying26 rfl (hR.run.cellAt 1 (v:=.slice (some ⟨M.pb,0,none⟩) m m) rfl)) ?_
     refine L.va (x_mvI rfl) ?_
     refine L.va (x_index (i:=k) rfl rfl Try.underlying26 sz3 hk) ?_
     refine L.va (x_load (v:=.int .i64 (i:Int)) rfl Try.underlying3 rfl (hR.pl_at hp)) ?_
     refine L.va (x_inc rfl rfl (by omega)) ?_
     refine L.va (x_asI rfl) ?_
     refine L.nil ?_
     show W _ _ _ _ _ _
     refine W.ret ?_
     repeat (first | refine T.ret ?_ | refine B.ret ?_ | refine N.ret ?_)
     refine ends.one (.inr rfl) rfl ?_
     exact ⟨rfl,by rw [jms_same hj]; exact hR⟩
   ·have hjmp:jumps (bo k) x j M.c = false:=by
     have hB':¬ j < 50:=by omega
     simp [jumps,hk6,hA,hB']
    have hnx:nxt (bo k) x i j M.c = (i + 1,j):=if_neg (by rw [hjmp]; decide)
    rw [hnx]
    refine W.fl 42 [7] [0,1,2,3,4,5,6,8,9,12,13,7,10,11,14,15,16,17,18,19,20,21,22,23,24,25,26,27,28,29,30,31,32,33,34,35,36,37,38,39,40,41] (fun w'=>Blk w' b5 (opC x).toArray 63/\Rf w0 wS b m ba bc w' M) (by kernel_rfl) (by kernel_rfl) (by kernel_rfl) (by kernel_rfl) (by kernel_rfl) (⟨hB5.keep (Below.refl w.heap.size w).drew,hR.keep (Below.refl w.heap.size w).drew⟩) ?_
    have hdr:Below w.heap.size w w.drew:=(Below.refl w.heap.size w).drew
    have hR:=hR.keep hdr
    have hB5:=hB5.keep hdr
    clear hdr
    generalize w.drew = w at *
    refine F.va rfl rfl (fun w' hw'=>(x_field rfl Try.underlying63 rfl sz3 (by decide))) ?_
    refine F.va rfl rfl (fun w' hw'=>(x_load rfl Try.underlying3 rfl (hw'.1.cellAt 0 (v:=.int .i64 (x.kind)) rfl))) ?_
    refine F.va rfl rfl (fun w' hw'=>(d_boolK (r:=true) (decide_eq_true hk6) (x_eql (m:=x.kind) (k:=6) rfl rfl))) ?_
    refine F.va rfl rfl (fun w' hw'=>(x_mvB rfl)) ?_
    refine F.on rfl rfl rfl (fun w' hw'=>(x_mvP rfl)) ?_
    refine F.on rfl rfl rfl (fun w' hw'=>(x_field rfl Try.underlying63 rfl sz3 (by decide))) ?_
    refine F.on rfl rfl rfl (fun w' hw'=>(x_load rfl Try.underlying3 rfl (hw'.1.cellAt 7 (v:=.int .i64 (x.to)) rfl))) ?_
    refine F.on rfl rfl rfl (fun w' hw'=>(x_nilCheck rfl)) ?_
    refine F.on rfl rfl rfl (fun w' hw'=>(x_field rfl Try.underlying68 rfl sz35 (by decide))) ?_
    refine F.on rfl rfl rfl (fun w' hw'=>(x_field rfl Try.underlying63 rfl sz2 (by decide))) ?_
    refine F.on rfl rfl rfl (fun w' hw'=>(x_load rfl Try.underlying2 rfl (hw'.1.cellAt 6 (v:=.int .i64 (x.least)) rfl))) ?_
    refine F.doo rfl rfl ?_
    refine L.on rfl ?_
    refine L.call (x_call1 rfl Try.func34 rfl nm34 rfl) (at_c x.to w) ?_
    rintro _ w1 ⟨rfl,hw1⟩
    rw [hw1]
    clear hw1 w1
    refine L.nil ⟨rfl,⟨hB5,hR⟩,?_⟩
    refine F.on rfl rfl rfl (fun w' hw'=>(x_idxArr (i:=at4 x.to) rfl rfl Try.underlying35 sz2 (at4_lt _))) ?_
    refine F.on rfl rfl rfl (fun w' hw'=>(x_load (v:=.int .i64 (M.c (at4 x.to))) rfl Try.underlying2 rfl (mc_at (m:=m) (ba:=ba) (bc:=bc) (M:=M) hw'.2.run (at4_lt _)))) ?_
    refine F.on rfl rfl rfl (fun w' hw'=>(d_boolK (r:=true) (decide_eq_true hA) (x_lss (m:=M.c (at4 x.to)) (k:=x.least) rfl rfl))) ?_
    refine F.va rfl rfl (fun w' hw'=>(x_pickT rfl)) ?_
    refine F.va rfl rfl (fun w' hw'=>(x_mvB rfl)) ?_
    refine F.on rfl rfl rfl (fun w' hw'=>(x_mvP rfl)) ?_
    refine F.on rfl rfl rfl (fun w' hw'=>(x_nilCheck rfl)) ?_
    refine F.on rfl rfl rfl (fun w' hw'=>(x_field rfl Try.underlying68 rfl sz26 (by decide))) ?_
    refine F.on rfl rfl rfl (fun w' hw'=>(x_load rfl Try.underlying26 rfl (hw'.2.run.cellAt 2 (v:=.slice (some ⟨M.jb,0,none⟩) m m) rfl))) ?_
    refine F.on rfl rfl rfl (fun w' hw'=>(x_mvI rfl)) ?_
    refine F.on rfl rfl rfl (fun w' hw'=>(x_index (i:=k) rfl rfl Try.underlying26 sz3 hk)) ?_
    refine F.on rfl rfl rfl (fun w' hw'=>(x_load (v:=.int .i64 (j:Int)) rfl Try.underlying3 rfl ((hw'.2).jm_at hj))) ?_
    refine F.on rfl rfl rfl (fun w' hw'=>(d_boolK (r:=false) (decide_eq_false hB) (x_lss (m:=(j:Int)) (k:=50) rfl rfl))) ?_
    refine F.va rfl rfl (fun w' hw'=>(x_pickT rfl)) ?_
    refine F.va rfl rfl (fun w' hw'=>(x_mvB rfl)) ?_
    refine F.off rfl rfl rfl ?_
    refine F.off rfl rfl rfl ?_
    refine F.off rfl rfl rfl ?_
    refine F.va rfl rfl (fun w' hw'=>(x_pickF rfl)) ?_
    refine F.va rfl rfl (fun w' hw'=>(x_mvB rfl)) ?_
    refine F.off rfl rfl rfl ?_
    refine F.off rfl rfl rfl ?_
    refine F.off rfl rfl rfl ?_
    refine F.off rfl rfl rfl ?_
    refine F.off rfl rfl rfl ?_
    refine F.off rfl rfl rfl ?_
    refine F.off rfl rfl rfl ?_
    refine F.off rfl rfl rfl ?_
    refine F.off rfl rfl rfl ?_
    refine F.off rfl rfl rfl ?_
    refine F.nil ?_
    show L _ _ _ _ _ _ _
    refine L.off rfl ?_
    refine L.va (x_pickF rfl) ?_
    refine L.nil ?_
    show W _ _ _ _ _ _
    refine W.condF rfl ?_
    refine W.skip ?_
    show W _ _ _ _ _ _
    refine W.seq ?_
    refine W.region rfl ?_
    refine L.va (x_mvP rfl) ?_
    refine L.va (x_nilCheck rfl) ?_
    refine L.va (x_field rfl Try.underlying68 rfl sz26 (by decide)) ?_
    refine L.va (x_load rfl Try.underlying26 rfl (hR.run.cellAt 1 (v:=.slice (some ⟨M.pb,0,none⟩) m m) rfl)) ?_
    refine L.va (x_mvI rfl) ?_
    refine L.va (x_index (i:=k) rfl rfl Try.underlying26 sz3 hk) ?_
    refine L.va (x_load (v:=.int .i64 (i:Int)) rfl Try.underlying3 rfl (hR.pl_at hp)) ?_
    refine L.va (x_inc rfl rfl (by omega)) ?_
    refine L.va (x_asI rfl) ?_
    refine L.nil ?_
    show W _ _ _ _ _ _
    refine W.ret ?_
    repeat (first | refine T.ret ?_ | refine B.ret ?_ | refine N.ret ?_)
    refine ends.one (.inr rfl) rfl ?_
    exact ⟨rfl,by rw [jms_same hj]; exact hR⟩
  ·have hjmp:jumps (bo k) x j M.c = false:=by
    simp [jumps,hk6,hA]
   have hnx:nxt (bo k) x i j M.c = (i + 1,j):=if_neg (by rw [hjmp]; decide)
   rw [hnx]
   refine W.fl 42 [7] [0,1,2,3,4,5,6,8,9,12,13,7,10,11,14,15,16,17,18,19,20,21,22,23,24,25,26,27,28,29,30,31,32,33,34,35,36,37,38,39,40,41] (fun w'=>Blk w' b5 (opC x).toArray 63/\Rf w0 wS b m ba bc w' M) (by kernel_rfl) (by kernel_rfl) (by kernel_rfl) (by kernel_rfl) (by kernel_rfl) (⟨hB5.keep (Below.refl w.heap.size w).drew,hR.keep (Below.refl w.heap.size w).drew⟩) ?_
   have hdr:Below w.heap.size w w.drew:=(Below.refl w.heap.size w).drew
   have hR:=hR.keep hdr
   have hB5:=hB5.keep hdr
   clear hdr
   generalize w.drew = w at *
   refine F.va rfl rfl (fun w' hw'=>(x_field rfl Try.underlying63 rfl sz3 (by decide))) ?_
   refine F.va rfl rfl (fun w' hw'=>(x_load rfl Try.underlying3 rfl (hw'.1.cellAt 0 (v:=.int .i64 (x.kind)) rfl))) ?_
   refine F.va rfl rfl (fun w' hw'=>(d_boolK (r:=true) (decide_eq_true hk6) (x_eql (m:=x.kind) (k:=6) rfl rfl))) ?_
   refine F.va rfl rfl (fun w' hw'=>(x_mvB rfl)) ?_
   refine F.on rfl rfl rfl (fun w' hw'=>(x_mvP rfl)) ?_
   refine F.on rfl rfl rfl (fun w' hw'=>(x_field rfl Try.underlying63 rfl sz3 (by decide))) ?_
   refine F.on rfl rfl rfl (fun w' hw'=>(x_load rfl Try.underlying3 rfl (hw'.1.cellAt 7 (v:=.int .i64 (x.to)) rfl))) ?_
   refine F.on rfl rfl rfl (fun w' hw'=>(x_nilCheck rfl)) ?_
   refine F.on rfl rfl rfl (fun w' hw'=>(x_field rfl Try.underlying68 rfl sz35 (by decide))) ?_
   refine F.on rfl rfl rfl (fun w' hw'=>(x_field rfl Try.underlying63 rfl sz2 (by decide))) ?_
   refine F.on rfl rfl rfl (fun w' hw'=>(x_load rfl Try.underlying2 rfl (hw'.1.cellAt 6 (v:=.int .i64 (x.least)) rfl))) ?_
   refine F.doo rfl rfl ?_
   refine L.on rfl ?_
   refine L.call (x_call1 rfl Try.func34 rfl nm34 rfl) (at_c x.to w) ?_
   rintro _ w1 ⟨rfl,hw1⟩
   rw [hw1]
   clear hw1 w1
   refine L.nil ⟨rfl,⟨hB5,hR⟩,?_⟩
   refine F.on rfl rfl rfl (fun w' hw'=>(x_idxArr (i:=at4 x.to) rfl rfl Try.underlying35 sz2 (at4_lt _))) ?_
   refine F.on rfl rfl rfl (fun w' hw'=>(x_load (v:=.int .i64 (M.c (at4 x.to))) rfl Try.underlying2 rfl (mc_at (m:=m) (ba:=ba) (bc:=bc) (M:=M) hw'.2.run (at4_lt _)))) ?_
   refine F.on rfl rfl rfl (fun w' hw'=>(d_boolK (r:=false) (decide_eq_false hA) (x_lss (m:=M.c (at4 x.to)) (k:=x.least) rfl rfl))) ?_
   refine F.va rfl rfl (fun w' hw'=>(x_pickT rfl)) ?_
   refine F.va rfl rfl (fun w' hw'=>(x_mvB rfl)) ?_
   refine F.off rfl rfl rfl ?_
   refine F.off rfl rfl rfl ?_
   refine F.off rfl rfl rfl ?_
   refine F.off rfl rfl rfl ?_
   refine F.off rfl rfl rfl ?_
   refine F.off rfl rfl rfl ?_
   refine F.off rfl rfl rfl ?_
   refine F.off rfl rfl rfl ?_
   refine F.va rfl rfl (fun w' hw'=>(x_pickF rfl)) ?_
   refine F.va rfl rfl (fun w' hw'=>(x_mvB rfl)) ?_
   refine F.off rfl rfl rfl ?_
   refine F.off rfl rfl rfl ?_
   refine F.off rfl rfl rfl ?_
   refine F.va rfl rfl (fun w' hw'=>(x_pickF rfl)) ?_
   refine F.va rfl rfl (fun w' hw'=>(x_mvB rfl)) ?_
   refine F.off rfl rfl rfl ?_
   refine F.off rfl rfl rfl ?_
   refine F.off rfl rfl rfl ?_
   refine F.off rfl rfl rfl ?_
   refine F.off rfl rfl rfl ?_
   refine F.off rfl rfl rfl ?_
   refine F.off rfl rfl rfl ?_
   refine F.off rfl rfl rfl ?_
   refine F.off rfl rfl rfl ?_
   refine F.off rfl rfl rfl ?_
   refine F.nil ?_
   show L _ _ _ _ _ _ _
   refine L.off rfl ?_
   refine L.va (x_pickF rfl) ?_
   refine L.nil ?_
   show W _ _ _ _ _ _
   refine W.condF rfl ?_
   refine W.skip ?_
   show W _ _ _ _ _ _
   refine W.seq ?_
   refine W.region rfl ?_
   refine L.va (x_mvP rfl) ?_
   refine L.va (x_nilCheck rfl) ?_
   refine L.va (x_field rfl Try.underlying68 rfl sz26 (by decide)) ?_
   refine L.va (x_load rfl Try.underlying26 rfl (hR.run.cellAt 1 (v:=.slice (some ⟨M.pb,0,none⟩) m m) rfl)) ?_
   refine L.va (x_mvI rfl) ?_
   refine L.va (x_index (i:=k) rfl rfl Try.underlying26 sz3 hk) ?_
   refine L.va (x_load (v:=.int .i64 (i:Int)) rfl Try.underlying3 rfl (hR.pl_at hp)) ?_
   refine L.va (x_inc rfl rfl (by omega)) ?_
   refine L.va (x_asI rfl) ?_
   refine L.nil ?_
   show W _ _ _ _ _ _
   refine W.ret ?_
   repeat (first | refine T.ret ?_ | refine B.ret ?_ | refine N.ret ?_)
   refine ends.one (.inr rfl) rfl ?_
   exact ⟨rfl,by rw [jms_same hj]; exact hR⟩
 ·have hjmp:jumps (bo k) x j M.c = false:=by
   simp [jumps,hk6]
  have hnx:nxt (bo k) x i j M.c = (i + 1,j):=if_neg (by rw [hjmp]; decide)
  rw [hnx]
  refine W.fl 42 [7] [0,1,2,3,4,5,6,8,9,12,13,7,10,11,14,15,16,17,18,19,20,21,22,23,24,25,26,27,28,29,30,31,32,33,34,35,36,37,38,39,40,41] (fun w'=>Blk w' b5 (opC x).toArray 63) (by kernel_rfl) (by kernel_rfl) (by kernel_rfl) (by kernel_rfl) (by kernel_rfl) (hB5.keep (Below.refl w.heap.size w).drew) ?_
  have hdr:Below w.heap.size w w.drew:=(Below.refl w.heap.size w).drew
  have hR:=hR.keep hdr
  have hB5:=hB5.keep hdr
  clear hdr
  generalize w.drew = w at *
  refine F.va rfl rfl (fun w' hw'=>(x_field rfl Try.underlying63 rfl sz3 (by decide))) ?_
  refine F.va rfl rfl (fun w' hw'=>(x_load rfl Try.underlying3 rfl (hw'.cellAt 0 (v:=.int .i64 (x.kind)) rfl))) ?_
  refine F.va rfl rfl (fun w' hw'=>(d_boolK (r:=false) (decide_eq_false hk6) (x_eql (m:=x.kind) (k:=6) rfl rfl))) ?_
  refine F.va rfl rfl (fun w' hw'=>(x_mvB rfl)) ?_
  refine F.off rfl rfl rfl ?_
  refine F.off rfl rfl rfl ?_
  refine F.off rfl rfl rfl ?_
  refine F.off rfl rfl rfl ?_
  refine F.off rfl rfl rfl ?_
  refine F.off rfl rfl rfl ?_
  refine F.off rfl rfl rfl ?_
  refine F.doo rfl rfl ?_
  refine L.off rfl ?_
  refine L.nil ⟨rfl,hB5,?_⟩
  refine F.off rfl rfl rfl ?_
  refine F.off rfl rfl rfl ?_
  refine F.off rfl rfl rfl ?_
  refine F.va rfl rfl (fun w' hw'=>(x_pickF rfl)) ?_
  refine F.va rfl rfl (fun w' hw'=>(x_mvB rfl)) ?_
  refine F.off rfl rfl rfl ?_
  refine F.off rfl rfl rfl ?_
  refine F.off rfl rfl rfl ?_
  refine F.off rfl rfl rfl ?_
  refine F.off rfl rfl rfl ?_
  refine F.off rfl rfl rfl ?_
  refine F.off rfl rfl rfl ?_
  refine F.off rfl rfl rfl ?_
  refine F.va rfl rfl (fun w' hw'=>(x_pickF rfl)) ?_
  refine F.va rfl rfl (fun w' hw'=>(x_mvB rfl)) ?_
  refine F.off rfl rfl rfl ?_
  refine F.off rfl rfl rfl ?_
  refine F.off rfl rfl rfl ?_
  refine F.va rfl rfl (fun w' hw'=>(x_pickF rfl)) ?_
  refine F.va rfl rfl (fun w' hw'=>(x_mvB rfl)) ?_
  refine F.off rfl rfl rfl ?_
  refine F.off rfl rfl rfl ?_
  refine F.off rfl rfl rfl ?_
  refine F.off rfl rfl rfl ?_
  refine F.off rfl rfl rfl ?_
  refine F.off rfl rfl rfl ?_
  refine F.off rfl rfl rfl ?_
  refine F.off rfl rfl rfl ?_
  refine F.off rfl rfl rfl ?_
  refine F.off rfl rfl rfl ?_
  refine F.nil ?_
  show L _ _ _ _ _ _ _
  refine L.off rfl ?_
  refine L.va (x_pickF rfl) ?_
  refine L.nil ?_
  show W _ _ _ _ _ _
  refine W.condF rfl ?_
  refine W.skip ?_
  show W _ _ _ _ _ _
  refine W.seq ?_
  refine W.region rfl ?_
  refine L.va (x_mvP rfl) ?_
  refine L.va (x_nilCheck rfl) ?_
  refine L.va (x_field rfl Try.underlying68 rfl sz26 (by decide)) ?_
  refine L.va (x_load rfl Try.underlying26 rfl (hR.run.cellAt 1 (v:=.slice (some ⟨M.pb,0,none⟩) m m) rfl)) ?_
  refine L.va (x_mvI rfl) ?_
  refine L.va (x_index (i:=k) rfl rfl Try.underlying26 sz3 hk) ?_
  refine L.va (x_load (v:=.int .i64 (i:Int)) rfl Try.underlying3 rfl (hR.pl_at hp)) ?_
  refine L.va (x_inc rfl rfl (by omega)) ?_
  refine L.va (x_asI rfl) ?_
  refine L.nil ?_
  show W _ _ _ _ _ _
  refine W.ret ?_
  repeat (first | refine T.ret ?_ | refine B.ret ?_ | refine N.ret ?_)
  refine ends.one (.inr rfl) rfl ?_
  exact ⟨rfl,by rw [jms_same hj]; exact hR⟩
omit [Ctx Try.prog] in
theorem rng_yes {r:Nat->Bool} {i:Nat} (h:r i = true):(List.range (i + 1)).filter r = (List.range i).filter r ++ [i]:=by rw [List.range_succ,List.filter_append]; simp [h]
omit [Ctx Try.prog] in
theorem rng_no {r:Nat->Bool} {i:Nat} (h:r i = false):(List.range (i + 1)).filter r = (List.range i).filter r:=by rw [List.range_succ,List.filter_append]; simp [h]
omit [Ctx Try.prog] in
theorem rng_le {r:Nat->Bool} (i:Nat):((List.range i).filter r).length <= i:=by have:=List.length_filter_le r (List.range i); simpa using this
set_option maxHeartbeats 1000000 in
theorem ready_c {w0 wS w:World} {b m bc:Nat} {ba:Option Addr} {M:Mc} {bo:Nat->List OpD} {aa:Nat->Option Addr} {cc:Nat->Nat} (hBo:BodsAt w0 ba m bo aa cc) (hR:Rf w0 wS b m ba bc w M) (hm:m <= 1000) (r:Nat->Bool) (hr:∀ q,q < m->(∃ z,M.ends[q]? = some z/\z ≠ 0/\r q = false)\/(M.ends[q]? = some 0/\∃ i x,M.pls[q]? = some i/\(bo q)[i]? = some x/\r q = (x.free || decide (x.least <= M.c (at4 x.cell))))):C Try.prog 32 #[.pointer (some ⟨b,0,none⟩)] w fun v w'=>∃ a cp,v = .slice a ((List.range m).filter r).length cp/\Own w' w.heap.size 3 1 a ((List.range m).filter r).length cp (((List.range m).filter r).map plV)/\Below w.heap.size w w'/\Rf w0 wS b m ba bc w' M:=by
 refine C.enter (n:=60) Try.func32 rfl rfl ?_
 obtain ⟨wq,hwq⟩:∃ wq,wq = w:=⟨_,rfl⟩
 have hR0:Rf w0 wS b m ba bc wq M:=hwq ▸ hR
 have hb:Below wq.heap.size wq w:=hwq ▸ Below.refl _ _
 refine W.seq ?_
 refine W.region rfl ?_
 refine L.va (x_asS rfl) ?_
 refine L.nil ?_
 show W _ _ _ _ _ _
 refine W.seq ?_
 refine W.region rfl ?_
 refine L.va (x_asS rfl) ?_
 refine L.nil ?_
 show W _ _ _ _ _ _
 refine W.seq ?_
 refine W.seq ?_
 refine W.region rfl ?_
 refine L.va (x_asI rfl) ?_
 refine L.nil ?_
 show W _ _ _ _ _ _
 refine W.block ?_
 refine W.loop (fun k e w=>∃ (q:Nat),∃ (n:Nat),∃ (a:Option Addr),∃ (cp:Nat),k = m - q/\e 0 = .pointer (some ⟨b,0,none⟩)/\e 2 = .slice none 0 0/\e 3 = .slice a n cp/\e 4 = .int .i64 (q:Int)/\q <= m/\n = ((List.range q).filter r).length/\Own w wq.heap.size 3 1 a n cp (((List.range q).filter r).map plV)/\Below wq.heap.size wq w/\Rf w0 wS b m ba bc w M) _ ⟨0,0,none,0,rfl,rfl,rfl,rfl,rfl,Nat.zero_le _,rfl,Own.nil _ _ _ _,hb,hR⟩ ?_
 rintro k e w ⟨q,n,a,cp,hk,s0,s2,s3,s4,hq,hn,hO,hb,hR⟩
 rw [upd_id s0,upd_id s2,upd_id s3,upd_id s4]
 clear s0 s2 s3 s4
 refine W.seq ?_
 refine W.seq ?_
 refine W.region rfl ?_
 refine L.va (x_mvI rfl) ?_
 refine L.va (x_mvP rfl) ?_
 refine L.va (x_nilCheck rfl) ?_
 refine L.va (x_field rfl Try.underlying68 rfl sz25 (by decide)) ?_
 refine L.va (x_load rfl Try.underlying25 rfl (hR.run.cellAt 0 (v:=.slice ba m bc) rfl)) ?_
 refine L.va (x_len rfl Try.underlying25 rfl) ?_
 refine L.va (x_lss rfl rfl) ?_
 refine L.nil ?_
 show W _ _ _ _ _ _
 refine W.condP rfl (fun h12=>?_) (fun h12=>?_)
 ·have hlt:q < m:=by omega
  have hrle:=rng_le (r:=r) q
  refine W.skip ?_
  show W _ _ _ _ _ _
  refine W.seq ?_
  refine W.block ?_
  refine W.seq ?_
  refine W.seq ?_
  rcases hr q hlt with ⟨z,hen,hz,hrq⟩ | ⟨hen,i,x,hpl,hx,hrq⟩
  ·refine W.region rfl ?_
   refine L.va (x_mvP rfl) ?_
   refine L.va (x_nilCheck rfl) ?_
   refine L.va (x_field rfl Try.underlying68 rfl sz31 (by decide)) ?_
   refine L.va (x_field rfl Try.underlying31 rfl sz26 (by decide)) ?_
   refine L.va (x_load rfl Try.underlying26 rfl (hR.run.cellAt 9 (v:=.slice (some ⟨M.eb,0,none⟩) m m) rfl)) ?_
   refine L.va (x_mvI rfl) ?_
   refine L.va (x_index (i:=q) rfl rfl Try.underlying26 sz3 hlt) ?_
   refine L.va (x_load (v:=.int .i64 z) rfl Try.underlying3 rfl (hR.en_at hen)) ?_
   refine L.va (d_boolK (r:=true) (decide_eq_true hz) (x_neq (m:=z) (k:=0) rfl rfl)) ?_
   refine L.nil ?_
   show W _ _ _ _ _ _
   refine W.condT rfl ?_
   refine W.exit ?_
   repeat (first | refine T.exit ?_ | refine N.exit ?_ | refine B.exitNe (by decide) ?_)
   refine B.exitEq ?_
   show W _ _ _ _ _ _
   refine W.region rfl ?_
   refine L.va (x_mvI rfl) ?_
   refine L.va (x_inc rfl rfl (by omega)) ?_
   refine L.va (x_asI rfl) ?_
   refine L.nil ?_
   refine T.nrm ?_
   have hrl:=rng_no (r:=r) (i:=q) hrq
   exact ⟨_,by omega,⟨q + 1,n,a,cp,rfl,rfl,rfl,rfl,rfl,(by omega),(by rw [hrl]; exact hn),(by rw [hrl]; exact hO),hb,hR⟩⟩
  ·have hi:=(List.getElem?_eq_some_iff.1 hx).1
   refine W.region rfl ?_
   refine L.va (x_mvP rfl) ?_
   refine L.va (x_nilCheck rfl) ?_
   refine L.va (x_field rfl Try.underlying68 rfl sz31 (by decide)) ?_
   refine L.va (x_field rfl Try.underlying31 rfl sz26 (by decide)) ?_
   refine L.va (x_load rfl Try.underlying26 rfl (hR.run.cellAt 9 (v:=.slice (some ⟨M.eb,0,none⟩) m m) rfl)) ?_
   refine L.va (x_mvI rfl) ?_
   refine L.va (x_index (i:=q) rfl rfl Try.underlying26 sz3 hlt) ?_
   refine L.va (x_load (v:=.int .i64 0) rfl Try.underlying3 rfl (hR.en_at hen)) ?_
   refine L.va (d_boolK (r:=false) (decide_eq_false (fun h=>h rfl)) (x_neq (m:=0) (k:=0) rfl rfl)) ?_
   refine L.nil ?_
   show W _ _ _ _ _ _
   refine W.condF rfl ?_
   refine W.skip ?_
   show W _ _ _ _ _ _
   refine W.seq ?_
   refine W.fl 17 [16] [0,1,2,3,4,5,6,7,8,9,10,11,12,13,14,15,16] (fun w'=>Rf w0 wS b m ba bc w' M) (by kernel_rfl) (by kernel_rfl) (by kernel_rfl) (by kernel_rfl) (by kernel_rfl) (hR.keep (Below.refl w.heap.size w).drew) ?_
   have hdr:Below w.heap.size w w.drew:=(Below.refl w.heap.size w).drew
   have hb:=cl_step hb hdr
   have hO:=hO.keep hdr
   have hR:=hR.keep hdr
   clear hdr
   generalize w.drew = w at *
   refine F.va rfl rfl (fun w' hw'=>(x_mvP rfl)) ?_
   refine F.va rfl rfl (fun w' hw'=>(x_nilCheck rfl)) ?_
   refine F.va rfl rfl (fun w' hw'=>(x_field rfl Try.underlying68 rfl sz25 (by decide))) ?_
   refine F.va rfl rfl (fun w' hw'=>(x_load rfl Try.underlying25 rfl (hw'.run.cellAt 0 (v:=.slice ba m bc) rfl))) ?_
   refine F.va rfl rfl (fun w' hw'=>(x_mvI rfl)) ?_
   refine F.va rfl rfl (fun w' hw'=>(x_idx (i:=q) rfl rfl Try.underlying25 sz64 hBo.sl hlt)) ?_
   refine F.va rfl rfl (fun w' hw'=>(x_load (v:=.slice (aa q) (bo q).length (cc q)) rfl Try.underlying64 rfl (cell_keep (hBo.row q hlt) (hw').hb))) ?_
   refine F.va rfl rfl (fun w' hw'=>(x_mvP rfl)) ?_
   refine F.va rfl rfl (fun w' hw'=>(x_nilCheck rfl)) ?_
   refine F.va rfl rfl (fun w' hw'=>(x_field rfl Try.underlying68 rfl sz26 (by decide))) ?_
   refine F.va rfl rfl (fun w' hw'=>(x_load rfl Try.underlying26 rfl (hw'.run.cellAt 1 (v:=.slice (some ⟨M.pb,0,none⟩) m m) rfl))) ?_
   refine F.va rfl rfl (fun w' hw'=>(x_mvI rfl)) ?_
   refine F.va rfl rfl (fun w' hw'=>(x_index (i:=q) rfl rfl Try.underlying26 sz3 hlt)) ?_
   refine F.va rfl rfl (fun w' hw'=>(x_load (v:=.int .i64 (i:Int)) rfl Try.underlying3 rfl ((hw').pl_at hpl))) ?_
   refine F.va rfl rfl (fun w' hw'=>(x_idx (i:=i) rfl rfl Try.underlying64 sz63 (hBo.rsl q hlt) hi)) ?_
   refine F.va rfl rfl (fun w' hw'=>(x_loadAgg (cs:=opC x) rfl Try.underlying63 rfl sz63 rfl (fun y v hv=>cell_keep (hBo.op q hlt i x hx y v hv) (hw').hb))) ?_
   refine F.doo rfl rfl ?_
   have z_hO:=hO
   have z_hR:=hR
   have z_hb:=hb
   refine L.alloc (cs:=#[.int .i64 0,.int .i64 0,.int .i64 0,.int .i64 0,.bool false,.int .i64 0,.int .i64 0,.int .i64 0,.int .i64 0,.string ByteArray.empty]) zr63 rfl (fun w b5 F5=>?_)
   have lt5:wq.heap.size <= b5:=by have h9:=F5.here; have h8:=hb.size; omega
   have hb:=cl_step hb F5.below
   have hO:=hO.keep F5.below
   have hR:=hR.keep F5.below
   have hB5:=F5.blk
   refine L.nil ⟨rfl,hR,?_⟩
   refine F.nil ?_
   show L _ _ _ _ _ _ _
   refine L.put (b:=b5) (o:=0) (vs:=[.int .i64 (x.kind),.int .i64 (x.step.kind),.int .i64 (x.step.obj),.int .i64 (x.step.num),.bool (x.free),.int .i64 (x.cell),.int .i64 (x.least),.int .i64 (x.to),.int .i64 (x.by_),.string (x.text)]) #[.int .i64 (x.kind),.int .i64 (x.step.kind),.int .i64 (x.step.obj),.int .i64 (x.step.num),.bool (x.free),.int .i64 (x.cell),.int .i64 (x.least),.int .i64 (x.to),.int .i64 (x.by_),.string (x.text)] rfl rfl rfl sz63 rfl rfl hB5 (Nat.le_of_ble_eq_true rfl) (setRow_all rfl) (fun w hnew hg hsz=>?_)
   have hbA:=below_gr F5.below F5.below.size hg (by have:=F5.here; omega)
   have hO:=z_hO.keep hbA
   have hR:=z_hR.keep hbA
   have hb:=cl_step z_hb hbA
   have hB5:=hnew
   clear hnew hg hsz hbA F5 z_hO z_hR z_hb
   refine L.nil ?_
   show W _ _ _ _ _ _
   refine W.seq ?_
   cases hfr:x.free with
   | true =>
    rw [hfr] at hB5
    have hrq:r q = true:=by rw [hrq,hfr,Bool.true_or]
    refine W.fl 13 [6] [0,1,2,3,4,5,7,8,11,12,6,9,10] (fun w'=>Blk w' b5 #[.int .i64 (x.kind),.int .i64 (x.step.kind),.int .i64 (x.step.obj),.int .i64 (x.step.num),.bool true,.int .i64 (x.cell),.int .i64 (x.least),.int .i64 (x.to),.int .i64 (x.by_),.string (x.text)] 63) (by kernel_rfl) (by kernel_rfl) (by kernel_rfl) (by kernel_rfl) (by kernel_rfl) (hB5.keep (Below.refl w.heap.size w).drew) ?_
    have hdr:Below w.heap.size w w.drew:=(Below.refl w.heap.size w).drew
    have hb:=cl_step hb hdr
    have hO:=hO.keep hdr
    have hR:=hR.keep hdr
    have hB5:=hB5.keep hdr
    clear hdr
    generalize w.drew = w at *
    refine F.va rfl rfl (fun w' hw'=>(x_field rfl Try.underlying63 rfl sz4 (by decide))) ?_
    refine F.va rfl rfl (fun w' hw'=>(x_load rfl Try.underlying4 rfl (hw'.cellAt 4 (v:=.bool true) rfl))) ?_
    refine F.va rfl rfl (fun w' hw'=>(x_mvB rfl)) ?_
    refine F.off rfl rfl rfl ?_
    refine F.off rfl rfl rfl ?_
    refine F.off rfl rfl rfl ?_
    refine F.off rfl rfl rfl ?_
    refine F.off rfl rfl rfl ?_
    refine F.off rfl rfl rfl ?_
    refine F.off rfl rfl rfl ?_
    refine F.doo rfl rfl ?_
    refine L.off rfl ?_
    refine L.nil ⟨rfl,hB5,?_⟩
    refine F.off rfl rfl rfl ?_
    refine F.off rfl rfl rfl ?_
    refine F.nil ?_
    show L _ _ _ _ _ _ _
    refine L.off rfl ?_
    refine L.va (x_pickT rfl) ?_
    refine L.nil ?_
    show W _ _ _ _ _ _
    refine W.condT rfl ?_
    refine W.region rfl ?_
    refine L.va (x_mvS rfl) ?_
    refine L.va (x_mvI rfl) ?_
    refine L.build1 (cs:=#[.int .i64 (q:Int)]) rfl rfl Try.underlying26 sz3 rfl ⟨_,zr3⟩ (by decide) (fun w b57 F57=>?_)
    have lt57:wq.heap.size <= b57:=by have h9:=F57.here; have h8:=hb.size; omega
    have hb:=cl_step hb F57.below
    have hO:=hO.keep F57.below
    have hR:=hR.keep F57.below
    have hB5:=hB5.keep F57.below
    have hB57:=F57.blk
    refine L.appendAny (B:=wq.heap.size) (m:=1) rfl rfl Try.underlying26 in3 rfl (by decide) hO (fun h=>by cases h) (news:=[.int .i64 (q:Int)]) rfl (fun ad had j u hj=>by
     cases had
     rw [Addr.add_lit]
     match j,hj with
     | 0,hj=>cases hj; exact hB57.cellAt 0 rfl) (fun u hu=>by simp only [List.mem_cons,List.not_mem_nil,or_false] at hu; subst hu; rfl) (by omega) (by omega) hb.size (fun a2 cp2 w2 hO2 hg2 hbel _=>?_)
    have hbB:Below wq.heap.size wq w2:=hb.trans hbel
    clear hb
    have hb:=hbB
    have hR:=hR0.keep hb
    clear hbB hg2 hbel
    rename World=>w
    refine L.va (x_asS rfl) ?_
    refine L.nil ?_
    refine B.nrm ?_
    show W _ _ _ _ _ _
    refine W.region rfl ?_
    refine L.va (x_mvI rfl) ?_
    refine L.va (x_inc rfl rfl (by omega)) ?_
    refine L.va (x_asI rfl) ?_
    refine L.nil ?_
    refine T.nrm ?_
    have hrl:=rng_yes (r:=r) (i:=q) hrq
    exact ⟨_,by omega,⟨q + 1,n + 1,a2,cp2,rfl,rfl,rfl,rfl,rfl,(by omega),(by rw [hrl,List.length_append,hn]; rfl),(by rw [hrl,List.map_append]; exact hO2),hb,hR⟩⟩
   | false =>
    rw [hfr] at hB5
    refine W.fl 13 [6] [0,1,2,3,4,5,7,8,11,12,6,9,10] (fun w'=>Blk w' b5 #[.int .i64 (x.kind),.int .i64 (x.step.kind),.int .i64 (x.step.obj),.int .i64 (x.step.num),.bool false,.int .i64 (x.cell),.int .i64 (x.least),.int .i64 (x.to),.int .i64 (x.by_),.string (x.text)] 63/\Rf w0 wS b m ba bc w' M) (by kernel_rfl) (by kernel_rfl) (by kernel_rfl) (by kernel_rfl) (by kernel_rfl) (⟨hB5.keep (Below.refl w.heap.size w).drew,hR.keep (Below.refl w.heap.size w).drew⟩) ?_
    have hdr:Below w.heap.size w w.drew:=(Below.refl w.heap.size w).drew
    have hb:=cl_step hb hdr
    have hO:=hO.keep hdr
    have hR:=hR.keep hdr
    have hB5:=hB5.keep hdr
    clear hdr
    generalize w.drew = w at *
    refine F.va rfl rfl (fun w' hw'=>(x_field rfl Try.underlying63 rfl sz4 (by decide))) ?_
    refine F.va rfl rfl (fun w' hw'=>(x_load rfl Try.underlying4 rfl (hw'.1.cellAt 4 (v:=.bool false) rfl))) ?_
    refine F.va rfl rfl (fun w' hw'=>(x_mvB rfl)) ?_
    refine F.on rfl rfl rfl (fun w' hw'=>(x_mvP rfl)) ?_
    refine F.on rfl rfl rfl (fun w' hw'=>(x_field rfl Try.underlying63 rfl sz3 (by decide))) ?_
    refine F.on rfl rfl rfl (fun w' hw'=>(x_load rfl Try.underlying3 rfl (hw'.1.cellAt 5 (v:=.int .i64 (x.cell)) rfl))) ?_
    refine F.on rfl rfl rfl (fun w' hw'=>(x_nilCheck rfl)) ?_
    refine F.on rfl rfl rfl (fun w' hw'=>(x_field rfl Try.underlying68 rfl sz35 (by decide))) ?_
    refine F.on rfl rfl rfl (fun w' hw'=>(x_field rfl Try.underlying63 rfl sz2 (by decide))) ?_
    refine F.on rfl rfl rfl (fun w' hw'=>(x_load rfl Try.underlying2 rfl (hw'.1.cellAt 6 (v:=.int .i64 (x.least)) rfl))) ?_
    refine F.doo rfl rfl ?_
    refine L.on rfl ?_
    refine L.call (x_call1 rfl Try.func34 rfl nm34 rfl) (at_c x.cell w) ?_
    rintro _ w1 ⟨rfl,hw1⟩
    rw [hw1]
    clear hw1 w1
    refine L.nil ⟨rfl,⟨hB5,hR⟩,?_⟩
    refine F.on rfl rfl rfl (fun w' hw'=>(x_idxArr (i:=at4 x.cell) rfl rfl Try.underlying35 sz2 (at4_lt _))) ?_
    refine F.on rfl rfl rfl (fun w' hw'=>(x_load (v:=.int .i64 (M.c (at4 x.cell))) rfl Try.underlying2 rfl (mc_at (m:=m) (ba:=ba) (bc:=bc) (M:=M) hw'.2.run (at4_lt _)))) ?_
    refine F.nil ?_
    show L _ _ _ _ _ _ _
    refine L.on rfl ?_
    refine L.va (x_geq (m:=M.c (at4 x.cell)) (k:=x.least) rfl rfl) ?_
    refine L.va (x_pickF rfl) ?_
    refine L.nil ?_
    show W _ _ _ _ _ _
    refine W.condP rfl (fun h54=>?_) (fun h54=>?_)
    ·have hrq:r q = true:=by rw [hrq,hfr,Bool.false_or]; exact decide_eq_true h54
     refine W.region rfl ?_
     refine L.va (x_mvS rfl) ?_
     refine L.va (x_mvI rfl) ?_
     refine L.build1 (cs:=#[.int .i64 (q:Int)]) rfl rfl Try.underlying26 sz3 rfl ⟨_,zr3⟩ (by decide) (fun w b57 F57=>?_)
     have lt57:wq.heap.size <= b57:=by have h9:=F57.here; have h8:=hb.size; omega
     have hb:=cl_step hb F57.below
     have hO:=hO.keep F57.below
     have hR:=hR.keep F57.below
     have hB5:=hB5.keep F57.below
     have hB57:=F57.blk
     refine L.appendAny (B:=wq.heap.size) (m:=1) rfl rfl Try.underlying26 in3 rfl (by decide) hO (fun h=>by cases h) (news:=[.int .i64 (q:Int)]) rfl (fun ad had j u hj=>by
      cases had
      rw [Addr.add_lit]
      match j,hj with
      | 0,hj=>cases hj; exact hB57.cellAt 0 rfl) (fun u hu=>by simp only [List.mem_cons,List.not_mem_nil,or_false] at hu; subst hu; rfl) (by omega) (by omega) hb.size (fun a2 cp2 w2 hO2 hg2 hbel _=>?_)
     have hbB:Below wq.heap.size wq w2:=hb.trans hbel
     clear hb
     have hb:=hbB
     have hR:=hR0.keep hb
     clear hbB hg2 hbel
     rename World=>w
     refine L.va (x_asS rfl) ?_
     refine L.nil ?_
     refine B.nrm ?_
     show W _ _ _ _ _ _
     refine W.region rfl ?_
     refine L.va (x_mvI rfl) ?_
     refine L.va (x_inc rfl rfl (by omega)) ?_
     refine L.va (x_asI rfl) ?_
     refine L.nil ?_
     refine T.nrm ?_
     have hrl:=rng_yes (r:=r) (i:=q) hrq
     exact ⟨_,by omega,⟨q + 1,n + 1,a2,cp2,rfl,rfl,rfl,rfl,rfl,(by omega),(by rw [hrl,List.length_append,hn]; rfl),(by rw [hrl,List.map_append]; exact hO2),hb,hR⟩⟩
    ·have hrq:r q = false:=by rw [hrq,hfr,Bool.false_or]; exact decide_eq_false h54
     refine W.skip ?_
     refine B.nrm ?_
     show W _ _ _ _ _ _
     refine W.region rfl ?_
     refine L.va (x_mvI rfl) ?_
     refine L.va (x_inc rfl rfl (by omega)) ?_
     refine L.va (x_asI rfl) ?_
     refine L.nil ?_
     refine T.nrm ?_
     have hrl:=rng_no (r:=r) (i:=q) hrq
     exact ⟨_,by omega,⟨q + 1,n,a,cp,rfl,rfl,rfl,rfl,rfl,(by omega),(by rw [hrl]; exact hn),(by rw [hrl]; exact hO),hb,hR⟩⟩
 ·refine W.exit ?_
  repeat (first | refine T.exit ?_ | refine N.exit ?_ | refine B.exitNe (by decide) ?_)
  refine B.exitEq ?_
  show W _ _ _ _ _ _
  refine W.seq ?_
  refine W.region rfl ?_
  refine L.va (x_mvS rfl) ?_
  refine L.va (x_asS rfl) ?_
  refine L.nil ?_
  show W _ _ _ _ _ _
  refine W.ret ?_
  repeat (first | refine T.ret ?_ | refine B.ret ?_ | refine N.ret ?_)
  refine ends.one (.inr rfl) rfl ?_
  obtain rfl:q = m:=by omega
  subst hn
  rw [<- hwq]
  exact ⟨a,cp,rfl,hO,hb,hR⟩
set_option maxHeartbeats 2000000 in
theorem goes_c {w0 wS w:World} {b m bc:Nat} {ba:Option Addr} {M0:Mc} {bo:Nat->List OpD} {aa:Nat->Option Addr} {cc:Nat->Nat} (hBo:BodsAt w0 ba m bo aa cc) (hR:Rf w0 wS b m ba bc w M0) {u i0 j0:Nat} (hu:u < m) (hp:M0.pls[u]? = some i0) (hj:M0.jms[u]? = some j0) (hj50:j0 <= 50) (hi50:i0 <= (bo u).length) (hok:CellsOk M0.c) (he0:M0.ends[u]? = some 0) (hw0:M0.wts[u]? = some sp0) (hnb:(M0.nts ++ tell u M0.evs.length (opsGo (bo u) i0 j0 M0.c).nts).length <= 1000000000) (_hev:M0.evs.length <= 1000000) (hm:m <= 1000):C Try.prog 31 #[.pointer (some ⟨b,0,none⟩),.int .i64 (u:Int)] w fun v w'=>v = .tuple #[]/\∃ M,Rf w0 wS b m ba bc w' M/\Went bo M0 u (opsGo (bo u) i0 j0 M0.c) M:=by
 refine C.enter (n:=137) Try.func31 rfl rfl ?_
 have hln:=hBo.len u hu
 refine W.seq ?_
 refine W.region rfl ?_
 refine L.va (x_mvP rfl) ?_
 refine L.va (x_nilCheck rfl) ?_
 refine L.va (x_field rfl Try.underlying68 rfl sz25 (by decide)) ?_
 refine L.va (x_load rfl Try.underlying25 rfl (hR.run.cellAt 0 (v:=.slice ba m bc) rfl)) ?_
 refine L.va (x_mvI rfl) ?_
 refine L.va (x_idx (i:=u) rfl rfl Try.underlying25 sz64 hBo.sl hu) ?_
 refine L.va (x_load (v:=.slice (aa u) (bo u).length (cc u)) rfl Try.underlying64 rfl (cell_keep (hBo.row u hu) hR.hb)) ?_
 refine L.va (x_asS rfl) ?_
 refine L.nil ?_
 show W _ _ _ _ _ _
 refine W.seq ?_
 refine W.block ?_
 refine W.loop (fun k e w=>∃ (M:Mc),∃ (i:Nat),∃ (j:Nat),k = meas (bo u) i j/\e 0 = .pointer (some ⟨b,0,none⟩)/\e 1 = .int .i64 (u:Int)/\e 4 = .slice (aa u) ((bo u).length) (cc u)/\Rf w0 wS b m ba bc w M/\Gs bo M0 u (opsGo (bo u) i0 j0 M0.c) M i j/\j <= 50/\i <= (bo u).length/\CellsOk M.c) _ ⟨M0,i0,j0,rfl,rfl,rfl,rfl,hR,Gs.start hp hj,hj50,hi50,hok⟩ ?_
 rintro k e w ⟨M,i,j,hk,s0,s1,s4,hR,hG,hj50,hi50,hok⟩
 rw [upd_id s0,upd_id s1,upd_id s4]
 clear s0 s1 s4
 have hGo:=hG
 have hpl:=hG.pk
 refine W.seq ?_
 refine W.seq ?_
 refine W.region rfl ?_
 refine L.va (x_mvP rfl) ?_
 refine L.va (x_nilCheck rfl) ?_
 refine L.va (x_field rfl Try.underlying68 rfl sz26 (by decide)) ?_
 refine L.va (x_load rfl Try.underlying26 rfl (hR.run.cellAt 1 (v:=.slice (some ⟨M.pb,0,none⟩) m m) rfl)) ?_
 refine L.va (x_mvI rfl) ?_
 refine L.va (x_index (i:=u) rfl rfl Try.underlying26 sz3 hu) ?_
 refine L.va (x_load (v:=.int .i64 (i:Int)) rfl Try.underlying3 rfl (hR.pl_at hpl)) ?_
 refine L.va (x_mvS rfl) ?_
 refine L.va (x_len rfl Try.underlying64 rfl) ?_
 refine L.va (x_lss rfl rfl) ?_
 refine L.nil ?_
 show W _ _ _ _ _ _
 refine W.condP rfl (fun h22=>?_) (fun h22=>?_)
 ·have hi:i < (bo u).length:=by omega
  obtain ⟨x,hx⟩:∃ x,(bo u)[i]? = some x:=⟨_,List.getElem?_eq_getElem hi⟩
  refine W.skip ?_
  show W _ _ _ _ _ _
  refine W.block ?_
  refine W.seq ?_
  refine W.region rfl ?_
  refine L.va (x_mvS rfl) ?_
  refine L.va (x_mvP rfl) ?_
  refine L.va (x_nilCheck rfl) ?_
  refine L.va (x_field rfl Try.underlying68 rfl sz26 (by decide)) ?_
  refine L.va (x_load rfl Try.underlying26 rfl (hR.run.cellAt 1 (v:=.slice (some ⟨M.pb,0,none⟩) m m) rfl)) ?_
  refine L.va (x_mvI rfl) ?_
  refine L.va (x_index (i:=u) rfl rfl Try.underlying26 sz3 hu) ?_
  refine L.va (x_load (v:=.int .i64 (i:Int)) rfl Try.underlying3 rfl (hR.pl_at hpl)) ?_
  refine L.va (x_idx (i:=i) rfl rfl Try.underlying64 sz63 (hBo.rsl u hu) hi) ?_
  refine L.va (x_loadAgg (cs:=opC x) rfl Try.underlying63 rfl sz63 rfl (fun y v hv=>cell_keep (hBo.op u hu i x hx y v hv) hR.hb)) ?_
  have z_hR:=hR
  refine L.alloc (cs:=#[.int .i64 0,.int .i64 0,.int .i64 0,.int .i64 0,.bool false,.int .i64 0,.int .i64 0,.int .i64 0,.int .i64 0,.string ByteArray.empty]) zr63 rfl (fun w b5 F5=>?_)
  have lt5:w.heap.size <= w.heap.size:=Nat.le_refl _
  have hR:=hR.keep F5.below
  have hB5:=F5.blk
  refine L.put (b:=b5) (o:=0) (vs:=[.int .i64 (x.kind),.int .i64 (x.step.kind),.int .i64 (x.step.obj),.int .i64 (x.step.num),.bool (x.free),.int .i64 (x.cell),.int .i64 (x.least),.int .i64 (x.to),.int .i64 (x.by_),.string (x.text)]) #[.int .i64 (x.kind),.int .i64 (x.step.kind),.int .i64 (x.step.obj),.int .i64 (x.step.num),.bool (x.free),.int .i64 (x.cell),.int .i64 (x.least),.int .i64 (x.to),.int .i64 (x.by_),.string (x.text)] rfl rfl rfl sz63 rfl rfl hB5 (Nat.le_of_ble_eq_true rfl) (setRow_all rfl) (fun w hnew hg hsz=>?_)
  have hbA:=below_gr F5.below F5.below.size hg (by have:=F5.here; omega)
  have hR:=z_hR.keep hbA
  have hB5:=hnew
  clear hnew hg hsz hbA F5 z_hR
  refine L.nil ?_
  show W _ _ _ _ _ _
  refine W.seq ?_
  refine W.seq ?_
  refine W.region rfl ?_
  refine L.va (x_field rfl Try.underlying63 rfl sz3 (by decide)) ?_
  refine L.va (x_load rfl Try.underlying3 rfl (hB5.cellAt 0 (v:=.int .i64 (x.kind)) rfl)) ?_
  refine L.nil ?_
  show W _ _ _ _ _ _
  refine W.block ?_
  refine W.seq ?_
  refine W.region rfl ?_
  refine L.va (x_eql rfl rfl) ?_
  refine L.va (x_asB rfl) ?_
  refine L.nil ?_
  show W _ _ _ _ _ _
  refine W.condP rfl (fun k1=>?_) (fun k1=>?_)
  ·refine W.seq ?_
   refine W.lastL 9 (fun w'=>Below w.heap.size w w') (by kernel_rfl) (by kernel_rfl) (by kernel_rfl) (by kernel_rfl) ((Below.refl w.heap.size w).drew) ?_
   refine D.va (fun w' hw'=>(x_mvP rfl)) ?_
   refine D.va (fun w' hw'=>(x_nilCheck rfl)) ?_
   refine D.va (fun w' hw'=>(x_field rfl Try.underlying68 rfl sz31 (by decide))) ?_
   refine D.va (fun w' hw'=>(x_field rfl Try.underlying31 rfl sz29 (by decide))) ?_
   refine D.va (fun w' hw'=>(x_load rfl Try.underlying29 rfl ((hR.run.keep hw').cellAt 10 (v:=.slice (some ⟨M.wb,0,none⟩) m m) rfl))) ?_
   refine D.va (fun w' hw'=>(x_mvI rfl)) ?_
   refine D.va (fun w' hw'=>(x_field rfl Try.underlying63 rfl sz43 (by decide))) ?_
   refine D.va (fun w' hw'=>(x_loadAgg (cs:=[.int .i64 (x.step.kind),.int .i64 (x.step.obj),.int .i64 (x.step.num)]) rfl Try.underlying43 rfl sz43 rfl ((hB5.keep hw').aggAt rfl))) ?_
   refine D.va (fun w' hw'=>(x_index (i:=u) rfl rfl Try.underlying29 sz43 hu)) ?_
   refine D.nil (fun w hbw=>?_)
   have hR:=hR.keep hbw
   have hB5:=hB5.keep hbw
   clear hbw
   refine L.rW (i:=u) (z:=x.step) hR hu rfl rfl sz43 (fun w hR _=>?_)
   have hW:=hG.wait he0 hw0 hx k1
   refine L.nil ?_
   show W _ _ _ _ _ _
   refine W.ret ?_
   repeat (first | refine T.ret ?_ | refine B.ret ?_ | refine N.ret ?_)
   refine ends.none (.inr rfl) rfl ?_
   exact ⟨rfl,_,hR,hW⟩
  ·refine W.seq ?_
   refine W.region rfl ?_
   refine L.va (x_eql rfl rfl) ?_
   refine L.va (x_asB rfl) ?_
   refine L.nil ?_
   show W _ _ _ _ _ _
   refine W.condP rfl (fun k2=>?_) (fun k2=>?_)
   ·have hM:=hR.run
    refine W.fl 31 [21,26,29,30] [0,1,2,3,4,5,6,7,8,9,10,11,12,13,14,15,16,17,18,19,20,22,23,21,24,25,26,27,28,29,30] (fun w'=>Blk w' b (Mc.cells m ba bc M) 68/\Blk w' b5 (opC x).toArray 63) (by kernel_rfl) (by kernel_rfl) (by kernel_rfl) (by kernel_rfl) (by kernel_rfl) (⟨hM.keep (Below.refl w.heap.size w).drew,hB5.keep (Below.refl w.heap.size w).drew⟩) ?_
    have hdr:Below w.heap.size w w.drew:=(Below.refl w.heap.size w).drew
    have hR:=hR.keep hdr
    have hB5:=hB5.keep hdr
    have hM:=hM.keep hdr
    clear hdr
    generalize w.drew = w at *
    refine F.va rfl rfl (fun w' hw'=>(x_mvP rfl)) ?_
    refine F.va rfl rfl (fun w' hw'=>(x_mvP rfl)) ?_
    refine F.va rfl rfl (fun w' hw'=>(x_nilCheck rfl)) ?_
    refine F.va rfl rfl (fun w' hw'=>(x_field rfl Try.underlying68 rfl sz31 (by decide))) ?_
    refine F.va rfl rfl (fun w' hw'=>(x_field rfl Try.underlying31 rfl sz28 (by decide))) ?_
    refine F.va rfl rfl (fun w' hw'=>(x_load rfl Try.underlying28 rfl (hw'.1.cellAt 8 (v:=.slice (M.na) (M.nts.length) (M.nc)) rfl))) ?_
    refine F.va rfl rfl (fun w' hw'=>(x_mvP rfl)) ?_
    refine F.va rfl rfl (fun w' hw'=>(x_nilCheck rfl)) ?_
    refine F.va rfl rfl (fun w' hw'=>(x_field rfl Try.underlying68 rfl sz31 (by decide))) ?_
    refine F.va rfl rfl (fun w' hw'=>(x_field rfl Try.underlying31 rfl sz27 (by decide))) ?_
    refine F.va rfl rfl (fun w' hw'=>(x_load rfl Try.underlying27 rfl (hw'.1.cellAt 7 (v:=.slice (M.ea) (M.evs.length) (M.ec)) rfl))) ?_
    refine F.va rfl rfl (fun w' hw'=>(x_len rfl Try.underlying27 rfl)) ?_
    refine F.va rfl rfl (fun w' hw'=>(x_mvI rfl)) ?_
    refine F.va rfl rfl (fun w' hw'=>(x_field rfl Try.underlying63 rfl sz43 (by decide))) ?_
    refine F.va rfl rfl (fun w' hw'=>(x_field rfl Try.underlying43 rfl sz3 (by decide))) ?_
    refine F.va rfl rfl (fun w' hw'=>(x_load rfl Try.underlying3 rfl (hw'.2.cellAt 1 (v:=.int .i64 (x.step.kind)) rfl))) ?_
    refine F.va rfl rfl (fun w' hw'=>(x_field rfl Try.underlying63 rfl sz9 (by decide))) ?_
    refine F.va rfl rfl (fun w' hw'=>(x_load rfl Try.underlying9 rfl (hw'.2.cellAt 9 (v:=.string (x.text)) rfl))) ?_
    refine F.va rfl rfl (fun w' hw'=>(x_mvP rfl)) ?_
    refine F.va rfl rfl (fun w' hw'=>(x_field rfl Try.underlying63 rfl sz3 (by decide))) ?_
    refine F.va rfl rfl (fun w' hw'=>(x_load rfl Try.underlying3 rfl (hw'.2.cellAt 5 (v:=.int .i64 (x.cell)) rfl))) ?_
    refine F.va rfl rfl (fun w' hw'=>(x_nilCheck rfl)) ?_
    refine F.va rfl rfl (fun w' hw'=>(x_field rfl Try.underlying68 rfl sz35 (by decide))) ?_
    refine F.doo rfl rfl ?_
    refine L.call (x_call1 rfl Try.func34 rfl nm34 rfl) (at_c x.cell w) ?_
    rintro _ w1 ⟨rfl,hw1⟩
    rw [hw1]
    clear hw1 w1
    refine L.nil ⟨rfl,⟨hM,hB5⟩,?_⟩
    refine F.va rfl rfl (fun w' hw'=>(x_idxArr (i:=at4 x.cell) rfl rfl Try.underlying35 sz2 (at4_lt _))) ?_
    refine F.va rfl rfl (fun w' hw'=>(x_load (v:=.int .i64 (M.c (at4 x.cell))) rfl Try.underlying2 rfl (mc_at (m:=m) (ba:=ba) (bc:=bc) (M:=M) hw'.1 (at4_lt _)))) ?_
    refine F.doo rfl rfl ?_
    refine L.call (x_call1 rfl Try.func42 rfl nm42 rfl) (digits_c (M.c (at4 x.cell)) (hok _) w) ?_
    rintro _ w ⟨rfl,hbw⟩
    have hR:=hR.keep hbw
    have hB5:=hB5.keep hbw
    have hM:=hM.keep hbw
    clear hbw
    refine L.nil ⟨rfl,⟨hM,hB5⟩,?_⟩
    refine F.va rfl rfl (fun w' hw'=>(x_addStr rfl rfl (by have h1:=hBo.text u hu i x hx; have h2:=digB_size (hok (at4 x.cell)); omega))) ?_
    refine F.va rfl rfl (fun w' hw'=>(x_build (parts:=[(0,.tmp 59),(1,.tmp 60),(2,.tmp 63),(3,.tmp 75)]) rfl (buGo_0 (M.evs.length:Nat) (u:Int) (x.step.kind) (x.text ++ digB (M.c (at4 x.cell)))))) ?_
    refine F.doo rfl rfl ?_
    refine L.build1 (cs:=#[.int .i64 (M.evs.length:Nat),.int .i64 (u:Int),.int .i64 (x.step.kind),.string (x.text ++ digB (M.c (at4 x.cell)))]) rfl rfl Try.underlying28 sz47 rfl ⟨_,zr47⟩ (by decide) (fun w b77 F77=>?_)
    have lt77:w.heap.size <= w.heap.size:=Nat.le_refl _
    have hR:=hR.keep F77.below
    have hB5:=hB5.keep F77.below
    have hM:=hM.keep F77.below
    have hB77:=F77.blk
    refine L.nil ⟨rfl,⟨hM,hB5⟩,?_⟩
    refine F.doo rfl rfl ?_
    have hrm:=hG.room hnb
    have hon:=opsGo_at (j:=j) (c:=M.c) hx
    rw [if_neg k1,if_pos k2] at hon
    rw [hon] at hrm
    have hrm:M.nts.length + ((opsGo (bo u) (i + 1) j M.c).nts.length + 1) <= 1000000000:=hrm
    have hlw:=hR.hb.size
    refine L.appendW (B:=w0.heap.size) (m:=1) rfl rfl Try.underlying28 in47 rfl (by decide) hR.nts (news:=[.int .i64 (M.evs.length:Int),.int .i64 (u:Int),.int .i64 x.step.kind,.string (x.text ++ digB (M.c (at4 x.cell)))]) rfl (fun j u hj=>by
     rw [Addr.add_lit]
     match j,hj with
     | 0,hj=>cases hj; exact hB77.cellAt 0 rfl
     | 1,hj=>cases hj; exact hB77.cellAt 1 rfl
     | 2,hj=>cases hj; exact hB77.cellAt 2 rfl
     | 3,hj=>cases hj; exact hB77.cellAt 3 rfl) (fun u hu=>by simp only [List.mem_cons,List.not_mem_nil,or_false] at hu; rcases hu with rfl | rfl | rfl | rfl <;> rfl) (by omega) (by omega) hlw (fun a78 c78 w2 hO hgr _=>?_)
    have hB5:Blk w2 b5 (opC x).toArray 63:=apartF (blkF_of hB5) hgr (row_ne hR.nts (by decide))
    have hM:=apartF hM hgr (row_ne hR.nts (by decide))
    refine L.nil ⟨rfl,⟨hM,hB5⟩,?_⟩
    refine F.nil ?_
    show L _ _ _ _ _ _ _
    refine L.va (x_nilCheck rfl) ?_
    refine L.va (x_field rfl Try.underlying68 rfl sz31 (by decide)) ?_
    refine L.va (x_field rfl Try.underlying31 rfl sz28 (by decide)) ?_
    have hRr:=hM
    refine L.rNt hR (M.evs.length,u,(⟨x.step.kind,x.text ++ digB (M.c (at4 x.cell))⟩:Nte)) hgr hO rfl rfl sz28 (fun w hR hg3=>?_)
    have hB5:Blk w b5 (opC x).toArray 63:=apartF (blkF_of hB5) hg3 (fun r e=>by cases e; exact ⟨_,_,_,hRr,by decide⟩)
    clear hgr hO hg3 hRr
    have hG:=hG.note hx k2 a78 c78
    refine L.nil ?_
    try clear hM
    refine B.nrm ?_
    show W _ _ _ _ _ _
    have hGk:=And.intro hGo.pk hGo.jk
    have hok2:=hok
    have hM:=hR.run
    refine W.fl 9 [8] [0,1,2,3,4,5,6,7,8] (fun w'=>Blk w' b (Mc.cells m ba bc { M with na:=a78,nc:=c78,nts:=M.nts ++ [(M.evs.length,u,(⟨x.step.kind,x.text ++ digB (M.c (at4 x.cell))⟩:Nte))] }) 68/\Blk w' b5 (opC x).toArray 63) (by kernel_rfl) (by kernel_rfl) (by kernel_rfl) (by kernel_rfl) (by kernel_rfl) (⟨hM.keep (Below.refl w.heap.size w).drew,hB5.keep (Below.refl w.heap.size w).drew⟩) ?_
    have hdr:Below w.heap.size w w.drew:=(Below.refl w.heap.size w).drew
    have hR:=hR.keep hdr
    have hB5:=hB5.keep hdr
    have hM:=hM.keep hdr
    clear hdr
    generalize w.drew = w at *
    refine F.va rfl rfl (fun w' hw'=>(x_mvP rfl)) ?_
    refine F.va rfl rfl (fun w' hw'=>(x_nilCheck rfl)) ?_
    refine F.va rfl rfl (fun w' hw'=>(x_field rfl Try.underlying68 rfl sz26 (by decide))) ?_
    refine F.va rfl rfl (fun w' hw'=>(x_load rfl Try.underlying26 rfl (hw'.1.cellAt 1 (v:=.slice (some ⟨M.pb,0,none⟩) m m) rfl))) ?_
    refine F.va rfl rfl (fun w' hw'=>(x_mvI rfl)) ?_
    refine F.va rfl rfl (fun w' hw'=>(x_mvP rfl)) ?_
    refine F.va rfl rfl (fun w' hw'=>(x_mvI rfl)) ?_
    refine F.va rfl rfl (fun w' hw'=>(x_loadAgg (cs:=[.int .i64 (x.kind),.int .i64 (x.step.kind),.int .i64 (x.step.obj),.int .i64 (x.step.num),.bool (x.free),.int .i64 (x.cell),.int .i64 (x.least),.int .i64 (x.to),.int .i64 (x.by_),.string (x.text)]) rfl Try.underlying63 rfl sz63 rfl (hw'.2.aggAt rfl))) ?_
    refine F.doo rfl rfl ?_
    have hRz:=hR.base
    have hpk:({ M with na:=a78,nc:=c78,nts:=M.nts ++ [(M.evs.length,u,(⟨x.step.kind,x.text ++ digB (M.c (at4 x.cell))⟩:Nte))] }:Mc).pls[u]? = some i:=hGk.1
    have hjk:({ M with na:=a78,nc:=c78,nts:=M.nts ++ [(M.evs.length,u,(⟨x.step.kind,x.text ++ digB (M.c (at4 x.cell))⟩:Nte))] }:Mc).jms[u]? = some j:=hGk.2
    refine L.call (x_call3 rfl rfl rfl Try.func43 rfl nm43 rfl) (next_c hBo hRz hu hpk hjk (by omega)) ?_
    rintro _ w ⟨rfl,hR1⟩
    have hB5:Blk w b5 (opC x).toArray 63:=hR1.kp _ _ _ _ (blkF_of hB5) (by decide)
    have hR:=hR1.over hR.kp
    have hM:=hR.run
    clear hRz hR1 hpk hjk
    refine L.nil ⟨rfl,⟨hM,hB5⟩,?_⟩
    refine F.nil ?_
    show L _ _ _ _ _ _ _
    refine L.va (x_index (i:=u) rfl rfl Try.underlying26 sz3 hu) ?_
    refine L.rP (i:=u) (z:=(nxt (bo u) x i j ({ M with na:=a78,nc:=c78,nts:=M.nts ++ [(M.evs.length,u,(⟨x.step.kind,x.text ++ digB (M.c (at4 x.cell))⟩:Nte))] }:Mc).c).1) hR hu rfl rfl sz3 (fun w hR _=>?_)
    refine L.nil ?_
    try clear hM
    refine B.nrm ?_
    refine T.nrm ?_
    have hms:=nxt_lt hx (M.c) hj50
    exact ⟨_,(by have:=hms.1; omega),⟨{ ({ M with na:=a78,nc:=c78,nts:=M.nts ++ [(M.evs.length,u,(⟨x.step.kind,x.text ++ digB (M.c (at4 x.cell))⟩:Nte))] }:Mc) with jms:=({ M with na:=a78,nc:=c78,nts:=M.nts ++ [(M.evs.length,u,(⟨x.step.kind,x.text ++ digB (M.c (at4 x.cell))⟩:Nte))] }:Mc).jms.set u (nxt (bo u) x i j (M.c)).2,pls:=({ M with na:=a78,nc:=c78,nts:=M.nts ++ [(M.evs.length,u,(⟨x.step.kind,x.text ++ digB (M.c (at4 x.cell))⟩:Nte))] }:Mc).pls.set u (nxt (bo u) x i j (M.c)).1 },(nxt (bo u) x i j (M.c)).1,(nxt (bo u) x i j (M.c)).2,rfl,rfl,rfl,rfl,hR,hG,hms.2.1,hms.2.2,hok2⟩⟩
   ·refine W.seq ?_
    refine W.region rfl ?_
    refine L.va (x_eql rfl rfl) ?_
    refine L.va (x_asB rfl) ?_
    refine L.nil ?_
    show W _ _ _ _ _ _
    refine W.condP rfl (fun k3=>?_) (fun k3=>?_)
    ·have hM:=hR.run
     refine W.fl 17 [3,7] [0,1,2,4,5,6,8,9,12,13,15,16,3,7,10,11,14] (fun w'=>Blk w' b5 (opC x).toArray 63/\Blk w' b (Mc.cells m ba bc M) 68) (by kernel_rfl) (by kernel_rfl) (by kernel_rfl) (by kernel_rfl) (by kernel_rfl) (⟨hB5.keep (Below.refl w.heap.size w).drew,hM.keep (Below.refl w.heap.size w).drew⟩) ?_
     have hdr:Below w.heap.size w w.drew:=(Below.refl w.heap.size w).drew
     have hR:=hR.keep hdr
     have hB5:=hB5.keep hdr
     have hM:=hM.keep hdr
     clear hdr
     generalize w.drew = w at *
     refine F.va rfl rfl (fun w' hw'=>(x_mvP rfl)) ?_
     refine F.va rfl rfl (fun w' hw'=>(x_field rfl Try.underlying63 rfl sz3 (by decide))) ?_
     refine F.va rfl rfl (fun w' hw'=>(x_load rfl Try.underlying3 rfl (hw'.1.cellAt 7 (v:=.int .i64 (x.to)) rfl))) ?_
     refine F.va rfl rfl (fun w' hw'=>(x_mvP rfl)) ?_
     refine F.va rfl rfl (fun w' hw'=>(x_field rfl Try.underlying63 rfl sz3 (by decide))) ?_
     refine F.va rfl rfl (fun w' hw'=>(x_load rfl Try.underlying3 rfl (hw'.1.cellAt 7 (v:=.int .i64 (x.to)) rfl))) ?_
     refine F.va rfl rfl (fun w' hw'=>(x_nilCheck rfl)) ?_
     refine F.va rfl rfl (fun w' hw'=>(x_field rfl Try.underlying68 rfl sz35 (by decide))) ?_
     refine F.va rfl rfl (fun w' hw'=>(x_field rfl Try.underlying63 rfl sz2 (by decide))) ?_
     refine F.va rfl rfl (fun w' hw'=>(x_load rfl Try.underlying2 rfl (hw'.1.cellAt 8 (v:=.int .i64 (x.by_)) rfl))) ?_
     refine F.va rfl rfl (fun w' hw'=>(x_nilCheck rfl)) ?_
     refine F.va rfl rfl (fun w' hw'=>(x_field rfl Try.underlying68 rfl sz35 (by decide))) ?_
     refine F.doo rfl rfl ?_
     refine L.call (x_call1 rfl Try.func34 rfl nm34 rfl) (at_c x.to w) ?_
     rintro _ w1 ⟨rfl,hw1⟩
     rw [hw1]
     clear hw1 w1
     refine L.nil ⟨rfl,⟨hB5,hM⟩,?_⟩
     refine F.doo rfl rfl ?_
     refine L.call (x_call1 rfl Try.func34 rfl nm34 rfl) (at_c x.to w) ?_
     rintro _ w1 ⟨rfl,hw1⟩
     rw [hw1]
     clear hw1 w1
     refine L.nil ⟨rfl,⟨hB5,hM⟩,?_⟩
     refine F.va rfl rfl (fun w' hw'=>(x_idxArr (i:=at4 x.to) rfl rfl Try.underlying35 sz2 (at4_lt _))) ?_
     refine F.va rfl rfl (fun w' hw'=>(x_load (v:=.int .i64 (M.c (at4 x.to))) rfl Try.underlying2 rfl (mc_at (m:=m) (ba:=ba) (bc:=bc) (M:=M) hw'.2 (at4_lt _)))) ?_
     refine F.va rfl rfl (fun w' hw'=>(x_add (κ:=.i64) (m:=M.c (at4 x.to)) (k:=x.by_) rfl rfl)) ?_
     refine F.nil ?_
     show L _ _ _ _ _ _ _
     refine L.va (x_idxArr (i:=at4 x.to) rfl rfl Try.underlying35 sz2 (at4_lt _)) ?_
     have hRr:=hM
     refine L.rM hR (addC M.c (at4 x.to) x.by_) M.stuck M.used rfl rfl rfl sz2 rfl rfl (by show 3 + at4 x.to * 1 + 1 <= 13; have:=at4_lt x.to; omega) (mc_add (at4_lt _) _) (fun w hR hg3=>?_)
     have hB5:Blk w b5 (opC x).toArray 63:=apartF (blkF_of hB5) hg3 (fun r e=>by cases e; exact ⟨_,_,_,hRr,by decide⟩)
     clear hg3 hRr
     have hG:=hG.add hx k3
     refine L.nil ?_
     try clear hM
     refine B.nrm ?_
     show W _ _ _ _ _ _
     have hGk:=And.intro hGo.pk hGo.jk
     have hok2:=hok.add (at4 x.to) x.by_
     have hM:=hR.run
     refine W.fl 9 [8] [0,1,2,3,4,5,6,7,8] (fun w'=>Blk w' b (Mc.cells m ba bc { M with c:=addC M.c (at4 x.to) x.by_ }) 68/\Blk w' b5 (opC x).toArray 63) (by kernel_rfl) (by kernel_rfl) (by kernel_rfl) (by kernel_rfl) (by kernel_rfl) (⟨hM.keep (Below.refl w.heap.size w).drew,hB5.keep (Below.refl w.heap.size w).drew⟩) ?_
     have hdr:Below w.heap.size w w.drew:=(Below.refl w.heap.size w).drew
     have hR:=hR.keep hdr
     have hB5:=hB5.keep hdr
     have hM:=hM.keep hdr
     clear hdr
     generalize w.drew = w at *
     refine F.va rfl rfl (fun w' hw'=>(x_mvP rfl)) ?_
     refine F.va rfl rfl (fun w' hw'=>(x_nilCheck rfl)) ?_
     refine F.va rfl rfl (fun w' hw'=>(x_field rfl Try.underlying68 rfl sz26 (by decide))) ?_
     refine F.va rfl rfl (fun w' hw'=>(x_load rfl Try.underlying26 rfl (hw'.1.cellAt 1 (v:=.slice (some ⟨M.pb,0,none⟩) m m) rfl))) ?_
     refine F.va rfl rfl (fun w' hw'=>(x_mvI rfl)) ?_
     refine F.va rfl rfl (fun w' hw'=>(x_mvP rfl)) ?_
     refine F.va rfl rfl (fun w' hw'=>(x_mvI rfl)) ?_
     refine F.va rfl rfl (fun w' hw'=>(x_loadAgg (cs:=[.int .i64 (x.kind),.int .i64 (x.step.kind),.int .i64 (x.step.obj),.int .i64 (x.step.num),.bool (x.free),.int .i64 (x.cell),.int .i64 (x.least),.int .i64 (x.to),.int .i64 (x.by_),.string (x.text)]) rfl Try.underlying63 rfl sz63 rfl (hw'.2.aggAt rfl))) ?_
     refine F.doo rfl rfl ?_
     have hRz:=hR.base
     have hpk:({ M with c:=addC M.c (at4 x.to) x.by_ }:Mc).pls[u]? = some i:=hGk.1
     have hjk:({ M with c:=addC M.c (at4 x.to) x.by_ }:Mc).jms[u]? = some j:=hGk.2
     refine L.call (x_call3 rfl rfl rfl Try.func43 rfl nm43 rfl) (next_c hBo hRz hu hpk hjk (by omega)) ?_
     rintro _ w ⟨rfl,hR1⟩
     have hB5:Blk w b5 (opC x).toArray 63:=hR1.kp _ _ _ _ (blkF_of hB5) (by decide)
     have hR:=hR1.over hR.kp
     have hM:=hR.run
     clear hRz hR1 hpk hjk
     refine L.nil ⟨rfl,⟨hM,hB5⟩,?_⟩
     refine F.nil ?_
     show L _ _ _ _ _ _ _
     refine L.va (x_index (i:=u) rfl rfl Try.underlying26 sz3 hu) ?_
     refine L.rP (i:=u) (z:=(nxt (bo u) x i j ({ M with c:=addC M.c (at4 x.to) x.by_ }:Mc).c).1) hR hu rfl rfl sz3 (fun w hR _=>?_)
     refine L.nil ?_
     try clear hM
     refine B.nrm ?_
     refine T.nrm ?_
     have hms:=nxt_lt hx (addC M.c (at4 x.to) x.by_) hj50
     exact ⟨_,(by have:=hms.1; omega),⟨{ ({ M with c:=addC M.c (at4 x.to) x.by_ }:Mc) with jms:=({ M with c:=addC M.c (at4 x.to) x.by_ }:Mc).jms.set u (nxt (bo u) x i j (addC M.c (at4 x.to) x.by_)).2,pls:=({ M with c:=addC M.c (at4 x.to) x.by_ }:Mc).pls.set u (nxt (bo u) x i j (addC M.c (at4 x.to) x.by_)).1 },(nxt (bo u) x i j (addC M.c (at4 x.to) x.by_)).1,(nxt (bo u) x i j (addC M.c (at4 x.to) x.by_)).2,rfl,rfl,rfl,rfl,hR,hG,hms.2.1,hms.2.2,hok2⟩⟩
    ·refine W.seq ?_
     refine W.region rfl ?_
     refine L.va (x_eql rfl rfl) ?_
     refine L.va (x_asB rfl) ?_
     refine L.nil ?_
     show W _ _ _ _ _ _
     refine W.condP rfl (fun k4=>?_) (fun k4=>?_)
     ·refine W.seq ?_
      refine W.region rfl ?_
      refine L.va (x_mvP rfl) ?_
      refine L.va (x_nilCheck rfl) ?_
      refine L.va (x_field rfl Try.underlying68 rfl sz31 (by decide)) ?_
      refine L.va (x_field rfl Try.underlying31 rfl sz26 (by decide)) ?_
      refine L.va (x_load rfl Try.underlying26 rfl (hR.run.cellAt 9 (v:=.slice (some ⟨M.eb,0,none⟩) m m) rfl)) ?_
      refine L.va (x_mvI rfl) ?_
      refine L.va (x_index (i:=u) rfl rfl Try.underlying26 sz3 hu) ?_
      refine L.rE (i:=u) (z:=2) hR hu rfl rfl sz3 (fun w hR _=>?_)
      have hW:=hG.done (z:=2) he0 hw0 (by rw [opsGo_at hx,if_neg k1,if_neg k2,if_neg k3,if_pos k4])
      refine L.nil ?_
      show W _ _ _ _ _ _
      refine W.ret ?_
      repeat (first | refine T.ret ?_ | refine B.ret ?_ | refine N.ret ?_)
      refine ends.none (.inr rfl) rfl ?_
      exact ⟨rfl,_,hR,hW⟩
     ·refine W.seq ?_
      refine W.region rfl ?_
      refine L.va (x_eql rfl rfl) ?_
      refine L.va (x_asB rfl) ?_
      refine L.nil ?_
      show W _ _ _ _ _ _
      refine W.condP rfl (fun k5=>?_) (fun k5=>?_)
      ·refine W.seq ?_
       refine W.region rfl ?_
       refine L.va (x_mvP rfl) ?_
       refine L.va (x_nilCheck rfl) ?_
       refine L.va (x_field rfl Try.underlying68 rfl sz31 (by decide)) ?_
       refine L.va (x_field rfl Try.underlying31 rfl sz26 (by decide)) ?_
       refine L.va (x_load rfl Try.underlying26 rfl (hR.run.cellAt 9 (v:=.slice (some ⟨M.eb,0,none⟩) m m) rfl)) ?_
       refine L.va (x_mvI rfl) ?_
       refine L.va (x_index (i:=u) rfl rfl Try.underlying26 sz3 hu) ?_
       refine L.rE (i:=u) (z:=1) hR hu rfl rfl sz3 (fun w hR _=>?_)
       have hW:=hG.done (z:=1) he0 hw0 (by rw [opsGo_at hx,if_neg k1,if_neg k2,if_neg k3,if_neg k4,if_pos k5])
       refine L.nil ?_
       show W _ _ _ _ _ _
       refine W.ret ?_
       repeat (first | refine T.ret ?_ | refine B.ret ?_ | refine N.ret ?_)
       refine ends.none (.inr rfl) rfl ?_
       exact ⟨rfl,_,hR,hW⟩
      ·refine W.skip ?_
       refine B.nrm ?_
       show W _ _ _ _ _ _
       have hGk:=And.intro hGo.pk hGo.jk
       have hok2:=hok
       have hG:=hG.next hx k1 k2 k3 k4 k5
       have hM:=hR.run
       refine W.fl 9 [8] [0,1,2,3,4,5,6,7,8] (fun w'=>Blk w' b (Mc.cells m ba bc M) 68/\Blk w' b5 (opC x).toArray 63) (by kernel_rfl) (by kernel_rfl) (by kernel_rfl) (by kernel_rfl) (by kernel_rfl) (⟨hM.keep (Below.refl w.heap.size w).drew,hB5.keep (Below.refl w.heap.size w).drew⟩) ?_
       have hdr:Below w.heap.size w w.drew:=(Below.refl w.heap.size w).drew
       have hR:=hR.keep hdr
       have hB5:=hB5.keep hdr
       have hM:=hM.keep hdr
       clear hdr
       generalize w.drew = w at *
       refine F.va rfl rfl (fun w' hw'=>(x_mvP rfl)) ?_
       refine F.va rfl rfl (fun w' hw'=>(x_nilCheck rfl)) ?_
       refine F.va rfl rfl (fun w' hw'=>(x_field rfl Try.underlying68 rfl sz26 (by decide))) ?_
       refine F.va rfl rfl (fun w' hw'=>(x_load rfl Try.underlying26 rfl (hw'.1.cellAt 1 (v:=.slice (some ⟨M.pb,0,none⟩) m m) rfl))) ?_
       refine F.va rfl rfl (fun w' hw'=>(x_mvI rfl)) ?_
       refine F.va rfl rfl (fun w' hw'=>(x_mvP rfl)) ?_
       refine F.va rfl rfl (fun w' hw'=>(x_mvI rfl)) ?_
       refine F.va rfl rfl (fun w' hw'=>(x_loadAgg (cs:=[.int .i64 (x.kind),.int .i64 (x.step.kind),.int .i64 (x.step.obj),.int .i64 (x.step.num),.bool (x.free),.int .i64 (x.cell),.int .i64 (x.least),.int .i64 (x.to),.int .i64 (x.by_),.string (x.text)]) rfl Try.underlying63 rfl sz63 rfl (hw'.2.aggAt rfl))) ?_
       refine F.doo rfl rfl ?_
       have hRz:=hR.base
       have hpk:(M:Mc).pls[u]? = some i:=hGk.1
       have hjk:(M:Mc).jms[u]? = some j:=hGk.2
       refine L.call (x_call3 rfl rfl rfl Try.func43 rfl nm43 rfl) (next_c hBo hRz hu hpk hjk (by omega)) ?_
       rintro _ w ⟨rfl,hR1⟩
       have hB5:Blk w b5 (opC x).toArray 63:=hR1.kp _ _ _ _ (blkF_of hB5) (by decide)
       have hR:=hR1.over hR.kp
       have hM:=hR.run
       clear hRz hR1 hpk hjk
       refine L.nil ⟨rfl,⟨hM,hB5⟩,?_⟩
       refine F.nil ?_
       show L _ _ _ _ _ _ _
       refine L.va (x_index (i:=u) rfl rfl Try.underlying26 sz3 hu) ?_
       refine L.rP (i:=u) (z:=(nxt (bo u) x i j (M:Mc).c).1) hR hu rfl rfl sz3 (fun w hR _=>?_)
       refine L.nil ?_
       try clear hM
       refine B.nrm ?_
       refine T.nrm ?_
       have hms:=nxt_lt hx (M.c) hj50
       exact ⟨_,(by have:=hms.1; omega),⟨{ (M:Mc) with jms:=(M:Mc).jms.set u (nxt (bo u) x i j (M.c)).2,pls:=(M:Mc).pls.set u (nxt (bo u) x i j (M.c)).1 },(nxt (bo u) x i j (M.c)).1,(nxt (bo u) x i j (M.c)).2,rfl,rfl,rfl,rfl,hR,hG,hms.2.1,hms.2.2,hok2⟩⟩
 ·refine W.exit ?_
  repeat (first | refine T.exit ?_ | refine N.exit ?_ | refine B.exitNe (by decide) ?_)
  refine B.exitEq ?_
  show W _ _ _ _ _ _
  refine W.region rfl ?_
  refine L.va (x_mvP rfl) ?_
  refine L.va (x_nilCheck rfl) ?_
  refine L.va (x_field rfl Try.underlying68 rfl sz31 (by decide)) ?_
  refine L.va (x_field rfl Try.underlying31 rfl sz26 (by decide)) ?_
  refine L.va (x_load rfl Try.underlying26 rfl (hR.run.cellAt 9 (v:=.slice (some ⟨M.eb,0,none⟩) m m) rfl)) ?_
  refine L.va (x_mvI rfl) ?_
  refine L.va (x_index (i:=u) rfl rfl Try.underlying26 sz3 hu) ?_
  refine L.rE (i:=u) (z:=1) hR hu rfl rfl sz3 (fun w hR _=>?_)
  have hW:=hG.done (z:=1) he0 hw0 (by exact opsGo_end (by omega))
  refine L.nil ?_
  repeat (first | refine T.nrm ?_ | refine B.nrm ?_ | refine N.nrm ?_)
  refine ends.none (.inl rfl) rfl ?_
  exact ⟨rfl,_,hR,hW⟩
end
end Go.Vy.Sc
end
/- The document's machine and the run that is told without a program. -/
section
namespace Go.Vy.Sc
open Go Go.Conc Go.Yc Go.RowKit Go.Proofs Go.Proofs.Ytfmoeemolgjodaa
open Go.Vc Go.Wg
theorem opsGo_ok (ops:List OpD):∀ (μ i j:Nat) (c:Cells),meas ops i j = μ->CellsOk c->j <= 50->(∀ l,(opsGo ops i j c).fate = .inl l->l.1 < ops.length/\l.2 <= 50)/\(∀ x,(opsGo ops i j c).fate = .inr x->x ≠ 0)/\CellsOk (opsGo ops i j c).s:=by
 intro μ
 induction μ using Nat.strongRecOn with
 | _ μ ih =>
 intro i j c hμ hc hj
 rcases Nat.lt_or_ge i ops.length with hi | hi
 ·obtain ⟨o,ho⟩:∃ o,ops[i]? = some o:=⟨_,List.getElem?_eq_getElem hi⟩
  have hn:=meas_next (j:=j) hi
  rw [opsGo_at ho]
  split
  ·exact ⟨fun l h=>by cases h; exact ⟨hi,hj⟩,fun x h=>(by cases h),hc⟩
  split
  ·exact ih _ (by omega) (i + 1) j c rfl hc hj
  split
  ·exact ih _ (by omega) (i + 1) j _ rfl (hc.add _ _) hj
  split
  ·exact ⟨fun l h=>(by cases h),fun x h=>by cases h; decide,hc⟩
  split
  ·exact ⟨fun l h=>(by cases h),fun x h=>by cases h; decide,hc⟩
  split
  ·rename_i hjm
   have hj':j < 50:=by
    simp only [jumps,Bool.and_eq_true,decide_eq_true_eq] at hjm
    exact hjm.1.1.2
   have hm:=meas_jump (ops:=ops) (i:=i) (k:=o.cell.toNat) hj'
   exact ih _ (by omega) o.cell.toNat (j + 1) c rfl hc (by omega)
  ·exact ih _ (by omega) (i + 1) j c rfl hc hj
 ·rw [opsGo_end (by omega)]
  exact ⟨fun l h=>(by cases h),fun x h=>by cases h; decide,hc⟩
theorem wtOf_m (m m':Nat) (bo:Nat->List OpD) (j:Nat) (x:Option ((Nat × Nat) ⊕ Nat)):wtOf (pSys m bo) j x = wtOf (pSys m' bo) j x:=by
 rcases x with _ | (l | x) <;> rfl
structure MR (m:Nat) (bo:Nat->List OpD) (p:PR (pSys m bo)) (st:Bool) (M:Mc):Prop where
 c:M.c = p.s
 evs:M.evs = p.evs
 nts:M.nts = p.nts
 used:M.used = p.used
 stuck:M.stuck = st
 ends:∀ j,j < m->M.ends[j]? = some (endOf p.ft[j]?)
 wts:∀ j,j < m->M.wts[j]? = some (wtOf (pSys m bo) j p.ft[j]?)
 nil:∀ j,j < m->p.ft[j]? = none->M.pls[j]? = some 0/\M.jms[j]? = some 0
 inl:∀ j l,j < m->p.ft[j]? = some (.inl l)->M.pls[j]? = some l.1/\M.jms[j]? = some l.2/\l.1 < (bo j).length/\l.2 <= 50
 inr:∀ j x,j < m->p.ft[j]? = some (.inr x)->x ≠ 0
 ok:CellsOk p.s
section
variable {m:Nat} {bo:Nat->List OpD} {p:PR (pSys m bo)} {st:Bool} {M M':Mc} {k i:Nat}
theorem MR.bgn (h:MR m bo p st M) (hk:p.ft.length = k) (hkm:k < m) (hW:Went bo M k (opsGo (bo k) 0 0 p.s) M'):MR m bo ((pSys m bo).bgn p) st M':=by
 subst hk
 obtain ⟨g1,g2,g3⟩:=opsGo_ok (bo p.ft.length) _ 0 0 p.s rfl h.ok (Nat.zero_le _)
 have hb:(pSys m bo).bgn p = { p with s:=(opsGo (bo p.ft.length) 0 0 p.s).s,ft:=p.ft ++ [(opsGo (bo p.ft.length) 0 0 p.s).fate],nts:=p.nts ++ tell p.ft.length p.evs.length (opsGo (bo p.ft.length) 0 0 p.s).nts,outs:=p.outs ++ [opsGo (bo p.ft.length) 0 0 p.s],who:=p.who ++ [none] }:=rfl
 rw [hb]
 have hlast:(p.ft ++ [(opsGo (bo p.ft.length) 0 0 p.s).fate])[p.ft.length]? = some (opsGo (bo p.ft.length) 0 0 p.s).fate:=by simp
 have hoth:∀ q,q ≠ p.ft.length->(p.ft ++ [(opsGo (bo p.ft.length) 0 0 p.s).fate])[q]? = p.ft[q]?:=fun q hq=>by
  rcases Nat.lt_or_ge q p.ft.length with z | z
  ·rw [List.getElem?_append_left z]
  ·rw [List.getElem?_eq_none z,List.getElem?_eq_none]
   rw [List.length_append]
   show p.ft.length + 1 <= q
   omega
 refine ⟨hW.c,hW.evs.trans h.evs,?_,hW.used.trans h.used,hW.stuck.trans h.stuck,fun q hq=>?_,fun q hq=>?_,fun q hq hf=>?_,fun q l hq hf=>?_,fun q x hq hf=>?_,g3⟩
 ·rw [hW.nts,h.nts,h.evs]
 ·show M'.ends[q]? = some (endOf (p.ft ++ [_])[q]?)
  by_cases e:q = p.ft.length
  ·subst e; rw [hlast]; exact hW.ek
  ·rw [hoth q e,hW.ends q e]; exact h.ends q hq
 ·show M'.wts[q]? = some (wtOf (pSys m bo) q (p.ft ++ [_])[q]?)
  by_cases e:q = p.ft.length
  ·subst e; rw [hlast]; exact hW.wk.trans (congrArg some (wtOf_m _ _ _ _ _))
  ·rw [hoth q e,hW.wts q e]; exact h.wts q hq
 ·have hf:(p.ft ++ [(opsGo (bo p.ft.length) 0 0 p.s).fate])[q]? = none:=hf
  by_cases e:q = p.ft.length
  ·subst e; rw [hlast] at hf; cases hf
  ·rw [hoth q e] at hf
   rw [hW.pls q e,hW.jms q e]; exact h.nil q hq hf
 ·have hf:(p.ft ++ [(opsGo (bo p.ft.length) 0 0 p.s).fate])[q]? = some (.inl l):=hf
  by_cases e:q = p.ft.length
  ·subst e
   rw [hlast] at hf
   have hf':=Option.some.inj hf
   obtain ⟨z1,z2,z3⟩:=hW.pk l hf'
   exact ⟨z1,z2,z3,(g1 l hf').2⟩
  ·rw [hoth q e] at hf
   rw [hW.pls q e,hW.jms q e]; exact h.inl q l hq hf
 ·have hf:(p.ft ++ [(opsGo (bo p.ft.length) 0 0 p.s).fate])[q]? = some (.inr x):=hf
  by_cases e:q = p.ft.length
  ·subst e
   rw [hlast] at hf
   exact g2 x (Option.some.inj hf)
  ·rw [hoth q e] at hf
   exact h.inr q x hq hf
theorem MR.turn (h:MR m bo p st M) {l:Nat × Nat} {o:OpD} (him:i < m) (hl:p.ft[i]? = some (.inl l)) (ho:(bo i)[l.1]? = some o) (a:Option Addr) (n:Nat)
  (hW:Went bo { M with used:=M.used + 1,ea:=a,ec:=n,evs:=M.evs ++ [(i,o.step)],c:=addC M.c (at4 o.to) o.by_,wts:=M.wts.set i sp0,pls:=M.pls.set i (l.1 + 1) } i (opsGo (bo i) (l.1 + 1) l.2 (addC M.c (at4 o.to) o.by_)) M'):MR m bo ((pSys m bo).turn p i) st M':=by
 rw [h.c] at hW
 obtain ⟨g1,g2,g3⟩:=opsGo_ok (bo i) _ (l.1 + 1) l.2 (addC p.s (at4 o.to) o.by_) rfl (h.ok.add _ _) (h.inl i l him hl).2.2.2
 have hgo:(pSys m bo).go i l p.s = opsGo (bo i) (l.1 + 1) l.2 (addC p.s (at4 o.to) o.by_):=by
  show (match (bo i)[l.1]? with | some o=>opsGo (bo i) (l.1 + 1) l.2 (addC p.s (at4 o.to) o.by_) | none=>⟨p.s,[],.inr 1⟩) = _
  rw [ho]
 have hstp:(pSys m bo).stp i l = o.step:=by
  show (((bo i)[l.1]?).map (·.step)).getD sp0 = o.step
  rw [ho]; rfl
 have hb:(pSys m bo).turn p i = { p with s:=(opsGo (bo i) (l.1 + 1) l.2 (addC p.s (at4 o.to) o.by_)).s,ft:=p.ft.set i (opsGo (bo i) (l.1 + 1) l.2 (addC p.s (at4 o.to) o.by_)).fate,evs:=p.evs ++ [(i,o.step)],nts:=p.nts ++ tell i (p.evs.length + 1) (opsGo (bo i) (l.1 + 1) l.2 (addC p.s (at4 o.to) o.by_)).nts,outs:=p.outs ++ [opsGo (bo i) (l.1 + 1) l.2 (addC p.s (at4 o.to) o.by_)],who:=p.who ++ [some i],used:=p.used + 1 }:=by
  unfold Sys.turn
  rw [hl]
  show ({ p with s:=((pSys m bo).go i l p.s).s,ft:=p.ft.set i ((pSys m bo).go i l p.s).fate,evs:=p.evs ++ [(i,(pSys m bo).stp i l)],nts:=p.nts ++ tell i (p.evs.length + 1) ((pSys m bo).go i l p.s).nts,outs:=p.outs ++ [(pSys m bo).go i l p.s],who:=p.who ++ [some i],used:=p.used + 1 }:PR (pSys m bo)) = _
  rw [hgo,hstp]
 rw [hb]
 generalize opsGo (bo i) (l.1 + 1) l.2 (addC p.s (at4 o.to) o.by_) = O at *
 have hlast:(p.ft.set i O.fate)[i]? = some O.fate:=set_same _ hl
 have hoth:∀ q,q ≠ i->(p.ft.set i O.fate)[q]? = p.ft[q]?:=fun q hq=>set_ne _ hq
 refine ⟨hW.c,?_,?_,?_,hW.stuck.trans h.stuck,fun q hq=>?_,fun q hq=>?_,fun q hq hf=>?_,fun q l' hq hf=>?_,fun q x hq hf=>?_,g3⟩
 ·rw [hW.evs]
  show M.evs ++ [(i,o.step)] = _
  rw [h.evs]
 ·rw [hW.nts]
  show M.nts ++ tell i (M.evs ++ [(i,o.step)]).length O.nts = _
  rw [h.nts,h.evs,List.length_append]; rfl
 ·rw [hW.used]
  show M.used + 1 = _
  rw [h.used]
 ·show M'.ends[q]? = some (endOf (p.ft.set i O.fate)[q]?)
  by_cases e:q = i
  ·subst e; rw [hlast]; exact hW.ek
  ·rw [hoth q e,hW.ends q e]; exact h.ends q hq
 ·show M'.wts[q]? = some (wtOf (pSys m bo) q (p.ft.set i O.fate)[q]?)
  by_cases e:q = i
  ·subst e; rw [hlast]; exact hW.wk.trans (congrArg some (wtOf_m _ _ _ _ _))
  ·rw [hoth q e,hW.wts q e]
   show (M.wts.set i sp0)[q]? = _
   rw [set_ne _ e]; exact h.wts q hq
 ·have hf:(p.ft.set i O.fate)[q]? = none:=hf
  by_cases e:q = i
  ·subst e; rw [hlast] at hf; cases hf
  ·rw [hoth q e] at hf
   rw [hW.pls q e,hW.jms q e]
   show (M.pls.set i (l.1 + 1))[q]? = some 0/\M.jms[q]? = some 0
   rw [set_ne _ e]
   exact h.nil q hq hf
 ·have hf:(p.ft.set i O.fate)[q]? = some (.inl l'):=hf
  by_cases e:q = i
  ·subst e
   rw [hlast] at hf
   have hf':=Option.some.inj hf
   obtain ⟨z1,z2,z3⟩:=hW.pk l' hf'
   exact ⟨z1,z2,z3,(g1 l' hf').2⟩
  ·rw [hoth q e] at hf
   rw [hW.pls q e,hW.jms q e]
   show (M.pls.set i (l.1 + 1))[q]? = some l'.1/\M.jms[q]? = some l'.2/\_
   rw [set_ne _ e]
   exact h.inl q l' hq hf
 ·have hf:(p.ft.set i O.fate)[q]? = some (.inr x):=hf
  by_cases e:q = i
  ·subst e
   rw [hlast] at hf
   exact g2 x (Option.some.inj hf)
  ·rw [hoth q e] at hf
   exact h.inr q x hq hf
theorem MR.rdy (h:MR m bo p st M) (hl:p.ft.length = m):∀ q,q < m->(∃ z,M.ends[q]? = some z/\z ≠ 0/\(pSys m bo).isRdy p q = false)\/(M.ends[q]? = some 0/\∃ i x,M.pls[q]? = some i/\(bo q)[i]? = some x/\(pSys m bo).isRdy p q = (x.free || decide (x.least <= M.c (at4 x.cell)))):=by
 intro q hq
 obtain ⟨f,hf⟩:∃ f,p.ft[q]? = some f:=⟨_,List.getElem?_eq_getElem (by omega)⟩
 have he:=h.ends q hq
 rw [hf] at he
 unfold Sys.isRdy
 rw [hf]
 cases f with
 | inr x =>
  refine .inl ⟨(x:Int),he,?_,rfl⟩
  have:=h.inr q x hq hf
  omega
 | inl l =>
  obtain ⟨h1,h2,h3,_⟩:=h.inl q l hq hf
  obtain ⟨x,hx⟩:∃ x,(bo q)[l.1]? = some x:=⟨_,List.getElem?_eq_getElem h3⟩
  refine .inr ⟨he,l.1,x,h1,hx,?_⟩
  show (match (bo q)[l.1]? with | some o=>o.free || decide (o.least <= p.s (at4 o.cell)) | none=>true) = _
  rw [hx,h.c]
theorem MR.start {M:Mc} (h1:M.c = fun _=>0) (h2:M.evs = []) (h3:M.nts = []) (h4:M.used = 0) (h5:M.stuck = false) (h6:M.ends = List.replicate m 0) (h7:M.wts = List.replicate m sp0) (h8:M.pls = List.replicate m 0) (h9:M.jms = List.replicate m 0):MR m bo ((pSys m bo).begs 0) false M:=by
 have rep:∀ {α:Type} (a:α) (q:Nat),q < m->(List.replicate m a)[q]? = some a:=fun a q hq=>by rw [List.getElem?_replicate,if_pos hq]
 refine ⟨h1,h2,h3,h4,h5,fun q hq=>?_,fun q hq=>?_,fun q hq _=>?_,fun q l hq hf=>(by cases hf),fun q x hq hf=>(by cases hf),fun k=>⟨by show (_:Int) <= 0; decide,by show (0:Int) <= _; decide⟩⟩
 ·rw [h6,rep _ q hq]; rfl
 ·rw [h7,rep _ q hq]; rfl
 ·rw [h8,h9]; exact ⟨rep _ q hq,rep _ q hq⟩
theorem MR.lists (h:MR m bo p st M) (he:M.ends.length = m) (hw:M.wts.length = m):M.ends = (List.range m).map (fun j=>endOf p.ft[j]?)/\M.wts = (List.range m).map (fun j=>wtOf (pSys m bo) j p.ft[j]?):=by
 constructor
 ·apply List.ext_getElem?
  intro j
  rcases Nat.lt_or_ge j m with hj | hj
  ·rw [h.ends j hj]; simp [hj]
  ·rw [List.getElem?_eq_none (by omega),List.getElem?_eq_none (by simpa using hj)]
 ·apply List.ext_getElem?
  intro j
  rcases Nat.lt_or_ge j m with hj | hj
  ·rw [h.wts j hj]; simp [hj]
  ·rw [List.getElem?_eq_none (by omega),List.getElem?_eq_none (by simpa using hj)]
end
theorem flat_get {α:Type} {f:α->List Value} {s:Nat} (hf:∀ x,(f x).length = s) {x:α} {k:Nat} {v:Value} (hv:(f x)[k]? = some v):∀ (l:List α) (i:Nat),l[i]? = some x->(l.flatMap f)[i * s + k]? = some v:=by
 have hk:k < s:=by have:=(List.getElem?_eq_some_iff.1 hv).1; rw [hf] at this; exact this
 intro l
 induction l with
 | nil=>intro i h; cases h
 | cons a l ih =>
  intro i h
  cases i with
  | zero =>
   cases h
   rw [List.flatMap_cons,List.getElem?_append_left (by rw [hf]; omega)]
   simpa using hv
  | succ i =>
   rw [List.flatMap_cons,List.getElem?_append_right (by rw [hf,Nat.add_mul]; omega),hf]
   have:(i + 1) * s + k - s = i * s + k:=by rw [Nat.add_mul]; omega
   rw [this]
   exact ih i (by simpa using h)
theorem Rf.runAt {w0 wS w:World} {b m bc:Nat} {ba:Option Addr} {M:Mc} (h:Rf w0 wS b m ba bc w M):RunAt w M.ea M.na (some ⟨M.eb,0,none⟩) (some ⟨M.wb,0,none⟩) m M.evs M.nts M.ends M.wts:=by
 refine ⟨h.evs.sl,h.nts.sl,SL.mk _ _ _,SL.mk _ _ _,h.le,h.lw,fun i x k v h1 h2=>?_,fun i x k v h1 h2=>?_,fun i x h1=>h.en_at h1,fun i x k v h1 h2=>?_⟩
 ·rw [h.evs.off,Nat.zero_add]; exact h.evs.cell (flat_get (f:=evC) (s:=4) (fun _=>rfl) h2 _ _ h1)
 ·rw [h.nts.off,Nat.zero_add]; exact h.nts.cell (flat_get (f:=ntC) (s:=4) (fun _=>rfl) h2 _ _ h1)
 ·show w.cell? ⟨M.wb,0 + i * 3 + k,none⟩ = _
  rw [Nat.zero_add]
  exact h.wts.cellAt _ (by rw [List.getElem?_toArray]; exact flat_get (f:=spC) (s:=3) (fun _=>rfl) h2 _ _ h1)
end Go.Vy.Sc
end
/- The document's Run: what it answers. -/
section
namespace Go.Vy.Sc
open Go Go.Conc Go.Yc Go.RowKit Go.Proofs Go.Proofs.Ytfmoeemolgjodaa
open Go.Vc Go.Wg
section
variable [Ctx Try.prog]
omit [Ctx Try.prog] in
theorem rep_pls (m:Nat):(Array.replicate (m * 1) (Value.int .i64 0)) = ((List.replicate m 0).map plV).toArray:=by
 rw [Nat.mul_one]
 apply Array.toList_inj.1
 simp [plV]
omit [Ctx Try.prog] in
theorem begs_nts_le {m:Nat} {bo:Nat->List OpD} (hm:m <= 16) (hl:∀ i,i < m->(bo i).length <= 1048576) {k:Nat} (hk:k <= m):((pSys m bo).begs k).nts.length <= 1000000000:=by
 have h1:=nts_len hm hl (fun _=>0) 0
 obtain ⟨d,rfl⟩:∃ d,m = k + d:=⟨m - k,by omega⟩
 have h2:=(Sys.nts_begs (Y:=pSys (k + d) bo) (n:=k) (k:=d)).length_le
 exact Nat.le_trans h2 h1
omit [Ctx Try.prog] in
theorem Rf.offB {w0 wS w:World} {b m bc:Nat} {ba:Option Addr} {M:Mc} (h:Rf w0 wS b m ba bc w M) {q:Nat} {cs:Array Value} {T:TypeId} {f:Nat × Nat} (hq:BlkF w q cs T f) (hT:¬ KT T):(M.evs ≠ []->ab M.ea ≠ q)/\(M.nts ≠ []->ab M.na ≠ q)/\M.eb ≠ q/\M.wb ≠ q:=by
 have key:∀ {q':Nat} {cs':Array Value} {T':TypeId},BlkF w q' cs' T' (0,0)->KT T'->q' ≠ q:=fun h' hk=>BlkF.ne h' hq (fun e=>hT (e ▸ hk))
 refine ⟨fun z=>?_,fun z=>?_,key h.ends (by decide),key h.wts (by decide)⟩
 ·obtain ⟨cur,hB,_⟩:=h.evs.row (h.evs.some_of (List.length_pos_iff.2 z))
  exact key hB (by decide)
 ·obtain ⟨cur,hB,_⟩:=h.nts.row (h.nts.some_of (List.length_pos_iff.2 z))
  exact key hB (by decide)
end
section
theorem buRR_0 (x0:Option Addr) (x1:Nat) (x2:Nat) (x3:Option Addr) (x4:Nat) (x5:Nat) (x6:Option Addr) (x7:Nat) (x8:Nat):Try.prog.built 68 [(0,.slice x0 x1 x2),(1,.slice x3 x4 x5),(2,.slice x6 x7 x8)] = some #[.slice x0 x1 x2,.slice x3 x4 x5,.slice x6 x7 x8,.int .i64 0,.int .i64 0,.int .i64 0,.int .i64 0,.slice none 0 0,.slice none 0 0,.slice none 0 0,.slice none 0 0,.bool false,.int .i64 0]:=by kernel_rfl
theorem buRR_1 (x0:Int) (x1:Int) (x2:Int) (x3:Int):Try.prog.built 45 [(0,.int .i64 x0),(1,.agg #[.int .i64 x1,.int .i64 x2,.int .i64 x3])] = some #[.int .i64 x0,.int .i64 x1,.int .i64 x2,.int .i64 x3]:=by kernel_rfl
theorem buRR_2:Try.prog.built 43 [] = some #[.int .i64 0,.int .i64 0,.int .i64 0]:=by kernel_rfl
end
section
variable [Ctx Try.prog]
omit [Ctx Try.prog] in
theorem MR.setSt {m:Nat} {bo:Nat->List OpD} {p:PR (pSys m bo)} {st st':Bool} {M:Mc} {v:Bool} (h:MR m bo p st M) (hv:v = st'):MR m bo p st' { M with stuck:=v }:={ h with stuck:=hv }
omit [Ctx Try.prog] in
theorem Sys.used_begs {Y:Sys} (n:Nat):(Y.begs n).used = 0:=by
 have h1:=(Sys.ok_begs (Y:=Y) n).used
 rw [(Sys.evs_begs n).1] at h1
 exact h1.symm
set_option maxHeartbeats 4000000 in
theorem runR_ok {m bc sn scp:Nat} {bo:Nat->List OpD} {sc:Nat->Int} {ba sa:Option Addr} {aa:Nat->Option Addr} {cc:Nat->Nat} (w0:World) (hBo:BodsAt w0 ba m bo aa cc) (hSc:ScAt w0 sa sn scp sc) (hm:m <= 16) (hsn:sn <= 262144) :
  C Try.prog 15 #[.slice ba m bc,.slice sa sn scp] w0 fun v w=>∃ ea na za wa ec nc zc wc,v = .tuple #[.agg #[.slice ea (pd m bo sn sc).evs.length ec,.slice na (pd m bo sn sc).nts.length nc,.slice za (pd m bo sn sc).mm zc,.slice wa (pd m bo sn sc).mm wc,.bool (pd m bo sn sc).st,.int .i64 (pd m bo sn sc).us],.agg #[.int .i64 ((PB m bo sc sn).s 0),.int .i64 ((PB m bo sc sn).s 1),.int .i64 ((PB m bo sc sn).s 2),.int .i64 ((PB m bo sc sn).s 3)],.int .i64 0] /\
   RunD w ea na za wa (pd m bo sn sc)/\Lo w0.heap.size ea na za wa (pd m bo sn sc)/\Below w0.heap.size w0 w:=by
 refine C.enter (n:=197) Try.func15 rfl rfl ?_
 have hb:Below w0.heap.size w0 w0:=Below.refl _ _
 refine W.seq ?_
 refine W.region rfl ?_
 refine L.alloc (cs:=#[.slice none 0 0,.slice none 0 0,.slice none 0 0,.slice none 0 0,.bool false,.int .i64 0]) zr31 rfl (fun w b4 F4=>?_)
 have lt4:w0.heap.size <= b4:=by have h9:=F4.here; have h8:=hb.size; omega
 have hb:=cl_step hb F4.below
 have hB4:=F4.blk
 refine L.alloc (cs:=#[.int .i64 0,.int .i64 0,.int .i64 0,.int .i64 0]) zr35 rfl (fun w b5 F5=>?_)
 have lt5:w0.heap.size <= b5:=by have h9:=F5.here; have h8:=hb.size; omega
 have hb:=cl_step hb F5.below
 have hB4:=hB4.keep F5.below
 have hB5:=F5.blk
 refine L.va (x_asI rfl) ?_
 refine L.nil ?_
 show W _ _ _ _ _ _
 refine W.seq ?_
 refine W.seq ?_
 refine W.region rfl ?_
 refine L.va (x_mvS rfl) ?_
 refine L.va (x_len rfl Try.underlying25 rfl) ?_
 refine L.va (d_boolK (r:=false) (decide_eq_false (by omega)) (x_gtr (m:=(m:Int)) (k:=16) rfl rfl)) ?_
 refine L.nil ?_
 show W _ _ _ _ _ _
 refine W.condF rfl ?_
 refine W.skip ?_
 show W _ _ _ _ _ _
 refine W.seq ?_
 refine W.seq ?_
 refine W.region rfl ?_
 refine L.va (x_mvS rfl) ?_
 refine L.va (x_len rfl Try.underlying26 rfl) ?_
 refine L.va (d_boolK (r:=false) (decide_eq_false (by omega)) (x_gtr (m:=(sn:Int)) (k:=262144) rfl rfl)) ?_
 refine L.nil ?_
 show W _ _ _ _ _ _
 refine W.condF rfl ?_
 refine W.skip ?_
 show W _ _ _ _ _ _
 refine W.seq ?_
 refine W.region rfl ?_
 refine L.va (x_mvS rfl) ?_
 refine L.va (x_len rfl Try.underlying25 rfl) ?_
 refine L.va (x_asI rfl) ?_
 refine L.nil ?_
 show W _ _ _ _ _ _
 refine W.seq ?_
 refine W.cut (fun e' w'=>∃ (pb:Nat),∃ (jb:Nat),∃ (b:Nat),e' 0 = .slice ba m bc/\e' 1 = .slice sa sn scp/\e' 4 = .pointer (some ⟨b4,0,none⟩)/\e' 5 = .pointer (some ⟨b5,0,none⟩)/\e' 6 = .int .i64 0/\e' 7 = .int .i64 (m:Int)/\e' 8 = .pointer (some ⟨b,0,none⟩)/\Blk w' b4 #[.slice none 0 0,.slice none 0 0,.slice none 0 0,.slice none 0 0,.bool false,.int .i64 0] 31/\Blk w' b5 #[.int .i64 0,.int .i64 0,.int .i64 0,.int .i64 0] 35/\Blk w' pb (Array.replicate (m * 1) (.int .i64 0)) 3/\Blk w' jb (Array.replicate (m * 1) (.int .i64 0)) 3/\Blk w' b #[.slice ba m bc,.slice (some ⟨pb,0,none⟩) m m,.slice (some ⟨jb,0,none⟩) m m,.int .i64 0,.int .i64 0,.int .i64 0,.int .i64 0,.slice none 0 0,.slice none 0 0,.slice none 0 0,.slice none 0 0,.bool false,.int .i64 0] 68/\pb ≠ jb/\w0.heap.size <= pb/\w0.heap.size <= jb/\w0.heap.size <= b/\Below w0.heap.size w0 w') ?_ ?_
 ·refine W.fl2 5 [2,4] 2 4 [0,1,3,2,4] [0,1,3,4,2] (fun w'=>True) (by kernel_rfl) (by kernel_rfl) (by kernel_rfl) (by kernel_rfl) (by kernel_rfl) (by kernel_rfl) (trivial) ?_ ?_
  ·have hdr:Below w.heap.size w w.drew:=(Below.refl w.heap.size w).drew
   have hb:=cl_step hb hdr
   have hB4:=hB4.keep hdr
   have hB5:=hB5.keep hdr
   clear hdr
   generalize w.drew = w at *
   refine F.va rfl rfl (fun w' hw'=>(x_mvS rfl)) ?_
   refine F.va rfl rfl (fun w' hw'=>(x_mvI rfl)) ?_
   refine F.va rfl rfl (fun w' hw'=>(x_mvI rfl)) ?_
   refine F.doo rfl rfl ?_
   refine L.make (m:=m) rfl rfl Try.underlying26 in3 (z0:=.int .i64 0) rfl (by decide) (by omega) (by omega) (fun w b28 F28=>?_)
   have lt28:w0.heap.size <= b28:=by have h9:=F28.here; have h8:=hb.size; omega
   have hb:=cl_step hb F28.below
   have hB4:=hB4.keep F28.below
   have hB5:=hB5.keep F28.below
   have hB28:=F28.blk
   have hB28:Blk w b28 (Array.replicate (m * 1) (.int .i64 0)) 3:=hB28
   refine L.nil ⟨rfl,trivial,?_⟩
   refine F.doo rfl rfl ?_
   refine L.make (m:=m) rfl rfl Try.underlying26 in3 (z0:=.int .i64 0) rfl (by decide) (by omega) (by omega) (fun w b30 F30=>?_)
   have lt30:w0.heap.size <= b30:=by have h9:=F30.here; have h8:=hb.size; omega
   have ne30hB28:=F30.ne hB28
   have hb:=cl_step hb F30.below
   have hB4:=hB4.keep F30.below
   have hB5:=hB5.keep F30.below
   have hB28:=hB28.keep F30.below
   have hB30:=F30.blk
   have hB30:Blk w b30 (Array.replicate (m * 1) (.int .i64 0)) 3:=hB30
   refine L.nil ⟨rfl,trivial,?_⟩
   refine F.nil ?_
   show L _ _ _ _ _ _ _
   refine L.va (x_build (parts:=[(0,.tmp 26),(1,.tmp 28),(2,.tmp 30)]) rfl (buRR_0 ba m bc (some ⟨b28,0,none⟩) m m (some ⟨b30,0,none⟩) m m)) ?_
   refine L.box (cs:=#[.slice ba m bc,.slice (some ⟨b28,0,none⟩) m m,.slice (some ⟨b30,0,none⟩) m m,.int .i64 0,.int .i64 0,.int .i64 0,.int .i64 0,.slice none 0 0,.slice none 0 0,.slice none 0 0,.slice none 0 0,.bool false,.int .i64 0]) rfl rfl (fun w b32 F32=>?_)
   have lt32:w0.heap.size <= b32:=by have h9:=F32.here; have h8:=hb.size; omega
   have hb:=cl_step hb F32.below
   have hB4:=hB4.keep F32.below
   have hB5:=hB5.keep F32.below
   have hB28:=hB28.keep F32.below
   have hB30:=hB30.keep F32.below
   have hB32:=F32.blk
   refine L.va (x_asP rfl) ?_
   refine L.nil ?_
   repeat (first | refine T.nrm ?_ | refine B.nrm ?_ | refine N.nrm ?_)
   exact ⟨b28,b30,b32,rfl,rfl,rfl,rfl,rfl,rfl,rfl,hB4,hB5,hB28,hB30,hB32,ne30hB28,lt28,lt30,lt32,hb⟩
  ·have hdr:Below w.heap.size w w.drew:=(Below.refl w.heap.size w).drew
   have hb:=cl_step hb hdr
   have hB4:=hB4.keep hdr
   have hB5:=hB5.keep hdr
   clear hdr
   generalize w.drew = w at *
   refine F.va rfl rfl (fun w' hw'=>(x_mvS rfl)) ?_
   refine F.va rfl rfl (fun w' hw'=>(x_mvI rfl)) ?_
   refine F.va rfl rfl (fun w' hw'=>(x_mvI rfl)) ?_
   refine F.doo rfl rfl ?_
   refine L.make (m:=m) rfl rfl Try.underlying26 in3 (z0:=.int .i64 0) rfl (by decide) (by omega) (by omega) (fun w b30 F30=>?_)
   have lt30:w0.heap.size <= b30:=by have h9:=F30.here; have h8:=hb.size; omega
   have hb:=cl_step hb F30.below
   have hB4:=hB4.keep F30.below
   have hB5:=hB5.keep F30.below
   have hB30:=F30.blk
   have hB30:Blk w b30 (Array.replicate (m * 1) (.int .i64 0)) 3:=hB30
   refine L.nil ⟨rfl,trivial,?_⟩
   refine F.doo rfl rfl ?_
   refine L.make (m:=m) rfl rfl Try.underlying26 in3 (z0:=.int .i64 0) rfl (by decide) (by omega) (by omega) (fun w b28 F28=>?_)
   have lt28:w0.heap.size <= b28:=by have h9:=F28.here; have h8:=hb.size; omega
   have ne28hB30:=F28.ne hB30
   have hb:=cl_step hb F28.below
   have hB4:=hB4.keep F28.below
   have hB5:=hB5.keep F28.below
   have hB30:=hB30.keep F28.below
   have hB28:=F28.blk
   have hB28:Blk w b28 (Array.replicate (m * 1) (.int .i64 0)) 3:=hB28
   refine L.nil ⟨rfl,trivial,?_⟩
   refine F.nil ?_
   show L _ _ _ _ _ _ _
   refine L.va (x_build (parts:=[(0,.tmp 26),(1,.tmp 28),(2,.tmp 30)]) rfl (buRR_0 ba m bc (some ⟨b28,0,none⟩) m m (some ⟨b30,0,none⟩) m m)) ?_
   refine L.box (cs:=#[.slice ba m bc,.slice (some ⟨b28,0,none⟩) m m,.slice (some ⟨b30,0,none⟩) m m,.int .i64 0,.int .i64 0,.int .i64 0,.int .i64 0,.slice none 0 0,.slice none 0 0,.slice none 0 0,.slice none 0 0,.bool false,.int .i64 0]) rfl rfl (fun w b32 F32=>?_)
   have lt32:w0.heap.size <= b32:=by have h9:=F32.here; have h8:=hb.size; omega
   have hb:=cl_step hb F32.below
   have hB4:=hB4.keep F32.below
   have hB5:=hB5.keep F32.below
   have hB30:=hB30.keep F32.below
   have hB28:=hB28.keep F32.below
   have hB32:=F32.blk
   refine L.va (x_asP rfl) ?_
   refine L.nil ?_
   repeat (first | refine T.nrm ?_ | refine B.nrm ?_ | refine N.nrm ?_)
   exact ⟨b28,b30,b32,rfl,rfl,rfl,rfl,rfl,rfl,rfl,hB4,hB5,hB28,hB30,hB32,ne28hB30.symm,lt28,lt30,lt32,hb⟩
 ·rintro e' w ⟨pb,jb,b,s0,s1,s4,s5,s6,s7,s8,hB4,hB5,hB28,hB30,hB32,hpj,lt28,lt30,lt32,hb⟩
  rw [upd_id s0,upd_id s1,upd_id s4,upd_id s5,upd_id s6,upd_id s7,upd_id s8]
  clear s0 s1 s4 s5 s6 s7 s8
  show W _ _ _ _ _ _
  refine W.seq ?_
  refine W.region rfl ?_
  refine L.va (x_mvP rfl) ?_
  refine L.va (x_mvI rfl) ?_
  refine L.make (m:=m) rfl rfl Try.underlying26 in3 (z0:=.int .i64 0) rfl (by decide) (by omega) (by omega) (fun w b35 F35=>?_)
  have lt35:w0.heap.size <= b35:=by have h9:=F35.here; have h8:=hb.size; omega
  have ne35hB28:=F35.ne hB28
  have ne35hB30:=F35.ne hB30
  have hpe:pb ≠ b35:=F35.ne hB28
  have hje:jb ≠ b35:=F35.ne hB30
  have hb:=cl_step hb F35.below
  have hB4:=hB4.keep F35.below
  have hB5:=hB5.keep F35.below
  have hB28:=hB28.keep F35.below
  have hB30:=hB30.keep F35.below
  have hB32:=hB32.keep F35.below
  have hB35:=F35.blk
  have hB35:Blk w b35 (Array.replicate (m * 1) (.int .i64 0)) 3:=hB35
  refine L.va (x_nilCheck rfl) ?_
  refine L.va (x_field rfl Try.underlying68 rfl sz31 (by decide)) ?_
  refine L.va (x_field rfl Try.underlying31 rfl sz26 (by decide)) ?_
  refine L.put (b:=b) (o:=9) (vs:=[.slice (some ⟨b35,0,none⟩) m m]) #[.slice ba m bc,.slice (some ⟨pb,0,none⟩) m m,.slice (some ⟨jb,0,none⟩) m m,.int .i64 0,.int .i64 0,.int .i64 0,.int .i64 0,.slice none 0 0,.slice none 0 0,.slice (some ⟨b35,0,none⟩) m m,.slice none 0 0,.bool false,.int .i64 0] rfl rfl rfl sz26 rfl rfl hB32 (Nat.le_of_ble_eq_true rfl) rfl (fun w hnew hg hsz=>?_)
  have hm0:=ModT.put0 hB32 hg
  have hb:=below_gr hb hb.size hg lt32
  have hB4:=hB4.mod hm0 rfl
  have hB5:=hB5.mod hm0 rfl
  have hB28:=hB28.mod hm0 rfl
  have hB30:=hB30.mod hm0 rfl
  have hB35:=hB35.mod hm0 rfl
  have hB32:=hnew
  clear hm0
  refine L.nil ?_
  show W _ _ _ _ _ _
  refine W.seq ?_
  refine W.region rfl ?_
  refine L.va (x_mvP rfl) ?_
  refine L.va (x_mvI rfl) ?_
  refine L.make (m:=m) rfl rfl Try.underlying29 in43 (z0:=.int .i64 0) rfl (by decide) (by omega) (by omega) (fun w b41 F41=>?_)
  have lt41:w0.heap.size <= b41:=by have h9:=F41.here; have h8:=hb.size; omega
  have hb:=cl_step hb F41.below
  have hB4:=hB4.keep F41.below
  have hB5:=hB5.keep F41.below
  have hB28:=hB28.keep F41.below
  have hB30:=hB30.keep F41.below
  have hB32:=hB32.keep F41.below
  have hB35:=hB35.keep F41.below
  have hB41:=F41.blk
  have hB41:Blk w b41 (Array.replicate (m * 3) (.int .i64 0)) 43:=hB41
  refine L.va (x_nilCheck rfl) ?_
  refine L.va (x_field rfl Try.underlying68 rfl sz31 (by decide)) ?_
  refine L.va (x_field rfl Try.underlying31 rfl sz29 (by decide)) ?_
  refine L.put (b:=b) (o:=10) (vs:=[.slice (some ⟨b41,0,none⟩) m m]) #[.slice ba m bc,.slice (some ⟨pb,0,none⟩) m m,.slice (some ⟨jb,0,none⟩) m m,.int .i64 0,.int .i64 0,.int .i64 0,.int .i64 0,.slice none 0 0,.slice none 0 0,.slice (some ⟨b35,0,none⟩) m m,.slice (some ⟨b41,0,none⟩) m m,.bool false,.int .i64 0] rfl rfl rfl sz29 rfl rfl hB32 (Nat.le_of_ble_eq_true rfl) rfl (fun w hnew hg hsz=>?_)
  have hm0:=ModT.put0 hB32 hg
  have hb:=below_gr hb hb.size hg lt32
  have hB4:=hB4.mod hm0 rfl
  have hB5:=hB5.mod hm0 rfl
  have hB28:=hB28.mod hm0 rfl
  have hB30:=hB30.mod hm0 rfl
  have hB35:=hB35.mod hm0 rfl
  have hB41:=hB41.mod hm0 rfl
  have hB32:=hnew
  clear hm0
  refine L.nil ?_
  have hR:Rf w0 w b m ba bc w ⟨pb,jb,b35,b41,List.replicate m 0,List.replicate m 0,fun _=>0,none,0,[],none,0,[],List.replicate m 0,List.replicate m sp0,false,0⟩:=by
   refine ⟨hB32,Own.nil _ _ _ _,Own.nil _ _ _ _,?_,?_,?_,?_,by simp,by simp,by simp,by simp,hpj,hpe,hje,lt32,lt28,lt30,lt35,lt41,hb,KeepT.refl _⟩
   ·have:=hB28; rw [rep_pls] at this; exact this
   ·have:=hB30; rw [rep_pls] at this; exact this
   ·have:=hB35; rw [rep_ints] at this; exact this
   ·have:=hB41; rw [rep_stps] at this; exact this
  have hMR:MR m bo ((pSys m bo).begs 0) false ⟨pb,jb,b35,b41,List.replicate m 0,List.replicate m 0,fun _=>0,none,0,[],none,0,[],List.replicate m 0,List.replicate m sp0,false,0⟩:=MR.start rfl rfl rfl rfl rfl rfl rfl rfl rfl
  obtain ⟨wS,hwS⟩:∃ wS,wS = w:=⟨_,rfl⟩
  have h4S:Blk wS b4 #[.slice none 0 0,.slice none 0 0,.slice none 0 0,.slice none 0 0,.bool false,.int .i64 0] 31:=by rw [hwS]; exact hB4
  have h5S:Blk wS b5 #[.int .i64 0,.int .i64 0,.int .i64 0,.int .i64 0] 35:=by rw [hwS]; exact hB5
  have hR:Rf w0 wS b m ba bc w _:=hR.over (by rw [hwS]; exact KeepT.refl _)
  clear hB28 hB30 hB35 hB41 hB32 hb hB4 hB5
  clear hwS
  show W _ _ _ _ _ _
  refine W.seq ?_
  refine W.seq ?_
  refine W.region rfl ?_
  refine L.va (x_asI rfl) ?_
  refine L.nil ?_
  show W _ _ _ _ _ _
  refine W.block ?_
  refine W.loop (fun k e w=>∃ (k1:Nat),∃ (M:Mc),k = m - k1/\e 0 = .slice ba m bc/\e 1 = .slice sa sn scp/\e 4 = .pointer (some ⟨b4,0,none⟩)/\e 5 = .pointer (some ⟨b5,0,none⟩)/\e 6 = .int .i64 0/\e 7 = .int .i64 (m:Int)/\e 8 = .pointer (some ⟨b,0,none⟩)/\e 9 = .int .i64 (k1:Int)/\k1 <= m/\Rf w0 wS b m ba bc w M/\MR m bo ((pSys m bo).begs k1) false M) _ ⟨0,_,rfl,rfl,rfl,rfl,rfl,rfl,rfl,rfl,rfl,Nat.zero_le _,hR,hMR⟩ ?_
  rintro k e w ⟨k1,M,hk,s0,s1,s4,s5,s6,s7,s8,s9,hk1,hR,hMR⟩
  rw [upd_id s0,upd_id s1,upd_id s4,upd_id s5,upd_id s6,upd_id s7,upd_id s8,upd_id s9]
  clear s0 s1 s4 s5 s6 s7 s8 s9
  refine W.seq ?_
  refine W.seq ?_
  refine W.region rfl ?_
  refine L.va (x_mvI rfl) ?_
  refine L.va (x_mvI rfl) ?_
  refine L.va (x_lss rfl rfl) ?_
  refine L.nil ?_
  show W _ _ _ _ _ _
  refine W.condP rfl (fun h47=>?_) (fun h47=>?_)
  ·have hlt:k1 < m:=by omega
   refine W.skip ?_
   show W _ _ _ _ _ _
   refine W.seq ?_
   refine W.block ?_
   refine W.region rfl ?_
   refine L.va (x_mvP rfl) ?_
   refine L.va (x_mvI rfl) ?_
   have hfl:((pSys m bo).begs k1).ft.length = k1:=Sys.len_begs k1
   have hnn:((pSys m bo).begs k1).ft[k1]? = none:=List.getElem?_eq_none (by omega)
   obtain ⟨hp0,hj0⟩:=hMR.nil k1 hlt hnn
   have he0:=hMR.ends k1 hlt
   have hw0':=hMR.wts k1 hlt
   rw [hnn] at he0 hw0'
   have hnb:(M.nts ++ tell k1 M.evs.length (opsGo (bo k1) 0 0 M.c).nts).length <= 1000000000:=by
    have h1:=begs_nts_le (bo:=bo) hm hBo.len (show k1 + 1 <= m from hlt)
    have h2:((pSys m bo).begs (k1 + 1)).nts = ((pSys m bo).begs k1).nts ++ tell ((pSys m bo).begs k1).ft.length ((pSys m bo).begs k1).evs.length (opsGo (bo ((pSys m bo).begs k1).ft.length) 0 0 ((pSys m bo).begs k1).s).nts:=rfl
    rw [h2,hfl] at h1; rw [hMR.nts,hMR.evs,hMR.c]; exact h1
   have hev:M.evs.length <= 1000000:=by rw [hMR.evs,(Sys.evs_begs k1).1]; exact Nat.zero_le _
   refine L.call (x_call2 rfl rfl Try.func31 rfl nm31 rfl) (goes_c hBo hR hlt hp0 hj0 (by omega) (Nat.zero_le _) (by rw [hMR.c]; exact hMR.ok) he0 hw0' hnb hev (by omega)) ?_
   rintro _ w ⟨rfl,M',hR,hW⟩
   rw [hMR.c] at hW
   have hMR:MR m bo ((pSys m bo).begs (k1 + 1)) false M':=hMR.bgn hfl hlt hW
   clear hW hnb hev he0 hw0' hp0 hj0
   refine L.nil ?_
   refine B.nrm ?_
   show W _ _ _ _ _ _
   refine W.region rfl ?_
   refine L.va (x_mvI rfl) ?_
   refine L.va (x_inc rfl rfl (by omega)) ?_
   refine L.va (x_asI rfl) ?_
   refine L.nil ?_
   refine T.nrm ?_
   exact ⟨_,by omega,⟨k1 + 1,M',rfl,rfl,rfl,rfl,rfl,rfl,rfl,rfl,rfl,hlt,hR,hMR⟩⟩
  ·have hkm:k1 = m:=by omega
   rw [hkm] at hMR
   refine W.exit ?_
   repeat (first | refine T.exit ?_ | refine N.exit ?_ | refine B.exitNe (by decide) ?_)
   refine B.exitEq ?_
   show W _ _ _ _ _ _
   refine W.seq ?_
   refine W.region rfl ?_
   refine L.va (x_mvP rfl) ?_
   have hR0:=hR
   have hfm:(PB m bo sc 0).ft.length = m:=Sys.len_pn sc 0
   refine L.call (x_call1 rfl Try.func32 rfl nm32 rfl) (ready_c hBo hR (by omega) ((pSys m bo).isRdy (PB m bo sc 0)) (hMR.rdy hfm)) ?_
   rintro _ w2 ⟨a54,c54,rfl,hl,hbl,hR⟩
   have hl:Own w2 w0.heap.size 3 1 a54 ((pSys m bo).rds (PB m bo sc 0)).length c54 (((pSys m bo).rds (PB m bo sc 0)).map plV):=Own.down hl hR0.hb.size
   rename World=>w
   clear hR0 hbl
   refine L.va (x_asS rfl) ?_
   refine L.nil ?_
   show W _ _ _ _ _ _
   refine W.seq ?_
   refine W.block ?_
   refine W.loop (fun k e w=>∃ (q:Nat),∃ (M:Mc),∃ (a:Option Addr),∃ (n:Nat),∃ (cp:Nat),k = sn - q/\e 0 = .slice ba m bc/\e 1 = .slice sa sn scp/\e 4 = .pointer (some ⟨b4,0,none⟩)/\e 5 = .pointer (some ⟨b5,0,none⟩)/\e 6 = .int .i64 0/\e 7 = .int .i64 (m:Int)/\e 8 = .pointer (some ⟨b,0,none⟩)/\e 10 = .slice a n cp/\q <= sn/\M.used = q/\n = ((pSys m bo).rds (PB m bo sc q)).length/\Rf w0 wS b m ba bc w M/\MR m bo (PB m bo sc q) false M/\Own w w0.heap.size 3 1 a n cp (((pSys m bo).rds (PB m bo sc q)).map plV)) _ ⟨0,M,a54,_,c54,rfl,rfl,rfl,rfl,rfl,rfl,rfl,rfl,rfl,Nat.zero_le _,(by rw [hMR.used]; exact Sys.used_begs m),rfl,hR,hMR,hl⟩ ?_
   rintro k e w ⟨q,M,a,n,cp,hk,s0,s1,s4,s5,s6,s7,s8,s10,hq,hus,hnq,hR,hMR,hl⟩
   rw [upd_id s0,upd_id s1,upd_id s4,upd_id s5,upd_id s6,upd_id s7,upd_id s8,upd_id s10]
   clear s0 s1 s4 s5 s6 s7 s8 s10
   refine W.seq ?_
   refine W.seq ?_
   refine W.region rfl ?_
   refine L.va (x_mvS rfl) ?_
   refine L.va (x_len rfl Try.underlying26 rfl) ?_
   refine L.va (x_gtr rfl rfl) ?_
   refine L.va (x_mvB rfl) ?_
   refine L.meetB 9 [58,59,60,61,62,63,64,65,66,67] 67 (.bool (decide (0 < n/\M.used < sn))) (tj:=58) rfl (fun hb58=>?_) (fun hb58=>?_) (fun f=>?_)
   ·refine L.on rfl ?_
    refine L.va (x_mvP rfl) ?_
    refine L.on rfl ?_
    refine L.va (x_nilCheck rfl) ?_
    refine L.on rfl ?_
    refine L.va (x_field rfl Try.underlying68 rfl sz31 (by decide)) ?_
    refine L.on rfl ?_
    refine L.va (x_field rfl Try.underlying31 rfl sz3 (by decide)) ?_
    refine L.on rfl ?_
    refine L.va (x_load rfl Try.underlying3 rfl (hR.run.cellAt 12 (v:=.int .i64 (M.used:Int)) rfl)) ?_
    refine L.on rfl ?_
    refine L.va (x_mvS rfl) ?_
    refine L.on rfl ?_
    refine L.va (x_len rfl Try.underlying26 rfl) ?_
    refine L.on rfl ?_
    refine L.va (x_lss rfl rfl) ?_
    refine L.va (x_pickT rfl) ?_
    refine L.nil ?_
    refine ⟨rfl,congrArg Value.bool (by first | exact and_t hb58 | rfl | (simp_all; done) | (rw [Bool.eq_iff_iff]; simp_all; omega)),?_⟩
    exact Agree.upd rfl (Agree.upd rfl (Agree.upd rfl (Agree.upd rfl (Agree.upd rfl (Agree.upd rfl (Agree.upd rfl (Agree.upd rfl (Agree.upd rfl (Agree.upd rfl (Agree.refl _ _))))))))))
   ·refine L.off rfl ?_
    refine L.off rfl ?_
    refine L.off rfl ?_
    refine L.off rfl ?_
    refine L.off rfl ?_
    refine L.off rfl ?_
    refine L.off rfl ?_
    refine L.off rfl ?_
    refine L.va (x_pickF rfl) ?_
    refine L.nil ?_
    refine ⟨rfl,congrArg Value.bool (by first | exact and_f hb58 | rfl | (simp_all; done) | (rw [Bool.eq_iff_iff]; simp_all; omega)),?_⟩
    exact Agree.upd rfl (Agree.upd rfl (Agree.upd rfl (Agree.upd rfl (Agree.upd rfl (Agree.upd rfl (Agree.upd rfl (Agree.upd rfl (Agree.upd rfl (Agree.upd rfl (Agree.refl _ _))))))))))
   refine L.nil ?_
   show W _ _ _ _ _ _
   refine W.condP rfl (fun h67=>?_) (fun h67=>?_)
   ·have hn0:0 < n:=h67.1
    have hqs:q < sn:=by have:=h67.2; omega
    have hne:((pSys m bo).rds (PB m bo sc q)) ≠ []:=List.length_pos_iff.1 (hnq ▸ hn0)
    obtain ⟨i,l,hfl,hpi,hst⟩:=Sys.step_some (e:=sc q) hne
    rw [<- hnq] at hpi
    have him:i < m:=by have:=(List.getElem?_eq_some_iff.1 hfl).1; rw [Sys.len_pn] at this; exact this
    obtain ⟨hpl,hjm,hll,hl50⟩:=hMR.inl i l him hfl
    obtain ⟨x,hx⟩:∃ x,(bo i)[l.1]? = some x:=⟨_,List.getElem?_eq_getElem hll⟩
    have he0:=hMR.ends i him
    rw [hfl] at he0
    have hwi:=hMR.wts i him
    have hlx:l.1 + 1 <= (bo i).length:=hll
    have hlen:=hBo.len i him
    have hnle:n <= 1000:=by rw [hnq]; exact Nat.le_trans (rng_le (r:=(pSys m bo).isRdy (PB m bo sc q)) m) (by omega)
    have hevq:M.evs.length <= 262144:=by rw [hMR.evs]; exact Nat.le_trans (Sys.evs_pn sc q).1 (by omega)
    have hus2:(PB m bo sc (q + 1)).used = q + 1:=by
     show ((pSys m bo).step (PB m bo sc q) (sc q)).used = _
     rw [hst]; unfold Sys.turn; rw [hfl]
     show (PB m bo sc q).used + 1 = _
     rw [<- hMR.used,hus]
    refine W.skip ?_
    show W _ _ _ _ _ _
    refine W.block ?_
    refine W.seq ?_
    refine W.region rfl ?_
    refine L.va (x_mvS rfl) ?_
    refine L.va (x_mvS rfl) ?_
    refine L.va (x_mvP rfl) ?_
    refine L.va (x_nilCheck rfl) ?_
    refine L.va (x_field rfl Try.underlying68 rfl sz31 (by decide)) ?_
    refine L.va (x_field rfl Try.underlying31 rfl sz3 (by decide)) ?_
    refine L.va (x_load rfl Try.underlying3 rfl (hR.run.cellAt 12 (v:=.int .i64 (M.used:Int)) rfl)) ?_
    refine L.va (x_idx (i:=M.used) rfl rfl Try.underlying26 sz3 hSc.sl (by omega)) ?_
    refine L.va (x_load (v:=.int .i64 (sc q)) rfl Try.underlying3 rfl (by rw [hus]; exact cell_keep (hSc.cell q hqs) hR.hb)) ?_
    refine L.va (x_mvS rfl) ?_
    refine L.va (x_len rfl Try.underlying26 rfl) ?_
    refine L.call (x_call2 rfl rfl Try.func33 rfl nm33 rfl) (mod_c (sc q) n w hn0 (by omega)) ?_
    rintro _ w1 ⟨rfl,hw1⟩
    rw [hw1]
    clear hw1 w1
    refine L.va (x_idx (i:=pickIx (sc q) n) rfl rfl Try.underlying26 sz3 hl.sl (pickIx_lt _ hn0)) ?_
    refine L.va (x_load (v:=.int .i64 (i:Int)) rfl Try.underlying3 rfl (by rw [hl.off,Nat.zero_add,Nat.mul_one]; exact hl.cell (by rw [List.getElem?_map,hpi]; rfl))) ?_
    refine L.va (x_asI rfl) ?_
    refine L.nil ?_
    show W _ _ _ _ _ _
    refine W.seq ?_
    refine W.region rfl ?_
    refine L.va (x_mvP rfl) ?_
    refine L.va (x_nilCheck rfl) ?_
    refine L.va (x_field rfl Try.underlying68 rfl sz31 (by decide)) ?_
    refine L.va (x_field rfl Try.underlying31 rfl sz3 (by decide)) ?_
    refine L.va (x_load rfl Try.underlying3 rfl (hR.run.cellAt 12 (v:=.int .i64 (M.used:Int)) rfl)) ?_
    refine L.va (x_inc rfl rfl (by omega)) ?_
    refine L.va (x_nilCheck rfl) ?_
    refine L.va (x_field rfl Try.underlying68 rfl sz31 (by decide)) ?_
    refine L.va (x_field rfl Try.underlying31 rfl sz3 (by decide)) ?_
    refine L.rM (o:=12) (v:=.int .i64 ((M.used + 1:Nat):Int)) (vs:=[.int .i64 ((M.used + 1:Nat):Int)]) hR M.c M.stuck (M.used + 1) rfl rfl rfl sz3 rfl rfl (Nat.le_of_ble_eq_true rfl) (by simp [Mc.cells,setRow]) (fun w hR _=>?_)
    refine L.nil ?_
    show W _ _ _ _ _ _
    refine W.seq ?_
    refine W.fl 14 [13] [0,1,2,3,4,5,6,7,8,9,10,11,12,13] (fun w'=>Rf w0 wS b m ba bc w' { M with used:=M.used + 1 }) (by kernel_rfl) (by kernel_rfl) (by kernel_rfl) (by kernel_rfl) (by kernel_rfl) (hR.keep (Below.refl w.heap.size w).drew) ?_
    have hdr:Below w.heap.size w w.drew:=(Below.refl w.heap.size w).drew
    have hR:=hR.keep hdr
    clear hdr
    generalize w.drew = w at *
    refine F.va rfl rfl (fun w' hw'=>(x_mvS rfl)) ?_
    refine F.va rfl rfl (fun w' hw'=>(x_mvI rfl)) ?_
    refine F.va rfl rfl (fun w' hw'=>(x_idx (i:=i) rfl rfl Try.underlying25 sz64 hBo.sl him)) ?_
    refine F.va rfl rfl (fun w' hw'=>(x_load (v:=.slice (aa i) (bo i).length (cc i)) rfl Try.underlying64 rfl (cell_keep (hBo.row i him) (hw').hb))) ?_
    refine F.va rfl rfl (fun w' hw'=>(x_mvP rfl)) ?_
    refine F.va rfl rfl (fun w' hw'=>(x_nilCheck rfl)) ?_
    refine F.va rfl rfl (fun w' hw'=>(x_field rfl Try.underlying68 rfl sz26 (by decide))) ?_
    refine F.va rfl rfl (fun w' hw'=>(x_load rfl Try.underlying26 rfl (hw'.run.cellAt 1 (v:=.slice (some ⟨M.pb,0,none⟩) m m) rfl))) ?_
    refine F.va rfl rfl (fun w' hw'=>(x_mvI rfl)) ?_
    refine F.va rfl rfl (fun w' hw'=>(x_index (i:=i) rfl rfl Try.underlying26 sz3 him)) ?_
    refine F.va rfl rfl (fun w' hw'=>(x_load (v:=.int .i64 (l.1:Int)) rfl Try.underlying3 rfl ((hw').pl_at hpl))) ?_
    refine F.va rfl rfl (fun w' hw'=>(x_idx (i:=l.1) rfl rfl Try.underlying64 sz63 (hBo.rsl i him) hll)) ?_
    refine F.va rfl rfl (fun w' hw'=>(x_loadAgg (cs:=opC x) rfl Try.underlying63 rfl sz63 rfl (fun y v hv=>cell_keep (hBo.op i him l.1 x hx y v hv) (hw').hb))) ?_
    refine F.doo rfl rfl ?_
    have z_hR:=hR
    refine L.alloc (cs:=#[.int .i64 0,.int .i64 0,.int .i64 0,.int .i64 0,.bool false,.int .i64 0,.int .i64 0,.int .i64 0,.int .i64 0,.string ByteArray.empty]) zr63 rfl (fun w b12 F12=>?_)
    have lt12:w.heap.size <= w.heap.size:=Nat.le_refl _
    have hR:=hR.keep F12.below
    have hB12:=F12.blk
    refine L.nil ⟨rfl,hR,?_⟩
    refine F.nil ?_
    show L _ _ _ _ _ _ _
    refine L.put (b:=b12) (o:=0) (vs:=[.int .i64 (x.kind),.int .i64 (x.step.kind),.int .i64 (x.step.obj),.int .i64 (x.step.num),.bool (x.free),.int .i64 (x.cell),.int .i64 (x.least),.int .i64 (x.to),.int .i64 (x.by_),.string (x.text)]) #[.int .i64 (x.kind),.int .i64 (x.step.kind),.int .i64 (x.step.obj),.int .i64 (x.step.num),.bool (x.free),.int .i64 (x.cell),.int .i64 (x.least),.int .i64 (x.to),.int .i64 (x.by_),.string (x.text)] rfl rfl rfl sz63 rfl rfl hB12 (Nat.le_of_ble_eq_true rfl) (setRow_all rfl) (fun w hnew hg hsz=>?_)
    have hbA:=below_gr F12.below F12.below.size hg (by have:=F12.here; omega)
    have hR:=z_hR.keep hbA
    have hB12:=hnew
    clear hnew hg hsz hbA F12 z_hR
    refine L.nil ?_
    show W _ _ _ _ _ _
    refine W.seq ?_
    have hM:=hR.run
    have hB4:=(hR.kp _ _ _ _ (blkF_of h4S) (by decide))
    have hB5:=(hR.kp _ _ _ _ (blkF_of h5S) (by decide))
    refine W.fl 12 [10,11] [0,1,2,3,4,5,6,7,8,9,10,11] (fun w'=>Blk w' b (Mc.cells m ba bc { M with used:=M.used + 1 }) 68/\Blk w' b12 (opC x).toArray 63) (by kernel_rfl) (by kernel_rfl) (by kernel_rfl) (by kernel_rfl) (by kernel_rfl) (⟨hM.keep (Below.refl w.heap.size w).drew,hB12.keep (Below.refl w.heap.size w).drew⟩) ?_
    have hdr:Below w.heap.size w w.drew:=(Below.refl w.heap.size w).drew
    have hR:=hR.keep hdr
    have hB12:=hB12.keep hdr
    have hM:=hM.keep hdr
    have hB4:=hB4.keep hdr
    have hB5:=hB5.keep hdr
    clear hdr
    generalize w.drew = w at *
    refine F.va rfl rfl (fun w' hw'=>(x_mvP rfl)) ?_
    refine F.va rfl rfl (fun w' hw'=>(x_mvP rfl)) ?_
    refine F.va rfl rfl (fun w' hw'=>(x_nilCheck rfl)) ?_
    refine F.va rfl rfl (fun w' hw'=>(x_field rfl Try.underlying68 rfl sz31 (by decide))) ?_
    refine F.va rfl rfl (fun w' hw'=>(x_field rfl Try.underlying31 rfl sz27 (by decide))) ?_
    refine F.va rfl rfl (fun w' hw'=>(x_load rfl Try.underlying27 rfl (hw'.1.cellAt 7 (v:=.slice (M.ea) (M.evs.length) (M.ec)) rfl))) ?_
    refine F.va rfl rfl (fun w' hw'=>(x_mvI rfl)) ?_
    refine F.va rfl rfl (fun w' hw'=>(x_field rfl Try.underlying63 rfl sz43 (by decide))) ?_
    refine F.va rfl rfl (fun w' hw'=>(x_loadAgg (cs:=[.int .i64 (x.step.kind),.int .i64 (x.step.obj),.int .i64 (x.step.num)]) rfl Try.underlying43 rfl sz43 rfl (hw'.2.aggAt rfl))) ?_
    refine F.va rfl rfl (fun w' hw'=>(x_build (parts:=[(0,.tmp 110),(1,.tmp 112)]) rfl (buRR_1 (i:Int) (x.step.kind) (x.step.obj) (x.step.num)))) ?_
    refine F.doo rfl rfl ?_
    refine L.build1 (cs:=#[.int .i64 (i:Int),.int .i64 (x.step.kind),.int .i64 (x.step.obj),.int .i64 (x.step.num)]) rfl rfl Try.underlying27 sz45 rfl ⟨_,zr45⟩ (by decide) (fun w b114 F114=>?_)
    have lt114:w.heap.size <= w.heap.size:=Nat.le_refl _
    have hR:=hR.keep F114.below
    have hB12:=hB12.keep F114.below
    have hM:=hM.keep F114.below
    have hB4:=hB4.keep F114.below
    have hB5:=hB5.keep F114.below
    have hB114:=F114.blk
    refine L.nil ⟨rfl,⟨hM,hB12⟩,?_⟩
    refine F.doo rfl rfl ?_
    have hlw:=hR.hb.size
    refine L.appendW (B:=w0.heap.size) (m:=1) rfl rfl Try.underlying27 in45 rfl (by decide) hR.evs (news:=[.int .i64 (i:Int),.int .i64 x.step.kind,.int .i64 x.step.obj,.int .i64 x.step.num]) rfl (fun j u hj=>by
     rw [Addr.add_lit]
     match j,hj with
     | 0,hj=>cases hj; exact hB114.cellAt 0 rfl
     | 1,hj=>cases hj; exact hB114.cellAt 1 rfl
     | 2,hj=>cases hj; exact hB114.cellAt 2 rfl
     | 3,hj=>cases hj; exact hB114.cellAt 3 rfl) (fun u hu=>by simp only [List.mem_cons,List.not_mem_nil,or_false] at hu; rcases hu with rfl | rfl | rfl | rfl <;> rfl) (by show M.evs.length + 1 <= _; omega) (by show (M.evs.length + 1) * _ <= _; omega) hlw (fun a115 c115 w2 hO hgr _=>?_)
    have hB12:Blk w2 b12 (opC x).toArray 63:=apartF (blkF_of hB12) hgr (row_ne hR.evs (by decide))
    have hM:=apartF hM hgr (row_ne hR.evs (by decide))
    refine L.nil ⟨rfl,⟨hM,hB12⟩,?_⟩
    refine F.nil ?_
    show L _ _ _ _ _ _ _
    refine L.va (x_nilCheck rfl) ?_
    refine L.va (x_field rfl Try.underlying68 rfl sz31 (by decide)) ?_
    refine L.va (x_field rfl Try.underlying31 rfl sz27 (by decide)) ?_
    have hRr:=apartF hR.run hgr (row_ne hR.evs (by decide))
    refine L.rEv hR (i,x.step) hgr hO rfl rfl sz27 (fun w hR hg3=>?_)
    have hB12:Blk w b12 (opC x).toArray 63:=apartF (blkF_of hB12) hg3 (fun r e=>by cases e; exact ⟨_,_,_,hRr,by decide⟩)
    clear hgr hO hg3 hRr
    refine L.nil ?_
    try clear hM
    try clear hB4
    try clear hB5
    show W _ _ _ _ _ _
    refine W.seq ?_
    refine W.fl 17 [3,7] [0,1,2,4,5,6,8,9,12,13,15,16,3,7,10,11,14] (fun w'=>Blk w' b12 (opC x).toArray 63/\Rf w0 wS b m ba bc w' { M with used:=M.used + 1,ea:=a115,ec:=c115,evs:=M.evs ++ [(i,x.step)] }) (by kernel_rfl) (by kernel_rfl) (by kernel_rfl) (by kernel_rfl) (by kernel_rfl) (⟨hB12.keep (Below.refl w.heap.size w).drew,hR.keep (Below.refl w.heap.size w).drew⟩) ?_
    have hdr:Below w.heap.size w w.drew:=(Below.refl w.heap.size w).drew
    have hR:=hR.keep hdr
    have hB12:=hB12.keep hdr
    clear hdr
    generalize w.drew = w at *
    refine F.va rfl rfl (fun w' hw'=>(x_mvP rfl)) ?_
    refine F.va rfl rfl (fun w' hw'=>(x_field rfl Try.underlying63 rfl sz3 (by decide))) ?_
    refine F.va rfl rfl (fun w' hw'=>(x_load rfl Try.underlying3 rfl (hw'.1.cellAt 7 (v:=.int .i64 (x.to)) rfl))) ?_
    refine F.va rfl rfl (fun w' hw'=>(x_mvP rfl)) ?_
    refine F.va rfl rfl (fun w' hw'=>(x_field rfl Try.underlying63 rfl sz3 (by decide))) ?_
    refine F.va rfl rfl (fun w' hw'=>(x_load rfl Try.underlying3 rfl (hw'.1.cellAt 7 (v:=.int .i64 (x.to)) rfl))) ?_
    refine F.va rfl rfl (fun w' hw'=>(x_nilCheck rfl)) ?_
    refine F.va rfl rfl (fun w' hw'=>(x_field rfl Try.underlying68 rfl sz35 (by decide))) ?_
    refine F.va rfl rfl (fun w' hw'=>(x_field rfl Try.underlying63 rfl sz2 (by decide))) ?_
    refine F.va rfl rfl (fun w' hw'=>(x_load rfl Try.underlying2 rfl (hw'.1.cellAt 8 (v:=.int .i64 (x.by_)) rfl))) ?_
    refine F.va rfl rfl (fun w' hw'=>(x_nilCheck rfl)) ?_
    refine F.va rfl rfl (fun w' hw'=>(x_field rfl Try.underlying68 rfl sz35 (by decide))) ?_
    refine F.doo rfl rfl ?_
    refine L.call (x_call1 rfl Try.func34 rfl nm34 rfl) (at_c x.to w) ?_
    rintro _ w1 ⟨rfl,hw1⟩
    rw [hw1]
    clear hw1 w1
    refine L.nil ⟨rfl,⟨hB12,hR⟩,?_⟩
    refine F.doo rfl rfl ?_
    refine L.call (x_call1 rfl Try.func34 rfl nm34 rfl) (at_c x.to w) ?_
    rintro _ w1 ⟨rfl,hw1⟩
    rw [hw1]
    clear hw1 w1
    refine L.nil ⟨rfl,⟨hB12,hR⟩,?_⟩
    refine F.va rfl rfl (fun w' hw'=>(x_idxArr (i:=at4 x.to) rfl rfl Try.underlying35 sz2 (at4_lt _))) ?_
    refine F.va rfl rfl (fun w' hw'=>(x_load (v:=.int .i64 (M.c (at4 x.to))) rfl Try.underlying2 rfl (mc_at (m:=m) (ba:=ba) (bc:=bc) (M:={ M with used:=M.used + 1,ea:=a115,ec:=c115,evs:=M.evs ++ [(i,x.step)] }) hw'.2.run (at4_lt _)))) ?_
    refine F.va rfl rfl (fun w' hw'=>(x_add (κ:=.i64) (m:=M.c (at4 x.to)) (k:=x.by_) rfl rfl)) ?_
    refine F.nil ?_
    show L _ _ _ _ _ _ _
    refine L.va (x_idxArr (i:=at4 x.to) rfl rfl Try.underlying35 sz2 (at4_lt _)) ?_
    refine L.rM hR (addC M.c (at4 x.to) x.by_) M.stuck (M.used + 1) rfl rfl rfl sz2 rfl rfl (by show 3 + at4 x.to * 1 + 1 <= 13; have:=at4_lt x.to; omega) (mc_add (M:={ M with used:=M.used + 1,ea:=a115,ec:=c115,evs:=M.evs ++ [(i,x.step)] }) (at4_lt _) _) (fun w hR _=>?_)
    refine L.nil ?_
    show W _ _ _ _ _ _
    refine W.seq ?_
    refine W.region rfl ?_
    refine L.va (x_mvP rfl) ?_
    refine L.va (x_nilCheck rfl) ?_
    refine L.va (x_field rfl Try.underlying68 rfl sz31 (by decide)) ?_
    refine L.va (x_field rfl Try.underlying31 rfl sz29 (by decide)) ?_
    refine L.va (x_load rfl Try.underlying29 rfl (hR.run.cellAt 10 (v:=.slice (some ⟨M.wb,0,none⟩) m m) rfl)) ?_
    refine L.va (x_mvI rfl) ?_
    refine L.va (x_build (parts:=[]) rfl buRR_2) ?_
    refine L.va (x_index (i:=i) rfl rfl Try.underlying29 sz43 him) ?_
    refine L.rW (i:=i) (z:=sp0) hR him rfl rfl sz43 (fun w hR _=>?_)
    refine L.nil ?_
    show W _ _ _ _ _ _
    refine W.seq ?_
    refine W.region rfl ?_
    refine L.va (x_mvP rfl) ?_
    refine L.va (x_nilCheck rfl) ?_
    refine L.va (x_field rfl Try.underlying68 rfl sz26 (by decide)) ?_
    refine L.va (x_load rfl Try.underlying26 rfl (hR.run.cellAt 1 (v:=.slice (some ⟨M.pb,0,none⟩) m m) rfl)) ?_
    refine L.va (x_mvI rfl) ?_
    refine L.va (x_index (i:=i) rfl rfl Try.underlying26 sz3 him) ?_
    refine L.va (x_load (v:=.int .i64 (l.1:Int)) rfl Try.underlying3 rfl (hR.pl_at hpl)) ?_
    refine L.va (x_inc rfl rfl (by omega)) ?_
    refine L.va (x_index (i:=i) rfl rfl Try.underlying26 sz3 him) ?_
    refine L.rP (i:=i) (z:=l.1 + 1) hR him rfl rfl sz3 (fun w hR _=>?_)
    refine L.nil ?_
    show W _ _ _ _ _ _
    refine W.seq ?_
    refine W.region rfl ?_
    refine L.va (x_mvP rfl) ?_
    refine L.va (x_mvI rfl) ?_
    have hz1:({ M with used:=M.used + 1,ea:=a115,ec:=c115,evs:=M.evs ++ [(i,x.step)],c:=addC M.c (at4 x.to) x.by_,wts:=M.wts.set i sp0,pls:=M.pls.set i (l.1 + 1) }:Mc).pls[i]? = some (l.1 + 1):=set_same _ hpl
    have hz2:({ M with used:=M.used + 1,ea:=a115,ec:=c115,evs:=M.evs ++ [(i,x.step)],c:=addC M.c (at4 x.to) x.by_,wts:=M.wts.set i sp0,pls:=M.pls.set i (l.1 + 1) }:Mc).wts[i]? = some sp0:=set_same _ hwi
    have hoff:(opsGo (bo i) (l.1 + 1) l.2 (addC M.c (at4 x.to) x.by_)) = (pSys m bo).go i l (PB m bo sc q).s:=by
     show _ = (match (bo i)[l.1]? with | some o=>opsGo (bo i) (l.1 + 1) l.2 (addC (PB m bo sc q).s (at4 o.to) o.by_) | none=>⟨(PB m bo sc q).s,[],.inr 1⟩)
     rw [hx,hMR.c]
    have hnb:(M.nts ++ tell i (M.evs ++ [(i,x.step)]).length (opsGo (bo i) (l.1 + 1) l.2 (addC M.c (at4 x.to) x.by_)).nts).length <= 1000000000:=by
     have h1:=nts_len (bo:=bo) hm hBo.len sc (q + 1)
     have h2:(PB m bo sc (q + 1)).nts = (PB m bo sc q).nts ++ tell i ((PB m bo sc q).evs.length + 1) ((pSys m bo).go i l (PB m bo sc q).s).nts:=by
      show ((pSys m bo).step (PB m bo sc q) (sc q)).nts = _
      rw [hst]; unfold Sys.turn; rw [hfl]
     rw [h2] at h1; rw [hoff,hMR.nts,hMR.evs,List.length_append]; simpa [tell] using h1
    refine L.call (x_call2 rfl rfl Try.func31 rfl nm31 rfl) (goes_c hBo hR him hz1 hjm hl50 hlx (by rw [hMR.c]; exact hMR.ok.add _ _) he0 hz2 hnb (by show (M.evs ++ [(i,x.step)]).length <= 1000000; rw [List.length_append]; show M.evs.length + 1 <= 1000000; omega) (by omega)) ?_
    rintro _ w ⟨rfl,M',hR,hW⟩
    have hMR:MR m bo (PB m bo sc (q + 1)) false M':=by
     show MR m bo ((pSys m bo).step (PB m bo sc q) (sc q)) false M'
     rw [hst]; exact hMR.turn him hfl hx a115 c115 hW
    clear hW hnb hoff hz1 hz2
    refine L.nil ?_
    show W _ _ _ _ _ _
    refine W.region rfl ?_
    refine L.va (x_mvP rfl) ?_
    have hR0:=hR
    have hfm:(PB m bo sc (q + 1)).ft.length = m:=Sys.len_pn sc (q + 1)
    refine L.call (x_call1 rfl Try.func32 rfl nm32 rfl) (ready_c hBo hR (by omega) ((pSys m bo).isRdy (PB m bo sc (q + 1))) (hMR.rdy hfm)) ?_
    rintro _ w2 ⟨a158,c158,rfl,hl,hbl,hR⟩
    have hl:Own w2 w0.heap.size 3 1 a158 ((pSys m bo).rds (PB m bo sc (q + 1))).length c158 (((pSys m bo).rds (PB m bo sc (q + 1))).map plV):=Own.down hl hR0.hb.size
    rename World=>w
    clear hR0 hbl
    refine L.va (x_asS rfl) ?_
    refine L.nil ?_
    refine B.nrm ?_
    refine T.nrm ?_
    exact ⟨_,by omega,⟨q + 1,M',a158,_,c158,rfl,rfl,rfl,rfl,rfl,rfl,rfl,rfl,rfl,hqs,(by rw [hMR.used]; exact hus2),rfl,hR,hMR,hl⟩⟩
   ·have hout:n = 0\/q = sn:=by omega
    refine W.exit ?_
    repeat (first | refine T.exit ?_ | refine N.exit ?_ | refine B.exitNe (by decide) ?_)
    refine B.exitEq ?_
    show W _ _ _ _ _ _
    refine W.seq ?_
    refine W.seq ?_
    refine W.region rfl ?_
    refine L.va (x_asI rfl) ?_
    refine L.nil ?_
    show W _ _ _ _ _ _
    refine W.block ?_
    refine W.loop (fun k e w=>∃ (k3:Nat),∃ (M:Mc),k = m - k3/\e 0 = .slice ba m bc/\e 1 = .slice sa sn scp/\e 4 = .pointer (some ⟨b4,0,none⟩)/\e 5 = .pointer (some ⟨b5,0,none⟩)/\e 6 = .int .i64 0/\e 7 = .int .i64 (m:Int)/\e 8 = .pointer (some ⟨b,0,none⟩)/\e 10 = .slice a n cp/\e 13 = .int .i64 (k3:Int)/\k3 <= m/\Rf w0 wS b m ba bc w M/\MR m bo (PB m bo sc q) (decide (n = 0) && ((PB m bo sc q).ft.take k3).any (·.isLeft)) M) _ ⟨0,M,rfl,rfl,rfl,rfl,rfl,rfl,rfl,rfl,rfl,rfl,Nat.zero_le _,hR,(by simpa using hMR)⟩ ?_
    rintro k e w ⟨k3,M,hk,s0,s1,s4,s5,s6,s7,s8,s10,s13,hk3,hR,hMR⟩
    rw [upd_id s0,upd_id s1,upd_id s4,upd_id s5,upd_id s6,upd_id s7,upd_id s8,upd_id s10,upd_id s13]
    clear s0 s1 s4 s5 s6 s7 s8 s10 s13
    refine W.seq ?_
    refine W.seq ?_
    refine W.region rfl ?_
    refine L.va (x_mvI rfl) ?_
    refine L.va (x_mvI rfl) ?_
    refine L.va (x_lss rfl rfl) ?_
    refine L.nil ?_
    show W _ _ _ _ _ _
    refine W.condP rfl (fun h161=>?_) (fun h161=>?_)
    ·have hlt:k3 < m:=by omega
     refine W.skip ?_
     show W _ _ _ _ _ _
     refine W.seq ?_
     refine W.block ?_
     obtain ⟨f,hf⟩:∃ f,(PB m bo sc q).ft[k3]? = some f:=⟨_,List.getElem?_eq_getElem (by rw [Sys.len_pn]; exact hlt)⟩
     have hen0:=hMR.ends k3 hlt
     rw [hf] at hen0
     have htk:((PB m bo sc q).ft.take (k3 + 1)).any (·.isLeft) = (((PB m bo sc q).ft.take k3).any (·.isLeft) || f.isLeft):=by rw [List.take_add_one,hf]; simp
     have hnr:∀ x,f = .inr x->x ≠ 0:=fun x h=>hMR.inr k3 x hlt (h ▸ hf)
     rcases hs0:(decide (n = 0) && ((PB m bo sc q).ft.take k3).any (·.isLeft)) with _ | _
     ·have hS0:M.stuck = false:=hMR.stuck.trans hs0
      have hM:=hR.run
      unfold Mc.cells at hM
      rw [hS0] at hM
      by_cases hn0:n = 0
      ·by_cases hz:endOf (some f) = 0
       ·have hfin:true = (decide (n = 0) && (((PB m bo sc q).ft.take k3).any (·.isLeft) || f.isLeft)):=by
         rcases f with l | x
         ·simp [hn0]
         ·exact absurd (by simpa [endOf] using hz) (hnr x rfl)
        refine W.region rfl ?_
        refine L.va (x_mvP rfl) ?_
        refine L.va (x_mvP rfl) ?_
        refine L.va (x_nilCheck rfl) ?_
        refine L.va (x_field rfl Try.underlying68 rfl sz31 (by decide)) ?_
        refine L.va (x_field rfl Try.underlying31 rfl sz4 (by decide)) ?_
        refine L.va (x_load rfl Try.underlying4 rfl (hM.cellAt 11 (v:=.bool false) rfl)) ?_
        refine L.va (x_mvB rfl) ?_
        refine L.on rfl ?_
        refine L.va (x_mvS rfl) ?_
        refine L.on rfl ?_
        refine L.va (x_len rfl Try.underlying26 rfl) ?_
        refine L.on rfl ?_
        refine L.va (d_boolK (r:=true) (decide_eq_true (by omega)) (x_eql (m:=(n:Int)) (k:=0) rfl rfl)) ?_
        refine L.on rfl ?_
        refine L.va (x_mvB rfl) ?_
        refine L.on rfl ?_
        refine L.va (x_mvP rfl) ?_
        refine L.on rfl ?_
        refine L.va (x_nilCheck rfl) ?_
        refine L.on rfl ?_
        refine L.va (x_field rfl Try.underlying68 rfl sz31 (by decide)) ?_
        refine L.on rfl ?_
        refine L.va (x_field rfl Try.underlying31 rfl sz26 (by decide)) ?_
        refine L.on rfl ?_
        refine L.va (x_load rfl Try.underlying26 rfl (hM.cellAt 9 (v:=.slice (some ⟨M.eb,0,none⟩) m m) rfl)) ?_
        refine L.on rfl ?_
        refine L.va (x_mvI rfl) ?_
        refine L.on rfl ?_
        refine L.va (x_index (i:=k3) rfl rfl Try.underlying26 sz3 hlt) ?_
        refine L.on rfl ?_
        refine L.va (x_load (v:=.int .i64 (endOf (some f))) rfl Try.underlying3 rfl (hR.en_at hen0)) ?_
        refine L.on rfl ?_
        refine L.va (d_boolK (r:=true) (decide_eq_true hz) (x_eql (m:=endOf (some f)) (k:=0) rfl rfl)) ?_
        refine L.on rfl ?_
        refine L.va (x_pickT rfl) ?_
        refine L.va (x_pickF rfl) ?_
        refine L.va (x_nilCheck rfl) ?_
        refine L.va (x_field rfl Try.underlying68 rfl sz31 (by decide)) ?_
        refine L.va (x_field rfl Try.underlying31 rfl sz4 (by decide)) ?_
        refine L.rM (o:=11) (v:=.bool true) (vs:=[.bool true]) hR M.c true M.used rfl rfl rfl sz4 rfl rfl (Nat.le_of_ble_eq_true rfl) (by simp [Mc.cells,setRow]) (fun w hR _=>?_)
        have hMR:MR m bo (PB m bo sc q) (decide (n = 0) && ((PB m bo sc q).ft.take (k3 + 1)).any (·.isLeft)) { M with stuck:=true }:=hMR.setSt (by rw [htk]; exact hfin)
        refine L.nil ?_
        refine B.nrm ?_
        show W _ _ _ _ _ _
        refine W.region rfl ?_
        refine L.va (x_mvI rfl) ?_
        refine L.va (x_inc rfl rfl (by omega)) ?_
        refine L.va (x_asI rfl) ?_
        refine L.nil ?_
        refine T.nrm ?_
        exact ⟨_,by omega,⟨k3 + 1,{ M with stuck:=true },rfl,rfl,rfl,rfl,rfl,rfl,rfl,rfl,rfl,rfl,hlt,hR,hMR⟩⟩
       ·have hfin:false = (decide (n = 0) && (((PB m bo sc q).ft.take k3).any (·.isLeft) || f.isLeft)):=by
         rcases f with l | x
         ·exact absurd rfl hz
         ·have hA:((PB m bo sc q).ft.take k3).any (·.isLeft) = false:=by simpa only [hn0,decide_true,Bool.true_and] using hs0
          rw [hA]; simp
        refine W.region rfl ?_
        refine L.va (x_mvP rfl) ?_
        refine L.va (x_mvP rfl) ?_
        refine L.va (x_nilCheck rfl) ?_
        refine L.va (x_field rfl Try.underlying68 rfl sz31 (by decide)) ?_
        refine L.va (x_field rfl Try.underlying31 rfl sz4 (by decide)) ?_
        refine L.va (x_load rfl Try.underlying4 rfl (hM.cellAt 11 (v:=.bool false) rfl)) ?_
        refine L.va (x_mvB rfl) ?_
        refine L.on rfl ?_
        refine L.va (x_mvS rfl) ?_
        refine L.on rfl ?_
        refine L.va (x_len rfl Try.underlying26 rfl) ?_
        refine L.on rfl ?_
        refine L.va (d_boolK (r:=true) (decide_eq_true (by omega)) (x_eql (m:=(n:Int)) (k:=0) rfl rfl)) ?_
        refine L.on rfl ?_
        refine L.va (x_mvB rfl) ?_
        refine L.on rfl ?_
        refine L.va (x_mvP rfl) ?_
        refine L.on rfl ?_
        refine L.va (x_nilCheck rfl) ?_
        refine L.on rfl ?_
        refine L.va (x_field rfl Try.underlying68 rfl sz31 (by decide)) ?_
        refine L.on rfl ?_
        refine L.va (x_field rfl Try.underlying31 rfl sz26 (by decide)) ?_
        refine L.on rfl ?_
        refine L.va (x_load rfl Try.underlying26 rfl (hM.cellAt 9 (v:=.slice (some ⟨M.eb,0,none⟩) m m) rfl)) ?_
        refine L.on rfl ?_
        refine L.va (x_mvI rfl) ?_
        refine L.on rfl ?_
        refine L.va (x_index (i:=k3) rfl rfl Try.underlying26 sz3 hlt) ?_
        refine L.on rfl ?_
        refine L.va (x_load (v:=.int .i64 (endOf (some f))) rfl Try.underlying3 rfl (hR.en_at hen0)) ?_
        refine L.on rfl ?_
        refine L.va (d_boolK (r:=false) (decide_eq_false hz) (x_eql (m:=endOf (some f)) (k:=0) rfl rfl)) ?_
        refine L.on rfl ?_
        refine L.va (x_pickT rfl) ?_
        refine L.va (x_pickF rfl) ?_
        refine L.va (x_nilCheck rfl) ?_
        refine L.va (x_field rfl Try.underlying68 rfl sz31 (by decide)) ?_
        refine L.va (x_field rfl Try.underlying31 rfl sz4 (by decide)) ?_
        refine L.rM (o:=11) (v:=.bool false) (vs:=[.bool false]) hR M.c false M.used rfl rfl rfl sz4 rfl rfl (Nat.le_of_ble_eq_true rfl) (by simp [Mc.cells,setRow]) (fun w hR _=>?_)
        have hMR:MR m bo (PB m bo sc q) (decide (n = 0) && ((PB m bo sc q).ft.take (k3 + 1)).any (·.isLeft)) { M with stuck:=false }:=hMR.setSt (by rw [htk]; exact hfin)
        refine L.nil ?_
        refine B.nrm ?_
        show W _ _ _ _ _ _
        refine W.region rfl ?_
        refine L.va (x_mvI rfl) ?_
        refine L.va (x_inc rfl rfl (by omega)) ?_
        refine L.va (x_asI rfl) ?_
        refine L.nil ?_
        refine T.nrm ?_
        exact ⟨_,by omega,⟨k3 + 1,{ M with stuck:=false },rfl,rfl,rfl,rfl,rfl,rfl,rfl,rfl,rfl,rfl,hlt,hR,hMR⟩⟩
      ·have hfin:false = (decide (n = 0) && (((PB m bo sc q).ft.take k3).any (·.isLeft) || f.isLeft)):=by simp [hn0]
       refine W.region rfl ?_
       refine L.va (x_mvP rfl) ?_
       refine L.va (x_mvP rfl) ?_
       refine L.va (x_nilCheck rfl) ?_
       refine L.va (x_field rfl Try.underlying68 rfl sz31 (by decide)) ?_
       refine L.va (x_field rfl Try.underlying31 rfl sz4 (by decide)) ?_
       refine L.va (x_load rfl Try.underlying4 rfl (hM.cellAt 11 (v:=.bool false) rfl)) ?_
       refine L.va (x_mvB rfl) ?_
       refine L.on rfl ?_
       refine L.va (x_mvS rfl) ?_
       refine L.on rfl ?_
       refine L.va (x_len rfl Try.underlying26 rfl) ?_
       refine L.on rfl ?_
       refine L.va (d_boolK (r:=false) (decide_eq_false (by omega)) (x_eql (m:=(n:Int)) (k:=0) rfl rfl)) ?_
       refine L.on rfl ?_
       refine L.va (x_mvB rfl) ?_
       refine L.off rfl ?_
       refine L.off rfl ?_
       refine L.off rfl ?_
       refine L.off rfl ?_
       refine L.off rfl ?_
       refine L.off rfl ?_
       refine L.off rfl ?_
       refine L.off rfl ?_
       refine L.off rfl ?_
       refine L.on rfl ?_
       refine L.va (x_pickF rfl) ?_
       refine L.va (x_pickF rfl) ?_
       refine L.va (x_nilCheck rfl) ?_
       refine L.va (x_field rfl Try.underlying68 rfl sz31 (by decide)) ?_
       refine L.va (x_field rfl Try.underlying31 rfl sz4 (by decide)) ?_
       refine L.rM (o:=11) (v:=.bool false) (vs:=[.bool false]) hR M.c false M.used rfl rfl rfl sz4 rfl rfl (Nat.le_of_ble_eq_true rfl) (by simp [Mc.cells,setRow]) (fun w hR _=>?_)
       have hMR:MR m bo (PB m bo sc q) (decide (n = 0) && ((PB m bo sc q).ft.take (k3 + 1)).any (·.isLeft)) { M with stuck:=false }:=hMR.setSt (by rw [htk]; exact hfin)
       refine L.nil ?_
       refine B.nrm ?_
       show W _ _ _ _ _ _
       refine W.region rfl ?_
       refine L.va (x_mvI rfl) ?_
       refine L.va (x_inc rfl rfl (by omega)) ?_
       refine L.va (x_asI rfl) ?_
       refine L.nil ?_
       refine T.nrm ?_
       exact ⟨_,by omega,⟨k3 + 1,{ M with stuck:=false },rfl,rfl,rfl,rfl,rfl,rfl,rfl,rfl,rfl,rfl,hlt,hR,hMR⟩⟩
     ·have hS0:M.stuck = true:=hMR.stuck.trans hs0
      have hM:=hR.run
      unfold Mc.cells at hM
      rw [hS0] at hM
      have hfin:true = (decide (n = 0) && (((PB m bo sc q).ft.take k3).any (·.isLeft) || f.isLeft)):=by have:=hs0; simp at this; simp [this.1]; left; simpa using this.2
      refine W.region rfl ?_
      refine L.va (x_mvP rfl) ?_
      refine L.va (x_mvP rfl) ?_
      refine L.va (x_nilCheck rfl) ?_
      refine L.va (x_field rfl Try.underlying68 rfl sz31 (by decide)) ?_
      refine L.va (x_field rfl Try.underlying31 rfl sz4 (by decide)) ?_
      refine L.va (x_load rfl Try.underlying4 rfl (hM.cellAt 11 (v:=.bool true) rfl)) ?_
      refine L.va (x_mvB rfl) ?_
      refine L.off rfl ?_
      refine L.off rfl ?_
      refine L.off rfl ?_
      refine L.off rfl ?_
      refine L.off rfl ?_
      refine L.off rfl ?_
      refine L.off rfl ?_
      refine L.off rfl ?_
      refine L.off rfl ?_
      refine L.off rfl ?_
      refine L.off rfl ?_
      refine L.off rfl ?_
      refine L.off rfl ?_
      refine L.off rfl ?_
      refine L.va (x_pickT rfl) ?_
      refine L.va (x_nilCheck rfl) ?_
      refine L.va (x_field rfl Try.underlying68 rfl sz31 (by decide)) ?_
      refine L.va (x_field rfl Try.underlying31 rfl sz4 (by decide)) ?_
      refine L.rM (o:=11) (v:=.bool true) (vs:=[.bool true]) hR M.c true M.used rfl rfl rfl sz4 rfl rfl (Nat.le_of_ble_eq_true rfl) (by simp [Mc.cells,setRow]) (fun w hR _=>?_)
      have hMR:MR m bo (PB m bo sc q) (decide (n = 0) && ((PB m bo sc q).ft.take (k3 + 1)).any (·.isLeft)) { M with stuck:=true }:=hMR.setSt (by rw [htk]; exact hfin)
      refine L.nil ?_
      refine B.nrm ?_
      show W _ _ _ _ _ _
      refine W.region rfl ?_
      refine L.va (x_mvI rfl) ?_
      refine L.va (x_inc rfl rfl (by omega)) ?_
      refine L.va (x_asI rfl) ?_
      refine L.nil ?_
      refine T.nrm ?_
      exact ⟨_,by omega,⟨k3 + 1,{ M with stuck:=true },rfl,rfl,rfl,rfl,rfl,rfl,rfl,rfl,rfl,rfl,hlt,hR,hMR⟩⟩
    ·have hkm3:k3 = m:=by omega
     rw [hkm3] at hMR
     refine W.exit ?_
     repeat (first | refine T.exit ?_ | refine N.exit ?_ | refine B.exitNe (by decide) ?_)
     refine B.exitEq ?_
     show W _ _ _ _ _ _
     refine W.seq ?_
     have hPn:PB m bo sc q = PB m bo sc sn:=by
      rcases hout with h0 | h0
      ·obtain ⟨d,rfl⟩:∃ d,sn = q + d:=⟨sn - q,by omega⟩
       exact (Sys.pn_stuck (List.length_eq_zero_iff.1 (hnq ▸ h0)) d).symm
      ·rw [h0]
     rw [hPn] at hMR hnq
     obtain ⟨l1,l2⟩:=hMR.lists hR.le hR.lw
     have hr:=hR.runAt
     rw [l1,l2,hMR.evs,hMR.nts] at hr
     have hE:=hR.evs
     rw [hMR.evs] at hE
     have hN:=hR.nts
     rw [hMR.nts] at hN
     have hlo:Lo w0.heap.size M.ea M.na (some ⟨M.eb,0,none⟩) (some ⟨M.wb,0,none⟩) (⟨0,m,(PB m bo sc sn).evs,(PB m bo sc sn).nts,(List.range m).map fun j=>endOf (PB m bo sc sn).ft[j]?,(List.range m).map fun j=>wtOf (pSys m bo) j (PB m bo sc sn).ft[j]?,(PB m bo sc sn).ft.any (·.isLeft) && ((pSys m bo).rds (PB m bo sc sn)).isEmpty,((PB m bo sc sn).used:Int)⟩:PD):=⟨fun z=>by
      have h8:=hE.some_of (List.length_pos_iff.2 z)
      obtain ⟨cur,_,hle,_⟩:=hE.row h8
      exact hle,fun z=>by
      have h8:=hN.some_of (List.length_pos_iff.2 z)
      obtain ⟨cur,_,hle,_⟩:=hN.row h8
      exact hle,fun _=>hR.be,fun _=>hR.bw⟩
     obtain ⟨o1,o2,o3,o4⟩:=hR.offB (hR.kp _ _ _ _ (blkF_of h4S) (by decide)) (by decide)
     have ho4:Off b4 M.ea M.na (some ⟨M.eb,0,none⟩) (some ⟨M.wb,0,none⟩) (⟨0,m,(PB m bo sc sn).evs,(PB m bo sc sn).nts,(List.range m).map fun j=>endOf (PB m bo sc sn).ft[j]?,(List.range m).map fun j=>wtOf (pSys m bo) j (PB m bo sc sn).ft[j]?,(PB m bo sc sn).ft.any (·.isLeft) && ((pSys m bo).rds (PB m bo sc sn)).isEmpty,((PB m bo sc sn).used:Int)⟩:PD):=⟨fun z=>o1 (by rw [hMR.evs]; exact z),fun z=>o2 (by rw [hMR.nts]; exact z),fun _=>o3,fun _=>o4⟩
     clear o1 o2 o3 o4
     obtain ⟨o1,o2,o3,o4⟩:=hR.offB (hR.kp _ _ _ _ (blkF_of h5S) (by decide)) (by decide)
     have ho5:Off b5 M.ea M.na (some ⟨M.eb,0,none⟩) (some ⟨M.wb,0,none⟩) (⟨0,m,(PB m bo sc sn).evs,(PB m bo sc sn).nts,(List.range m).map fun j=>endOf (PB m bo sc sn).ft[j]?,(List.range m).map fun j=>wtOf (pSys m bo) j (PB m bo sc sn).ft[j]?,(PB m bo sc sn).ft.any (·.isLeft) && ((pSys m bo).rds (PB m bo sc sn)).isEmpty,((PB m bo sc sn).used:Int)⟩:PD):=⟨fun z=>o1 (by rw [hMR.evs]; exact z),fun z=>o2 (by rw [hMR.nts]; exact z),fun _=>o3,fun _=>o4⟩
     have hr:RunD w M.ea M.na (some ⟨M.eb,0,none⟩) (some ⟨M.wb,0,none⟩) (⟨0,m,(PB m bo sc sn).evs,(PB m bo sc sn).nts,(List.range m).map fun j=>endOf (PB m bo sc sn).ft[j]?,(List.range m).map fun j=>wtOf (pSys m bo) j (PB m bo sc sn).ft[j]?,(PB m bo sc sn).ft.any (·.isLeft) && ((pSys m bo).rds (PB m bo sc sn)).isEmpty,((PB m bo sc sn).used:Int)⟩:PD):=hr
     have hb:=hR.hb
     have hB4:Blk w b4 _ 31:=hR.kp _ _ _ _ (blkF_of h4S) (by decide)
     have hB5:Blk w b5 _ 35:=hR.kp _ _ _ _ (blkF_of h5S) (by decide)
     have hM:Blk w b _ 68:=hR.run
     clear hR o1 o2 o3 o4 hE hN
     refine W.fl 9 [8] [0,1,2,3,4,5,6,7,8] (fun w'=>Blk w' b (Mc.cells m ba bc M) 68) (by kernel_rfl) (by kernel_rfl) (by kernel_rfl) (by kernel_rfl) (by kernel_rfl) (hM.keep (Below.refl w.heap.size w).drew) ?_
     have hdr:Below w.heap.size w w.drew:=(Below.refl w.heap.size w).drew
     have hb:=cl_step hb hdr
     have hr:=hr.keep hdr
     have hB4:=hB4.keep hdr
     have hB5:=hB5.keep hdr
     have hM:=hM.keep hdr
     clear hdr
     generalize w.drew = w at *
     refine F.va rfl rfl (fun w' hw'=>(x_mvP rfl)) ?_
     refine F.va rfl rfl (fun w' hw'=>(x_nilCheck rfl)) ?_
     refine F.va rfl rfl (fun w' hw'=>(x_field rfl Try.underlying68 rfl sz31 (by decide))) ?_
     refine F.va rfl rfl (fun w' hw'=>(x_loadAgg (cs:=[.slice (M.ea) (M.evs.length) (M.ec),.slice (M.na) (M.nts.length) (M.nc),.slice (some ⟨M.eb,0,none⟩) m m,.slice (some ⟨M.wb,0,none⟩) m m,.bool (M.stuck),.int .i64 (M.used:Int)]) rfl Try.underlying31 rfl sz31 rfl (hw'.aggAt rfl))) ?_
     refine F.va rfl rfl (fun w' hw'=>(x_mvP rfl)) ?_
     refine F.va rfl rfl (fun w' hw'=>(x_nilCheck rfl)) ?_
     refine F.va rfl rfl (fun w' hw'=>(x_field rfl Try.underlying68 rfl sz35 (by decide))) ?_
     refine F.va rfl rfl (fun w' hw'=>(x_loadAgg (cs:=[.int .i64 (M.c 0),.int .i64 (M.c 1),.int .i64 (M.c 2),.int .i64 (M.c 3)]) rfl Try.underlying35 rfl sz35 rfl (hw'.aggAt rfl))) ?_
     refine F.doo rfl rfl ?_
     refine L.put (b:=b4) (o:=0) (vs:=[.slice (M.ea) (M.evs.length) (M.ec),.slice (M.na) (M.nts.length) (M.nc),.slice (some ⟨M.eb,0,none⟩) m m,.slice (some ⟨M.wb,0,none⟩) m m,.bool (M.stuck),.int .i64 (M.used:Int)]) #[.slice (M.ea) (M.evs.length) (M.ec),.slice (M.na) (M.nts.length) (M.nc),.slice (some ⟨M.eb,0,none⟩) m m,.slice (some ⟨M.wb,0,none⟩) m m,.bool (M.stuck),.int .i64 (M.used:Int)] rfl rfl rfl sz31 rfl rfl hB4 (Nat.le_of_ble_eq_true rfl) (setRow_all rfl) (fun w hnew hg hsz=>?_)
     have hB5:=hB5.other hg (Blk.ne hB5 hB4 (by decide))
     have hM:=hM.other hg (Blk.ne hM hB4 (by decide))
     have hr:=RunD.otherB hr hg ho4
     have hb:=low_one hb hg lt4
     have hB4:=hnew
     clear hnew hg hsz
     refine L.nil ⟨rfl,hM,?_⟩
     refine F.nil ?_
     show L _ _ _ _ _ _ _
     refine L.put (b:=b5) (o:=0) (vs:=[.int .i64 (M.c 0),.int .i64 (M.c 1),.int .i64 (M.c 2),.int .i64 (M.c 3)]) #[.int .i64 (M.c 0),.int .i64 (M.c 1),.int .i64 (M.c 2),.int .i64 (M.c 3)] rfl rfl rfl sz35 rfl rfl hB5 (Nat.le_of_ble_eq_true rfl) (setRow_all rfl) (fun w hnew hg hsz=>?_)
     have hB4:=hB4.other hg (Blk.ne hB4 hB5 (by decide))
     have hM:=hM.other hg (Blk.ne hM hB5 (by decide))
     have hr:=RunD.otherB hr hg ho5
     have hb:=low_one hb hg lt5
     have hB5:=hnew
     clear hnew hg hsz
     refine L.va (x_asI rfl) ?_
     refine L.nil ?_
     show W _ _ _ _ _ _
     refine W.ret ?_
     repeat (first | refine T.ret ?_ | refine B.ret ?_ | refine N.ret ?_)
     refine ends.cell2Tmp (cs:=#[.slice (M.ea) (M.evs.length) (M.ec),.slice (M.na) (M.nts.length) (M.nc),.slice (some ⟨M.eb,0,none⟩) m m,.slice (some ⟨M.wb,0,none⟩) m m,.bool (M.stuck),.int .i64 (M.used:Int)]) (ds:=#[.int .i64 (M.c 0),.int .i64 (M.c 1),.int .i64 (M.c 2),.int .i64 (M.c 3)]) (.inr rfl) rfl rfl rfl Try.underlying31 rfl sz31 Try.underlying35 rfl sz35 hB4 hB5 ?_
     have hck:=hMR.c
     have hstk:=hMR.stuck
     have husd:=hMR.used
     have hpd:pd m bo sn sc = (⟨0,m,(PB m bo sc sn).evs,(PB m bo sc sn).nts,(List.range m).map fun j=>endOf (PB m bo sc sn).ft[j]?,(List.range m).map fun j=>wtOf (pSys m bo) j (PB m bo sc sn).ft[j]?,(PB m bo sc sn).ft.any (·.isLeft) && ((pSys m bo).rds (PB m bo sc sn)).isEmpty,((PB m bo sc sn).used:Int)⟩:PD):=(if_neg (by omega)).trans (if_neg (by omega))
     rw [hpd]
     refine ⟨M.ea,M.na,some ⟨M.eb,0,none⟩,some ⟨M.wb,0,none⟩,M.ec,M.nc,m,m,?_,hr,hlo,hb⟩
     rw [hMR.evs,hMR.nts,hck,hstk,husd,hnq]
     have h9:(decide (((pSys m bo).rds (PB m bo sc sn)).length = 0) && ((PB m bo sc sn).ft.take m).any (·.isLeft)) = ((PB m bo sc sn).ft.any (·.isLeft) && ((pSys m bo).rds (PB m bo sc sn)).isEmpty):=by
      rw [List.take_of_length_le (by rw [Sys.len_pn]; exact Nat.le_refl _),Bool.and_comm]
      congr 1
      cases (pSys m bo).rds (PB m bo sc sn) <;> rfl
     rw [h9]
     rfl
end
end Go.Vy.Sc
end
/- The law of runs: the document's Run and the program's. -/
section
namespace Go.Vy.Sc
open Go Go.Conc Go.Yc Go.RowKit Go.Proofs Go.Proofs.Ytfmoeemolgjodaa
open Go.Vc Go.Wg
section
variable [Ctx Try.prog]
end
section
theorem buRN_0:Try.prog.built 31 [] = some #[.slice none 0 0,.slice none 0 0,.slice none 0 0,.slice none 0 0,.bool false,.int .i64 0]:=by kernel_rfl
theorem buRN_1:Try.prog.built 35 [] = some #[.int .i64 0,.int .i64 0,.int .i64 0,.int .i64 0]:=by kernel_rfl
end
section
variable [Ctx Try.prog]
theorem runR_big {m bc sn scp:Nat} {bo:Nat->List OpD} {sc:Nat->Int} {ba sa:Option Addr} {aa:Nat->Option Addr} {cc:Nat->Nat} (w0:World) (_hBo:BodsAt w0 ba m bo aa cc) (_hSc:ScAt w0 sa sn scp sc) (hbig:16 < m):C Try.prog 15 #[.slice ba m bc,.slice sa sn scp] w0 fun v w=>∃ ea na za wa ec nc zc wc,v = .tuple #[.agg #[.slice ea (⟨90,0,[],[],[],[],false,0⟩:PD).evs.length ec,.slice na (⟨90,0,[],[],[],[],false,0⟩:PD).nts.length nc,.slice za (⟨90,0,[],[],[],[],false,0⟩:PD).mm zc,.slice wa (⟨90,0,[],[],[],[],false,0⟩:PD).mm wc,.bool (⟨90,0,[],[],[],[],false,0⟩:PD).st,.int .i64 (⟨90,0,[],[],[],[],false,0⟩:PD).us],.agg #[.int .i64 0,.int .i64 0,.int .i64 0,.int .i64 0],.int .i64 (⟨90,0,[],[],[],[],false,0⟩:PD).e]/\RunD w ea na za wa (⟨90,0,[],[],[],[],false,0⟩:PD)/\Below w0.heap.size w0 w:=by
 refine C.enter (n:=197) Try.func15 rfl rfl ?_
 have hb:Below w0.heap.size w0 w0:=Below.refl _ _
 refine W.seq ?_
 refine W.region rfl ?_
 refine L.alloc (cs:=#[.slice none 0 0,.slice none 0 0,.slice none 0 0,.slice none 0 0,.bool false,.int .i64 0]) zr31 rfl (fun w b4 F4=>?_)
 have lt4:w0.heap.size <= b4:=by have h9:=F4.here; have h8:=hb.size; omega
 have hb:=cl_step hb F4.below
 have hB4:=F4.blk
 refine L.alloc (cs:=#[.int .i64 0,.int .i64 0,.int .i64 0,.int .i64 0]) zr35 rfl (fun w b5 F5=>?_)
 have lt5:w0.heap.size <= b5:=by have h9:=F5.here; have h8:=hb.size; omega
 have hb:=cl_step hb F5.below
 have hB4:=hB4.keep F5.below
 have hB5:=F5.blk
 refine L.va (x_asI rfl) ?_
 refine L.nil ?_
 show W _ _ _ _ _ _
 refine W.seq ?_
 refine W.seq ?_
 refine W.region rfl ?_
 refine L.va (x_mvS rfl) ?_
 refine L.va (x_len rfl Try.underlying25 rfl) ?_
 refine L.va (d_bool (r:=true) (decide_eq_true (by omega)) (x_gtr (m:=(m:Int)) (k:=16) rfl rfl)) ?_
 refine L.nil ?_
 show W _ _ _ _ _ _
 refine W.condT rfl ?_
 refine W.seq ?_
 refine W.region rfl ?_
 refine L.va (x_build (parts:=[]) rfl buRN_0) ?_
 refine L.va (x_build (parts:=[]) rfl buRN_1) ?_
 refine L.put (b:=b4) (o:=0) (vs:=[.slice none 0 0,.slice none 0 0,.slice none 0 0,.slice none 0 0,.bool false,.int .i64 0]) #[.slice none 0 0,.slice none 0 0,.slice none 0 0,.slice none 0 0,.bool false,.int .i64 0] rfl rfl rfl sz31 rfl rfl hB4 (Nat.le_of_ble_eq_true rfl) rfl (fun w hnew hg hsz=>?_)
 have hm0:=ModT.put0 hB4 hg
 have hb:=below_gr hb hb.size hg lt4
 have hB5:=hB5.mod hm0 rfl
 have hB4:=hnew
 clear hm0
 refine L.put (b:=b5) (o:=0) (vs:=[.int .i64 0,.int .i64 0,.int .i64 0,.int .i64 0]) #[.int .i64 0,.int .i64 0,.int .i64 0,.int .i64 0] rfl rfl rfl sz35 rfl rfl hB5 (Nat.le_of_ble_eq_true rfl) rfl (fun w hnew hg hsz=>?_)
 have hm0:=ModT.put0 hB5 hg
 have hb:=below_gr hb hb.size hg lt5
 have hB4:=hB4.mod hm0 rfl
 have hB5:=hnew
 clear hm0
 refine L.va (x_asI rfl) ?_
 refine L.nil ?_
 show W _ _ _ _ _ _
 refine W.ret ?_
 repeat (first | refine T.ret ?_ | refine B.ret ?_ | refine N.ret ?_)
 refine ends.cell2Tmp (cs:=#[.slice none 0 0,.slice none 0 0,.slice none 0 0,.slice none 0 0,.bool false,.int .i64 0]) (ds:=#[.int .i64 0,.int .i64 0,.int .i64 0,.int .i64 0]) (.inr rfl) rfl rfl rfl Try.underlying31 rfl sz31 Try.underlying35 rfl sz35 hB4 hB5 ?_
 exact ⟨none,none,none,none,0,0,0,0,rfl,runAt_nil w,hb⟩
theorem runR_long {m bc sn scp:Nat} {bo:Nat->List OpD} {sc:Nat->Int} {ba sa:Option Addr} {aa:Nat->Option Addr} {cc:Nat->Nat} (w0:World) (_hBo:BodsAt w0 ba m bo aa cc) (_hSc:ScAt w0 sa sn scp sc) (hm:¬ 16 < m) (hlong:262144 < sn):C Try.prog 15 #[.slice ba m bc,.slice sa sn scp] w0 fun v w=>∃ ea na za wa ec nc zc wc,v = .tuple #[.agg #[.slice ea (⟨1,0,[],[],[],[],false,0⟩:PD).evs.length ec,.slice na (⟨1,0,[],[],[],[],false,0⟩:PD).nts.length nc,.slice za (⟨1,0,[],[],[],[],false,0⟩:PD).mm zc,.slice wa (⟨1,0,[],[],[],[],false,0⟩:PD).mm wc,.bool (⟨1,0,[],[],[],[],false,0⟩:PD).st,.int .i64 (⟨1,0,[],[],[],[],false,0⟩:PD).us],.agg #[.int .i64 0,.int .i64 0,.int .i64 0,.int .i64 0],.int .i64 (⟨1,0,[],[],[],[],false,0⟩:PD).e]/\RunD w ea na za wa (⟨1,0,[],[],[],[],false,0⟩:PD)/\Below w0.heap.size w0 w:=by
 refine C.enter (n:=197) Try.func15 rfl rfl ?_
 have hb:Below w0.heap.size w0 w0:=Below.refl _ _
 refine W.seq ?_
 refine W.region rfl ?_
 refine L.alloc (cs:=#[.slice none 0 0,.slice none 0 0,.slice none 0 0,.slice none 0 0,.bool false,.int .i64 0]) zr31 rfl (fun w b4 F4=>?_)
 have lt4:w0.heap.size <= b4:=by have h9:=F4.here; have h8:=hb.size; omega
 have hb:=cl_step hb F4.below
 have hB4:=F4.blk
 refine L.alloc (cs:=#[.int .i64 0,.int .i64 0,.int .i64 0,.int .i64 0]) zr35 rfl (fun w b5 F5=>?_)
 have lt5:w0.heap.size <= b5:=by have h9:=F5.here; have h8:=hb.size; omega
 have hb:=cl_step hb F5.below
 have hB4:=hB4.keep F5.below
 have hB5:=F5.blk
 refine L.va (x_asI rfl) ?_
 refine L.nil ?_
 show W _ _ _ _ _ _
 refine W.seq ?_
 refine W.seq ?_
 refine W.region rfl ?_
 refine L.va (x_mvS rfl) ?_
 refine L.va (x_len rfl Try.underlying25 rfl) ?_
 refine L.va (d_bool (r:=false) (decide_eq_false (by omega)) (x_gtr (m:=(m:Int)) (k:=16) rfl rfl)) ?_
 refine L.nil ?_
 show W _ _ _ _ _ _
 refine W.condF rfl ?_
 refine W.skip ?_
 show W _ _ _ _ _ _
 refine W.seq ?_
 refine W.seq ?_
 refine W.region rfl ?_
 refine L.va (x_mvS rfl) ?_
 refine L.va (x_len rfl Try.underlying26 rfl) ?_
 refine L.va (d_bool (r:=true) (decide_eq_true (by omega)) (x_gtr (m:=(sn:Int)) (k:=262144) rfl rfl)) ?_
 refine L.nil ?_
 show W _ _ _ _ _ _
 refine W.condT rfl ?_
 refine W.seq ?_
 refine W.region rfl ?_
 refine L.va (x_build (parts:=[]) rfl buRN_0) ?_
 refine L.va (x_build (parts:=[]) rfl buRN_1) ?_
 refine L.put (b:=b4) (o:=0) (vs:=[.slice none 0 0,.slice none 0 0,.slice none 0 0,.slice none 0 0,.bool false,.int .i64 0]) #[.slice none 0 0,.slice none 0 0,.slice none 0 0,.slice none 0 0,.bool false,.int .i64 0] rfl rfl rfl sz31 rfl rfl hB4 (Nat.le_of_ble_eq_true rfl) rfl (fun w hnew hg hsz=>?_)
 have hm0:=ModT.put0 hB4 hg
 have hb:=below_gr hb hb.size hg lt4
 have hB5:=hB5.mod hm0 rfl
 have hB4:=hnew
 clear hm0
 refine L.put (b:=b5) (o:=0) (vs:=[.int .i64 0,.int .i64 0,.int .i64 0,.int .i64 0]) #[.int .i64 0,.int .i64 0,.int .i64 0,.int .i64 0] rfl rfl rfl sz35 rfl rfl hB5 (Nat.le_of_ble_eq_true rfl) rfl (fun w hnew hg hsz=>?_)
 have hm0:=ModT.put0 hB5 hg
 have hb:=below_gr hb hb.size hg lt5
 have hB4:=hB4.mod hm0 rfl
 have hB5:=hnew
 clear hm0
 refine L.va (x_asI rfl) ?_
 refine L.nil ?_
 show W _ _ _ _ _ _
 refine W.ret ?_
 repeat (first | refine T.ret ?_ | refine B.ret ?_ | refine N.ret ?_)
 refine ends.cell2Tmp (cs:=#[.slice none 0 0,.slice none 0 0,.slice none 0 0,.slice none 0 0,.bool false,.int .i64 0]) (ds:=#[.int .i64 0,.int .i64 0,.int .i64 0,.int .i64 0]) (.inr rfl) rfl rfl rfl Try.underlying31 rfl sz31 Try.underlying35 rfl sz35 hB4 hB5 ?_
 exact ⟨none,none,none,none,0,0,0,0,rfl,runAt_nil w,hb⟩
theorem runR_e {m bc sn scp:Nat} {bo:Nat->List OpD} {sc:Nat->Int} {ba sa:Option Addr} {aa:Nat->Option Addr} {cc:Nat->Nat} (w0:World) (hBo:BodsAt w0 ba m bo aa cc) (hSc:ScAt w0 sa sn scp sc) (d:PD) (cz:Nat->Int) (hd:pd m bo sn sc = d) (hc:∀ k,(if 16 < m\/262144 < sn then 0 else (PB m bo sc sn).s k) = cz k):C Try.prog 15 #[.slice ba m bc,.slice sa sn scp] w0 fun v w=>∃ ea na za wa ec nc zc wc,v = .tuple #[.agg #[.slice ea (d).evs.length ec,.slice na (d).nts.length nc,.slice za (d).mm zc,.slice wa (d).mm wc,.bool (d).st,.int .i64 (d).us],.agg #[.int .i64 (cz 0),.int .i64 (cz 1),.int .i64 (cz 2),.int .i64 (cz 3)],.int .i64 (d).e]/\RunD w ea na za wa (d)/\Below w0.heap.size w0 w:=by
 by_cases h1:16 < m
 ·have hp:pd m bo sn sc = ⟨90,0,[],[],[],[],false,0⟩:=if_pos h1
  have hz:∀ k,cz k = 0:=fun k=>by rw [<- hc k,if_pos (.inl h1)]
  rw [hz,hz,hz,hz,<- hd,hp]
  exact runR_big w0 hBo hSc h1
 by_cases h2:262144 < sn
 ·have hp:pd m bo sn sc = ⟨1,0,[],[],[],[],false,0⟩:=(if_neg h1).trans (if_pos h2)
  have hz:∀ k,cz k = 0:=fun k=>by rw [<- hc k,if_pos (.inr h2)]
  rw [hz,hz,hz,hz,<- hd,hp]
  exact runR_long w0 hBo hSc h1 h2
 have hno:¬ (16 < m\/262144 < sn):=fun z=>z.elim h1 h2
 have hz:∀ k,cz k = (PB m bo sc sn).s k:=fun k=>by rw [<- hc k,if_neg hno]
 have he:(pd m bo sn sc).e = 0:=by unfold pd; rw [if_neg h1,if_neg h2]
 refine Calls.mono (runR_ok w0 hBo hSc (by omega) (by omega)) fun e w hx=>?_
 cases e with
 | panicked ch=>exact hx.elim
 | outgrown=>exact hx.elim
 | returned v =>
  obtain ⟨ea,na,za,wa,ec,nc,zc,wc,rfl,hR,_,hb⟩:=hx
  subst hd
  exact ⟨ea,na,za,wa,ec,nc,zc,wc,by rw [hz,hz,hz,hz,he],hR,hb⟩
end
theorem playd_e {lb:Nat} {pl:Nat->Plug} {m bc sn scp:Nat} {bo:Nat->List OpD} {sc:Nat->Int} {ba sa:Option Addr} {aa:Nat->Option Addr} {cc:Nat->Nat} (w0:World) (hBo:BodsAt w0 ba m bo aa cc) (hSc:ScAt w0 sa sn scp sc) (hm:m <= 1048576) (hsn:sn <= 1048576) (d:PD) (cz:Nat->Int) (hd:pd m bo sn sc = d) (hc:∀ k,(if 16 < m\/262144 < sn then 0 else (PB m bo sc sn).s k) = cz k) :
  @C Try.prog (loneCtx lb pl) 14 #[.slice ba m bc,.slice sa sn scp] w0 fun v w=>∃ ea na za wa ec nc zc wc sb ov,v = .tuple #[.agg #[.slice ea (d).evs.length ec,.slice na (d).nts.length nc,.slice za (d).mm zc,.slice wa (d).mm wc,.bool (d).st,.int .i64 (d).us],.pointer (some ⟨sb,0,none⟩),.int .i64 d.e]/\RunD w ea na za wa d/\Below w0.heap.size w0 w/\Blk w sb #[.int .i64 (cz 0),.int .i64 (cz 1),.int .i64 (cz 2),.int .i64 (cz 3),.bool false,.bool ov] 39:=by
 refine @Calls.mono _ (loneCtx lb pl) _ _ _ _ _ (playd_c w0 hBo hSc hm hsn) fun e w hx=>?_
 cases e with
 | panicked ch=>exact hx.elim
 | outgrown=>exact hx.elim
 | returned v =>
  obtain ⟨ea,na,za,wa,ec,nc,zc,wc,sb,rfl,hR,_,_,_,hb,_,_,ov,hS⟩:=hx
  rw [hc,hc,hc,hc] at hS
  subst hd
  exact ⟨ea,na,za,wa,ec,nc,zc,wc,sb,ov,rfl,hR,hb,hS⟩
set_option maxHeartbeats 2000000 in
theorem runs_no {lb:Nat} {pl:Nat->Plug} {m bc sn scp:Nat} {bo:Nat->List OpD} {sc:Nat->Int} {ba sa:Option Addr} {aa:Nat->Option Addr} {cc:Nat->Nat} (w0:World) (hBo:BodsAt w0 ba m bo aa cc) (hSc:ScAt w0 sa sn scp sc) (hm:m <= 1048576) (hsn:sn <= 1048576) {E:Int} (hE:E ≠ 0) (hd:pd m bo sn sc = (⟨E,0,[],[],[],[],false,0⟩:PD)) (cz:Nat->Int) (hc:∀ k,(if 16 < m\/262144 < sn then 0 else (PB m bo sc sn).s k) = cz k):@C Try.prog (loneCtx lb pl) 4 #[.slice ba m bc,.slice sa sn scp] w0 fun v w=>v = .bool true/\Below w0.heap.size w0 w:=by
 letI:Ctx Try.prog:=loneCtx lb pl
 refine C.enter (n:=55) Try.func4 rfl rfl ?_
 have hb:Below w0.heap.size w0 w0:=Below.refl _ _
 have hlen:(0:Nat) <= 1000000000000/\(0:Nat) <= 1000000000000/\(0:Nat) <= 1000000000000:=⟨Nat.zero_le _,Nat.zero_le _,Nat.zero_le _⟩
 refine W.seq ?_
 refine W.region rfl ?_
 refine L.va (x_asB rfl) ?_
 refine L.nil ?_
 show W _ _ _ _ _ _
 refine W.seq ?_
 refine W.region rfl ?_
 refine L.va (x_mvS rfl) ?_
 refine L.va (x_mvS rfl) ?_
 refine L.call (x_call2 rfl rfl Try.func14 rfl nm14 rfl) (playd_e _ (hBo.keep hb) (hSc.keep hb) hm hsn (⟨E,0,[],[],[],[],false,0⟩:PD) cz hd hc) ?_
 rintro _ w1 ⟨ea1,na1,za1,wa1,ec1,nc1,zc1,wc1,sb1,ov1,rfl,hR1,hbw,hS1⟩
 have hb:=cl_step hb hbw
 clear hbw
 rename World=>w
 refine L.va (x_mvT rfl) ?_
 refine L.va (x_extract rfl rfl) ?_
 refine L.va (x_extract rfl rfl) ?_
 refine L.va (x_extract rfl rfl) ?_
 refine L.alloc (cs:=#[.slice none 0 0,.slice none 0 0,.slice none 0 0,.slice none 0 0,.bool false,.int .i64 0]) zr31 rfl (fun w b5 F5=>?_)
 have lt5:w0.heap.size <= b5:=by have h9:=F5.here; have h8:=hb.size; omega
 have ho51:=RunD.off hR1 (b:=b5) (by have:=F5.here; omega)
 have hb:=cl_step hb F5.below
 have hR1:=hR1.keep F5.below
 have hS1:=hS1.keep F5.below
 have hB5:=F5.blk
 refine L.put (b:=b5) (o:=0) (vs:=[.slice ea1 (((⟨E,0,[],[],[],[],false,0⟩:PD)).evs.length) ec1,.slice na1 (((⟨E,0,[],[],[],[],false,0⟩:PD)).nts.length) nc1,.slice za1 (((⟨E,0,[],[],[],[],false,0⟩:PD)).mm) zc1,.slice wa1 (((⟨E,0,[],[],[],[],false,0⟩:PD)).mm) wc1,.bool (((⟨E,0,[],[],[],[],false,0⟩:PD)).st),.int .i64 (((⟨E,0,[],[],[],[],false,0⟩:PD)).us)]) #[.slice ea1 (((⟨E,0,[],[],[],[],false,0⟩:PD)).evs.length) ec1,.slice na1 (((⟨E,0,[],[],[],[],false,0⟩:PD)).nts.length) nc1,.slice za1 (((⟨E,0,[],[],[],[],false,0⟩:PD)).mm) zc1,.slice wa1 (((⟨E,0,[],[],[],[],false,0⟩:PD)).mm) wc1,.bool (((⟨E,0,[],[],[],[],false,0⟩:PD)).st),.int .i64 (((⟨E,0,[],[],[],[],false,0⟩:PD)).us)] rfl rfl rfl sz31 rfl rfl hB5 (Nat.le_of_ble_eq_true rfl) rfl (fun w hnew hg hsz=>?_)
 have hm0:=ModT.put0 hB5 hg
 have hb:=below_gr hb hb.size hg lt5
 have hR1:=hR1.otherB hg ho51
 have hS1:=hS1.mod hm0 rfl
 have hB5:=hnew
 clear hm0
 refine L.va (x_asP rfl) ?_
 refine L.va (x_asI rfl) ?_
 refine L.nil ?_
 show W _ _ _ _ _ _
 refine W.seq ?_
 refine W.region rfl ?_
 refine L.va (x_mvS rfl) ?_
 refine L.va (x_mvS rfl) ?_
 refine L.call (x_call2 rfl rfl Try.func15 rfl nm15 rfl) (@runR_e (loneCtx lb pl) _ _ _ _ _ _ _ _ _ _ _ (hBo.keep hb) (hSc.keep hb) (⟨E,0,[],[],[],[],false,0⟩:PD) cz hd hc) ?_
 rintro _ w1 ⟨ea2,na2,za2,wa2,ec2,nc2,zc2,wc2,rfl,hR2,hbw⟩
 have hb:=cl_step hb hbw
 have hR1:=hR1.keep hbw
 have hS1:=hS1.keep hbw
 have hB5:=hB5.keep hbw
 clear hbw
 rename World=>w
 refine L.va (x_mvT rfl) ?_
 refine L.va (x_extract rfl rfl) ?_
 refine L.va (x_extract rfl rfl) ?_
 refine L.va (x_extract rfl rfl) ?_
 refine L.alloc (cs:=#[.slice none 0 0,.slice none 0 0,.slice none 0 0,.slice none 0 0,.bool false,.int .i64 0]) zr31 rfl (fun w b8 F8=>?_)
 have lt8:w0.heap.size <= b8:=by have h9:=F8.here; have h8:=hb.size; omega
 have ne8hB5:=F8.ne hB5
 have ho81:=RunD.off hR1 (b:=b8) (by have:=F8.here; omega)
 have ho82:=RunD.off hR2 (b:=b8) (by have:=F8.here; omega)
 have hb:=cl_step hb F8.below
 have hR1:=hR1.keep F8.below
 have hS1:=hS1.keep F8.below
 have hB5:=hB5.keep F8.below
 have hR2:=hR2.keep F8.below
 have hB8:=F8.blk
 refine L.alloc (cs:=#[.int .i64 0,.int .i64 0,.int .i64 0,.int .i64 0]) zr35 rfl (fun w b9 F9=>?_)
 have lt9:w0.heap.size <= b9:=by have h9:=F9.here; have h8:=hb.size; omega
 have ho91:=RunD.off hR1 (b:=b9) (by have:=F9.here; omega)
 have ho92:=RunD.off hR2 (b:=b9) (by have:=F9.here; omega)
 have hb:=cl_step hb F9.below
 have hR1:=hR1.keep F9.below
 have hS1:=hS1.keep F9.below
 have hB5:=hB5.keep F9.below
 have hR2:=hR2.keep F9.below
 have hB8:=hB8.keep F9.below
 have hB9:=F9.blk
 refine L.put (b:=b8) (o:=0) (vs:=[.slice ea2 (((⟨E,0,[],[],[],[],false,0⟩:PD)).evs.length) ec2,.slice na2 (((⟨E,0,[],[],[],[],false,0⟩:PD)).nts.length) nc2,.slice za2 (((⟨E,0,[],[],[],[],false,0⟩:PD)).mm) zc2,.slice wa2 (((⟨E,0,[],[],[],[],false,0⟩:PD)).mm) wc2,.bool (((⟨E,0,[],[],[],[],false,0⟩:PD)).st),.int .i64 (((⟨E,0,[],[],[],[],false,0⟩:PD)).us)]) #[.slice ea2 (((⟨E,0,[],[],[],[],false,0⟩:PD)).evs.length) ec2,.slice na2 (((⟨E,0,[],[],[],[],false,0⟩:PD)).nts.length) nc2,.slice za2 (((⟨E,0,[],[],[],[],false,0⟩:PD)).mm) zc2,.slice wa2 (((⟨E,0,[],[],[],[],false,0⟩:PD)).mm) wc2,.bool (((⟨E,0,[],[],[],[],false,0⟩:PD)).st),.int .i64 (((⟨E,0,[],[],[],[],false,0⟩:PD)).us)] rfl rfl rfl sz31 rfl rfl hB8 (Nat.le_of_ble_eq_true rfl) rfl (fun w hnew hg hsz=>?_)
 have hm0:=ModT.put0 hB8 hg
 have hb:=below_gr hb hb.size hg lt8
 have hR1:=hR1.otherB hg ho81
 have hS1:=hS1.mod hm0 rfl
 have hB5:=hB5.other hg ne8hB5
 have hR2:=hR2.otherB hg ho82
 have hB9:=hB9.mod hm0 rfl
 have hB8:=hnew
 clear hm0
 refine L.put (b:=b9) (o:=0) (vs:=[.int .i64 (cz 0),.int .i64 (cz 1),.int .i64 (cz 2),.int .i64 (cz 3)]) #[.int .i64 (cz 0),.int .i64 (cz 1),.int .i64 (cz 2),.int .i64 (cz 3)] rfl rfl rfl sz35 rfl rfl hB9 (Nat.le_of_ble_eq_true rfl) rfl (fun w hnew hg hsz=>?_)
 have hm0:=ModT.put0 hB9 hg
 have hb:=below_gr hb hb.size hg lt9
 have hR1:=hR1.otherB hg ho91
 have hS1:=hS1.mod hm0 rfl
 have hB5:=hB5.mod hm0 rfl
 have hR2:=hR2.otherB hg ho92
 have hB8:=hB8.mod hm0 rfl
 have hB9:=hnew
 clear hm0
 refine L.va (x_asI rfl) ?_
 refine L.nil ?_
 show W _ _ _ _ _ _
 refine W.seq ?_
 refine W.seq ?_
 refine W.region rfl ?_
 refine L.va (x_mvI rfl) ?_
 refine L.call (x_call1 rfl Try.func12 rfl nm12 rfl) (errno_c (((⟨E,0,[],[],[],[],false,0⟩:PD)).e) _) ?_
 rintro _ w1 ⟨rfl,hw1⟩
 rw [hw1]
 clear hw1 w1
 refine L.va (x_mvI rfl) ?_
 refine L.va (d_bool (r:=false) (decide_eq_false (fun h=>h rfl)) (x_neq (m:=((⟨E,0,[],[],[],[],false,0⟩:PD)).e) (k:=((⟨E,0,[],[],[],[],false,0⟩:PD)).e) rfl rfl)) ?_
 refine L.va (x_mvB rfl) ?_
 refine L.on rfl ?_
 refine L.va (x_mvP rfl) ?_
 refine L.on rfl ?_
 refine L.va (x_nilCheck rfl) ?_
 refine L.on rfl ?_
 refine L.va (x_field rfl Try.underlying39 rfl sz4 (by decide)) ?_
 refine L.on rfl ?_
 refine L.va (x_load rfl Try.underlying4 rfl (hS1.cellAt 4 (v:=.bool false) rfl)) ?_
 refine L.va (x_pickF rfl) ?_
 refine L.va (x_mvB rfl) ?_
 refine L.on rfl ?_
 refine L.call (x_call0 Try.func13 rfl nm13 rfl) (live_c _) ?_
 rintro _ w1 ⟨rfl,hbw⟩
 have hb:=cl_step hb hbw
 have hR1:=hR1.keep hbw
 have hS1:=hS1.keep hbw
 have hB5:=hB5.keep hbw
 have hR2:=hR2.keep hbw
 have hB8:=hB8.keep hbw
 have hB9:=hB9.keep hbw
 clear hbw
 rename World=>w
 refine L.on rfl ?_
 refine L.va (x_not rfl) ?_
 refine L.va (x_pickF rfl) ?_
 refine L.nil ?_
 show W _ _ _ _ _ _
 refine W.condF rfl ?_
 refine W.skip ?_
 show W _ _ _ _ _ _
 refine W.seq ?_
 refine W.seq ?_
 refine W.region rfl ?_
 refine L.va (x_mvI rfl) ?_
 refine L.va (d_bool (r:=true) (decide_eq_true (hE)) (x_neq (m:=(⟨E,0,[],[],[],[],false,0⟩:PD).e) (k:=0) rfl rfl)) ?_
 refine L.nil ?_
 show W _ _ _ _ _ _
 refine W.condT rfl ?_
 refine W.seq ?_
 refine W.region rfl ?_
 refine L.va (x_loadAgg (cs:=[.slice ea1 (((⟨E,0,[],[],[],[],false,0⟩:PD)).evs.length) ec1,.slice na1 (((⟨E,0,[],[],[],[],false,0⟩:PD)).nts.length) nc1,.slice za1 (((⟨E,0,[],[],[],[],false,0⟩:PD)).mm) zc1,.slice wa1 (((⟨E,0,[],[],[],[],false,0⟩:PD)).mm) wc1,.bool (((⟨E,0,[],[],[],[],false,0⟩:PD)).st),.int .i64 (((⟨E,0,[],[],[],[],false,0⟩:PD)).us)]) rfl Try.underlying31 rfl sz31 rfl (hB5.aggAt rfl)) ?_
 refine L.va (x_build (parts:=[]) rfl buRN_0) ?_
 refine L.call (x_call2 rfl rfl Try.func16 rfl nm16 rfl) (same_c _ hlen hR1 (runAt_nil _)) ?_
 rintro _ w1 ⟨rfl,hbw⟩
 have hb:=cl_step hb hbw
 have hR1:=hR1.keep hbw
 have hS1:=hS1.keep hbw
 have hB5:=hB5.keep hbw
 have hR2:=hR2.keep hbw
 have hB8:=hB8.keep hbw
 have hB9:=hB9.keep hbw
 clear hbw
 rename World=>w
 refine L.va (x_asB rfl) ?_
 refine L.nil ?_
 show W _ _ _ _ _ _
 refine W.ret ?_
 repeat (first | refine T.ret ?_ | refine B.ret ?_ | refine N.ret ?_)
 refine ends.one (.inr rfl) rfl ?_
 exact ⟨rfl,hb⟩
set_option maxHeartbeats 2000000 in
theorem runs_ok {lb:Nat} {pl:Nat->Plug} {m bc sn scp:Nat} {bo:Nat->List OpD} {sc:Nat->Int} {ba sa:Option Addr} {aa:Nat->Option Addr} {cc:Nat->Nat} (w0:World) (hBo:BodsAt w0 ba m bo aa cc) (hSc:ScAt w0 sa sn scp sc) (hm:m <= 1048576) (hsn:sn <= 1048576) {d:PD} (hE:d.e = 0) (hd:pd m bo sn sc = d) (hlen:d.evs.length <= 1000000000000/\d.nts.length <= 1000000000000/\d.mm <= 1000000000000) (cz:Nat->Int) (hc:∀ k,(if 16 < m\/262144 < sn then 0 else (PB m bo sc sn).s k) = cz k):@C Try.prog (loneCtx lb pl) 4 #[.slice ba m bc,.slice sa sn scp] w0 fun v w=>v = .bool true/\Below w0.heap.size w0 w:=by
 letI:Ctx Try.prog:=loneCtx lb pl
 refine C.enter (n:=55) Try.func4 rfl rfl ?_
 have hb:Below w0.heap.size w0 w0:=Below.refl _ _
 refine W.seq ?_
 refine W.region rfl ?_
 refine L.va (x_asB rfl) ?_
 refine L.nil ?_
 show W _ _ _ _ _ _
 refine W.seq ?_
 refine W.region rfl ?_
 refine L.va (x_mvS rfl) ?_
 refine L.va (x_mvS rfl) ?_
 refine L.call (x_call2 rfl rfl Try.func14 rfl nm14 rfl) (playd_e _ (hBo.keep hb) (hSc.keep hb) hm hsn d cz hd hc) ?_
 rintro _ w1 ⟨ea1,na1,za1,wa1,ec1,nc1,zc1,wc1,sb1,ov1,rfl,hR1,hbw,hS1⟩
 have hb:=cl_step hb hbw
 clear hbw
 rename World=>w
 refine L.va (x_mvT rfl) ?_
 refine L.va (x_extract rfl rfl) ?_
 refine L.va (x_extract rfl rfl) ?_
 refine L.va (x_extract rfl rfl) ?_
 refine L.alloc (cs:=#[.slice none 0 0,.slice none 0 0,.slice none 0 0,.slice none 0 0,.bool false,.int .i64 0]) zr31 rfl (fun w b5 F5=>?_)
 have lt5:w0.heap.size <= b5:=by have h9:=F5.here; have h8:=hb.size; omega
 have ho51:=RunD.off hR1 (b:=b5) (by have:=F5.here; omega)
 have hb:=cl_step hb F5.below
 have hR1:=hR1.keep F5.below
 have hS1:=hS1.keep F5.below
 have hB5:=F5.blk
 refine L.put (b:=b5) (o:=0) (vs:=[.slice ea1 ((d).evs.length) ec1,.slice na1 ((d).nts.length) nc1,.slice za1 ((d).mm) zc1,.slice wa1 ((d).mm) wc1,.bool ((d).st),.int .i64 ((d).us)]) #[.slice ea1 ((d).evs.length) ec1,.slice na1 ((d).nts.length) nc1,.slice za1 ((d).mm) zc1,.slice wa1 ((d).mm) wc1,.bool ((d).st),.int .i64 ((d).us)] rfl rfl rfl sz31 rfl rfl hB5 (Nat.le_of_ble_eq_true rfl) rfl (fun w hnew hg hsz=>?_)
 have hm0:=ModT.put0 hB5 hg
 have hb:=below_gr hb hb.size hg lt5
 have hR1:=hR1.otherB hg ho51
 have hS1:=hS1.mod hm0 rfl
 have hB5:=hnew
 clear hm0
 refine L.va (x_asP rfl) ?_
 refine L.va (x_asI rfl) ?_
 refine L.nil ?_
 show W _ _ _ _ _ _
 refine W.seq ?_
 refine W.region rfl ?_
 refine L.va (x_mvS rfl) ?_
 refine L.va (x_mvS rfl) ?_
 refine L.call (x_call2 rfl rfl Try.func15 rfl nm15 rfl) (@runR_e (loneCtx lb pl) _ _ _ _ _ _ _ _ _ _ _ (hBo.keep hb) (hSc.keep hb) d cz hd hc) ?_
 rintro _ w1 ⟨ea2,na2,za2,wa2,ec2,nc2,zc2,wc2,rfl,hR2,hbw⟩
 have hb:=cl_step hb hbw
 have hR1:=hR1.keep hbw
 have hS1:=hS1.keep hbw
 have hB5:=hB5.keep hbw
 clear hbw
 rename World=>w
 refine L.va (x_mvT rfl) ?_
 refine L.va (x_extract rfl rfl) ?_
 refine L.va (x_extract rfl rfl) ?_
 refine L.va (x_extract rfl rfl) ?_
 refine L.alloc (cs:=#[.slice none 0 0,.slice none 0 0,.slice none 0 0,.slice none 0 0,.bool false,.int .i64 0]) zr31 rfl (fun w b8 F8=>?_)
 have lt8:w0.heap.size <= b8:=by have h9:=F8.here; have h8:=hb.size; omega
 have ne8hB5:=F8.ne hB5
 have ho81:=RunD.off hR1 (b:=b8) (by have:=F8.here; omega)
 have ho82:=RunD.off hR2 (b:=b8) (by have:=F8.here; omega)
 have hb:=cl_step hb F8.below
 have hR1:=hR1.keep F8.below
 have hS1:=hS1.keep F8.below
 have hB5:=hB5.keep F8.below
 have hR2:=hR2.keep F8.below
 have hB8:=F8.blk
 refine L.alloc (cs:=#[.int .i64 0,.int .i64 0,.int .i64 0,.int .i64 0]) zr35 rfl (fun w b9 F9=>?_)
 have lt9:w0.heap.size <= b9:=by have h9:=F9.here; have h8:=hb.size; omega
 have ho91:=RunD.off hR1 (b:=b9) (by have:=F9.here; omega)
 have ho92:=RunD.off hR2 (b:=b9) (by have:=F9.here; omega)
 have hb:=cl_step hb F9.below
 have hR1:=hR1.keep F9.below
 have hS1:=hS1.keep F9.below
 have hB5:=hB5.keep F9.below
 have hR2:=hR2.keep F9.below
 have hB8:=hB8.keep F9.below
 have hB9:=F9.blk
 refine L.put (b:=b8) (o:=0) (vs:=[.slice ea2 ((d).evs.length) ec2,.slice na2 ((d).nts.length) nc2,.slice za2 ((d).mm) zc2,.slice wa2 ((d).mm) wc2,.bool ((d).st),.int .i64 ((d).us)]) #[.slice ea2 ((d).evs.length) ec2,.slice na2 ((d).nts.length) nc2,.slice za2 ((d).mm) zc2,.slice wa2 ((d).mm) wc2,.bool ((d).st),.int .i64 ((d).us)] rfl rfl rfl sz31 rfl rfl hB8 (Nat.le_of_ble_eq_true rfl) rfl (fun w hnew hg hsz=>?_)
 have hm0:=ModT.put0 hB8 hg
 have hb:=below_gr hb hb.size hg lt8
 have hR1:=hR1.otherB hg ho81
 have hS1:=hS1.mod hm0 rfl
 have hB5:=hB5.other hg ne8hB5
 have hR2:=hR2.otherB hg ho82
 have hB9:=hB9.mod hm0 rfl
 have hB8:=hnew
 clear hm0
 refine L.put (b:=b9) (o:=0) (vs:=[.int .i64 (cz 0),.int .i64 (cz 1),.int .i64 (cz 2),.int .i64 (cz 3)]) #[.int .i64 (cz 0),.int .i64 (cz 1),.int .i64 (cz 2),.int .i64 (cz 3)] rfl rfl rfl sz35 rfl rfl hB9 (Nat.le_of_ble_eq_true rfl) rfl (fun w hnew hg hsz=>?_)
 have hm0:=ModT.put0 hB9 hg
 have hb:=below_gr hb hb.size hg lt9
 have hR1:=hR1.otherB hg ho91
 have hS1:=hS1.mod hm0 rfl
 have hB5:=hB5.mod hm0 rfl
 have hR2:=hR2.otherB hg ho92
 have hB8:=hB8.mod hm0 rfl
 have hB9:=hnew
 clear hm0
 refine L.va (x_asI rfl) ?_
 refine L.nil ?_
 show W _ _ _ _ _ _
 refine W.seq ?_
 refine W.seq ?_
 refine W.region rfl ?_
 refine L.va (x_mvI rfl) ?_
 refine L.call (x_call1 rfl Try.func12 rfl nm12 rfl) (errno_c ((d).e) _) ?_
 rintro _ w1 ⟨rfl,hw1⟩
 rw [hw1]
 clear hw1 w1
 refine L.va (x_mvI rfl) ?_
 refine L.va (d_bool (r:=false) (decide_eq_false (fun h=>h rfl)) (x_neq (m:=(d).e) (k:=(d).e) rfl rfl)) ?_
 refine L.va (x_mvB rfl) ?_
 refine L.on rfl ?_
 refine L.va (x_mvP rfl) ?_
 refine L.on rfl ?_
 refine L.va (x_nilCheck rfl) ?_
 refine L.on rfl ?_
 refine L.va (x_field rfl Try.underlying39 rfl sz4 (by decide)) ?_
 refine L.on rfl ?_
 refine L.va (x_load rfl Try.underlying4 rfl (hS1.cellAt 4 (v:=.bool false) rfl)) ?_
 refine L.va (x_pickF rfl) ?_
 refine L.va (x_mvB rfl) ?_
 refine L.on rfl ?_
 refine L.call (x_call0 Try.func13 rfl nm13 rfl) (live_c _) ?_
 rintro _ w1 ⟨rfl,hbw⟩
 have hb:=cl_step hb hbw
 have hR1:=hR1.keep hbw
 have hS1:=hS1.keep hbw
 have hB5:=hB5.keep hbw
 have hR2:=hR2.keep hbw
 have hB8:=hB8.keep hbw
 have hB9:=hB9.keep hbw
 clear hbw
 rename World=>w
 refine L.on rfl ?_
 refine L.va (x_not rfl) ?_
 refine L.va (x_pickF rfl) ?_
 refine L.nil ?_
 show W _ _ _ _ _ _
 refine W.condF rfl ?_
 refine W.skip ?_
 show W _ _ _ _ _ _
 refine W.seq ?_
 refine W.seq ?_
 refine W.region rfl ?_
 refine L.va (x_mvI rfl) ?_
 refine L.va (d_bool (r:=false) (decide_eq_false (fun h=>h hE)) (x_neq (m:=(d).e) (k:=0) rfl rfl)) ?_
 refine L.nil ?_
 show W _ _ _ _ _ _
 refine W.condF rfl ?_
 refine W.skip ?_
 show W _ _ _ _ _ _
 refine W.seq ?_
 refine W.fl 9 [2] [0,1,2,3,4,5,6,7,8] (fun w'=>Blk w' b5 #[.slice ea1 ((d).evs.length) ec1,.slice na1 ((d).nts.length) nc1,.slice za1 ((d).mm) zc1,.slice wa1 ((d).mm) wc1,.bool ((d).st),.int .i64 ((d).us)] 31/\Blk w' b8 #[.slice ea2 ((d).evs.length) ec2,.slice na2 ((d).nts.length) nc2,.slice za2 ((d).mm) zc2,.slice wa2 ((d).mm) wc2,.bool ((d).st),.int .i64 ((d).us)] 31/\Blk w' sb1 #[.int .i64 (cz 0),.int .i64 (cz 1),.int .i64 (cz 2),.int .i64 (cz 3),.bool false,.bool ov1] 39/\Blk w' b9 #[.int .i64 (cz 0),.int .i64 (cz 1),.int .i64 (cz 2),.int .i64 (cz 3)] 35) (by kernel_rfl) (by kernel_rfl) (by kernel_rfl) (by kernel_rfl) (by kernel_rfl) (⟨hB5.keep (Below.refl w.heap.size w).drew,hB8.keep (Below.refl w.heap.size w).drew,hS1.keep (Below.refl w.heap.size w).drew,hB9.keep (Below.refl w.heap.size w).drew⟩) ?_
 have hdr:Below w.heap.size w w.drew:=(Below.refl w.heap.size w).drew
 have hb:=cl_step hb hdr
 have hR1:=hR1.keep hdr
 have hS1:=hS1.keep hdr
 have hB5:=hB5.keep hdr
 have hR2:=hR2.keep hdr
 have hB8:=hB8.keep hdr
 have hB9:=hB9.keep hdr
 clear hdr
 generalize w.drew = w at *
 refine F.va rfl rfl (fun w' hw'=>(x_loadAgg (cs:=[.slice ea1 ((d).evs.length) ec1,.slice na1 ((d).nts.length) nc1,.slice za1 ((d).mm) zc1,.slice wa1 ((d).mm) wc1,.bool ((d).st),.int .i64 ((d).us)]) rfl Try.underlying31 rfl sz31 rfl (hw'.1.aggAt rfl))) ?_
 refine F.va rfl rfl (fun w' hw'=>(x_loadAgg (cs:=[.slice ea2 ((d).evs.length) ec2,.slice na2 ((d).nts.length) nc2,.slice za2 ((d).mm) zc2,.slice wa2 ((d).mm) wc2,.bool ((d).st),.int .i64 ((d).us)]) rfl Try.underlying31 rfl sz31 rfl (hw'.2.1.aggAt rfl))) ?_
 refine F.doo rfl rfl ?_
 refine L.call (x_call2 rfl rfl Try.func16 rfl nm16 rfl) (same_c _ hlen hR1 hR2) ?_
 rintro _ w1 ⟨rfl,hbw⟩
 have hb:=cl_step hb hbw
 have hR1:=hR1.keep hbw
 have hS1:=hS1.keep hbw
 have hB5:=hB5.keep hbw
 have hR2:=hR2.keep hbw
 have hB8:=hB8.keep hbw
 have hB9:=hB9.keep hbw
 clear hbw
 rename World=>w
 refine L.nil ⟨rfl,⟨hB5,hB8,hS1,hB9⟩,?_⟩
 refine F.va rfl rfl (fun w' hw'=>(x_mvB rfl)) ?_
 refine F.on rfl rfl rfl (fun w' hw'=>(x_mvP rfl)) ?_
 refine F.on rfl rfl rfl (fun w' hw'=>(x_nilCheck rfl)) ?_
 refine F.on rfl rfl rfl (fun w' hw'=>(x_field rfl Try.underlying39 rfl sz35 (by decide))) ?_
 refine F.on rfl rfl rfl (fun w' hw'=>(x_loadAgg (cs:=[.int .i64 (cz 0),.int .i64 (cz 1),.int .i64 (cz 2),.int .i64 (cz 3)]) rfl Try.underlying35 rfl sz35 rfl (hw'.2.2.1.aggAt rfl))) ?_
 refine F.on rfl rfl rfl (fun w' hw'=>(x_loadAgg (cs:=[.int .i64 (cz 0),.int .i64 (cz 1),.int .i64 (cz 2),.int .i64 (cz 3)]) rfl Try.underlying35 rfl sz35 rfl (hw'.2.2.2.aggAt rfl))) ?_
 refine F.nil ?_
 show L _ _ _ _ _ _ _
 refine L.on rfl ?_
 refine L.va (d_boolK (r:=true) (decide_eq_true (fun _ _=>rfl)) (x_eqArr (F:=cz) (G:=cz) Try.underlying35 Try.underlying2 (i:=(Try.prog.info? 2).get (by kernel_rfl)) (by kernel_rfl) (by kernel_rfl) (by kernel_rfl) rfl rfl)) ?_
 refine L.va (x_pickT rfl) ?_
 refine L.va (x_asB rfl) ?_
 refine L.nil ?_
 show W _ _ _ _ _ _
 refine W.ret ?_
 repeat (first | refine T.ret ?_ | refine B.ret ?_ | refine N.ret ?_)
 refine ends.one (.inr rfl) rfl ?_
 exact ⟨rfl,hb⟩
theorem runs_l {lb:Nat} {pl:Nat->Plug} {m bc sn scp:Nat} {bo:Nat->List OpD} {sc:Nat->Int} {ba sa:Option Addr} {aa:Nat->Option Addr} {cc:Nat->Nat} (w0:World) (hBo:BodsAt w0 ba m bo aa cc) (hSc:ScAt w0 sa sn scp sc) (hm:m <= 1048576) (hsn:sn <= 1048576):@C Try.prog (loneCtx lb pl) 4 #[.slice ba m bc,.slice sa sn scp] w0 fun v w=>v = .bool true/\Below w0.heap.size w0 w:=by
 by_cases h1:16 < m
 ·exact runs_no w0 hBo hSc hm hsn (E:=90) (by decide) (if_pos h1) _ fun _=>rfl
 by_cases h2:262144 < sn
 ·exact runs_no w0 hBo hSc hm hsn (E:=1) (by decide) ((if_neg h1).trans (if_pos h2)) _ fun _=>rfl
 exact runs_ok w0 hBo hSc hm hsn (by unfold pd; rw [if_neg h1,if_neg h2]) rfl (pd_len hBo.len hm hsn sc) _ fun _=>rfl
end Go.Vy.Sc
end
