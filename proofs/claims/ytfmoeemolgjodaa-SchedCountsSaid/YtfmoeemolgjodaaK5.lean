/- What the claim leans on, part 5. The law's body, as a client goes through it. -/
import Derived.Test.YtfmoeemolgjodaaK4
import Derived.Conc.LeavingOf
import Derived.ProofKit
import Derived.Deep.Slices
import Derived.SizedLaws
set_option linter.unusedVariables false
section
namespace Go.Vy.Sc
open Go Go.Conc Go.Yc Go.RowKit Go.Proofs Go.Proofs.Ytfmoeemolgjodaa
open Go.Vc Go.Wg
theorem ShInv.add {Λ:Lay} {c:Cells} {w:World} (h:ShInv Λ c w) (hsep:¬ Λ.RO Λ.sb) (k:Nat) (b:Int):ShInv Λ (addC c k b) (setBlkF w Λ.sb (shC (addC c k b)) 39 (0,0)):=by
 refine ⟨setBlkF_self h.sh _ _ _,fun r hr=>?_,h.ok.add _ _⟩
 have h1:=h.ro r hr
 have h2:(setBlkF w Λ.sb (shC (addC c k b)) 39 (0,0)).heap[r]? = w.heap[r]?:=setBlkF_other fun e=>hsep (e ▸ hr)
 exact ⟨h2.trans h1.1,by rw [setBlkF_size]; exact h1.2.1,by rw [h2]; exact h1.2.2⟩
theorem d_boolK {S:Sem Next} {w:World} {p:Prop} [Decidable p] {r:Bool} (h:decide p = r) (hd:Does Try.prog S w (.val (.bool (decide p))) w):Does Try.prog S w (.val (.bool r)) w:=h ▸ hd
theorem add_assoc_cell (a:Nat):0 + a * 1 = a:=by omega
set_option maxHeartbeats 1000000 in
set_option maxRecDepth 20000 in
theorem body_p {Λ:Lay} {fb:Nat->FuncId} {q:PR (bodiesSys Λ)} {w0:World} {n cb:Nat} {top:List Frame} (hΛ:LayOk Λ) (hn:n < Λ.m) (c:Cells) (w:World) (hs:BSt Λ fb q w0 n cb top 0 0 c w) :
  @Calls Try.prog (procCtx ((bodiesSys Λ).cfg fb q w0 n cb top)) 40 #[.pointer (some ⟨cb,0,none⟩),.pointer (some ⟨Λ.b1 n,0,none⟩),.pointer (some ⟨Λ.b2 n,0,none⟩)] w (fun e u2=>((bodiesSys Λ).cfg fb q w0 n cb top).Done u2 Λ.F e):=by
 letI:Ctx Try.prog:=procCtx ((bodiesSys Λ).cfg fb q w0 n cb top)
 refine Calls.enterP (n:=113) Try.func40 rfl rfl ?_
 refine W.seq ?_
 refine W.region rfl ?_
 refine L.va (x_asI rfl) ?_
 refine L.nil ?_
 show W _ _ _ _ _ _
 refine W.seq ?_
 refine W.region rfl ?_
 refine L.va (x_asI rfl) ?_
 refine L.nil ?_
 show W _ _ _ _ _ _
 refine W.block ?_
 refine W.loop (fun k e w=>∃ (i:Nat),∃ (j:Nat),∃ (c:Cells),k = meas (Λ.bo n) i j/\e 0 = .pointer (some (⟨cb,0,none⟩))/\e 1 = .pointer (some ⟨(Λ.b1 n),0,none⟩)/\e 2 = .pointer (some ⟨(Λ.b2 n),0,none⟩)/\e 4 = .int .i64 (j:Int)/\e 5 = .int .i64 (i:Int)/\BSt Λ fb q w0 n cb top i j c w/\j <= 50/\i <= (Λ.bo n).length) _ ⟨0,0,c,rfl,rfl,rfl,rfl,rfl,rfl,hs,Nat.zero_le _,Nat.zero_le _⟩ ?_
 rintro k e w ⟨i,j,c,hk,s0,s1,s2,s4,s5,hs,hj,hi⟩
 rw [upd_id s0,upd_id s1,upd_id s2,upd_id s4,upd_id s5]
 clear s0 s1 s2 s4 s5
 refine W.seq ?_
 refine W.seq ?_
 refine W.region rfl ?_
 refine L.va (x_mvI rfl) ?_
 refine L.va (x_load rfl Try.underlying64 rfl ((hs.b1 hΛ hn).cellAt 0 (v:=.slice (Λ.ba n) ((Λ.bo n).length) (Λ.bc n)) rfl)) ?_
 refine L.va (x_len rfl Try.underlying64 rfl) ?_
 refine L.va (x_lss rfl rfl) ?_
 refine L.nil ?_
 show W _ _ _ _ _ _
 refine W.condP rfl (fun h10=>?_) (fun h10=>?_)
 ·have hlt:i < (Λ.bo n).length:=by omega
  have hln:=hΛ.len n hn
  obtain ⟨o,ho⟩:∃ o,(Λ.bo n)[i]? = some o:=⟨_,List.getElem?_eq_getElem hlt⟩
  refine W.skip ?_
  show W _ _ _ _ _ _
  refine W.block ?_
  refine W.seq ?_
  refine W.region rfl ?_
  refine L.va (x_load rfl Try.underlying64 rfl ((hs.b1 hΛ hn).cellAt 0 (v:=.slice (Λ.ba n) ((Λ.bo n).length) (Λ.bc n)) rfl)) ?_
  refine L.va (x_mvI rfl) ?_
  refine L.va (x_idx (i:=i) rfl rfl Try.underlying64 sz63 (hΛ.sl n hn) hlt) ?_
  refine L.va (x_loadAgg (cs:=opC o) rfl Try.underlying63 rfl sz63 rfl (fun x v hv=>hs.row hΛ hn ho x v hv)) ?_
  refine L.alloc (cs:=#[.int .i64 0,.int .i64 0,.int .i64 0,.int .i64 0,.bool false,.int .i64 0,.int .i64 0,.int .i64 0,.int .i64 0,.string ByteArray.empty]) zr63 rfl (fun w1 b6 F6=>?_)
  refine L.put (b:=b6) (o:=0) (vs:=[.int .i64 (o.kind),.int .i64 (o.step.kind),.int .i64 (o.step.obj),.int .i64 (o.step.num),.bool (o.free),.int .i64 (o.cell),.int .i64 (o.least),.int .i64 (o.to),.int .i64 (o.by_),.string (o.text)]) #[.int .i64 (o.kind),.int .i64 (o.step.kind),.int .i64 (o.step.obj),.int .i64 (o.step.num),.bool (o.free),.int .i64 (o.cell),.int .i64 (o.least),.int .i64 (o.to),.int .i64 (o.by_),.string (o.text)] rfl rfl rfl sz63 rfl rfl F6.blk (Nat.le_of_ble_eq_true rfl) (setRow_all rfl) (fun w2 hB6 hg hsz=>?_)
  have hbA:Below w.heap.size w w2:=below_gr F6.below F6.below.size hg (by have:=F6.here; omega)
  have hs:=hs.keep hbA
  clear hg hsz hbA F6
  rename World=>w
  refine L.nil ?_
  show W _ _ _ _ _ _
  refine W.seq ?_
  refine W.region rfl ?_
  refine L.va (x_mvI rfl) ?_
  refine L.va (x_inc rfl rfl (by omega)) ?_
  refine L.va (x_asI rfl) ?_
  refine L.nil ?_
  show W _ _ _ _ _ _
  refine W.seq ?_
  have h1:=(hs.b1 hΛ hn)
  have h2:=(hs.b2 hΛ hn)
  have hS:=hs.inv.sh
  refine W.lastL 13 (fun w'=>Below w.heap.size w w') (by kernel_rfl) (by kernel_rfl) (by kernel_rfl) (by kernel_rfl) ((Below.refl w.heap.size w).drew) ?_
  refine D.va (fun w' hw'=>(x_load rfl Try.underlying32 rfl ((h2.keep hw').cellAt 0 (v:=.pointer (some ⟨Λ.sb,0,none⟩)) rfl))) ?_
  refine D.va (fun w' hw'=>(x_load rfl Try.underlying32 rfl ((h2.keep hw').cellAt 0 (v:=.pointer (some ⟨Λ.sb,0,none⟩)) rfl))) ?_
  refine D.va (fun w' hw'=>(x_nilCheck rfl)) ?_
  refine D.va (fun w' hw'=>(x_field rfl Try.underlying39 rfl sz4 (by decide))) ?_
  refine D.va (fun w' hw'=>(x_load rfl Try.underlying4 rfl ((hS.keep hw').cellAt 4 (v:=.bool false) rfl))) ?_
  refine D.va (fun w' hw'=>(x_mvB rfl)) ?_
  refine D.on rfl ?_
  refine D.va (fun w' hw'=>(x_load rfl Try.underlying32 rfl ((h2.keep hw').cellAt 0 (v:=.pointer (some ⟨Λ.sb,0,none⟩)) rfl))) ?_
  refine D.on rfl ?_
  refine D.va (fun w' hw'=>(x_nilCheck rfl)) ?_
  refine D.on rfl ?_
  refine D.va (fun w' hw'=>(x_field rfl Try.underlying39 rfl sz4 (by decide))) ?_
  refine D.on rfl ?_
  refine D.va (fun w' hw'=>(x_load rfl Try.underlying4 rfl ((hS.keep hw').cellAt 5 (v:=.bool false) rfl))) ?_
  refine D.va (fun w' hw'=>(x_pickF rfl)) ?_
  refine D.va (fun w' hw'=>(x_nilCheck rfl)) ?_
  refine D.va (fun w' hw'=>(x_field rfl Try.underlying39 rfl sz4 (by decide))) ?_
  refine D.nil (fun w hbw=>?_)
  have hs:=hs.keep hbw
  have hB6:=hB6.keep hbw
  have h1:=h1.keep hbw
  have h2:=h2.keep hbw
  have hS:=hS.keep hbw
  clear hbw
  refine L.putF (b:=Λ.sb) (o:=4) (f:=(0,0)) (shC c) rfl rfl rfl sz4 rfl rfl hs.inv.sh (by show 4 + 1 <= 6; decide) (.inr (Nat.zero_le _)) rfl ?_
  rw [setBlkF_same hs.inv.sh]
  refine L.nil ?_
  try clear h1
  try clear h2
  try clear hS
  show W _ _ _ _ _ _
  refine W.seq ?_
  refine W.region rfl ?_
  refine L.va (x_field rfl Try.underlying63 rfl sz3 (by decide)) ?_
  refine L.va (x_load rfl Try.underlying3 rfl (hB6.cellAt 0 (v:=.int .i64 (o.kind)) rfl)) ?_
  refine L.nil ?_
  show W _ _ _ _ _ _
  refine W.block ?_
  refine W.seq ?_
  refine W.region rfl ?_
  refine L.va (x_eql rfl rfl) ?_
  refine L.va (x_asB rfl) ?_
  refine L.nil ?_
  show W _ _ _ _ _ _
  refine W.condP rfl (fun hk1=>?_) (fun hk1=>?_)
  ·refine W.region rfl ?_
   refine L.va (x_load rfl Try.underlying32 rfl ((hs.b2 hΛ hn).cellAt 0 (v:=.pointer (some ⟨Λ.sb,0,none⟩)) rfl)) ?_
   refine L.va (x_mvP rfl) ?_
   refine L.va (x_loadAgg (cs:=[.int .i64 (o.kind),.int .i64 (o.step.kind),.int .i64 (o.step.obj),.int .i64 (o.step.num),.bool (o.free),.int .i64 (o.cell),.int .i64 (o.least),.int .i64 (o.to),.int .i64 (o.by_),.string (o.text)]) rfl Try.underlying63 rfl sz63 rfl (hB6.aggAt rfl)) ?_
   refine L.callP' rfl (x_call3 rfl rfl rfl Try.func41 rfl nm41 rfl) (step_p hΛ hn ho hk1 w hs) ?_ ?_ (fun _ h=>h)
   ·rintro v w ⟨rfl,c',hs⟩
    refine L.nil ?_
    refine B.nrm ?_
    refine B.nrm ?_
    refine T.nrm ?_
    have hms:=meas_next (ops:=Λ.bo n) (j:=j) hlt
    exact ⟨_,by omega,⟨i + 1,j,c',rfl,rfl,rfl,rfl,rfl,rfl,hs,hj,(by omega)⟩⟩
   ·rintro ch w ⟨hra,hd⟩
    exact hd
  ·refine W.seq ?_
   refine W.region rfl ?_
   refine L.va (x_eql rfl rfl) ?_
   refine L.va (x_asB rfl) ?_
   refine L.nil ?_
   show W _ _ _ _ _ _
   refine W.condP rfl (fun hk2=>?_) (fun hk2=>?_)
   ·have h1:=(hs.b1 hΛ hn)
    have h2:=(hs.b2 hΛ hn)
    have hS:=hs.inv.sh
    refine W.fl 16 [9,14] [0,1,2,3,4,5,6,7,8,10,11,9,12,13,14,15] (fun w'=>Blk w' b6 #[.int .i64 (o.kind),.int .i64 (o.step.kind),.int .i64 (o.step.obj),.int .i64 (o.step.num),.bool (o.free),.int .i64 (o.cell),.int .i64 (o.least),.int .i64 (o.to),.int .i64 (o.by_),.string (o.text)] 63/\BlkF w' (Λ.b2 n) #[.pointer (some ⟨Λ.sb,0,none⟩)] 32 (0,0)/\BlkF w' Λ.sb #[.int .i64 (c 0),.int .i64 (c 1),.int .i64 (c 2),.int .i64 (c 3),.bool false,.bool false] 39 (0,0)) (by kernel_rfl) (by kernel_rfl) (by kernel_rfl) (by kernel_rfl) (by kernel_rfl) (⟨hB6.keep (Below.refl w.heap.size w).drew,h2.keep (Below.refl w.heap.size w).drew,hS.keep (Below.refl w.heap.size w).drew⟩) ?_
    have hdr:Below w.heap.size w w.drew:=(Below.refl w.heap.size w).drew
    have hs:=hs.keep hdr
    have hB6:=hB6.keep hdr
    have h1:=h1.keep hdr
    have h2:=h2.keep hdr
    have hS:=hS.keep hdr
    clear hdr
    generalize w.drew = w at *
    refine F.va rfl rfl (fun w' hw'=>(x_mvP rfl)) ?_
    refine F.va rfl rfl (fun w' hw'=>(x_field rfl Try.underlying63 rfl sz43 (by decide))) ?_
    refine F.va rfl rfl (fun w' hw'=>(x_field rfl Try.underlying43 rfl sz3 (by decide))) ?_
    refine F.va rfl rfl (fun w' hw'=>(x_load rfl Try.underlying3 rfl (hw'.1.cellAt 1 (v:=.int .i64 (o.step.kind)) rfl))) ?_
    refine F.va rfl rfl (fun w' hw'=>(x_field rfl Try.underlying63 rfl sz9 (by decide))) ?_
    refine F.va rfl rfl (fun w' hw'=>(x_load rfl Try.underlying9 rfl (hw'.1.cellAt 9 (v:=.string (o.text)) rfl))) ?_
    refine F.va rfl rfl (fun w' hw'=>(x_load rfl Try.underlying32 rfl (hw'.2.1.cellAt 0 (v:=.pointer (some ⟨Λ.sb,0,none⟩)) rfl))) ?_
    refine F.va rfl rfl (fun w' hw'=>(x_field rfl Try.underlying63 rfl sz3 (by decide))) ?_
    refine F.va rfl rfl (fun w' hw'=>(x_load rfl Try.underlying3 rfl (hw'.1.cellAt 5 (v:=.int .i64 (o.cell)) rfl))) ?_
    refine F.va rfl rfl (fun w' hw'=>(x_nilCheck rfl)) ?_
    refine F.va rfl rfl (fun w' hw'=>(x_field rfl Try.underlying39 rfl sz35 (by decide))) ?_
    refine F.doo rfl rfl ?_
    refine L.call (x_call1 rfl Try.func34 rfl nm34 rfl) (at_c o.cell w) ?_
    rintro _ w1 ⟨rfl,hw1⟩
    rw [hw1]
    clear hw1 w1
    refine L.nil ⟨rfl,⟨hB6,h2,hS⟩,?_⟩
    refine F.va rfl rfl (fun w' hw'=>(x_idxArr (i:=at4 o.cell) rfl rfl Try.underlying35 sz2 (at4_lt _))) ?_
    refine F.va rfl rfl (fun w' hw'=>(x_load (v:=.int .i64 (c (at4 o.cell))) rfl Try.underlying2 rfl (shc_cell (c:=c) hw'.2.2 (at4_lt _)))) ?_
    refine F.doo rfl rfl ?_
    refine L.call (x_call1 rfl Try.func42 rfl nm42 rfl) (digits_c (c (at4 o.cell)) (hs.inv.ok _) w) ?_
    rintro _ w ⟨rfl,hbw⟩
    have hs:=hs.keep hbw
    have hB6:=hB6.keep hbw
    have h1:=h1.keep hbw
    have h2:=h2.keep hbw
    have hS:=hS.keep hbw
    clear hbw
    refine L.nil ⟨rfl,⟨hB6,h2,hS⟩,?_⟩
    refine F.va rfl rfl (fun w' hw'=>(x_addStr rfl rfl (by have h1:=hΛ.text n hn i o ho; have h2:=digB_size (hs.inv.ok (at4 o.cell)); omega))) ?_
    refine F.nil ?_
    show L _ _ _ _ _ _ _
    have hn2:=hs.note ho hk2
    refine L.call (x_call3 rfl rfl rfl Try.func29 rfl nm29 rfl) (proc_note hs.on hn2.1) ?_
    rintro _ w1 ⟨rfl,hg,g0,g1,g2⟩
    have hs:=hn2.2 w1 hg g0 g1 g2
    rename World=>w
    clear hg g0 g1 g2 hn2
    refine L.nil ?_
    try clear h1
    try clear h2
    try clear hS
    refine B.nrm ?_
    refine B.nrm ?_
    refine T.nrm ?_
    have hms:=meas_next (ops:=Λ.bo n) (j:=j) hlt
    exact ⟨_,by omega,⟨i + 1,j,c,rfl,rfl,rfl,rfl,rfl,rfl,hs,hj,(by omega)⟩⟩
   ·refine W.seq ?_
    refine W.region rfl ?_
    refine L.va (x_eql rfl rfl) ?_
    refine L.va (x_asB rfl) ?_
    refine L.nil ?_
    show W _ _ _ _ _ _
    refine W.condP rfl (fun hk3=>?_) (fun hk3=>?_)
    ·have h1:=(hs.b1 hΛ hn)
     have h2:=(hs.b2 hΛ hn)
     have hS:=hs.inv.sh
     refine W.fl 13 [3] [0,1,2,4,5,8,9,11,12,3,6,7,10] (fun w'=>BlkF w' (Λ.b2 n) #[.pointer (some ⟨Λ.sb,0,none⟩)] 32 (0,0)/\Blk w' b6 #[.int .i64 (o.kind),.int .i64 (o.step.kind),.int .i64 (o.step.obj),.int .i64 (o.step.num),.bool (o.free),.int .i64 (o.cell),.int .i64 (o.least),.int .i64 (o.to),.int .i64 (o.by_),.string (o.text)] 63/\BlkF w' Λ.sb #[.int .i64 (c 0),.int .i64 (c 1),.int .i64 (c 2),.int .i64 (c 3),.bool false,.bool false] 39 (0,0)) (by kernel_rfl) (by kernel_rfl) (by kernel_rfl) (by kernel_rfl) (by kernel_rfl) (⟨h2.keep (Below.refl w.heap.size w).drew,hB6.keep (Below.refl w.heap.size w).drew,hS.keep (Below.refl w.heap.size w).drew⟩) ?_
     have hdr:Below w.heap.size w w.drew:=(Below.refl w.heap.size w).drew
     have hs:=hs.keep hdr
     have hB6:=hB6.keep hdr
     have h1:=h1.keep hdr
     have h2:=h2.keep hdr
     have hS:=hS.keep hdr
     clear hdr
     generalize w.drew = w at *
     refine F.va rfl rfl (fun w' hw'=>(x_load rfl Try.underlying32 rfl (hw'.1.cellAt 0 (v:=.pointer (some ⟨Λ.sb,0,none⟩)) rfl))) ?_
     refine F.va rfl rfl (fun w' hw'=>(x_field rfl Try.underlying63 rfl sz3 (by decide))) ?_
     refine F.va rfl rfl (fun w' hw'=>(x_load rfl Try.underlying3 rfl (hw'.2.1.cellAt 7 (v:=.int .i64 (o.to)) rfl))) ?_
     refine F.va rfl rfl (fun w' hw'=>(x_nilCheck rfl)) ?_
     refine F.va rfl rfl (fun w' hw'=>(x_field rfl Try.underlying39 rfl sz35 (by decide))) ?_
     refine F.va rfl rfl (fun w' hw'=>(x_field rfl Try.underlying63 rfl sz2 (by decide))) ?_
     refine F.va rfl rfl (fun w' hw'=>(x_load rfl Try.underlying2 rfl (hw'.2.1.cellAt 8 (v:=.int .i64 (o.by_)) rfl))) ?_
     refine F.va rfl rfl (fun w' hw'=>(x_nilCheck rfl)) ?_
     refine F.va rfl rfl (fun w' hw'=>(x_field rfl Try.underlying39 rfl sz35 (by decide))) ?_
     refine F.doo rfl rfl ?_
     refine L.call (x_call1 rfl Try.func34 rfl nm34 rfl) (at_c o.to w) ?_
     rintro _ w1 ⟨rfl,hw1⟩
     rw [hw1]
     clear hw1 w1
     refine L.nil ⟨rfl,⟨h2,hB6,hS⟩,?_⟩
     refine F.va rfl rfl (fun w' hw'=>(x_idxArr (i:=at4 o.to) rfl rfl Try.underlying35 sz2 (at4_lt _))) ?_
     refine F.va rfl rfl (fun w' hw'=>(x_load (v:=.int .i64 (c (at4 o.to))) rfl Try.underlying2 rfl (shc_cell (c:=c) hw'.2.2 (at4_lt _)))) ?_
     refine F.va rfl rfl (fun w' hw'=>(x_add (κ:=.i64) (m:=c (at4 o.to)) (k:=o.by_) rfl rfl)) ?_
     refine F.nil ?_
     show L _ _ _ _ _ _ _
     refine L.va (x_idxArr (i:=at4 o.to) rfl rfl Try.underlying35 sz2 (at4_lt _)) ?_
     refine L.putF (b:=Λ.sb) (o:=0 + at4 o.to * 1) (f:=(0,0)) (shC (addC c (at4 o.to) o.by_)) rfl rfl rfl sz2 rfl rfl hs.inv.sh (by have:=at4_lt o.to; show 0 + at4 o.to * 1 + 1 <= 6; omega) (.inr (Nat.zero_le _)) (by rw [add_assoc_cell]; exact shC_add c (at4_lt _) _) ?_
     have hs:=hs.to (i':=i + 1) (j':=j) (c':=addC c (at4 o.to) o.by_) (by rw [opsGo_at ho,if_neg hk1,if_neg hk2,if_pos hk3]) (hs.inv.add hΛ.sep (at4 o.to) o.by_) rfl ⟨rfl,rfl⟩
     refine L.nil ?_
     try clear h1
     try clear h2
     try clear hS
     refine B.nrm ?_
     refine B.nrm ?_
     refine T.nrm ?_
     have hms:=meas_next (ops:=Λ.bo n) (j:=j) hlt
     exact ⟨_,by omega,⟨i + 1,j,(addC c (at4 o.to) o.by_),rfl,rfl,rfl,rfl,rfl,rfl,hs,hj,(by omega)⟩⟩
    ·refine W.seq ?_
     refine W.region rfl ?_
     refine L.va (x_eql rfl rfl) ?_
     refine L.va (x_asB rfl) ?_
     refine L.nil ?_
     show W _ _ _ _ _ _
     refine W.condP rfl (fun hk4=>?_) (fun hk4=>?_)
     ·refine W.region rfl ?_
      refine L.va (x_field rfl Try.underlying63 rfl sz9 (by decide)) ?_
      refine L.va (x_load rfl Try.underlying9 rfl (hB6.cellAt 9 (v:=.string (o.text)) rfl)) ?_
      refine L.va (x_makeIface (v:=.string o.text) rfl Try.underlying9 rfl) ?_
      refine L.panicI rfl ?_
      exact ⟨⟨_,[],rfl,rfl⟩,.inl (hs.told (by rw [opsGo_at ho,if_neg hk1,if_neg hk2,if_neg hk3,if_pos hk4]; rfl))⟩
     ·refine W.seq ?_
      refine W.region rfl ?_
      refine L.va (x_eql rfl rfl) ?_
      refine L.va (x_asB rfl) ?_
      refine L.nil ?_
      show W _ _ _ _ _ _
      refine W.condP rfl (fun hk5=>?_) (fun hk5=>?_)
      ·refine W.ret ?_
       repeat (first | refine T.ret ?_ | refine B.ret ?_ | refine N.ret ?_)
       refine ends.none (.inr rfl) rfl ?_
       exact .inl (hs.told (by rw [opsGo_at ho,if_neg hk1,if_neg hk2,if_neg hk3,if_neg hk4,if_pos hk5]; rfl))
      ·refine W.seq ?_
       refine W.region rfl ?_
       refine L.va (x_eql rfl rfl) ?_
       refine L.va (x_asB rfl) ?_
       refine L.nil ?_
       show W _ _ _ _ _ _
       refine W.condP rfl (fun hk6=>?_) (fun hk6=>?_)
       ·refine W.seq ?_
        by_cases hA:c (at4 o.to) < o.least
        ·by_cases hB:j < 50
         ·have hB':(j:Int) < 50:=by omega
          by_cases hC:0 <= o.cell
          ·by_cases hD:o.cell < (Λ.bo n).length
           ·have hjmp:jumps (Λ.bo n) o j c = true:=by simp [jumps,hk6,hA,hB,hC,hD]
            have h1:=(hs.b1 hΛ hn)
            have h2:=(hs.b2 hΛ hn)
            have hS:=hs.inv.sh
            refine W.fl 25 [3] [0,1,2,4,5,8,9,3,6,7,10,11,12,13,14,15,16,17,18,19,20,21,22,23,24] (fun w'=>BlkF w' (Λ.b2 n) #[.pointer (some ⟨Λ.sb,0,none⟩)] 32 (0,0)/\Blk w' b6 #[.int .i64 (o.kind),.int .i64 (o.step.kind),.int .i64 (o.step.obj),.int .i64 (o.step.num),.bool (o.free),.int .i64 (o.cell),.int .i64 (o.least),.int .i64 (o.to),.int .i64 (o.by_),.string (o.text)] 63/\BlkF w' Λ.sb #[.int .i64 (c 0),.int .i64 (c 1),.int .i64 (c 2),.int .i64 (c 3),.bool false,.bool false] 39 (0,0)/\BlkF w' (Λ.b1 n) #[.slice (Λ.ba n) ((Λ.bo n).length) (Λ.bc n)] 64 (0,0)) (by kernel_rfl) (by kernel_rfl) (by kernel_rfl) (by kernel_rfl) (by kernel_rfl) (⟨h2.keep (Below.refl w.heap.size w).drew,hB6.keep (Below.refl w.heap.size w).drew,hS.keep (Below.refl w.heap.size w).drew,h1.keep (Below.refl w.heap.size w).drew⟩) ?_
            have hdr:Below w.heap.size w w.drew:=(Below.refl w.heap.size w).drew
            have hs:=hs.keep hdr
            have hB6:=hB6.keep hdr
            have h1:=h1.keep hdr
            have h2:=h2.keep hdr
            have hS:=hS.keep hdr
            clear hdr
            generalize w.drew = w at *
            refine F.va rfl rfl (fun w' hw'=>(x_load rfl Try.underlying32 rfl (hw'.1.cellAt 0 (v:=.pointer (some ⟨Λ.sb,0,none⟩)) rfl))) ?_
            refine F.va rfl rfl (fun w' hw'=>(x_field rfl Try.underlying63 rfl sz3 (by decide))) ?_
            refine F.va rfl rfl (fun w' hw'=>(x_load rfl Try.underlying3 rfl (hw'.2.1.cellAt 7 (v:=.int .i64 (o.to)) rfl))) ?_
            refine F.va rfl rfl (fun w' hw'=>(x_nilCheck rfl)) ?_
            refine F.va rfl rfl (fun w' hw'=>(x_field rfl Try.underlying39 rfl sz35 (by decide))) ?_
            refine F.va rfl rfl (fun w' hw'=>(x_field rfl Try.underlying63 rfl sz2 (by decide))) ?_
            refine F.va rfl rfl (fun w' hw'=>(x_load rfl Try.underlying2 rfl (hw'.2.1.cellAt 6 (v:=.int .i64 (o.least)) rfl))) ?_
            refine F.doo rfl rfl ?_
            refine L.call (x_call1 rfl Try.func34 rfl nm34 rfl) (at_c o.to w) ?_
            rintro _ w1 ⟨rfl,hw1⟩
            rw [hw1]
            clear hw1 w1
            refine L.nil ⟨rfl,⟨h2,hB6,hS,h1⟩,?_⟩
            refine F.va rfl rfl (fun w' hw'=>(x_idxArr (i:=at4 o.to) rfl rfl Try.underlying35 sz2 (at4_lt _))) ?_
            refine F.va rfl rfl (fun w' hw'=>(x_load (v:=.int .i64 (c (at4 o.to))) rfl Try.underlying2 rfl (shc_cell (c:=c) hw'.2.2.1 (at4_lt _)))) ?_
            refine F.va rfl rfl (fun w' hw'=>(d_boolK (r:=true) (decide_eq_true hA) (x_lss (m:=c (at4 o.to)) (k:=o.least) rfl rfl))) ?_
            refine F.va rfl rfl (fun w' hw'=>(x_mvB rfl)) ?_
            refine F.on rfl rfl rfl (fun w' hw'=>(x_mvI rfl)) ?_
            refine F.on rfl rfl rfl (fun w' hw'=>(d_boolK (r:=true) (decide_eq_true hB') (x_lss (m:=(j:Int)) (k:=50) rfl rfl))) ?_
            refine F.va rfl rfl (fun w' hw'=>(x_pickT rfl)) ?_
            refine F.va rfl rfl (fun w' hw'=>(x_mvB rfl)) ?_
            refine F.on rfl rfl rfl (fun w' hw'=>(x_field rfl Try.underlying63 rfl sz3 (by decide))) ?_
            refine F.on rfl rfl rfl (fun w' hw'=>(x_load rfl Try.underlying3 rfl (hw'.2.1.cellAt 5 (v:=.int .i64 (o.cell)) rfl))) ?_
            refine F.on rfl rfl rfl (fun w' hw'=>(d_boolK (r:=true) (decide_eq_true hC) (x_geq (m:=o.cell) (k:=0) rfl rfl))) ?_
            refine F.va rfl rfl (fun w' hw'=>(x_pickT rfl)) ?_
            refine F.va rfl rfl (fun w' hw'=>(x_mvB rfl)) ?_
            refine F.on rfl rfl rfl (fun w' hw'=>(x_field rfl Try.underlying63 rfl sz3 (by decide))) ?_
            refine F.on rfl rfl rfl (fun w' hw'=>(x_load rfl Try.underlying3 rfl (hw'.2.1.cellAt 5 (v:=.int .i64 (o.cell)) rfl))) ?_
            refine F.on rfl rfl rfl (fun w' hw'=>(x_load rfl Try.underlying64 rfl (hw'.2.2.2.cellAt 0 (v:=.slice (Λ.ba n) ((Λ.bo n).length) (Λ.bc n)) rfl))) ?_
            refine F.on rfl rfl rfl (fun w' hw'=>(x_len rfl Try.underlying64 rfl)) ?_
            refine F.nil ?_
            show L _ _ _ _ _ _ _
            refine L.on rfl ?_
            refine L.va (d_boolK (r:=true) (decide_eq_true hD) (x_lss (m:=o.cell) (k:=((Λ.bo n).length:Int)) rfl rfl)) ?_
            refine L.va (x_pickT rfl) ?_
            refine L.nil ?_
            try clear h1
            try clear h2
            try clear hS
            show W _ _ _ _ _ _
            refine W.condT rfl ?_
            refine W.seq ?_
            refine W.region rfl ?_
            refine L.va (x_mvI rfl) ?_
            refine L.va (x_inc rfl rfl (by omega)) ?_
            refine L.va (x_asI rfl) ?_
            refine L.nil ?_
            show W _ _ _ _ _ _
            refine W.region rfl ?_
            refine L.va (x_field rfl Try.underlying63 rfl sz3 (by decide)) ?_
            have hcl:((o.cell.toNat:Nat):Int) = o.cell:=by omega
            refine L.va (x_load (v:=.int .i64 ((o.cell.toNat:Nat):Int)) rfl Try.underlying3 rfl (by rw [hcl]; exact hB6.cellAt 5 rfl)) ?_
            refine L.va (x_asI rfl) ?_
            refine L.nil ?_
            refine B.nrm ?_
            refine B.nrm ?_
            refine T.nrm ?_
            have hms:=meas_jump (ops:=Λ.bo n) (i:=i) (k:=o.cell.toNat) hB
            have hs:=hs.to (i':=o.cell.toNat) (j':=j + 1) (c':=c) (by rw [opsGo_at ho,if_neg hk1,if_neg hk2,if_neg hk3,if_neg hk4,if_neg hk5,hjmp]; rfl) hs.inv rfl ⟨rfl,rfl⟩
            exact ⟨_,by omega,⟨o.cell.toNat,j + 1,c,rfl,rfl,rfl,rfl,rfl,rfl,hs,(by omega),(by omega)⟩⟩
           ·have hjmp:jumps (Λ.bo n) o j c = false:=by simp [jumps,hk6,hA,hB,hC,hD]
            have h1:=(hs.b1 hΛ hn)
            have h2:=(hs.b2 hΛ hn)
            have hS:=hs.inv.sh
            refine W.fl 25 [3] [0,1,2,4,5,8,9,3,6,7,10,11,12,13,14,15,16,17,18,19,20,21,22,23,24] (fun w'=>BlkF w' (Λ.b2 n) #[.pointer (some ⟨Λ.sb,0,none⟩)] 32 (0,0)/\Blk w' b6 #[.int .i64 (o.kind),.int .i64 (o.step.kind),.int .i64 (o.step.obj),.int .i64 (o.step.num),.bool (o.free),.int .i64 (o.cell),.int .i64 (o.least),.int .i64 (o.to),.int .i64 (o.by_),.string (o.text)] 63/\BlkF w' Λ.sb #[.int .i64 (c 0),.int .i64 (c 1),.int .i64 (c 2),.int .i64 (c 3),.bool false,.bool false] 39 (0,0)/\BlkF w' (Λ.b1 n) #[.slice (Λ.ba n) ((Λ.bo n).length) (Λ.bc n)] 64 (0,0)) (by kernel_rfl) (by kernel_rfl) (by kernel_rfl) (by kernel_rfl) (by kernel_rfl) (⟨h2.keep (Below.refl w.heap.size w).drew,hB6.keep (Below.refl w.heap.size w).drew,hS.keep (Below.refl w.heap.size w).drew,h1.keep (Below.refl w.heap.size w).drew⟩) ?_
            have hdr:Below w.heap.size w w.drew:=(Below.refl w.heap.size w).drew
            have hs:=hs.keep hdr
            have hB6:=hB6.keep hdr
            have h1:=h1.keep hdr
            have h2:=h2.keep hdr
            have hS:=hS.keep hdr
            clear hdr
            generalize w.drew = w at *
            refine F.va rfl rfl (fun w' hw'=>(x_load rfl Try.underlying32 rfl (hw'.1.cellAt 0 (v:=.pointer (some ⟨Λ.sb,0,none⟩)) rfl))) ?_
            refine F.va rfl rfl (fun w' hw'=>(x_field rfl Try.underlying63 rfl sz3 (by decide))) ?_
            refine F.va rfl rfl (fun w' hw'=>(x_load rfl Try.underlying3 rfl (hw'.2.1.cellAt 7 (v:=.int .i64 (o.to)) rfl))) ?_
            refine F.va rfl rfl (fun w' hw'=>(x_nilCheck rfl)) ?_
            refine F.va rfl rfl (fun w' hw'=>(x_field rfl Try.underlying39 rfl sz35 (by decide))) ?_
            refine F.va rfl rfl (fun w' hw'=>(x_field rfl Try.underlying63 rfl sz2 (by decide))) ?_
            refine F.va rfl rfl (fun w' hw'=>(x_load rfl Try.underlying2 rfl (hw'.2.1.cellAt 6 (v:=.int .i64 (o.least)) rfl))) ?_
            refine F.doo rfl rfl ?_
            refine L.call (x_call1 rfl Try.func34 rfl nm34 rfl) (at_c o.to w) ?_
            rintro _ w1 ⟨rfl,hw1⟩
            rw [hw1]
            clear hw1 w1
            refine L.nil ⟨rfl,⟨h2,hB6,hS,h1⟩,?_⟩
            refine F.va rfl rfl (fun w' hw'=>(x_idxArr (i:=at4 o.to) rfl rfl Try.underlying35 sz2 (at4_lt _))) ?_
            refine F.va rfl rfl (fun w' hw'=>(x_load (v:=.int .i64 (c (at4 o.to))) rfl Try.underlying2 rfl (shc_cell (c:=c) hw'.2.2.1 (at4_lt _)))) ?_
            refine F.va rfl rfl (fun w' hw'=>(d_boolK (r:=true) (decide_eq_true hA) (x_lss (m:=c (at4 o.to)) (k:=o.least) rfl rfl))) ?_
            refine F.va rfl rfl (fun w' hw'=>(x_mvB rfl)) ?_
            refine F.on rfl rfl rfl (fun w' hw'=>(x_mvI rfl)) ?_
            refine F.on rfl rfl rfl (fun w' hw'=>(d_boolK (r:=true) (decide_eq_true hB') (x_lss (m:=(j:Int)) (k:=50) rfl rfl))) ?_
            refine F.va rfl rfl (fun w' hw'=>(x_pickT rfl)) ?_
            refine F.va rfl rfl (fun w' hw'=>(x_mvB rfl)) ?_
            refine F.on rfl rfl rfl (fun w' hw'=>(x_field rfl Try.underlying63 rfl sz3 (by decide))) ?_
            refine F.on rfl rfl rfl (fun w' hw'=>(x_load rfl Try.underlying3 rfl (hw'.2.1.cellAt 5 (v:=.int .i64 (o.cell)) rfl))) ?_
            refine F.on rfl rfl rfl (fun w' hw'=>(d_boolK (r:=true) (decide_eq_true hC) (x_geq (m:=o.cell) (k:=0) rfl rfl))) ?_
            refine F.va rfl rfl (fun w' hw'=>(x_pickT rfl)) ?_
            refine F.va rfl rfl (fun w' hw'=>(x_mvB rfl)) ?_
            refine F.on rfl rfl rfl (fun w' hw'=>(x_field rfl Try.underlying63 rfl sz3 (by decide))) ?_
            refine F.on rfl rfl rfl (fun w' hw'=>(x_load rfl Try.underlying3 rfl (hw'.2.1.cellAt 5 (v:=.int .i64 (o.cell)) rfl))) ?_
            refine F.on rfl rfl rfl (fun w' hw'=>(x_load rfl Try.underlying64 rfl (hw'.2.2.2.cellAt 0 (v:=.slice (Λ.ba n) ((Λ.bo n).length) (Λ.bc n)) rfl))) ?_
            refine F.on rfl rfl rfl (fun w' hw'=>(x_len rfl Try.underlying64 rfl)) ?_
            refine F.nil ?_
            show L _ _ _ _ _ _ _
            refine L.on rfl ?_
            refine L.va (d_boolK (r:=false) (decide_eq_false hD) (x_lss (m:=o.cell) (k:=((Λ.bo n).length:Int)) rfl rfl)) ?_
            refine L.va (x_pickT rfl) ?_
            refine L.nil ?_
            try clear h1
            try clear h2
            try clear hS
            show W _ _ _ _ _ _
            refine W.condF rfl ?_
            refine W.skip ?_
            refine B.nrm ?_
            refine B.nrm ?_
            refine T.nrm ?_
            have hms:=meas_next (ops:=Λ.bo n) (j:=j) hlt
            exact ⟨_,by omega,⟨i + 1,j,c,rfl,rfl,rfl,rfl,rfl,rfl,(hs.to (i':=i + 1) (j':=j) (c':=c) (by rw [opsGo_at ho,if_neg hk1,if_neg hk2,if_neg hk3,if_neg hk4,if_neg hk5,hjmp]; rfl) hs.inv rfl ⟨rfl,rfl⟩),hj,(by omega)⟩⟩
          ·have hjmp:jumps (Λ.bo n) o j c = false:=by simp [jumps,hk6,hA,hB,hC]
           have h1:=(hs.b1 hΛ hn)
           have h2:=(hs.b2 hΛ hn)
           have hS:=hs.inv.sh
           refine W.fl 25 [3] [0,1,2,4,5,8,9,3,6,7,10,11,12,13,14,15,16,17,18,19,20,21,22,23,24] (fun w'=>BlkF w' (Λ.b2 n) #[.pointer (some ⟨Λ.sb,0,none⟩)] 32 (0,0)/\Blk w' b6 #[.int .i64 (o.kind),.int .i64 (o.step.kind),.int .i64 (o.step.obj),.int .i64 (o.step.num),.bool (o.free),.int .i64 (o.cell),.int .i64 (o.least),.int .i64 (o.to),.int .i64 (o.by_),.string (o.text)] 63/\BlkF w' Λ.sb #[.int .i64 (c 0),.int .i64 (c 1),.int .i64 (c 2),.int .i64 (c 3),.bool false,.bool false] 39 (0,0)) (by kernel_rfl) (by kernel_rfl) (by kernel_rfl) (by kernel_rfl) (by kernel_rfl) (⟨h2.keep (Below.refl w.heap.size w).drew,hB6.keep (Below.refl w.heap.size w).drew,hS.keep (Below.refl w.heap.size w).drew⟩) ?_
           have hdr:Below w.heap.size w w.drew:=(Below.refl w.heap.size w).drew
           have hs:=hs.keep hdr
           have hB6:=hB6.keep hdr
           have h1:=h1.keep hdr
           have h2:=h2.keep hdr
           have hS:=hS.keep hdr
           clear hdr
           generalize w.drew = w at *
           refine F.va rfl rfl (fun w' hw'=>(x_load rfl Try.underlying32 rfl (hw'.1.cellAt 0 (v:=.pointer (some ⟨Λ.sb,0,none⟩)) rfl))) ?_
           refine F.va rfl rfl (fun w' hw'=>(x_field rfl Try.underlying63 rfl sz3 (by decide))) ?_
           refine F.va rfl rfl (fun w' hw'=>(x_load rfl Try.underlying3 rfl (hw'.2.1.cellAt 7 (v:=.int .i64 (o.to)) rfl))) ?_
           refine F.va rfl rfl (fun w' hw'=>(x_nilCheck rfl)) ?_
           refine F.va rfl rfl (fun w' hw'=>(x_field rfl Try.underlying39 rfl sz35 (by decide))) ?_
           refine F.va rfl rfl (fun w' hw'=>(x_field rfl Try.underlying63 rfl sz2 (by decide))) ?_
           refine F.va rfl rfl (fun w' hw'=>(x_load rfl Try.underlying2 rfl (hw'.2.1.cellAt 6 (v:=.int .i64 (o.least)) rfl))) ?_
           refine F.doo rfl rfl ?_
           refine L.call (x_call1 rfl Try.func34 rfl nm34 rfl) (at_c o.to w) ?_
           rintro _ w1 ⟨rfl,hw1⟩
           rw [hw1]
           clear hw1 w1
           refine L.nil ⟨rfl,⟨h2,hB6,hS⟩,?_⟩
           refine F.va rfl rfl (fun w' hw'=>(x_idxArr (i:=at4 o.to) rfl rfl Try.underlying35 sz2 (at4_lt _))) ?_
           refine F.va rfl rfl (fun w' hw'=>(x_load (v:=.int .i64 (c (at4 o.to))) rfl Try.underlying2 rfl (shc_cell (c:=c) hw'.2.2 (at4_lt _)))) ?_
           refine F.va rfl rfl (fun w' hw'=>(d_boolK (r:=true) (decide_eq_true hA) (x_lss (m:=c (at4 o.to)) (k:=o.least) rfl rfl))) ?_
           refine F.va rfl rfl (fun w' hw'=>(x_mvB rfl)) ?_
           refine F.on rfl rfl rfl (fun w' hw'=>(x_mvI rfl)) ?_
           refine F.on rfl rfl rfl (fun w' hw'=>(d_boolK (r:=true) (decide_eq_true hB') (x_lss (m:=(j:Int)) (k:=50) rfl rfl))) ?_
           refine F.va rfl rfl (fun w' hw'=>(x_pickT rfl)) ?_
           refine F.va rfl rfl (fun w' hw'=>(x_mvB rfl)) ?_
           refine F.on rfl rfl rfl (fun w' hw'=>(x_field rfl Try.underlying63 rfl sz3 (by decide))) ?_
           refine F.on rfl rfl rfl (fun w' hw'=>(x_load rfl Try.underlying3 rfl (hw'.2.1.cellAt 5 (v:=.int .i64 (o.cell)) rfl))) ?_
           refine F.on rfl rfl rfl (fun w' hw'=>(d_boolK (r:=false) (decide_eq_false hC) (x_geq (m:=o.cell) (k:=0) rfl rfl))) ?_
           refine F.va rfl rfl (fun w' hw'=>(x_pickT rfl)) ?_
           refine F.va rfl rfl (fun w' hw'=>(x_mvB rfl)) ?_
           refine F.off rfl rfl rfl ?_
           refine F.off rfl rfl rfl ?_
           refine F.off rfl rfl rfl ?_
           refine F.off rfl rfl rfl ?_
           refine F.nil ?_
           show L _ _ _ _ _ _ _
           refine L.off rfl ?_
           refine L.va (x_pickF rfl) ?_
           refine L.nil ?_
           try clear h1
           try clear h2
           try clear hS
           show W _ _ _ _ _ _
           refine W.condF rfl ?_
           refine W.skip ?_
           refine B.nrm ?_
           refine B.nrm ?_
           refine T.nrm ?_
           have hms:=meas_next (ops:=Λ.bo n) (j:=j) hlt
           exact ⟨_,by omega,⟨i + 1,j,c,rfl,rfl,rfl,rfl,rfl,rfl,(hs.to (i':=i + 1) (j':=j) (c':=c) (by rw [opsGo_at ho,if_neg hk1,if_neg hk2,if_neg hk3,if_neg hk4,if_neg hk5,hjmp]; rfl) hs.inv rfl ⟨rfl,rfl⟩),hj,(by omega)⟩⟩
         ·have hB':¬ (j:Int) < 50:=by omega
          have hjmp:jumps (Λ.bo n) o j c = false:=by simp [jumps,hk6,hA,hB]
          have h1:=(hs.b1 hΛ hn)
          have h2:=(hs.b2 hΛ hn)
          have hS:=hs.inv.sh
          refine W.fl 25 [3] [0,1,2,4,5,8,9,3,6,7,10,11,12,13,14,15,16,17,18,19,20,21,22,23,24] (fun w'=>BlkF w' (Λ.b2 n) #[.pointer (some ⟨Λ.sb,0,none⟩)] 32 (0,0)/\Blk w' b6 #[.int .i64 (o.kind),.int .i64 (o.step.kind),.int .i64 (o.step.obj),.int .i64 (o.step.num),.bool (o.free),.int .i64 (o.cell),.int .i64 (o.least),.int .i64 (o.to),.int .i64 (o.by_),.string (o.text)] 63/\BlkF w' Λ.sb #[.int .i64 (c 0),.int .i64 (c 1),.int .i64 (c 2),.int .i64 (c 3),.bool false,.bool false] 39 (0,0)) (by kernel_rfl) (by kernel_rfl) (by kernel_rfl) (by kernel_rfl) (by kernel_rfl) (⟨h2.keep (Below.refl w.heap.size w).drew,hB6.keep (Below.refl w.heap.size w).drew,hS.keep (Below.refl w.heap.size w).drew⟩) ?_
          have hdr:Below w.heap.size w w.drew:=(Below.refl w.heap.size w).drew
          have hs:=hs.keep hdr
          have hB6:=hB6.keep hdr
          have h1:=h1.keep hdr
          have h2:=h2.keep hdr
          have hS:=hS.keep hdr
          clear hdr
          generalize w.drew = w at *
          refine F.va rfl rfl (fun w' hw'=>(x_load rfl Try.underlying32 rfl (hw'.1.cellAt 0 (v:=.pointer (some ⟨Λ.sb,0,none⟩)) rfl))) ?_
          refine F.va rfl rfl (fun w' hw'=>(x_field rfl Try.underlying63 rfl sz3 (by decide))) ?_
          refine F.va rfl rfl (fun w' hw'=>(x_load rfl Try.underlying3 rfl (hw'.2.1.cellAt 7 (v:=.int .i64 (o.to)) rfl))) ?_
          refine F.va rfl rfl (fun w' hw'=>(x_nilCheck rfl)) ?_
          refine F.va rfl rfl (fun w' hw'=>(x_field rfl Try.underlying39 rfl sz35 (by decide))) ?_
          refine F.va rfl rfl (fun w' hw'=>(x_field rfl Try.underlying63 rfl sz2 (by decide))) ?_
          refine F.va rfl rfl (fun w' hw'=>(x_load rfl Try.underlying2 rfl (hw'.2.1.cellAt 6 (v:=.int .i64 (o.least)) rfl))) ?_
          refine F.doo rfl rfl ?_
          refine L.call (x_call1 rfl Try.func34 rfl nm34 rfl) (at_c o.to w) ?_
          rintro _ w1 ⟨rfl,hw1⟩
          rw [hw1]
          clear hw1 w1
          refine L.nil ⟨rfl,⟨h2,hB6,hS⟩,?_⟩
          refine F.va rfl rfl (fun w' hw'=>(x_idxArr (i:=at4 o.to) rfl rfl Try.underlying35 sz2 (at4_lt _))) ?_
          refine F.va rfl rfl (fun w' hw'=>(x_load (v:=.int .i64 (c (at4 o.to))) rfl Try.underlying2 rfl (shc_cell (c:=c) hw'.2.2 (at4_lt _)))) ?_
          refine F.va rfl rfl (fun w' hw'=>(d_boolK (r:=true) (decide_eq_true hA) (x_lss (m:=c (at4 o.to)) (k:=o.least) rfl rfl))) ?_
          refine F.va rfl rfl (fun w' hw'=>(x_mvB rfl)) ?_
          refine F.on rfl rfl rfl (fun w' hw'=>(x_mvI rfl)) ?_
          refine F.on rfl rfl rfl (fun w' hw'=>(d_boolK (r:=false) (decide_eq_false hB') (x_lss (m:=(j:Int)) (k:=50) rfl rfl))) ?_
          refine F.va rfl rfl (fun w' hw'=>(x_pickT rfl)) ?_
          refine F.va rfl rfl (fun w' hw'=>(x_mvB rfl)) ?_
          refine F.off rfl rfl rfl ?_
          refine F.off rfl rfl rfl ?_
          refine F.off rfl rfl rfl ?_
          refine F.va rfl rfl (fun w' hw'=>(x_pickF rfl)) ?_
          refine F.va rfl rfl (fun w' hw'=>(x_mvB rfl)) ?_
          refine F.off rfl rfl rfl ?_
          refine F.off rfl rfl rfl ?_
          refine F.off rfl rfl rfl ?_
          refine F.off rfl rfl rfl ?_
          refine F.nil ?_
          show L _ _ _ _ _ _ _
          refine L.off rfl ?_
          refine L.va (x_pickF rfl) ?_
          refine L.nil ?_
          try clear h1
          try clear h2
          try clear hS
          show W _ _ _ _ _ _
          refine W.condF rfl ?_
          refine W.skip ?_
          refine B.nrm ?_
          refine B.nrm ?_
          refine T.nrm ?_
          have hms:=meas_next (ops:=Λ.bo n) (j:=j) hlt
          exact ⟨_,by omega,⟨i + 1,j,c,rfl,rfl,rfl,rfl,rfl,rfl,(hs.to (i':=i + 1) (j':=j) (c':=c) (by rw [opsGo_at ho,if_neg hk1,if_neg hk2,if_neg hk3,if_neg hk4,if_neg hk5,hjmp]; rfl) hs.inv rfl ⟨rfl,rfl⟩),hj,(by omega)⟩⟩
        ·have hjmp:jumps (Λ.bo n) o j c = false:=by simp [jumps,hk6,hA]
         have h1:=(hs.b1 hΛ hn)
         have h2:=(hs.b2 hΛ hn)
         have hS:=hs.inv.sh
         refine W.fl 25 [3] [0,1,2,4,5,8,9,3,6,7,10,11,12,13,14,15,16,17,18,19,20,21,22,23,24] (fun w'=>BlkF w' (Λ.b2 n) #[.pointer (some ⟨Λ.sb,0,none⟩)] 32 (0,0)/\Blk w' b6 #[.int .i64 (o.kind),.int .i64 (o.step.kind),.int .i64 (o.step.obj),.int .i64 (o.step.num),.bool (o.free),.int .i64 (o.cell),.int .i64 (o.least),.int .i64 (o.to),.int .i64 (o.by_),.string (o.text)] 63/\BlkF w' Λ.sb #[.int .i64 (c 0),.int .i64 (c 1),.int .i64 (c 2),.int .i64 (c 3),.bool false,.bool false] 39 (0,0)) (by kernel_rfl) (by kernel_rfl) (by kernel_rfl) (by kernel_rfl) (by kernel_rfl) (⟨h2.keep (Below.refl w.heap.size w).drew,hB6.keep (Below.refl w.heap.size w).drew,hS.keep (Below.refl w.heap.size w).drew⟩) ?_
         have hdr:Below w.heap.size w w.drew:=(Below.refl w.heap.size w).drew
         have hs:=hs.keep hdr
         have hB6:=hB6.keep hdr
         have h1:=h1.keep hdr
         have h2:=h2.keep hdr
         have hS:=hS.keep hdr
         clear hdr
         generalize w.drew = w at *
         refine F.va rfl rfl (fun w' hw'=>(x_load rfl Try.underlying32 rfl (hw'.1.cellAt 0 (v:=.pointer (some ⟨Λ.sb,0,none⟩)) rfl))) ?_
         refine F.va rfl rfl (fun w' hw'=>(x_field rfl Try.underlying63 rfl sz3 (by decide))) ?_
         refine F.va rfl rfl (fun w' hw'=>(x_load rfl Try.underlying3 rfl (hw'.2.1.cellAt 7 (v:=.int .i64 (o.to)) rfl))) ?_
         refine F.va rfl rfl (fun w' hw'=>(x_nilCheck rfl)) ?_
         refine F.va rfl rfl (fun w' hw'=>(x_field rfl Try.underlying39 rfl sz35 (by decide))) ?_
         refine F.va rfl rfl (fun w' hw'=>(x_field rfl Try.underlying63 rfl sz2 (by decide))) ?_
         refine F.va rfl rfl (fun w' hw'=>(x_load rfl Try.underlying2 rfl (hw'.2.1.cellAt 6 (v:=.int .i64 (o.least)) rfl))) ?_
         refine F.doo rfl rfl ?_
         refine L.call (x_call1 rfl Try.func34 rfl nm34 rfl) (at_c o.to w) ?_
         rintro _ w1 ⟨rfl,hw1⟩
         rw [hw1]
         clear hw1 w1
         refine L.nil ⟨rfl,⟨h2,hB6,hS⟩,?_⟩
         refine F.va rfl rfl (fun w' hw'=>(x_idxArr (i:=at4 o.to) rfl rfl Try.underlying35 sz2 (at4_lt _))) ?_
         refine F.va rfl rfl (fun w' hw'=>(x_load (v:=.int .i64 (c (at4 o.to))) rfl Try.underlying2 rfl (shc_cell (c:=c) hw'.2.2 (at4_lt _)))) ?_
         refine F.va rfl rfl (fun w' hw'=>(d_boolK (r:=false) (decide_eq_false hA) (x_lss (m:=c (at4 o.to)) (k:=o.least) rfl rfl))) ?_
         refine F.va rfl rfl (fun w' hw'=>(x_mvB rfl)) ?_
         refine F.off rfl rfl rfl ?_
         refine F.off rfl rfl rfl ?_
         refine F.va rfl rfl (fun w' hw'=>(x_pickF rfl)) ?_
         refine F.va rfl rfl (fun w' hw'=>(x_mvB rfl)) ?_
         refine F.off rfl rfl rfl ?_
         refine F.off rfl rfl rfl ?_
         refine F.off rfl rfl rfl ?_
         refine F.va rfl rfl (fun w' hw'=>(x_pickF rfl)) ?_
         refine F.va rfl rfl (fun w' hw'=>(x_mvB rfl)) ?_
         refine F.off rfl rfl rfl ?_
         refine F.off rfl rfl rfl ?_
         refine F.off rfl rfl rfl ?_
         refine F.off rfl rfl rfl ?_
         refine F.nil ?_
         show L _ _ _ _ _ _ _
         refine L.off rfl ?_
         refine L.va (x_pickF rfl) ?_
         refine L.nil ?_
         try clear h1
         try clear h2
         try clear hS
         show W _ _ _ _ _ _
         refine W.condF rfl ?_
         refine W.skip ?_
         refine B.nrm ?_
         refine B.nrm ?_
         refine T.nrm ?_
         have hms:=meas_next (ops:=Λ.bo n) (j:=j) hlt
         exact ⟨_,by omega,⟨i + 1,j,c,rfl,rfl,rfl,rfl,rfl,rfl,(hs.to (i':=i + 1) (j':=j) (c':=c) (by rw [opsGo_at ho,if_neg hk1,if_neg hk2,if_neg hk3,if_neg hk4,if_neg hk5,hjmp]; rfl) hs.inv rfl ⟨rfl,rfl⟩),hj,(by omega)⟩⟩
       ·refine W.skip ?_
        refine B.nrm ?_
        refine B.nrm ?_
        refine T.nrm ?_
        have hms:=meas_next (ops:=Λ.bo n) (j:=j) hlt
        exact ⟨_,by omega,⟨i + 1,j,c,rfl,rfl,rfl,rfl,rfl,rfl,(hs.to (i':=i + 1) (j':=j) (c':=c) (by rw [opsGo_at ho,if_neg hk1,if_neg hk2,if_neg hk3,if_neg hk4,if_neg hk5,if_neg (by simp [jumps,hk6])]) hs.inv rfl ⟨rfl,rfl⟩),hj,(by omega)⟩⟩
 ·refine W.exit ?_
  repeat (first | refine T.exit ?_ | refine N.exit ?_ | refine B.exitNe (by decide) ?_)
  refine B.exitEq ?_
  repeat (first | refine T.nrm ?_ | refine B.nrm ?_ | refine N.nrm ?_)
  refine ends.none (.inl rfl) rfl ?_
  exact .inl (hs.told (opsGo_end (by omega)))
end Go.Vy.Sc
end
/- Bodies under a script: what sched.Run answers, told without a program; how many notes there can be. -/
section
namespace Go.Vy.Sc
open Go Go.Conc Go.Yc Go.RowKit Go.Proofs Go.Proofs.Ytfmoeemolgjodaa
open Go.Vc Go.Wg
open Go.ConcN (sumTo sumTo_upd sumTo_congr sumTo_le)
@[reducible] def pSys (m:Nat) (bo:Nat->List OpD):Sys where
 S:=Cells
 L:=Nat × Nat
 m:=m
 s0:=fun _=>0
 nil:=fun _=>false
 stp:=fun i l=>(((bo i)[l.1]?).map (·.step)).getD sp0
 rdy:=fun i l s=>match (bo i)[l.1]? with
  | some o=>o.free || decide (o.least <= s (at4 o.cell))
  | none=>true
 beg:=fun i s=>opsGo (bo i) 0 0 s
 go:=fun i l s=>match (bo i)[l.1]? with
  | some o=>opsGo (bo i) (l.1 + 1) l.2 (addC s (at4 o.to) o.by_)
  | none=>⟨s,[],.inr 1⟩
 Inv:=fun _ _ _=>True
 lb:=0
 pl:=fun _=>.all
abbrev PB (m:Nat) (bo:Nat->List OpD) (sc:Nat->Int) (n:Nat):PR (pSys m bo):=(pSys m bo).pn sc n
section
variable {Λ:Lay}
def toP (p:PR (bodiesSys Λ)):PR (pSys Λ.m Λ.bo):=⟨p.s,p.ft,p.evs,p.nts,p.outs,p.who,p.used⟩
theorem toP_bgn (p:PR (bodiesSys Λ)):toP ((bodiesSys Λ).bgn p) = (pSys Λ.m Λ.bo).bgn (toP p):=rfl
theorem toP_begs:∀ n,toP ((bodiesSys Λ).begs n) = (pSys Λ.m Λ.bo).begs n
 | 0=>rfl
 | n + 1=>by
  show toP ((bodiesSys Λ).bgn ((bodiesSys Λ).begs n)) = (pSys Λ.m Λ.bo).bgn ((pSys Λ.m Λ.bo).begs n)
  rw [toP_bgn,toP_begs n]
theorem toP_turn (p:PR (bodiesSys Λ)) (i:Nat):toP ((bodiesSys Λ).turn p i) = (pSys Λ.m Λ.bo).turn (toP p) i:=by
 unfold Sys.turn
 rcases hx:p.ft[i]? with _ | (l | x)
 ·have hx':(toP p).ft[i]? = none:=hx
  rw [hx']
 ·have hx':(toP p).ft[i]? = some (.inl l):=hx
  rw [hx']; rfl
 ·have hx':(toP p).ft[i]? = some (.inr x):=hx
  rw [hx']
theorem toP_isRdy (p:PR (bodiesSys Λ)) (i:Nat):(bodiesSys Λ).isRdy p i = (pSys Λ.m Λ.bo).isRdy (toP p) i:=by
 unfold Sys.isRdy
 rcases hx:p.ft[i]? with _ | (l | x)
 ·have hx':(toP p).ft[i]? = none:=hx
  rw [hx']
 ·have hx':(toP p).ft[i]? = some (.inl l):=hx
  rw [hx']; rfl
 ·have hx':(toP p).ft[i]? = some (.inr x):=hx
  rw [hx']
theorem toP_rds (p:PR (bodiesSys Λ)):(bodiesSys Λ).rds p = (pSys Λ.m Λ.bo).rds (toP p):=by
 unfold Sys.rds
 exact congrArg (fun f=>(List.range Λ.m).filter f) (funext fun i=>toP_isRdy p i)
theorem toP_step (p:PR (bodiesSys Λ)) (e:Int):toP ((bodiesSys Λ).step p e) = (pSys Λ.m Λ.bo).step (toP p) e:=by
 unfold Sys.step
 rw [toP_rds]
 cases ((pSys Λ.m Λ.bo).rds (toP p))[pickIx e ((pSys Λ.m Λ.bo).rds (toP p)).length]? with
 | none=>rfl
 | some i=>exact toP_turn p i
theorem toP_pn (sc:Nat->Int):∀ n,toP ((bodiesSys Λ).pn sc n) = (pSys Λ.m Λ.bo).pn sc n
 | 0=>toP_begs _
 | n + 1=>by
  show toP ((bodiesSys Λ).step ((bodiesSys Λ).pn sc n) (sc n)) = (pSys Λ.m Λ.bo).step ((pSys Λ.m Λ.bo).pn sc n) (sc n)
  rw [toP_step,toP_pn sc n]
theorem toP_wt (j:Nat) (x:Option ((Nat × Nat) ⊕ Nat)):wtOf (bodiesSys Λ) j x = wtOf (pSys Λ.m Λ.bo) j x:=by
 rcases x with _ | (l | x) <;> rfl
end
def potF (ops:List OpD):(Nat × Nat) ⊕ Nat->Nat
 | .inl (i,j)=>meas ops i j
 | .inr _=>0
theorem opsGo_nts (ops:List OpD):∀ (μ i j:Nat) (c:Cells),meas ops i j = μ->(opsGo ops i j c).nts.length + potF ops (opsGo ops i j c).fate <= μ:=by
 intro μ
 induction μ using Nat.strongRecOn with
 | _ μ ih =>
 intro i j c hμ
 rcases Nat.lt_or_ge i ops.length with hi | hi
 ·obtain ⟨o,ho⟩:∃ o,ops[i]? = some o:=⟨_,List.getElem?_eq_getElem hi⟩
  have hn:=meas_next (j:=j) hi
  have hstep:∀ c',(opsGo ops (i + 1) j c').nts.length + potF ops (opsGo ops (i + 1) j c').fate <= meas ops (i + 1) j:=fun c'=>ih _ (by omega) (i + 1) j c' rfl
  rw [opsGo_at ho]
  split
  ·show 0 + meas ops i j <= μ
   omega
  split
  ·have:=hstep c
   show ((opsGo ops (i + 1) j c).nts.length + 1) + potF ops (opsGo ops (i + 1) j c).fate <= μ
   omega
  split
  ·have:=hstep (addC c (at4 o.to) o.by_); omega
  split
  ·exact Nat.zero_le _
  split
  ·exact Nat.zero_le _
  split
  ·rename_i hj
   have hj':j < 50:=by
    simp only [jumps,Bool.and_eq_true,decide_eq_true_eq] at hj
    exact hj.1.1.2
   have hm:=meas_jump (ops:=ops) (i:=i) (k:=o.cell.toNat) hj'
   have:=ih _ (by omega) o.cell.toNat (j + 1) c rfl
   omega
  ·have:=hstep c; omega
 ·rw [opsGo_end (by omega)]
  exact Nat.zero_le _
def potN (bo:Nat->List OpD) (ft:List ((Nat × Nat) ⊕ Nat)) (i:Nat):Nat:=match ft[i]? with
 | some f=>potF (bo i) f
 | none=>meas (bo i) 0 0
section
variable {m:Nat} {bo:Nat->List OpD}
def NtsOk (m:Nat) (bo:Nat->List OpD) (p:PR (pSys m bo)):Prop:=p.ft.length <= m/\p.nts.length + sumTo m (potN bo p.ft) <= sumTo m fun i=>meas (bo i) 0 0
theorem sumTo_upd1 {f:Nat->Nat} {g:Nat->Nat} {i m:Nat} (hi:i < m) (h:∀ j,j ≠ i->f j = g j):sumTo m f + g i = sumTo m g + f i:=by
 have:=sumTo_upd (α:=Nat) g (f i) (fun x=>x) hi
 have h2:sumTo m (fun a=>(Go.ConcN.upd g i (f i)) a) = sumTo m f:=sumTo_congr fun j _=>by
  by_cases hj:j = i
  ·subst hj; exact Go.ConcN.upd_same _ _ _
  ·rw [Go.ConcN.upd_ne _ _ hj,h j hj]
 simp only [h2] at this
 exact this
theorem tell_len (i n:Nat) (l:List Nte):(tell i n l).length = l.length:=by simp [tell]
theorem NtsOk.bgn {p:PR (pSys m bo)} (h:NtsOk m bo p) (hl:p.ft.length < m):NtsOk m bo ((pSys m bo).bgn p):=by
 obtain ⟨h1,h2⟩:=h
 have hb:(pSys m bo).bgn p = { p with s:=(opsGo (bo p.ft.length) 0 0 p.s).s,ft:=p.ft ++ [(opsGo (bo p.ft.length) 0 0 p.s).fate],nts:=p.nts ++ tell p.ft.length p.evs.length (opsGo (bo p.ft.length) 0 0 p.s).nts,outs:=p.outs ++ [opsGo (bo p.ft.length) 0 0 p.s],who:=p.who ++ [none] }:=rfl
 rw [hb]
 refine ⟨?_,?_⟩
 ·show (p.ft ++ [_]).length <= m
  rw [List.length_append]; exact hl
 ·have hs:=opsGo_nts (bo p.ft.length) _ 0 0 p.s rfl
  have hq:=sumTo_upd1 (f:=potN bo (p.ft ++ [(opsGo (bo p.ft.length) 0 0 p.s).fate])) (g:=potN bo p.ft) hl fun j hj=>by
   unfold potN
   rcases Nat.lt_or_ge j p.ft.length with z | z
   ·rw [List.getElem?_append_left z]
   ·rw [List.getElem?_eq_none z,List.getElem?_eq_none]
    rw [List.length_append]
    show p.ft.length + 1 <= j
    omega
  have e1:potN bo (p.ft ++ [(opsGo (bo p.ft.length) 0 0 p.s).fate]) p.ft.length = potF (bo p.ft.length) (opsGo (bo p.ft.length) 0 0 p.s).fate:=by
   unfold potN; simp
  have e2:potN bo p.ft p.ft.length = meas (bo p.ft.length) 0 0:=by
   unfold potN; simp
  show (p.nts ++ tell _ _ _).length + sumTo m (potN bo (p.ft ++ [_])) <= _
  rw [List.length_append,tell_len]
  omega
theorem NtsOk.turn {p:PR (pSys m bo)} (h:NtsOk m bo p) (i:Nat):NtsOk m bo ((pSys m bo).turn p i):=by
 obtain ⟨h1,h2⟩:=h
 unfold Sys.turn
 split
 ·rename_i l hl
  obtain ⟨hil,_⟩:=List.getElem?_eq_some_iff.1 hl
  have hs:((pSys m bo).go i l p.s).nts.length + potF (bo i) ((pSys m bo).go i l p.s).fate <= potF (bo i) (.inl l):=by
   obtain ⟨k,j⟩:=l
   show ((match (bo i)[k]? with | some o=>opsGo (bo i) (k + 1) j (addC p.s (at4 o.to) o.by_) | none=>⟨p.s,[],.inr 1⟩:Out' Cells (Nat × Nat))).nts.length + potF (bo i) (match (bo i)[k]? with | some o=>opsGo (bo i) (k + 1) j (addC p.s (at4 o.to) o.by_) | none=>⟨p.s,[],.inr 1⟩:Out' Cells (Nat × Nat)).fate <= meas (bo i) k j
   cases ho:(bo i)[k]? with
   | none=>exact Nat.zero_le _
   | some o =>
    have:=opsGo_nts (bo i) _ (k + 1) j (addC p.s (at4 o.to) o.by_) rfl
    have:=meas_next (ops:=bo i) (j:=j) (List.getElem?_eq_some_iff.1 ho).1
    show (opsGo _ _ _ _).nts.length + potF _ (opsGo _ _ _ _).fate <= _
    omega
  refine ⟨?_,?_⟩
  ·show (p.ft.set i _).length <= m
   rw [List.length_set]; exact h1
  ·have hq:=sumTo_upd1 (m:=m) (i:=i) (f:=potN bo (p.ft.set i ((pSys m bo).go i l p.s).fate)) (g:=potN bo p.ft) (by omega) fun j hj=>by
    unfold potN
    rw [List.getElem?_set_ne (Ne.symm hj)]
   have e1:potN bo (p.ft.set i ((pSys m bo).go i l p.s).fate) i = potF (bo i) ((pSys m bo).go i l p.s).fate:=by
    unfold potN; simp [hil]
   have e2:potN bo p.ft i = potF (bo i) (.inl l):=by
    have hl':p.ft[i]? = some (.inl l):=hl
    unfold potN; rw [hl']
   show (p.nts ++ tell _ _ _).length + sumTo m (potN bo (p.ft.set i _)) <= _
   rw [List.length_append,tell_len]
   omega
 ·exact ⟨h1,h2⟩
theorem nts_ok (sc:Nat->Int):∀ n,NtsOk m bo (PB m bo sc n)
 | 0=>by
  have:∀ k,k <= m->NtsOk m bo ((pSys m bo).begs k):=by
   intro k
   induction k with
   | zero=>intro _; exact ⟨Nat.zero_le _,by show 0 + sumTo m _ <= _; rw [Nat.zero_add,sumTo_congr (g:=fun i=>meas (bo i) 0 0)]; exact Nat.le_refl _; intro i _; rfl⟩
   | succ k ih=>intro hk; exact (ih (by omega)).bgn (by rw [Sys.len_begs]; omega)
  exact this m (Nat.le_refl _)
 | n + 1=>by
  show NtsOk m bo ((pSys m bo).step (PB m bo sc n) (sc n))
  unfold Sys.step
  split
  ·exact (nts_ok sc n).turn _
  ·exact nts_ok sc n
theorem nts_len (hm:m <= 16) (hl:∀ i,i < m->(bo i).length <= 1048576) (sc:Nat->Int) (n:Nat):(PB m bo sc n).nts.length <= 1000000000:=by
 have h1:=(nts_ok (m:=m) (bo:=bo) sc n).2
 have h2:sumTo m (fun i=>meas (bo i) 0 0) <= 53477427 * m:=sumTo_le fun i hi=>by
  have:=hl i hi
  unfold meas
  omega
 omega
end
structure BodsAt (w:World) (ba:Option Addr) (m:Nat) (bo:Nat->List OpD) (aa:Nat->Option Addr) (cc:Nat->Nat):Prop where
 sl:SL ba m
 row:∀ i,i < m->w.cell? ⟨ab ba,ao ba + i * 1,none⟩ = some (.slice (aa i) (bo i).length (cc i))
 rsl:∀ i,i < m->SL (aa i) (bo i).length
 op:∀ i,i < m->∀ (k:Nat) (o:OpD),(bo i)[k]? = some o->∀ (j:Nat) (v:Value),(opC o)[j]? = some v->w.cell? ⟨ab (aa i),ao (aa i) + k * 10 + j,none⟩ = some v
 len:∀ i,i < m->(bo i).length <= 1048576
 text:∀ i,i < m->∀ (k:Nat) (o:OpD),(bo i)[k]? = some o->o.text.size <= 1000000000000
theorem cell_lt {w:World} {a:Addr} {v:Value} (h:w.cell? a = some v):a.block < w.heap.size:=by
 unfold World.cell? at h
 rcases Nat.lt_or_ge a.block w.heap.size with z | z
 ·exact z
 ·rw [Array.getElem?_eq_none z] at h; simp at h
theorem cell_nn {w:World} {a:Addr} {v:Value} (h:w.cell? a = some v):w.heap[a.block]? ≠ some nothing:=by
 unfold World.cell? at h
 intro e
 rw [e] at h
 simp [nothing] at h
theorem cell_keep {w0 w:World} {a:Addr} {v:Value} (h:w0.cell? a = some v) (hb:Below w0.heap.size w0 w):w.cell? a = some v:=by
 rw [(cell_of_heap (u:=w0) (u':=w) (a:=a) (hb.block _ (cell_lt h))).1]; exact h
theorem BodsAt.keep {w w':World} {ba:Option Addr} {m:Nat} {bo:Nat->List OpD} {aa:Nat->Option Addr} {cc:Nat->Nat} (h:BodsAt w ba m bo aa cc) (hb:Below w.heap.size w w'):BodsAt w' ba m bo aa cc :=
 ⟨h.sl,fun i hi=>cell_keep (h.row i hi) hb,h.rsl,fun i hi k o ho j v hv=>cell_keep (h.op i hi k o ho j v hv) hb,h.len,h.text⟩
def fvB (b1 b2:Nat->Nat) (k:Nat):Value:=.func (.func 40) #[] #[.pointer (some ⟨b1 k,0,none⟩),.pointer (some ⟨b2 k,0,none⟩)]
structure Boxes (w:World) (B m:Nat) (bo:Nat->List OpD) (aa:Nat->Option Addr) (cc:Nat->Nat) (sb:Nat) (b1 b2:Nat->Nat):Prop where
 le:∀ i,i < m->B <= b1 i/\B <= b2 i
 one:∀ i,i < m->BlkF w (b1 i) #[.slice (aa i) (bo i).length (cc i)] 64 (0,0)
 two:∀ i,i < m->BlkF w (b2 i) #[.pointer (some ⟨sb,0,none⟩)] 32 (0,0)
theorem Boxes.keep {w w':World} {B m sb:Nat} {bo:Nat->List OpD} {aa:Nat->Option Addr} {cc:Nat->Nat} {b1 b2:Nat->Nat} (h:Boxes w B m bo aa cc sb b1 b2) (hb:Below w.heap.size w w'):Boxes w' B m bo aa cc sb b1 b2 :=
 ⟨h.le,fun i hi=>(hb.block _ (h.one i hi).lt).trans (h.one i hi),fun i hi=>(hb.block _ (h.two i hi).lt).trans (h.two i hi)⟩
structure PlayM (B m:Nat) (bo:Nat->List OpD) (sn:Nat) (sc:Nat->Int) (w:World) (R:Rn):Prop where
 mem:RunM w B R
 hm:R.m = m
 evs:R.evs = (PB m bo sc sn).evs
 nts:R.nts = (PB m bo sc sn).nts
 used:R.used = (PB m bo sc sn).used
 ends:∀ j,j < m->R.ends[j]? = some (endOf (PB m bo sc sn).ft[j]?)
 wts:∀ j,j < m->R.wts[j]? = some (wtOf (pSys m bo) j ((PB m bo sc sn).ft[j]?))
 stuck:R.stuck = ((PB m bo sc sn).ft.any (·.isLeft) && ((pSys m bo).rds (PB m bo sc sn)).isEmpty)
 fp:∀ b,R.fp b->B <= b
theorem PlayM.congr {B m sn:Nat} {bo:Nat->List OpD} {sc:Nat->Int} {w w':World} {R:Rn} (h:PlayM B m bo sn sc w R) (he:∀ k,R.fp k->w'.heap[k]? = w.heap[k]?):PlayM B m bo sn sc w' R :=
 ⟨h.mem.congr he,h.hm,h.evs,h.nts,h.used,h.ends,h.wts,h.stuck,h.fp⟩
theorem PlayM.keep {B m sn:Nat} {bo:Nat->List OpD} {sc:Nat->Int} {w w':World} {R:Rn} (h:PlayM B m bo sn sc w R) (hb:Below w.heap.size w w'):PlayM B m bo sn sc w' R:=h.congr fun k hk=>hb.block k (h.mem.lt hk)
theorem PlayM.down {B B' m sn:Nat} {bo:Nat->List OpD} {sc:Nat->Int} {w:World} {R:Rn} (h:PlayM B' m bo sn sc w R) (hB:B <= B'):PlayM B m bo sn sc w R:=by
 obtain ⟨h1,h2,h3,h4,h5,h6,h7,h8,h9⟩:=h
 exact ⟨⟨h1.run,h1.cls.down hB,h1.evs.down hB,h1.nts.down hB,h1.ends,h1.wts,h1.lend,h1.lwts,h1.lcl,h1.blk⟩,h2,h3,h4,h5,h6,h7,h8,fun b hb=>Nat.le_trans hB (h9 b hb)⟩
theorem play_run {lb:Nat} {pl:Nat->Plug} {m sn sb lc gc:Nat} {bo:Nat->List OpD} {sc:Nat->Int} {ba l g:Option Addr} {aa:Nat->Option Addr} {cc:Nat->Nat} {b1 b2:Nat->Nat} {tl:List Value} {w0 w:World} (hBo:BodsAt w0 ba m bo aa cc) (hb:Below w0.heap.size w0 w) (hm:m <= 16) (hsn:sn <= 262144)
  (hl:Own w w0.heap.size 52 1 l m lc ((List.range m).map (fvB b1 b2))) {gn:Nat} (hg:Own w w0.heap.size 3 1 g gn gc ((List.range sn).map (fun j=>.int .i64 (sc j)) ++ tl)) (hgn:sn <= gn) (hS:BlkF w sb (shC fun _=>0) 39 (0,0)) (hsb:w0.heap.size <= sb) (hx:Boxes w w0.heap.size m bo aa cc sb b1 b2) :
  @C Try.prog (loneCtx lb pl) 19 #[.slice l m lc,.slice g sn gc] w fun v w'=>∃ R,v = .tuple #[outV R,.int .i64 0]/\PlayM w.heap.size m bo sn sc w' R/\¬ R.fp sb/\BlkF w' sb (shC (PB m bo sc sn).s) 39 (0,0)/\w.grownBy w' (some sb):=by
 classical
 let RO:Nat->Prop:=fun b=>∃ i,i < m/\(b = b1 i\/b = b2 i\/(0 < (bo i).length/\b = ab (aa i)))
 let Λ:Lay:=⟨m,sb,bo,aa,cc,b1,b2,RO,w,lb,pl⟩
 have hBw:=hBo.keep hb
 have hop0:∀ i,i < m->0 < (bo i).length->∃ v,w0.cell? ⟨ab (aa i),ao (aa i) + 0 * 10 + 0,none⟩ = some v:=fun i hi hl0=>by
  obtain ⟨o,ho⟩:∃ o,(bo i)[0]? = some o:=⟨_,List.getElem?_eq_getElem hl0⟩
  exact ⟨_,hBo.op i hi 0 o ho 0 _ rfl⟩
 have hlow:∀ i,i < m->0 < (bo i).length->ab (aa i) < w0.heap.size:=fun i hi hl0=>by
  obtain ⟨v,hv⟩:=hop0 i hi hl0
  exact cell_lt hv
 have hsep:¬ RO sb:=by
  rintro ⟨i,hi,h | h | ⟨h0,h⟩⟩
  ·exact BlkF.ne hS (hx.one i hi) (by decide) h
  ·exact BlkF.ne hS (hx.two i hi) (by decide) h
  ·have:=hlow i hi h0; omega
 have hrolt:∀ b,RO b->b < w.heap.size/\w.heap[b]? ≠ some nothing:=by
  rintro b ⟨i,hi,rfl | rfl | ⟨h0,rfl⟩⟩
  ·exact ⟨(hx.one i hi).lt,blkF_ne_nothing (hx.one i hi) Nat.one_pos⟩
  ·exact ⟨(hx.two i hi).lt,blkF_ne_nothing (hx.two i hi) Nat.one_pos⟩
  ·obtain ⟨v,hv⟩:=hop0 i hi h0
   have hv':=cell_keep hv hb
   exact ⟨cell_lt hv',cell_nn hv'⟩
 have hΛ:LayOk Λ:=⟨hBw.op,hBw.rsl,hsep,fun i hi h0=>⟨i,hi,.inr (.inr ⟨h0,rfl⟩)⟩,fun i hi=>⟨i,hi,.inl rfl⟩,fun i hi=>⟨i,hi,.inr (.inl rfl)⟩,hx.one,hx.two,fun i hi=>Nat.le_trans (hBo.len i hi) (by decide),hBo.text⟩
 let Mn:Nat->Option Obj:=fun b=>if b = sb\/RO b then none else w.heap[b]?
 have hO:RunOk (bodiesSys Λ) (fun _=>40) (fun i=>#[.pointer (some ⟨b1 i,0,none⟩),.pointer (some ⟨b2 i,0,none⟩)]) (fvB b1 b2) l g sn sc:=by
  refine ⟨bodies_ok Λ,hm,hsn,hl.sl,fun h=>hg.sl (by omega),fun i hi=>.inr ⟨rfl,rfl,_,Try.func40,rfl,nm40⟩,?_,fun base i cb top u F hi _ hs=>?_⟩
  ·have:=nts_len (bo:=bo) hm hBo.len sc sn
   have h2:=congrArg PR.nts (toP_pn (Λ:=Λ) sc sn)
   have h3:((bodiesSys Λ).pn sc sn).nts = (PB m bo sc sn).nts:=h2
   rw [h3]; exact this
  ·obtain ⟨rfl,h1⟩:=BSt.start hs
   exact body_p hΛ hi _ u h1 (Proc ((bodiesSys Λ).cfg (fun _=>40) ((bodiesSys Λ).pn sc sn) base i cb top)) rfl top fun e u2 fr he hf hl=>.done hf hl he
 have key:=run_c (Mn:=Mn) (w0:=w) (F:=Λ.F) (bc:=lc) (scp:=gc) hO (fun b o h=>by
   have h:(if b = sb\/RO b then none else w.heap[b]?) = some o:=h
   split at h
   ·cases h
   ·exact h) ⟨rfl,hS,fun b hb=>⟨rfl,hrolt b hb⟩,fun k=>⟨by show (_:Int) <= 0; decide,by show (0:Int) <= _; decide⟩⟩ (fun b hb=>if_pos hb) (fun w' hw j hj=>by
   have hj:j < m:=hj
   have hla:l ≠ none:=hl.some_of (by omega)
   have hb2:¬ (ab l = sb\/RO (ab l)):=by
    obtain ⟨cur,hc,hle,_⟩:=hl.row hla
    have hc:BlkF w (ab l) cur _ (0,0):=hc
    rintro (h | ⟨i,hi,h | h | ⟨h0,h⟩⟩)
    ·exact BlkF.ne hc hS (by decide) h
    ·exact BlkF.ne hc (hx.one i hi) (by decide) h
    ·exact BlkF.ne hc (hx.two i hi) (by decide) h
    ·have:=hlow i hi h0; omega
   have h1:Mn (ab l) = w.heap[ab l]?:=if_neg hb2
   have h2:w'.heap[ab l]? = w.heap[ab l]?:=by
    rw [<- h1]; refine hw _ ?_
    rw [h1,Array.getElem?_eq_getElem (hl.lt hla)]; simp
   rw [(cell_of_heap (u:=w) (u':=w') (a:=⟨ab l,ao l + j * 1,none⟩) h2).1,hl.off,Nat.zero_add,Nat.mul_one]
   exact hl.cell (by simp [hj])) (fun w' hw j hj=>by
   have hla:g ≠ none:=hg.some_of (by omega)
   have hb2:¬ (ab g = sb\/RO (ab g)):=by
    obtain ⟨cur,hc,hle,_⟩:=hg.row hla
    have hc:BlkF w (ab g) cur _ (0,0):=hc
    rintro (h | ⟨i,hi,h | h | ⟨h0,h⟩⟩)
    ·exact BlkF.ne hc hS (by decide) h
    ·exact BlkF.ne hc (hx.one i hi) (by decide) h
    ·exact BlkF.ne hc (hx.two i hi) (by decide) h
    ·have:=hlow i hi h0; omega
   have h1:Mn (ab g) = w.heap[ab g]?:=if_neg hb2
   have h2:w'.heap[ab g]? = w.heap[ab g]?:=by
    rw [<- h1]; refine hw _ ?_
    rw [h1,Array.getElem?_eq_getElem (hg.lt hla)]; simp
   rw [(cell_of_heap (u:=w) (u':=w') (a:=⟨ab g,ao g + j * 1,none⟩) h2).1,hg.off,Nat.zero_add,Nat.mul_one]
   refine hg.cell ?_
   rw [List.getElem?_append_left (by simp [hj])]
   simp [hj])
 refine @Calls.mono _ (loneCtx lb pl) _ _ _ _ _ key fun e w' he=>?_
 cases e with
 | panicked ch=>exact he.elim
 | outgrown=>exact he.elim
 | returned v =>
  obtain ⟨R,rfl,hD⟩:=he
  obtain ⟨F,⟨rfl,hI⟩,hF⟩:=hD.inv
  have hpn:=toP_pn (Λ:=Λ) sc sn
  have hs:((bodiesSys Λ).pn sc sn).s = (PB m bo sc sn).s:=congrArg PR.s hpn
  refine ⟨R,rfl,⟨hD.mem,hD.m,hD.evs.trans (congrArg PR.evs hpn),hD.nts.trans (congrArg PR.nts hpn),hD.used.trans (congrArg PR.used hpn),fun j hj=>?_,fun j hj=>?_,?_,hD.fp⟩,hF sb (.inl rfl),?_,hD.os,hD.tape,hD.output,hD.size,fun b hb hne=>?_⟩
  ·rw [hD.ends j hj]
   exact congrArg (fun x:List ((Nat × Nat) ⊕ Nat)=>some (endOf x[j]?)) (congrArg PR.ft hpn)
  ·rw [hD.wts j hj]
   exact (congrArg some (toP_wt j _)).trans (congrArg (fun x:List ((Nat × Nat) ⊕ Nat)=>some (wtOf (pSys m bo) j x[j]?)) (congrArg PR.ft hpn))
  ·rw [hD.stuck,toP_rds,hpn]
   exact congrArg (fun x:List ((Nat × Nat) ⊕ Nat)=>(x.any (·.isLeft) && _)) (congrArg PR.ft hpn)
  ·rw [<- hs]; exact hI.sh
  ·have hne':b ≠ sb:=fun e=>hne (by rw [e])
   by_cases hr:RO b
   ·exact (hI.ro b hr).1
   ·have h1:Mn b = w.heap[b]?:=if_neg fun h=>h.elim hne' hr
    rw [<- h1]
    refine hD.keep b ?_
    rw [h1,Array.getElem?_eq_getElem hb]; simp
end Go.Vy.Sc
end
/- Results that lie in cells. Nothing here speaks of a program. -/
section
namespace Go.Vc
open Go Go.RowKit
end Go.Vc
namespace Go.Vy
open Go Go.Conc Go.Yc Go.RowKit
open Go.Vc
theorem results_cell_tmp2 {fn:Func} {p u v:Tmp} {ty:TypeId} (h:fn.results = #[.cell p ty,.tmp u,.tmp v]) (tmps:Array Value) (P:Program) (w:World) :
  (results fn tmps).run P w = ((do let a <- asAddr (tmps.getD p undef); let x <- loadVar ty a; pure (.tuple #[x,tmps.getD u undef,tmps.getD v undef])):Sem Value).run P w:=by
 simp [results,h]
theorem load_whole {P:Program} {w:World} {b:Nat} {cs:Array Value} {T E:TypeId} {d:TypeDesc} (hT:P.underlying T = some d) (hu:flatB d = false) (hs:(P.info? T).map (·.size) = some cs.size) (hB:Blk w b cs E):(loadVar T ⟨b,0,Option.none⟩).run P w = .ok (.agg cs) w:=by
 have h2:∀ j v,cs.toList[j]? = some v->w.cell? ((⟨b,0,Option.none⟩:Addr).add j) = some v:=fun j v hj=>by
  rw [Addr.add_lit,Nat.zero_add]; exact hB.cell (by simpa using hj)
 have:=run_loadCells_list (P:=P) (w:=w) ⟨b,0,Option.none⟩ cs.toList h2
 simp only [Array.length_toList] at this
 simp [loadVar,Go.Vc.run_isAgg hT,hu,Go.Vc.run_sizeOf hs,this]
theorem ends.cellTmp2 {P:Program} [Ctx P] {fn:Func} {R:Value->World->Prop} {x:Exit} {e:Env} {w:World} {t u v b:Nat} {cs:Array Value} {T E:TypeId} {d:TypeDesc} (hx:x = .normal\/x = .ret) (hr:fn.results = #[.cell t T,.tmp u,.tmp v])
  (he:e t = .pointer (some ⟨b,0,Option.none⟩)) (hT:P.underlying T = some d) (hu:flatB d = false) (hs:(P.info? T).map (·.size) = some cs.size) (hB:Blk w b cs E) (h:R (.tuple #[.agg cs,e u,e v]) w):ends P fn R x e w :=
 ⟨hx,_,fun tmps ht=>resDoes_tame tame_results fun τ d'=>by
  have hB:Blk (onT w τ d') b cs E:=hB
  generalize onT w τ d' = w at hB ⊢
  have h3:tmps.getD t undef = .pointer (some ⟨b,0,Option.none⟩):=by rw [ht,he]
  rw [results_cell_tmp2 hr,h3]
  simp [asAddr,load_whole hT hu hs hB,ht],h⟩
theorem d_bool {P:Program} {S:Sem Next} {w:World} {p:Prop} [Decidable p] {r:Bool} (h:decide p = r) (hd:Does P S w (.val (.bool (decide p))) w):Does P S w (.val (.bool r)) w:=h ▸ hd
theorem Own.neBlk {w:World} {B s n c b:Nat} {E T:TypeId} {a:Option Addr} {xs:List Value} {cs:Array Value} {f:Nat × Nat} (h:Own w B E s a n c xs) (hb:BlkF w b cs T f) (hne:E ≠ T):a ≠ none->ab a ≠ b:=fun ha=>by
 obtain ⟨cur,hc,_⟩:=h.row ha
 have hc:BlkF w (ab a) cur E (0,0):=hc
 exact hc.ne hb hne
theorem Own.neBlk' {w:World} {B s n c b:Nat} {E T:TypeId} {a:Option Addr} {xs:List Value} {cs:Array Value} {f:Nat × Nat} (h:Own w B E s a n c xs) (hb:BlkF w b cs T f) (hne:E ≠ T) (h0:0 < n):ab a ≠ b:=Own.neBlk h hb hne (h.some_of h0)
end Go.Vy
end
/- A play: bodies under a script. -/
section
namespace Go.Vy.Sc
open Go Go.Conc Go.Yc Go.RowKit Go.Proofs Go.Proofs.Ytfmoeemolgjodaa
open Go.Vc Go.Wg
theorem Boxes.mod {w w':World} {B B' m sb:Nat} {TS:List TypeId} {bo:Nat->List OpD} {aa:Nat->Option Addr} {cc:Nat->Nat} {b1 b2:Nat->Nat} (h:Boxes w B m bo aa cc sb b1 b2) (hm:ModT w w' B' TS) (hT:(TS.contains 64 || TS.contains 32) = false):Boxes w' B m bo aa cc sb b1 b2:=by
 rw [Bool.or_eq_false_iff] at hT
 exact ⟨h.le,fun i hi=>Blk.mod (h.one i hi) hm hT.1,fun i hi=>Blk.mod (h.two i hi) hm hT.2⟩
theorem Boxes.snoc {w:World} {B m sb x y:Nat} {bo:Nat->List OpD} {aa:Nat->Option Addr} {cc:Nat->Nat} {b1 b2:Nat->Nat} (h:Boxes w B m bo aa cc sb b1 b2) (hx:BlkF w x #[.slice (aa m) (bo m).length (cc m)] 64 (0,0)) (hy:BlkF w y #[.pointer (some ⟨sb,0,none⟩)] 32 (0,0)) (lx:B <= x) (ly:B <= y):Boxes w B (m + 1) bo aa cc sb (upN b1 m x) (upN b2 m y):=by
 have key:∀ i,i < m + 1->i ≠ m->i < m:=fun i hi hn=>by omega
 refine ⟨fun i hi=>?_,fun i hi=>?_,fun i hi=>?_⟩ <;> by_cases hn:i = m
 ·subst hn; rw [upN_eq,upN_eq]; exact ⟨lx,ly⟩
 ·rw [upN_ne hn,upN_ne hn]; exact h.le i (key i hi hn)
 ·subst hn; rw [upN_eq]; exact hx
 ·rw [upN_ne hn]; exact h.one i (key i hi hn)
 ·subst hn; rw [upN_eq]; exact hy
 ·rw [upN_ne hn]; exact h.two i (key i hi hn)
theorem range_fv {m x y:Nat} {b1 b2:Nat->Nat}:(List.range (m + 1)).map (fvB (upN b1 m x) (upN b2 m y)) = (List.range m).map (fvB b1 b2) ++ [.func (.func 40) #[] #[.pointer (some ⟨x,0,none⟩),.pointer (some ⟨y,0,none⟩)]]:=by
 rw [List.range_succ,List.map_append]
 congr 1
 ·apply List.map_congr_left
  intro i hi
  have:i ≠ m:=by have:i < m:=(by simpa using hi); omega
  unfold fvB
  rw [upN_ne this,upN_ne this]
 ·simp [fvB,upN_eq]
theorem PlayM.otherB {B m sn b:Nat} {bo:Nat->List OpD} {sc:Nat->Int} {w w':World} {R:Rn} (h:PlayM B m bo sn sc w R) (hg:w.grownBy w' (some b)) (hn:¬ R.fp b):PlayM B m bo sn sc w' R :=
 h.congr fun k hk=>hg.block k (h.mem.lt hk) fun e=>hn (by cases e; exact hk)
structure ScAt (w:World) (sa:Option Addr) (sn scp:Nat) (sc:Nat->Int):Prop where
 sl:SL sa sn
 nil:sa = none->sn = 0/\scp = 0
 cap:sn <= scp
 cell:∀ j,j < sn->w.cell? ⟨ab sa,ao sa + j * 1,none⟩ = some (.int .i64 (sc j))
theorem ScAt.keep {w w':World} {sa:Option Addr} {sn scp:Nat} {sc:Nat->Int} (h:ScAt w sa sn scp sc) (hb:Below w.heap.size w w'):ScAt w' sa sn scp sc:=⟨h.sl,h.nil,h.cap,fun j hj=>cell_keep (h.cell j hj) hb⟩
theorem ScAt.src {w:World} {sa:Option Addr} {sn scp:Nat} {sc:Nat->Int} (h:ScAt w sa sn scp sc) (ad:Addr) (had:sa = some ad) (j:Nat) (u:Value) (hj:((List.range sn).map fun j=>Value.int .i64 (sc j))[j]? = some u):w.cell? (ad.add j) = some u:=by
 have hl:j < sn:=by
  have:=(List.getElem?_eq_some_iff.1 hj).1
  simpa using this
 have:=h.cell j hl
 have hs:=h.sl (by omega)
 rw [had] at hs
 have hs:=Option.some.inj hs
 rw [hs,Addr.add_lit]
 rw [had] at this
 rw [Nat.mul_one] at this
 simp [hl] at hj
 rw [<- hj]; exact this
theorem buP_0:Try.prog.built 31 [] = some #[.slice none 0 0,.slice none 0 0,.slice none 0 0,.slice none 0 0,.bool false,.int .i64 0]:=by kernel_rfl
theorem buP_1:Try.prog.built 39 [] = some #[.int .i64 0,.int .i64 0,.int .i64 0,.int .i64 0,.bool false,.bool false]:=by kernel_rfl
section
variable [Ctx Try.prog]
theorem mkbody_c (sb n c:Nat) (a:Option Addr) (w0:World):C Try.prog 30 #[.pointer (some ⟨sb,0,none⟩),.slice a n c] w0 fun v w=>∃ x y,v = .func (.func 40) #[] #[.pointer (some ⟨x,0,none⟩),.pointer (some ⟨y,0,none⟩)]/\BlkF w x #[.slice a n c] 64 (0,0)/\BlkF w y #[.pointer (some ⟨sb,0,none⟩)] 32 (0,0)/\w0.heap.size <= x/\w0.heap.size <= y/\Below w0.heap.size w0 w:=by
 refine C.enter (n:=6) Try.func30 rfl rfl ?_
 have hb:Below w0.heap.size w0 w0:=Below.refl _ _
 skip
 refine W.seq ?_
 refine W.region rfl ?_
 refine L.box (cs:=#[.pointer (some (⟨sb,0,none⟩))]) rfl rfl (fun w b2 F2=>?_)
 have lt2:w0.heap.size <= b2:=by have h9:=F2.here; have h8:=hb.size; omega
 have hb:=cl_step hb F2.below
 have hB2:=F2.blk
 refine L.box (cs:=#[.slice a n c]) rfl rfl (fun w b3 F3=>?_)
 have lt3:w0.heap.size <= b3:=by have h9:=F3.here; have h8:=hb.size; omega
 have hb:=cl_step hb F3.below
 have hB2:=hB2.keep F3.below
 have hB3:=F3.blk
 refine L.va x_assign ?_
 refine L.nil ?_
 show W _ _ _ _ _ _
 refine W.seq ?_
 refine W.region rfl ?_
 refine L.va (x_makeFuncL (l:=[.tmp 3,.tmp 2]) (vs:=[.pointer (some ⟨b3,0,none⟩),.pointer (some ⟨b2,0,none⟩)]) rfl) ?_
 refine L.va (x_asF rfl) ?_
 refine L.nil ?_
 show W _ _ _ _ _ _
 refine W.ret ?_
 repeat (first | refine T.ret ?_ | refine B.ret ?_ | refine N.ret ?_)
 refine ends.one (.inr rfl) rfl ?_
 exact ⟨_,_,rfl,hB3,hB2,lt3,lt2,hb⟩
theorem runlong_c (ba sa:Option Addr) (m bc sn scp:Nat) (w0:World) (hm:m <= 16) (h:262144 < sn):C Try.prog 19 #[.slice ba m bc,.slice sa sn scp] w0 fun v w=>v = .tuple #[.agg #[.slice none 0 0,.slice none 0 0,.slice none 0 0,.slice none 0 0,.bool false,.int .i64 0],.int .i64 1]/\Below w0.heap.size w0 w:=by
 refine C.enter (n:=83) Try.func19 rfl rfl ?_
 have hb:Below w0.heap.size w0 w0:=Below.refl _ _
 refine W.seq ?_
 refine W.region rfl ?_
 refine L.alloc (cs:=#[.slice none 0 0,.slice none 0 0,.slice none 0 0,.slice none 0 0,.bool false,.int .i64 0]) zr31 rfl (fun w b4 F4=>?_)
 have lt4:w0.heap.size <= b4:=by have h9:=F4.here; have h8:=hb.size; omega
 have hb:=cl_step hb F4.below
 have hB4:=F4.blk
 refine L.va (x_asI rfl) ?_
 refine L.nil ?_
 show W _ _ _ _ _ _
 refine W.seq ?_
 refine W.seq ?_
 refine W.region rfl ?_
 refine L.va (x_mvS rfl) ?_
 refine L.va (x_len rfl Try.underlying49 rfl) ?_
 refine L.va (x_gtr rfl rfl) ?_
 refine L.nil ?_
 show W _ _ _ _ _ _
 refine W.condF (congrArg Value.bool (decide_eq_false (by omega))) ?_
 refine W.skip ?_
 show W _ _ _ _ _ _
 refine W.seq ?_
 refine W.seq ?_
 refine W.region rfl ?_
 refine L.va (x_mvS rfl) ?_
 refine L.va (x_len rfl Try.underlying26 rfl) ?_
 refine L.va (x_gtr rfl rfl) ?_
 refine L.nil ?_
 show W _ _ _ _ _ _
 refine W.condT (congrArg Value.bool (decide_eq_true (by omega))) ?_
 refine W.seq ?_
 refine W.region rfl ?_
 refine L.va (x_build (parts:=[]) rfl buP_0) ?_
 refine L.put (b:=b4) (o:=0) (vs:=[.slice none 0 0,.slice none 0 0,.slice none 0 0,.slice none 0 0,.bool false,.int .i64 0]) #[.slice none 0 0,.slice none 0 0,.slice none 0 0,.slice none 0 0,.bool false,.int .i64 0] rfl rfl rfl sz31 rfl rfl hB4 (Nat.le_of_ble_eq_true rfl) rfl (fun w hnew hg hsz=>?_)
 have hm0:=ModT.put0 hB4 hg
 have hb:=below_gr hb hb.size hg lt4
 have hB4:=hnew
 clear hm0
 refine L.va (x_asI rfl) ?_
 refine L.nil ?_
 show W _ _ _ _ _ _
 refine W.ret ?_
 repeat (first | refine T.ret ?_ | refine B.ret ?_ | refine N.ret ?_)
 refine ends.cellTmp (cs:=#[.slice none 0 0,.slice none 0 0,.slice none 0 0,.slice none 0 0,.bool false,.int .i64 0]) (.inr rfl) rfl rfl Try.underlying31 rfl sz31 hB4 ?_
 exact ⟨rfl,hb⟩
end
set_option maxHeartbeats 1000000 in
theorem play_c {lb:Nat} {pl:Nat->Plug} {m bc sn scp:Nat} {bo:Nat->List OpD} {sc:Nat->Int} {ba sa:Option Addr} {aa:Nat->Option Addr} {cc:Nat->Nat} (w0:World) (hBo:BodsAt w0 ba m bo aa cc) (hSc:ScAt w0 sa sn scp sc) (hm:m <= 16) (hsn:sn <= 262144):@C Try.prog (loneCtx lb pl) 14 #[.slice ba m bc,.slice sa sn scp] w0 fun v w=>∃ R sb,v = .tuple #[outV R,.pointer (some ⟨sb,0,none⟩),.int .i64 0]/\PlayM w0.heap.size m bo sn sc w R/\¬ R.fp sb/\BlkF w sb #[.int .i64 ((PB m bo sc sn).s 0),.int .i64 ((PB m bo sc sn).s 1),.int .i64 ((PB m bo sc sn).s 2),.int .i64 ((PB m bo sc sn).s 3),.bool false,.bool true] 39 (0,0)/\w0.heap.size <= sb/\Below w0.heap.size w0 w:=by
 letI:Ctx Try.prog:=loneCtx lb pl
 refine C.enter (n:=68) Try.func14 rfl rfl ?_
 have hb:Below w0.heap.size w0 w0:=Below.refl _ _
 refine W.seq ?_
 refine W.region rfl ?_
 refine L.alloc (cs:=#[.slice none 0 0,.slice none 0 0,.slice none 0 0,.slice none 0 0,.bool false,.int .i64 0]) zr31 rfl (fun w b4 F4=>?_)
 have lt4:w0.heap.size <= b4:=by have h9:=F4.here; have h8:=hb.size; omega
 have hb:=cl_step hb F4.below
 have hB4:=F4.blk
 refine L.va (x_asP rfl) ?_
 refine L.va (x_asI rfl) ?_
 refine L.nil ?_
 show W _ _ _ _ _ _
 refine W.seq ?_
 refine W.region rfl ?_
 refine L.va (x_build (parts:=[]) rfl buP_1) ?_
 refine L.box (cs:=#[.int .i64 0,.int .i64 0,.int .i64 0,.int .i64 0,.bool false,.bool false]) rfl rfl (fun w b14 F14=>?_)
 have lt14:w0.heap.size <= b14:=by have h9:=F14.here; have h8:=hb.size; omega
 have hb:=cl_step hb F14.below
 have hB4:=hB4.keep F14.below
 have hB14:=F14.blk
 refine L.va (x_asP rfl) ?_
 refine L.nil ?_
 show W _ _ _ _ _ _
 refine W.seq ?_
 refine W.region rfl ?_
 refine L.va (x_asS rfl) ?_
 refine L.nil ?_
 show W _ _ _ _ _ _
 refine W.seq ?_
 refine W.seq ?_
 refine W.region rfl ?_
 refine L.va (x_asI rfl) ?_
 refine L.nil ?_
 show W _ _ _ _ _ _
 refine W.block ?_
 refine W.loop (fun k e w=>∃ (i:Nat),∃ (l:Option Addr),∃ (lc:Nat),∃ (b1:Nat->Nat),∃ (b2:Nat->Nat),k = m - i/\e 0 = .slice ba m bc/\e 1 = .slice sa sn scp/\e 4 = .pointer (some ⟨b4,0,none⟩)/\e 5 = .pointer none/\e 6 = .int .i64 0/\e 7 = .pointer (some ⟨b14,0,none⟩)/\e 8 = .slice l i lc/\e 9 = .int .i64 (i:Int)/\i <= m/\Own w w0.heap.size 52 1 l i lc ((List.range i).map (fvB b1 b2))/\Boxes w w0.heap.size i bo aa cc b14 b1 b2/\Blk w b4 #[.slice none 0 0,.slice none 0 0,.slice none 0 0,.slice none 0 0,.bool false,.int .i64 0] 31/\Blk w b14 #[.int .i64 0,.int .i64 0,.int .i64 0,.int .i64 0,.bool false,.bool false] 39/\Below w0.heap.size w0 w) _ ⟨0,none,0,(fun _=>0),(fun _=>0),rfl,rfl,rfl,rfl,rfl,rfl,rfl,rfl,rfl,Nat.zero_le _,Own.nil _ _ _ _,⟨fun i hi=>absurd hi (Nat.not_lt_zero _),fun i hi=>absurd hi (Nat.not_lt_zero _),fun i hi=>absurd hi (Nat.not_lt_zero _)⟩,hB4,hB14,hb⟩ ?_
 rintro k e w ⟨i,l,lc,b1,b2,hk,s0,s1,s4,s5,s6,s7,s8,s9,hi,hl,hx,hB4,hB14,hb⟩
 rw [upd_id s0,upd_id s1,upd_id s4,upd_id s5,upd_id s6,upd_id s7,upd_id s8,upd_id s9]
 clear s0 s1 s4 s5 s6 s7 s8 s9
 refine W.seq ?_
 refine W.seq ?_
 refine W.region rfl ?_
 refine L.va (x_mvI rfl) ?_
 refine L.va (x_mvS rfl) ?_
 refine L.va (x_len rfl Try.underlying25 rfl) ?_
 refine L.va (x_lss rfl rfl) ?_
 refine L.nil ?_
 show W _ _ _ _ _ _
 refine W.condP rfl (fun h18=>?_) (fun h18=>?_)
 ·have hlt:i < m:=by omega
  refine W.skip ?_
  show W _ _ _ _ _ _
  refine W.seq ?_
  refine W.block ?_
  refine W.region rfl ?_
  refine L.va (x_mvS rfl) ?_
  refine L.va (x_mvP rfl) ?_
  refine L.va (x_mvS rfl) ?_
  refine L.va (x_mvI rfl) ?_
  refine L.va (x_idx (i:=i) rfl rfl Try.underlying25 sz64 hBo.sl hlt) ?_
  refine L.va (x_load (v:=.slice (aa i) (bo i).length (cc i)) rfl Try.underlying64 rfl ((hBo.keep hb).row i hlt)) ?_
  refine L.call (x_call2 rfl rfl Try.func30 rfl nm30 rfl) (mkbody_c b14 (bo i).length (cc i) (aa i) w) ?_
  rintro _ w1 ⟨x,y,rfl,hx1,hy1,lx,ly,hbw⟩
  have lx:=Nat.le_trans hb.size lx
  have ly:=Nat.le_trans hb.size ly
  have hb:=cl_step hb hbw
  have hl:=hl.keep hbw
  have hx:=hx.keep hbw
  have hB4:=hB4.keep hbw
  have hB14:=hB14.keep hbw
  clear hbw
  rename World=>w
  have hx1:Blk w x #[.slice (aa i) (bo i).length (cc i)] 64:=hx1
  have hy1:Blk w y #[.pointer (some ⟨b14,0,none⟩)] 32:=hy1
  refine L.build1 (cs:=#[.func (.func 40) #[] #[.pointer (some (⟨x,0,none⟩)),.pointer (some (⟨y,0,none⟩))]]) rfl rfl Try.underlying49 sz52 rfl ⟨_,zr52⟩ (by decide) (fun w b28 F28=>?_)
  have lt28:w0.heap.size <= b28:=by have h9:=F28.here; have h8:=hb.size; omega
  have hb:=cl_step hb F28.below
  have hl:=hl.keep F28.below
  have hx:=hx.keep F28.below
  have hB4:=hB4.keep F28.below
  have hB14:=hB14.keep F28.below
  have hx1:=hx1.keep F28.below
  have hy1:=hy1.keep F28.below
  have hB28:=F28.blk
  refine L.appendAny (B:=w0.heap.size) (m:=1) rfl rfl Try.underlying49 in52 rfl (by decide) hl (fun h=>by cases h) (news:=[.func (.func 40) #[] #[.pointer (some (⟨x,0,none⟩)),.pointer (some (⟨y,0,none⟩))]]) rfl (fun ad had j u hj=>by
   cases had
   rw [Addr.add_lit]
   match j,hj with
   | 0,hj=>cases hj; exact hB28.cellAt 0 rfl) (fun u hu=>by simp only [List.mem_cons,List.not_mem_nil,or_false] at hu; subst hu; rfl) (by omega) (by omega) hb.size (fun l2 lc2 w2 hO2 hg2 hbel _=>?_)
  have hmo:ModT w w2 w0.heap.size [52]:=ModT.app hl hg2 hbel rfl hO2
  have hb:=hb.trans hbel
  have hx:=hx.mod hmo rfl
  have hB4:=hB4.mod hmo rfl
  have hB14:=hB14.mod hmo rfl
  have hx1:=hx1.mod hmo rfl
  have hy1:=hy1.mod hmo rfl
  clear hmo hg2 hbel hl
  rename World=>w
  refine L.va (x_asS rfl) ?_
  refine L.nil ?_
  refine B.nrm ?_
  show W _ _ _ _ _ _
  refine W.region rfl ?_
  refine L.va (x_mvI rfl) ?_
  refine L.va (x_inc rfl rfl (by omega)) ?_
  refine L.va (x_asI rfl) ?_
  refine L.nil ?_
  refine T.nrm ?_
  exact ⟨_,by omega,⟨i + 1,l2,lc2,(upN b1 i x),(upN b2 i y),rfl,rfl,rfl,rfl,rfl,rfl,rfl,rfl,rfl,(by omega),(by rw [range_fv]; exact hO2),(hx.snoc hx1 hy1 lx ly),hB4,hB14,hb⟩⟩
 ·obtain rfl:m = i:=by omega
  refine W.exit ?_
  repeat (first | refine T.exit ?_ | refine N.exit ?_ | refine B.exitNe (by decide) ?_)
  refine B.exitEq ?_
  show W _ _ _ _ _ _
  refine W.seq ?_
  refine W.region rfl ?_
  refine L.build0 Try.underlying26 sz3 (fun w b30 F30=>?_)
  have lt30:w0.heap.size <= b30:=by have h9:=F30.here; have h8:=hb.size; omega
  have hb:=cl_step hb F30.below
  have hl:=hl.keep F30.below
  have hx:=hx.keep F30.below
  have hB4:=hB4.keep F30.below
  have hB14:=hB14.keep F30.below
  have hB30:=F30.blk
  have hO:Own w w0.heap.size 3 1 (some ⟨b30,0,none⟩) 0 0 []:=Own.ofBlk (c:=0) hB30 rfl lt30 (by decide) (by decide)
  clear hB30
  refine L.va (x_mvS rfl) ?_
  refine L.appendAny (B:=w0.heap.size) (m:=sn) rfl rfl Try.underlying26 in3 rfl (by decide) hO hSc.nil (news:=(List.range sn).map fun j=>.int .i64 (sc j)) (by simp) (fun ad had j u hj=>(hSc.keep hb).src ad had j u hj) (fun u hu=>by obtain ⟨j,_,rfl⟩:=List.mem_map.1 hu; rfl) (by omega) (by omega) hb.size (fun g1 gc1 w2 hO2 hg2 hbel _=>?_)
  have hmo:ModT w w2 w0.heap.size [3]:=ModT.app hO hg2 hbel rfl hO2
  have hb:=hb.trans hbel
  have hl:=hl.mod hmo rfl
  have hx:=hx.mod hmo rfl
  have hB4:=hB4.mod hmo rfl
  have hB14:=hB14.mod hmo rfl
  clear hmo hg2 hbel hO
  rename World=>w
  have hO:=hO2
  clear hO2
  refine L.buildF (vs:=[(0,.int .i64 77),(1,.int .i64 78)]) (cs:=#[.int .i64 77,.int .i64 78]) rfl Try.underlying26 sz3 zr3 (by decide) (by kernel_rfl) (fun w b33 F33=>?_)
  have lt33:w0.heap.size <= b33:=by have h9:=F33.here; have h8:=hb.size; omega
  have hb:=cl_step hb F33.below
  have hl:=hl.keep F33.below
  have hx:=hx.keep F33.below
  have hB4:=hB4.keep F33.below
  have hB14:=hB14.keep F33.below
  have hO:=hO.keep F33.below
  have hB33:=F33.blk
  refine L.appendAny (B:=w0.heap.size) (m:=2) rfl rfl Try.underlying26 in3 rfl (by decide) hO (fun h=>by cases h) (news:=[.int .i64 77,.int .i64 78]) rfl (fun ad had j u hj=>by
    cases had
    rw [Addr.add_lit]
    match j,hj with
    | 0,hj=>cases hj; exact hB33.cellAt 0 rfl
    | 1,hj=>cases hj; exact hB33.cellAt 1 rfl) (fun u hu=>by simp only [List.mem_cons,List.not_mem_nil,or_false] at hu; rcases hu with rfl | rfl <;> rfl) (by omega) (by omega) hb.size (fun g gc w2 hO2 hg2 hbel _=>?_)
  have hmo:ModT w w2 w0.heap.size [3]:=ModT.app hO hg2 hbel rfl hO2
  have hb:=hb.trans hbel
  have hl:=hl.mod hmo rfl
  have hx:=hx.mod hmo rfl
  have hB4:=hB4.mod hmo rfl
  have hB14:=hB14.mod hmo rfl
  clear hmo hg2 hbel hO
  rename World=>w
  have hO:=hO2
  clear hO2
  have hgc:sn <= gc:=by
    obtain ⟨_,_,_,h,_⟩:=hO.row (hO.some_of (by omega))
    omega
  rw [List.nil_append] at hO
  refine L.va (x_asS rfl) ?_
  refine L.nil ?_
  show W _ _ _ _ _ _
  refine W.seq ?_
  refine W.region rfl ?_
  refine L.va (x_mvS rfl) ?_
  refine L.va (x_mvS rfl) ?_
  refine L.va (x_mvS rfl) ?_
  refine L.va (x_len rfl Try.underlying26 rfl) ?_
  refine L.va (x_sliceTo (k:=sn) rfl rfl Try.underlying26 sz3 hgc) ?_
  have hn4:b4 ≠ b14:=BlkF.ne (blkF_of hB4) (blkF_of hB14) (by decide)
  refine L.call (x_call2 rfl rfl Try.func19 rfl nm19 rfl) (play_run hBo hb hm hsn hl hO (by omega) hB14 lt14 hx) ?_
  rintro _ w1 ⟨R,rfl,hP,hns,hS,hgr⟩
  have hO:=hO.otherB hgr (Own.neBlk hO (blkF_of hB14) (by decide))
  have hf4:¬ R.fp b4:=fun z=>by have:=hP.fp _ z; have:=hB4.lt; omega
  have hB4:=hB4.other hgr hn4
  have hP:=hP.down hb.size
  have hb:=below_gr hb hb.size hgr lt14
  have hB14:Blk w1 b14 #[.int .i64 ((PB m bo sc sn).s 0),.int .i64 ((PB m bo sc sn).s 1),.int .i64 ((PB m bo sc sn).s 2),.int .i64 ((PB m bo sc sn).s 3),.bool false,.bool false] 39:=hS
  clear hS hgr hl hx
  rename World=>w
  refine L.va (x_mvT rfl) ?_
  refine L.va (x_extract rfl rfl) ?_
  refine L.va (x_extract rfl rfl) ?_
  refine L.alloc (cs:=#[.slice none 0 0,.slice none 0 0,.slice none 0 0,.slice none 0 0,.bool false,.int .i64 0]) zr31 rfl (fun w b11 F11=>?_)
  have lt11:w0.heap.size <= b11:=by have h9:=F11.here; have h8:=hb.size; omega
  have ne11hB4:=F11.ne hB4
  have hn11:¬ R.fp b11:=fun z=>by have:=hP.mem.lt z; have:=F11.here; omega
  have hb:=cl_step hb F11.below
  have hB4:=hB4.keep F11.below
  have hB14:=hB14.keep F11.below
  have hO:=hO.keep F11.below
  have hP:=hP.keep F11.below
  have hB11:=F11.blk
  refine L.put (b:=b11) (o:=0) (vs:=[.slice (R.ea) (R.evs.length) (R.ec),.slice (R.na) (R.nts.length) (R.nc),.slice (some ⟨R.eb,0,none⟩) (R.m) (R.m),.slice (some ⟨R.wb,0,none⟩) (R.m) (R.m),.bool (R.stuck),.int .i64 (R.used:Int)]) #[.slice (R.ea) (R.evs.length) (R.ec),.slice (R.na) (R.nts.length) (R.nc),.slice (some ⟨R.eb,0,none⟩) (R.m) (R.m),.slice (some ⟨R.wb,0,none⟩) (R.m) (R.m),.bool (R.stuck),.int .i64 (R.used:Int)] rfl rfl rfl sz31 rfl rfl hB11 (Nat.le_of_ble_eq_true rfl) rfl (fun w hnew hg hsz=>?_)
  have hm0:=ModT.put0 hB11 hg
  have hb:=below_gr hb hb.size hg lt11
  have hB4:=hB4.other hg ne11hB4
  have hB14:=hB14.mod hm0 rfl
  have hO:=hO.mod hm0 rfl
  have hP:=hP.otherB hg hn11
  have hB11:=hnew
  clear hm0
  refine L.va (x_asI rfl) ?_
  refine L.nil ?_
  show W _ _ _ _ _ _
  refine W.seq ?_
  refine W.region rfl ?_
  refine L.va (x_mvP rfl) ?_
  refine L.va (x_nilCheck rfl) ?_
  refine L.va (x_field rfl Try.underlying39 rfl sz4 (by decide)) ?_
  refine L.put (b:=b14) (o:=5) (vs:=[.bool true]) #[.int .i64 ((PB m bo sc sn).s 0),.int .i64 ((PB m bo sc sn).s 1),.int .i64 ((PB m bo sc sn).s 2),.int .i64 ((PB m bo sc sn).s 3),.bool false,.bool true] rfl rfl rfl sz4 rfl rfl hB14 (Nat.le_of_ble_eq_true rfl) rfl (fun w hnew hg hsz=>?_)
  have hm0:=ModT.put0 hB14 hg
  have hb:=below_gr hb hb.size hg lt14
  have hB4:=hB4.mod hm0 rfl
  have hO:=hO.mod hm0 rfl
  have hP:=hP.otherB hg hns
  have hB11:=hB11.mod hm0 rfl
  have hB14:=hnew
  clear hm0
  refine L.nil ?_
  show W _ _ _ _ _ _
  refine W.seq ?_
  refine W.seq ?_
  refine W.region rfl ?_
  refine L.va (x_mvS rfl) ?_
  refine L.va (x_mvS rfl) ?_
  refine L.va (x_len rfl Try.underlying26 rfl) ?_
  refine L.va (x_idx (i:=sn) rfl rfl Try.underlying26 sz3 hO.sl (by omega)) ?_
  refine L.va (x_load (v:=.int .i64 77) rfl Try.underlying3 rfl (by rw [hO.off,Nat.zero_add,Nat.mul_one]; exact hO.cell (by rw [List.getElem?_append_right (by simp)]; simp))) ?_
  refine L.va (d_bool (r:=false) (by decide) (x_neq (m:=77) (k:=77) rfl rfl)) ?_
  refine L.va (x_mvB rfl) ?_
  refine L.on rfl ?_
  refine L.va (x_mvS rfl) ?_
  refine L.on rfl ?_
  refine L.va (x_mvS rfl) ?_
  refine L.on rfl ?_
  refine L.va (x_len rfl Try.underlying26 rfl) ?_
  refine L.on rfl ?_
  refine L.va (x_inc rfl rfl (by omega)) ?_
  refine L.on rfl ?_
  refine L.va (x_idx (i:=sn + 1) rfl rfl Try.underlying26 sz3 hO.sl (by omega)) ?_
  refine L.on rfl ?_
  refine L.va (x_load (v:=.int .i64 78) rfl Try.underlying3 rfl (by rw [hO.off,Nat.zero_add,Nat.mul_one]; exact hO.cell (by rw [List.getElem?_append_right (by simp)]; simp))) ?_
  refine L.on rfl ?_
  refine L.va (d_bool (r:=false) (by decide) (x_neq (m:=78) (k:=78) rfl rfl)) ?_
  refine L.va (x_pickF rfl) ?_
  refine L.nil ?_
  show W _ _ _ _ _ _
  refine W.condF rfl ?_
  refine W.skip ?_
  show W _ _ _ _ _ _
  refine W.seq ?_
  refine W.region rfl ?_
  refine L.va (x_loadAgg (cs:=[.slice (R.ea) (R.evs.length) (R.ec),.slice (R.na) (R.nts.length) (R.nc),.slice (some ⟨R.eb,0,none⟩) (R.m) (R.m),.slice (some ⟨R.wb,0,none⟩) (R.m) (R.m),.bool (R.stuck),.int .i64 (R.used:Int)]) rfl Try.underlying31 rfl sz31 rfl (hB11.aggAt rfl)) ?_
  refine L.va (x_mvP rfl) ?_
  refine L.va (x_mvI rfl) ?_
  refine L.put (b:=b4) (o:=0) (vs:=[.slice (R.ea) (R.evs.length) (R.ec),.slice (R.na) (R.nts.length) (R.nc),.slice (some ⟨R.eb,0,none⟩) (R.m) (R.m),.slice (some ⟨R.wb,0,none⟩) (R.m) (R.m),.bool (R.stuck),.int .i64 (R.used:Int)]) #[.slice (R.ea) (R.evs.length) (R.ec),.slice (R.na) (R.nts.length) (R.nc),.slice (some ⟨R.eb,0,none⟩) (R.m) (R.m),.slice (some ⟨R.wb,0,none⟩) (R.m) (R.m),.bool (R.stuck),.int .i64 (R.used:Int)] rfl rfl rfl sz31 rfl rfl hB4 (Nat.le_of_ble_eq_true rfl) rfl (fun w hnew hg hsz=>?_)
  have hm0:=ModT.put0 hB4 hg
  have hb:=below_gr hb hb.size hg lt4
  have hB14:=hB14.mod hm0 rfl
  have hO:=hO.mod hm0 rfl
  have hP:=hP.otherB hg hf4
  have hB11:=hB11.other hg (Ne.symm ne11hB4)
  have hB4:=hnew
  clear hm0
  refine L.va (x_asP rfl) ?_
  refine L.va (x_asI rfl) ?_
  refine L.nil ?_
  show W _ _ _ _ _ _
  refine W.ret ?_
  repeat (first | refine T.ret ?_ | refine B.ret ?_ | refine N.ret ?_)
  refine ends.cellTmp2 (cs:=#[.slice (R.ea) (R.evs.length) (R.ec),.slice (R.na) (R.nts.length) (R.nc),.slice (some ⟨R.eb,0,none⟩) (R.m) (R.m),.slice (some ⟨R.wb,0,none⟩) (R.m) (R.m),.bool (R.stuck),.int .i64 (R.used:Int)]) (.inr rfl) rfl rfl Try.underlying31 rfl sz31 hB4 ?_
  exact ⟨R,b14,rfl,hP,hns,hB14,lt14,hb⟩
end Go.Vy.Sc
end
/- The run that the law's own check goes through. -/
section
namespace Go.Vy.Sc
open Go Go.Conc Go.Yc Go.RowKit Go.Proofs Go.Proofs.Ytfmoeemolgjodaa
open Go.Vc Go.Wg
def liveOp (k:Int):OpD:=⟨1,⟨k,0,0⟩,true,0,0,0,0,ByteArray.empty⟩
def liveOps:List OpD:=[liveOp 1,liveOp 2]
def liveSc:Nat->Int:=fun j=>if j = 1 then 1 else 0
theorem live0 (c:Cells):opsGo liveOps 0 0 c = ⟨c,[],.inl (0,0)⟩:=(opsGo_at (o:=liveOp 1) rfl).trans (if_pos rfl)
theorem live1 (c:Cells):opsGo liveOps 1 0 c = ⟨c,[],.inl (1,0)⟩:=(opsGo_at (o:=liveOp 2) rfl).trans (if_pos rfl)
theorem live2 (c:Cells):opsGo liveOps 2 0 c = ⟨c,[],.inr 1⟩:=opsGo_end (by decide)
abbrev liveS:Sys:=pSys 2 fun _=>liveOps
theorem live_beg:(liveS.begs 2).ft = [.inl (0,0),.inl (0,0)]/\(liveS.begs 2).evs = []:=by
 simp [Sys.begs,Sys.bgn,Sys.p0,live0]
theorem live_step {p:PR liveS} {e:Int} {i:Nat} (h:(liveS.rds p)[pickIx e (liveS.rds p).length]? = some i):liveS.step p e = liveS.turn p i:=by
 unfold Sys.step; rw [h]
theorem live_rds {p:PR liveS} (a b:Bool) (ha:liveS.isRdy p 0 = a) (hb:liveS.isRdy p 1 = b):liveS.rds p = [0,1].filter fun i=>if i = 0 then a else b:=by
 unfold Sys.rds
 have:List.range liveS.m = [0,1]:=rfl
 rw [this]
 apply List.filter_congr
 intro i hi
 simp only [List.mem_cons,List.not_mem_nil,or_false] at hi
 rcases hi with rfl | rfl
 ·simp [ha]
 ·simp [hb]
theorem live_evs:(PB 2 (fun _=>liveOps) liveSc 4).evs = [(0,⟨1,0,0⟩),(1,⟨1,0,0⟩),(0,⟨2,0,0⟩),(1,⟨2,0,0⟩)]:=by
 obtain ⟨h1,h2⟩:=live_beg
 show (liveS.step (liveS.step (liveS.step (liveS.step (liveS.begs 2) 0) 1) 0) 0).evs = _
 generalize liveS.begs 2 = p0 at *
 have r0:liveS.rds p0 = [0,1]:=live_rds true true (by simp [Sys.isRdy,h1,liveOps,liveOp]) (by simp [Sys.isRdy,h1,liveOps,liveOp])
 have s0:liveS.step p0 0 = liveS.turn p0 0:=live_step (by rw [r0]; rfl)
 have t0:(liveS.turn p0 0).ft = [.inl (1,0),.inl (0,0)]/\(liveS.turn p0 0).evs = [(0,⟨1,0,0⟩)]:=by
  have h3:p0.ft[0]? = some (.inl (0,0)):=by rw [h1]; rfl
  have e:(liveOps)[0]? = some (liveOp 1):=rfl
  unfold Sys.turn; rw [h3]; simp only []
  rw [h1,h2]
  simp only [e,Nat.zero_add,live1]
  exact ⟨rfl,rfl⟩
 rw [s0]
 generalize liveS.turn p0 0 = p1 at *
 obtain ⟨h1,h2⟩:=t0
 have r1:liveS.rds p1 = [0,1]:=live_rds true true (by simp [Sys.isRdy,h1,liveOps,liveOp]) (by simp [Sys.isRdy,h1,liveOps,liveOp])
 have s1:liveS.step p1 1 = liveS.turn p1 1:=live_step (by rw [r1]; rfl)
 have t1:(liveS.turn p1 1).ft = [.inl (1,0),.inl (1,0)]/\(liveS.turn p1 1).evs = [(0,⟨1,0,0⟩),(1,⟨1,0,0⟩)]:=by
  have h3:p1.ft[1]? = some (.inl (0,0)):=by rw [h1]; rfl
  have e:(liveOps)[0]? = some (liveOp 1):=rfl
  unfold Sys.turn; rw [h3]; simp only []
  rw [h1,h2]
  simp only [e,Nat.zero_add,live1]
  exact ⟨rfl,rfl⟩
 rw [s1]
 generalize liveS.turn p1 1 = p2 at *
 obtain ⟨h1,h2⟩:=t1
 have r2:liveS.rds p2 = [0,1]:=live_rds true true (by simp [Sys.isRdy,h1,liveOps,liveOp]) (by simp [Sys.isRdy,h1,liveOps,liveOp])
 have s2:liveS.step p2 0 = liveS.turn p2 0:=live_step (by rw [r2]; rfl)
 have t2:(liveS.turn p2 0).ft = [.inr 1,.inl (1,0)]/\(liveS.turn p2 0).evs = [(0,⟨1,0,0⟩),(1,⟨1,0,0⟩),(0,⟨2,0,0⟩)]:=by
  have h3:p2.ft[0]? = some (.inl (1,0)):=by rw [h1]; rfl
  have e:(liveOps)[1]? = some (liveOp 2):=rfl
  unfold Sys.turn; rw [h3]; simp only []
  rw [h1,h2]
  simp only [e,Nat.reduceAdd,live2]
  exact ⟨rfl,rfl⟩
 rw [s2]
 generalize liveS.turn p2 0 = p3 at *
 obtain ⟨h1,h2⟩:=t2
 have r3:liveS.rds p3 = [1]:=live_rds false true (by simp [Sys.isRdy,h1]) (by simp [Sys.isRdy,h1,liveOps,liveOp])
 have s3:liveS.step p3 0 = liveS.turn p3 1:=live_step (by rw [r3]; rfl)
 rw [s3]
 have h3:p3.ft[1]? = some (.inl (1,0)):=by rw [h1]; rfl
 unfold Sys.turn; rw [h3]; simp only []
 rw [h2]; rfl
theorem live_bods {w:World} {b9 b13:Nat} (h9:BlkF w b9 ((opC (liveOp 1) ++ opC (liveOp 2)).toArray) 63 (0,0)) (h13:BlkF w b13 #[.slice (some ⟨b9,0,none⟩) 2 2,.slice (some ⟨b9,0,none⟩) 2 2] 64 (0,0)) :
  BodsAt w (some ⟨b13,0,none⟩) 2 (fun _=>liveOps) (fun _=>some ⟨b9,0,none⟩) (fun _=>2):=by
 have h9:Blk w b9 ((opC (liveOp 1) ++ opC (liveOp 2)).toArray) 63:=h9
 have h13:Blk w b13 #[.slice (some ⟨b9,0,none⟩) 2 2,.slice (some ⟨b9,0,none⟩) 2 2] 64:=h13
 refine ⟨fun _=>rfl,fun i hi=>?_,fun i hi _=>rfl,fun i hi k o ho j v hv=>?_,fun i hi=>by decide,fun i hi k o ho=>?_⟩
 ·match i,hi with
  | 0,_=>exact h13.cellAt 0 rfl
  | 1,_=>exact h13.cellAt 1 rfl
 ·have hjl:j < 10:=(List.getElem?_eq_some_iff.1 hv).1
  match k,ho with
  | 0,ho =>
   cases ho
   have:=h9.cellAt j (v:=v) (by simp only [List.getElem?_toArray]; rw [List.getElem?_append_left (by exact hjl)]; exact hv)
   show w.cell? ⟨b9,0 + 0 * 10 + j,none⟩ = some v
   rw [show 0 + 0 * 10 + j = j by omega]; exact this
  | 1,ho =>
   cases ho
   have:=h9.cellAt (10 + j) (v:=v) (by simp only [List.getElem?_toArray]; rw [List.getElem?_append_right (by show 10 <= 10 + j; omega)]; simpa [opC] using hv)
   show w.cell? ⟨b9,0 + 1 * 10 + j,none⟩ = some v
   rw [show 0 + 1 * 10 + j = 10 + j by omega]; exact this
 ·match k,ho with
  | 0,ho=>cases ho; decide
  | 1,ho=>cases ho; decide
theorem live_sc {w:World} {b:Nat} (h:BlkF w b #[.int .i64 0,.int .i64 1,.int .i64 0,.int .i64 0] 3 (0,0)):ScAt w (some ⟨b,0,none⟩) 4 4 liveSc:=by
 have h:Blk w b #[.int .i64 0,.int .i64 1,.int .i64 0,.int .i64 0] 3:=h
 refine ⟨fun _=>rfl,(fun h=>by cases h),by decide,fun j hj=>?_⟩
 match j,hj with
 | 0,_=>exact h.cellAt 0 rfl
 | 1,_=>exact h.cellAt 1 rfl
 | 2,_=>exact h.cellAt 2 rfl
 | 3,_=>exact h.cellAt 3 rfl
end Go.Vy.Sc
end
/- The law's own check answers true. -/
section
namespace Go.Vy.Sc
open Go Go.Conc Go.Yc Go.RowKit Go.Proofs Go.Proofs.Ytfmoeemolgjodaa
open Go.Vc Go.Wg
theorem buQ_0 (x0:Int):Try.prog.built 43 [(0,.int .i64 x0)] = some #[.int .i64 x0,.int .i64 0,.int .i64 0]:=by kernel_rfl
theorem buQ_1 (x0:Int) (x1:Int) (x2:Int) (x3:Int) (x4:Bool):Try.prog.built 63 [(0,.int .i64 x0),(1,.agg #[.int .i64 x1,.int .i64 x2,.int .i64 x3]),(2,.bool x4)] = some #[.int .i64 x0,.int .i64 x1,.int .i64 x2,.int .i64 x3,.bool x4,.int .i64 0,.int .i64 0,.int .i64 0,.int .i64 0,.string ByteArray.empty]:=by kernel_rfl
section
variable [Ctx Try.prog]
theorem errno_c (n:Int) (w0:World):C Try.prog 12 #[.int .i64 n] w0 fun v w=>v = .int .i64 n/\w = w0:=by
 refine C.enter (n:=4) Try.func12 rfl rfl ?_
 refine W.seq ?_
 refine W.region rfl ?_
 refine L.va (x_asI rfl) ?_
 refine L.nil ?_
 show W _ _ _ _ _ _
 refine W.seq ?_
 refine W.region rfl ?_
 refine L.va (x_mvI rfl) ?_
 refine L.va (x_asI rfl) ?_
 refine L.nil ?_
 show W _ _ _ _ _ _
 refine W.ret ?_
 repeat (first | refine T.ret ?_ | refine B.ret ?_ | refine N.ret ?_)
 refine ends.one (.inr rfl) rfl ?_
 exact ⟨rfl,rfl⟩
end
theorem live_c {lb:Nat} {pl:Nat->Plug} (w0:World):@C Try.prog (loneCtx lb pl) 13 #[] w0 fun v w=>v = .bool true/\Below w0.heap.size w0 w:=by
 letI:Ctx Try.prog:=loneCtx lb pl
 refine C.enter (n:=45) Try.func13 rfl rfl ?_
 have hb:Below w0.heap.size w0 w0:=Below.refl _ _
 refine W.seq ?_
 refine W.region rfl ?_
 refine L.va (x_asB rfl) ?_
 refine L.nil ?_
 show W _ _ _ _ _ _
 refine W.seq ?_
 refine W.region rfl ?_
 refine L.va (x_build (parts:=[(0,.const (.int .i64 1))]) rfl (buQ_0 1)) ?_
 refine L.va (x_build (parts:=[(0,.const (.int .i64 1)),(1,.tmp 5),(2,.const (.bool true))]) rfl (buQ_1 1 1 0 0 true)) ?_
 refine L.va (x_build (parts:=[(0,.const (.int .i64 2))]) rfl (buQ_0 2)) ?_
 refine L.va (x_build (parts:=[(0,.const (.int .i64 1)),(1,.tmp 7),(2,.const (.bool true))]) rfl (buQ_1 1 2 0 0 true)) ?_
 refine L.buildF (vs:=[(0,.agg #[.int .i64 1,.int .i64 1,.int .i64 0,.int .i64 0,.bool true,.int .i64 0,.int .i64 0,.int .i64 0,.int .i64 0,.string ByteArray.empty]),(1,.agg #[.int .i64 1,.int .i64 2,.int .i64 0,.int .i64 0,.bool true,.int .i64 0,.int .i64 0,.int .i64 0,.int .i64 0,.string ByteArray.empty])]) (cs:=#[.int .i64 1,.int .i64 1,.int .i64 0,.int .i64 0,.bool true,.int .i64 0,.int .i64 0,.int .i64 0,.int .i64 0,.string ByteArray.empty,.int .i64 1,.int .i64 2,.int .i64 0,.int .i64 0,.bool true,.int .i64 0,.int .i64 0,.int .i64 0,.int .i64 0,.string ByteArray.empty]) rfl Try.underlying64 sz63 zr63 (by decide) (by kernel_rfl) (fun w b9 F9=>?_)
 have lt9:w0.heap.size <= b9:=by have h9:=F9.here; have h8:=hb.size; omega
 have hb:=cl_step hb F9.below
 have hB9:=F9.blk
 refine L.va (x_asS rfl) ?_
 refine L.nil ?_
 show W _ _ _ _ _ _
 refine W.seq ?_
 refine W.region rfl ?_
 refine L.va (x_mvS rfl) ?_
 refine L.va (x_mvS rfl) ?_
 refine L.buildF (vs:=[(0,.slice (some ⟨b9,0,none⟩) 2 2),(1,.slice (some ⟨b9,0,none⟩) 2 2)]) (cs:=#[.slice (some ⟨b9,0,none⟩) 2 2,.slice (some ⟨b9,0,none⟩) 2 2]) rfl Try.underlying25 sz64 zr64 (by decide) (by kernel_rfl) (fun w b13 F13=>?_)
 have lt13:w0.heap.size <= b13:=by have h9:=F13.here; have h8:=hb.size; omega
 have hb:=cl_step hb F13.below
 have hB9:=hB9.keep F13.below
 have hB13:=F13.blk
 refine L.buildF (vs:=[(0,.int .i64 0),(1,.int .i64 1),(2,.int .i64 0),(3,.int .i64 0)]) (cs:=#[.int .i64 0,.int .i64 1,.int .i64 0,.int .i64 0]) rfl Try.underlying26 sz3 zr3 (by decide) (by kernel_rfl) (fun w b14 F14=>?_)
 have lt14:w0.heap.size <= b14:=by have h9:=F14.here; have h8:=hb.size; omega
 have hb:=cl_step hb F14.below
 have hB9:=hB9.keep F14.below
 have hB13:=hB13.keep F14.below
 have hB14:=F14.blk
 refine L.call (x_call2 rfl rfl Try.func14 rfl nm14 rfl) (play_c w (live_bods (blkF_of hB9) (blkF_of hB13)) (live_sc (blkF_of hB14)) (by decide) (by decide)) ?_
 rintro _ w1 ⟨R,sb,rfl,hP,_,_,_,hbw⟩
 have hP:=hP.down hb.size
 have hb:=cl_step hb hbw
 have hB9:=hB9.keep hbw
 have hB13:=hB13.keep hbw
 have hB14:=hB14.keep hbw
 clear hbw
 rename World=>w
 have hev:=hP.evs.trans live_evs
 refine L.va (x_mvT rfl) ?_
 refine L.va (x_extract rfl rfl) ?_
 refine L.va (x_extract rfl rfl) ?_
 refine L.va (x_extract rfl rfl) ?_
 refine L.alloc (cs:=#[.slice none 0 0,.slice none 0 0,.slice none 0 0,.slice none 0 0,.bool false,.int .i64 0]) zr31 rfl (fun w b2 F2=>?_)
 have lt2:w0.heap.size <= b2:=by have h9:=F2.here; have h8:=hb.size; omega
 have hn2:¬ R.fp b2:=fun z=>by have:=hP.mem.lt z; have:=F2.here; omega
 have hb:=cl_step hb F2.below
 have hP:=hP.keep F2.below
 have hB2:=F2.blk
 refine L.put (b:=b2) (o:=0) (vs:=[.slice (R.ea) (R.evs.length) (R.ec),.slice (R.na) (R.nts.length) (R.nc),.slice (some ⟨R.eb,0,none⟩) (R.m) (R.m),.slice (some ⟨R.wb,0,none⟩) (R.m) (R.m),.bool (R.stuck),.int .i64 (R.used:Int)]) #[.slice (R.ea) (R.evs.length) (R.ec),.slice (R.na) (R.nts.length) (R.nc),.slice (some ⟨R.eb,0,none⟩) (R.m) (R.m),.slice (some ⟨R.wb,0,none⟩) (R.m) (R.m),.bool (R.stuck),.int .i64 (R.used:Int)] rfl rfl rfl sz31 rfl rfl hB2 (Nat.le_of_ble_eq_true rfl) rfl (fun w hnew hg hsz=>?_)
 have hm0:=ModT.put0 hB2 hg
 have hb:=below_gr hb hb.size hg lt2
 have hP:=hP.otherB hg hn2
 have hB2:=hnew
 clear hm0
 refine L.va (x_asP rfl) ?_
 refine L.va (x_asI rfl) ?_
 refine L.nil ?_
 show W _ _ _ _ _ _
 refine W.seq ?_
 refine W.region rfl ?_
 refine L.va (x_mvI rfl) ?_
 refine L.call (x_call1 rfl Try.func12 rfl nm12 rfl) (errno_c 0 _) ?_
 rintro _ w1 ⟨rfl,hw1⟩
 rw [hw1]
 clear hw1 w1
 refine L.va (d_bool (r:=true) (by decide) (x_eql (m:=0) (k:=0) rfl rfl)) ?_
 refine L.va (x_mvB rfl) ?_
 refine L.on rfl ?_
 refine L.va (x_field rfl Try.underlying31 rfl sz27 (by decide)) ?_
 refine L.on rfl ?_
 refine L.va (x_load rfl Try.underlying27 rfl (hB2.cellAt 0 (v:=.slice (R.ea) (R.evs.length) (R.ec)) rfl)) ?_
 refine L.on rfl ?_
 refine L.va (x_lenK (m:=4) (by rw [hev]; rfl) rfl Try.underlying27 rfl) ?_
 refine L.on rfl ?_
 refine L.va (d_bool (r:=true) (by decide) (x_eql (m:=4) (k:=4) rfl rfl)) ?_
 refine L.va (x_pickT rfl) ?_
 refine L.va (x_mvB rfl) ?_
 refine L.on rfl ?_
 refine L.va (x_field rfl Try.underlying31 rfl sz27 (by decide)) ?_
 refine L.on rfl ?_
 refine L.va (x_load rfl Try.underlying27 rfl (hB2.cellAt 0 (v:=.slice (R.ea) (R.evs.length) (R.ec)) rfl)) ?_
 refine L.on rfl ?_
 refine L.va (x_idx (i:=1) rfl rfl Try.underlying27 sz45 hP.mem.evs.sl (by rw [hev]; decide)) ?_
 refine L.on rfl ?_
 refine L.va (x_field rfl Try.underlying45 rfl sz3 (by decide)) ?_
 refine L.on rfl ?_
 refine L.va (x_load (v:=.int .i64 1) rfl Try.underlying3 rfl (by rw [hP.mem.evs.off]; exact hP.mem.evs.cell (j:=4) (by rw [hev]; rfl))) ?_
 refine L.on rfl ?_
 refine L.va (d_bool (r:=true) (by decide) (x_eql (m:=1) (k:=1) rfl rfl)) ?_
 refine L.va (x_pickT rfl) ?_
 refine L.va (x_mvB rfl) ?_
 refine L.on rfl ?_
 refine L.va (x_field rfl Try.underlying31 rfl sz27 (by decide)) ?_
 refine L.on rfl ?_
 refine L.va (x_load rfl Try.underlying27 rfl (hB2.cellAt 0 (v:=.slice (R.ea) (R.evs.length) (R.ec)) rfl)) ?_
 refine L.on rfl ?_
 refine L.va (x_idx (i:=2) rfl rfl Try.underlying27 sz45 hP.mem.evs.sl (by rw [hev]; decide)) ?_
 refine L.on rfl ?_
 refine L.va (x_field rfl Try.underlying45 rfl sz43 (by decide)) ?_
 refine L.on rfl ?_
 refine L.va (x_field rfl Try.underlying43 rfl sz3 (by decide)) ?_
 refine L.on rfl ?_
 refine L.va (x_load (v:=.int .i64 2) rfl Try.underlying3 rfl (by rw [hP.mem.evs.off]; exact hP.mem.evs.cell (j:=9) (by rw [hev]; rfl))) ?_
 refine L.on rfl ?_
 refine L.va (d_bool (r:=true) (by decide) (x_eql (m:=2) (k:=2) rfl rfl)) ?_
 refine L.va (x_pickT rfl) ?_
 refine L.va (x_asB rfl) ?_
 refine L.nil ?_
 show W _ _ _ _ _ _
 refine W.ret ?_
 repeat (first | refine T.ret ?_ | refine B.ret ?_ | refine N.ret ?_)
 refine ends.one (.inr rfl) rfl ?_
 exact ⟨rfl,hb⟩
end Go.Vy.Sc
end
/- From a law's walk to what its statement asks. -/
section
namespace Go.Vy
open Go Go.Conc Go.Yc Go.RowKit
open Go.Vc
theorem doneG {P:Program} {fr:Frame} {fn:Func} {v:Value} {t:Tmp} (hm:fr.mode = .returning) (hd:fr.defers = []) (hk:fr.kind = .normal) (hf:P.funcs[fr.fn]? = some fn) (hr:fn.results = #[.tmp t]) (hv:fr.tmps.getD t undef = v) (hi:P.inits.idxOf? fr.fn = none) (w:World):stepG P true (G fr []) w = .ended (.done v) w #[]:=by
 have h1:=results_tmp hr fr.tmps P w
 have h2:=events_results_tmp (P:=P) (w:=w) hr fr.tmps
 simp [G,stepG,unwind,doReturn,hm,hd,hk,hf,hi,h1,h2,hv,seen,GStep.after]
theorem leaves_tmp {P:Program} {fr:Frame} {fn:Func} {w:World} {v:Value} {t:Tmp} (hl:Leaves P fr w (.returned v)) (hf:P.funcs[fr.fn]? = some fn) (hr:fn.results = #[.tmp t]) (hnv:NoView w):fr.tmps.getD t undef = v:=by
 obtain ⟨h1,h2,h3,fn',h4,h5⟩:=hl
 rw [hf] at h4
 obtain rfl:=Option.some.inj h4
 obtain ⟨x',es,h6,_⟩:=h5 w.tape w.drawn _ w hnv.sim
 have h7:=results_tmp hr fr.tmps P w
 rw [Sem.runT_eq] at h6
 have h8:=(Prod.mk.inj h6).1
 rw [h7] at h8
 injection h8
end Go.Vy
namespace Go.Vy.Sc
open Go Go.Conc Go.Yc Go.RowKit Go.Proofs Go.Proofs.Ytfmoeemolgjodaa
open Go.Vc Go.Wg
def BelowT (W w':World):Prop:=Below W.heap.size W { w' with tape:=W.tape }
theorem BelowT.frame {W w':World} (h:BelowT W w') (may:MemPlace->Prop):W.keptBut w' may:=Below.frame h may
theorem BelowT.trod {H:Type} {enc:TypeId × Value->H} {P:Program} {t:TypeId} (hl:laidOutB P = true) (hr:P.readableRec t = true) (hrow:t < P.types.size) {W W':World} {v:Value} {d:DataW H} {ps:List MemPlace}
  (h:DataW.Trod enc P W 0 (fun _=>true) true t v d ps) (hb:BelowT W W') (hlt:∀ x ∈ ps,x.block < W.heap.size) :
  DataW.Trod enc P W' 0 (fun b=>decide (b < W.heap.size)) true t v d ps :=
 WideElems.Trod_stays hl hr hrow h (fun x hx=>(Below.same hb (hlt x hx):W.sameAt { W' with tape:=W.tape } x)) (fun x hx=>by simpa using hlt x hx)
theorem like_all {x y:Obj} (h:Like .all x y):y = x:=by cases h; rfl
theorem like_gone {o x y:Obj} (h:Like (.gone o) x y):y = o:=by cases h; rfl
theorem lone_ends {f:FuncId} {fn:Func} {t:Tmp} {args:Array Value} {W:World} (hf:Try.prog.funcs[f]? = some fn) (hr:fn.results = #[.tmp t]) (hi:Try.prog.inits.idxOf? f = none) (h:@C Try.prog (loneCtx W.heap.size (X0 W).plug) f args (veil W) fun v w=>v = .bool true/\Below (veil W).heap.size (veil W) w) :
  Yc.Ends Try.prog (fun v w'=>v = .bool true/\BelowT W w') (solo (G (Frame.enter Try.prog f args .normal) []) W) #[]:=by
 have hsz:(veil W).heap.size = W.heap.size:=by simp [veil]
 refine Fin.start (h _ ⟨_,rfl⟩ [] (fun e w' fr he hfr hl=>?_) (X0 W) ⟨fun _=>rfl,rfl,rfl,rfl,X0_under W _,fun b hb=>X0_plug (by rw [<- hsz]; exact hb),Nat.one_pos⟩ (by rw [hsz]; exact Nat.le_refl _) (fun _ hb=>hb.elim) rfl)
 cases e with
 | panicked ch=>exact he.elim
 | outgrown=>exact he.elim
 | returned v =>
  obtain ⟨rfl,hb⟩:=he
  rw [hsz] at hb
  refine loneZ_ign _ _ _ _ _ fun hnv X hX h1 h2 h3=>?_
  have hfr':Try.prog.funcs[fr.fn]? = some fn:=by rw [hfr]; exact hf
  have hv:=leaves_tmp hl hfr' hr hnv
  obtain ⟨hm,hd,hk,_⟩:=hl
  refine Fin.ends rfl hX.seat hX.cap (doneG hm hd hk hfr' hr hv (by rw [hfr]; exact hi)) fun ρ w hs hρ=>⟨rfl,?_⟩
  refine ⟨hs.os.trans hb.os,rfl,hs.output.trans hb.output,?_,fun k hk=>?_⟩
  ·show W.heap.size <= w.heap.size
   rw [hs.size]
   show W.heap.size <= w'.heap.size
   rw [<- hsz]; exact hb.size
  ·show w.heap[k]? = W.heap[k]?
   have hk':k < w'.heap.size:=by have:=hb.size; rw [hsz] at this; omega
   obtain ⟨y,hy,hlk⟩:=hs.obj k _ (Array.getElem?_eq_getElem hk')
   have e1:some w'.heap[k] = (veil W).heap[k]?:=by rw [<- hb.block k hk]; exact (Array.getElem?_eq_getElem hk').symm
   have e2:(veil W).heap[k]? = (W.heap[k]?).map fun o=>if isView o then nothing else o:=by
    show (W.heap.map _)[k]? = _
    rw [Array.getElem?_map]
   rw [Array.getElem?_eq_getElem hk] at e2
   rw [e2] at e1
   have e1:=Option.some.inj e1
   have hp:ρ k = (X0 W).plug k:=by
    rw [hρ k fun z=>by have:=h2 k z; omega,h3]
   have hp2:(X0 W).plug k = if isView W.heap[k] then .gone W.heap[k] else .all:=by
    show (match W.heap[k]? with | some o=>if isView o then Plug.gone o else .all | none=>.all) = _
    rw [Array.getElem?_eq_getElem hk]
   rw [hy,Array.getElem?_eq_getElem hk]
   have hlk:Like (ρ k) w'.heap[k] y:=hlk
   rw [hp,hp2,e1] at hlk
   cases hv:isView W.heap[k]
   ·simp only [hv,Bool.false_eq_true,if_false] at hlk
    rw [like_all hlk]
   ·simp only [hv,if_true] at hlk
    rw [like_gone hlk]
end Go.Vy.Sc
end
/- Clients without bodies; how states of a run hang together, by induction. -/
section
namespace Go.Vy.Sc
open Go Go.Conc Go.Yc Go.RowKit Go.Proofs Go.Proofs.Ytfmoeemolgjodaa
open Go.Vc Go.Wg
theorem Sys.ind {Y:Sys} (I:PR Y->Prop) (h0:I Y.p0) (hb:∀ p,I p->p.ft.length < Y.m->I (Y.bgn p)) (ht:∀ p i l,I p->p.ft.length = Y.m->p.ft[i]? = some (.inl l)->Y.isRdy p i = true->I (Y.turn p i)) (sc:Nat->Int) (n:Nat):I (Y.pn sc n):=by
 have h1:∀ k,k <= Y.m->I (Y.begs k):=by
  intro k
  induction k with
  | zero=>intro _; exact h0
  | succ k ih=>intro hk; exact hb _ (ih (by omega)) (by rw [Sys.len_begs]; omega)
 induction n with
 | zero=>exact h1 _ (Nat.le_refl _)
 | succ n ih =>
  show I (Y.step (Y.pn sc n) (sc n))
  unfold Sys.step
  split
  ·rename_i i hi
   have hm:=List.mem_of_getElem? hi
   unfold Sys.rds at hm
   rw [List.mem_filter] at hm
   have hr:=hm.2
   cases hf:(Y.pn sc n).ft[i]? with
   | none=>unfold Sys.isRdy at hr; rw [hf] at hr; cases hr
   | some f =>
    cases f with
    | inr x=>unfold Sys.isRdy at hr; rw [hf] at hr; cases hr
    | inl l=>exact ht _ i l ih (Sys.len_pn sc n) hf hr
  ·exact ih
theorem RunM.down {B B':Nat} {w:World} {R:Rn} (h:RunM w B' R) (hB:B <= B'):RunM w B R:=⟨h.run,h.cls.down hB,h.evs.down hB,h.nts.down hB,h.ends,h.wts,h.lend,h.lwts,h.lcl,h.blk⟩
section
variable {m lb:Nat} {pl:Nat->Plug}
end
end Go.Vy.Sc
end
/- What comes in, read. -/
section
namespace Go.Vy.Sc
open Go Go.Conc Go.Yc Go.RowKit Go.Proofs Go.Proofs.Ytfmoeemolgjodaa
open Go.Vc Go.Wg Go.ChangeShapes Go.WideShapes Go.ChangeAt Go.Deep
theorem veil_cell {W:World} {a:Addr} {v:Value} (h:W.cell? a = some v):(veil W).cell? a = some v:=by
 unfold World.cell? at h ⊢
 cases ho:W.heap[a.block]? with
 | none=>rw [ho] at h; cases h
 | some o =>
  cases o with
  | cells c e f =>
   rw [veil_get ho rfl]
   rw [ho] at h
   exact h
  | _=>rw [ho] at h; cases h
theorem chooseLt {α:Type} [Inhabited α] {n:Nat} {p:Nat->α->Prop} (h:∀ i,i < n->∃ x,p i x):∃ f:Nat->α,∀ i,i < n->p i (f i):=by
 classical
 exact ⟨fun i=>if hi:i < n then (h i hi).choose else default,fun i hi=>by
  show p i (if hi:i < n then (h i hi).choose else default)
  rw [dif_pos hi]; exact (h i hi).choose_spec⟩
section
variable {H:Type} {enc:TypeId × Value->H} {W:World} {base:Nat} {spare:Nat->Bool} {held:Bool} {P:Program}
theorem open_sl {t e:TypeId} {s:Nat} {a:Option Addr} {len cap fuel:Nat} {x:DataW H × List MemPlace} (ht:P.underlying t = some (.slice e)) (hs:P.cellsOf e = s) (h0:0 < s) (h:DataW.trod enc P W base spare held fuel t [.slice a len cap] = some x) :
  SL a len/\(a = none->len = 0/\cap = 0)/\(len <= cap/\len <= maxLen)/\∃ n,∀ i,i < len->∃ cs y,cs.length = s/\(∀ (j:Nat) v,cs[j]? = some v->W.cell? ⟨ab a,ao a + i * s + j,none⟩ = some v)/\DataW.trod enc P W base spare held n e cs = some y:=by
 rcases open_slice ht h with ⟨hcs,_⟩ | ⟨ad,l,c,m,n,D,Pl,hcs,hb,hl,hm,hmm,_,hi⟩
 ·simp at hcs
  obtain ⟨rfl,rfl,rfl⟩:=hcs
  exact ⟨SL.zero _,fun _=>⟨rfl,rfl⟩,⟨Nat.le_refl _,Nat.zero_le _⟩,0,fun i hi=>absurd hi (Nat.not_lt_zero _)⟩
 ·simp at hcs
  obtain ⟨rfl,rfl,rfl⟩:=hcs
  have hlm:len <= m:=by rw [hmm]; split <;> omega
  have hE:∀ i,i < len->∃ cs y,cs.length = s/\(∀ (j:Nat) v,cs[j]? = some v->W.cell? ((ad.add (i * s)).add j) = some v)/\DataW.trod enc P W base spare held n e cs = some y:=fun i hil=>by
   obtain ⟨cs,h1,h2⟩:=hi i (by omega)
   rw [hs] at h1
   obtain ⟨_,h4,h3⟩:=World.cells?_some h1
   refine ⟨cs,_,h4,fun j v hj=>?_,h2⟩
   have:j < s:=by rw [<- h4]; exact (List.getElem?_eq_some_iff.1 hj).1
   rw [h3 j this]; exact hj
  have hsp:0 < len->ad = ⟨ad.block,ad.off,none⟩:=fun hl0=>by
   obtain ⟨cs,y,h1,h2,_⟩:=hE 0 hl0
   obtain ⟨v,hv⟩:∃ v,cs[0]? = some v:=⟨_,List.getElem?_eq_getElem (by omega)⟩
   have:=h2 0 v hv
   rw [Nat.zero_mul] at this
   have e1:(ad.add 0).add 0 = ad:=by simp [Addr.add]
   rw [e1] at this
   obtain ⟨b,o,sp⟩:=ad
   cases sp with
   | none=>rfl
   | some sp=>unfold World.cell? at this; simp at this; split at this <;> simp at this
  refine ⟨fun hl0=>by rw [hsp hl0]; rfl,(fun h=>by cases h),⟨hl,by omega⟩,n,fun i hil=>?_⟩
  obtain ⟨cs,y,h1,h2,h3⟩:=hE i hil
  refine ⟨cs,y,h1,fun j v hj=>?_,h3⟩
  have:=h2 j v hj
  rw [hsp (by omega),Addr.add_lit,Addr.add_lit] at this
  exact this
end
section
variable {H:Type} {enc:TypeId × Value->H} {W:World} {base:Nat} {spare:Nat->Bool} {held:Bool}
theorem cellsInt:Try.prog.cellsOf 3 = 1:=by kernel_rfl
theorem open_script {a:Option Addr} {len cap:Nat} {d:DataW H} {p:List MemPlace} (h:DataW.Trod enc Try.prog W base spare held 26 (.slice a len cap) d p):∃ sc,ScAt (veil W) a len cap sc/\len <= maxLen:=by
 obtain ⟨fuel,hf⟩:=h
 obtain ⟨h1,h2,h4,n,h3⟩:=open_sl Try.underlying26 cellsInt Nat.one_pos (show DataW.trod enc Try.prog W base spare held fuel 26 [.slice a len cap] = _ from hf)
 obtain ⟨sc,hsc⟩:=chooseLt (α:=Int) (n:=len) (p:=fun i z=>W.cell? ⟨ab a,ao a + i * 1,none⟩ = some (.int .i64 z)) fun i hi=>by
  obtain ⟨cs,y,_,g2,g3⟩:=h3 i hi
  obtain ⟨z,rfl,_⟩:=DataW.trod_int Try.underlying3 g3
  exact ⟨z,g2 0 _ rfl⟩
 exact ⟨sc,⟨h1,h2,h4.1,fun j hj=>veil_cell (hsc j hj)⟩,h4.2⟩
end
end Go.Vy.Sc
end
/- Clients that tell nothing but their steps; a run of whatever clients, and what it leaves. -/
section
namespace Go.Vy.Sc
open Go Go.Conc Go.Yc Go.RowKit Go.Proofs Go.Proofs.Ytfmoeemolgjodaa
open Go.Vc Go.Wg
structure CSt (K:Cfg Try.prog) (w:World) (o:Out' K.S K.L):Prop where
 on:gh w 2 = 0
 nts:gh w 1 = 0
 out:K.out (gh w 0) = o
 none:o.nts = []
 os:w.os = K.base.os
 output:w.output = K.base.output
section
variable {K:Cfg Try.prog} {w w':World} {o:Out' K.S K.L}
theorem CSt.to (h:CSt K w o) (ht:w'.tape = w.tape) (ho:w'.os = w.os) (ho2:w'.output = w.output):CSt K w' o :=
 ⟨by rw [gh_tape ht]; exact h.on,by rw [gh_tape ht]; exact h.nts,by rw [gh_tape ht]; exact h.out,h.none,ho.trans h.os,ho2.trans h.output⟩
theorem CSt.keep {B:Nat} (h:CSt K w o) (hb:Below B w w'):CSt K w' o:=h.to hb.tape hb.os hb.output
theorem CSt.told {F:Nat->Prop} {f:K.L ⊕ Nat} (h:CSt K w o) (hf:o.fate = f) (hi:K.Inv o.s w F):K.Told w F f :=
 ⟨h.on,by rw [h.out]; exact hf,by rw [h.nts,h.out,h.none]; rfl,by rw [h.out]; exact hi,h.os,h.output⟩
theorem CSt.done {F:Nat->Prop} {v:Value} (h:CSt K w o) (hf:o.fate = .inr 1) (hi:K.Inv o.s w F):K.Done w F (.returned v):=.inl (h.told hf hi)
theorem CSt.start {beg:K.S->Out' K.S K.L} {F:Nat->Prop} (hs:Starts K beg w F) (hn:∀ s,(beg s).nts = []):∃ s,K.Inv s w F/\CSt K w (beg s) :=
 ⟨_,hs.inv,hs.on,hs.nts,hs.out,hn _,hs.os,hs.output⟩
theorem CSt.goes {F F':Nat->Prop} {u:World} {l:K.L} (h:CSt K w o) (hg:K.Goes w F l u F') (hn:∀ s,(K.go l s).nts = []):CSt K u (K.go l (K.sOf (gh u 0))) :=
 ⟨hg.on,hg.nts,hg.out,hn _,hg.later.os.trans h.os,hg.later.output.trans h.output⟩
end
structure RunX (Y:Sys) (sc:Nat->Int) (sn B:Nat) (R:Rn) (w:World):Prop where
 mem:RunM w B R
 hm:R.m = Y.m
 evs:R.evs = (Y.pn sc sn).evs
 nts:R.nts = (Y.pn sc sn).nts
 used:R.used = (Y.pn sc sn).used
 ends:∀ j,j < Y.m->R.ends[j]? = some (endOf (Y.pn sc sn).ft[j]?)
 wts:∀ j,j < Y.m->R.wts[j]? = some (wtOf Y j ((Y.pn sc sn).ft[j]?))
 stuck:R.stuck = ((Y.pn sc sn).ft.any (·.isLeft) && (Y.rds (Y.pn sc sn)).isEmpty)
 fp:∀ b,R.fp b->B <= b
section
variable {Y:Sys} {sc:Nat->Int} {sn B B':Nat} {R:Rn} {w w':World}
theorem RunX.congr (h:RunX Y sc sn B R w) (he:∀ k,R.fp k->w'.heap[k]? = w.heap[k]?):RunX Y sc sn B R w' :=
 ⟨h.mem.congr he,h.hm,h.evs,h.nts,h.used,h.ends,h.wts,h.stuck,h.fp⟩
theorem RunX.keep (h:RunX Y sc sn B R w) (hb:Below w.heap.size w w'):RunX Y sc sn B R w':=h.congr fun k hk=>hb.block k (h.mem.lt hk)
theorem RunX.otherB {b:Nat} (h:RunX Y sc sn B R w) (hg:w.grownBy w' (some b)) (hn:¬ R.fp b):RunX Y sc sn B R w':=h.congr fun k hk=>hg.block k (h.mem.lt hk) fun e=>hn (by cases e; exact hk)
theorem RunX.down (h:RunX Y sc sn B' R w) (hB:B <= B'):RunX Y sc sn B R w :=
 ⟨h.mem.down hB,h.hm,h.evs,h.nts,h.used,h.ends,h.wts,h.stuck,fun b hb=>Nat.le_trans hB (h.fp b hb)⟩
theorem run_any {fb:Nat->FuncId} {caps:Nat->Array Value} {fv:Nat->Value} {l sa:Option Addr} {lc scp:Nat} {F:Nat->Prop} (hO:RunOk Y fb caps fv l sa sn sc) (hinv:Y.Inv Y.s0 w F) (hl:∀ j,j < Y.m->w.cell? ⟨ab l,ao l + j * 1,none⟩ = some (fv j)) (hlF:0 < Y.m->¬ F (ab l)) (hSc:ScAt w sa sn scp sc) (hsF:0 < sn->¬ F (ab sa)) :
  @C Try.prog (loneCtx Y.lb Y.pl) 19 #[.slice l Y.m lc,.slice sa sn scp] w fun v w'=>∃ R,v = .tuple #[outV R,.int .i64 0]/\RunX Y sc sn w.heap.size R w'/\(∃ F',Y.Inv (Y.pn sc sn).s w' F'/\∀ b,F' b->¬ R.fp b)/\w'.os = w.os/\w'.output = w.output/\w'.tape = w.tape/\w.heap.size <= w'.heap.size/\∀ b,b < w.heap.size->¬ F b->w'.heap[b]? = w.heap[b]?:=by
 classical
 let Mn:Nat->Option Obj:=fun b=>if F b then none else w.heap[b]?
 have hcell:∀ (w':World) (a:Addr) (v:Value),(∀ b,Mn b ≠ none->w'.heap[b]? = Mn b)->¬ F a.block->w.cell? a = some v->w'.cell? a = some v:=fun w' a v hw hF ha=>by
  have h1:Mn a.block = w.heap[a.block]?:=if_neg hF
  have h2:w'.heap[a.block]? = w.heap[a.block]?:=by
   rw [<- h1]; refine hw _ ?_
   rw [h1,Array.getElem?_eq_getElem (cell_lt ha)]; simp
  rw [(cell_of_heap (u:=w) (u':=w') (a:=a) h2).1]; exact ha
 have key:=run_c (Mn:=Mn) (w0:=w) (F:=F) (bc:=lc) (scp:=scp) hO (fun b o h=>by
   have h:(if F b then none else w.heap[b]?) = some o:=h
   split at h
   ·cases h
   ·exact h) hinv (fun b hb=>if_pos hb) (fun w' hw j hj=>hcell w' _ _ hw (hlF (by omega)) (hl j hj)) (fun w' hw j hj=>hcell w' _ _ hw (hsF (by omega)) (hSc.cell j hj))
 refine @Calls.mono _ (loneCtx Y.lb Y.pl) _ _ _ _ _ key fun e w' he=>?_
 cases e with
 | panicked ch=>exact he.elim
 | outgrown=>exact he.elim
 | returned v =>
  obtain ⟨R,rfl,hD⟩:=he
  refine ⟨R,rfl,⟨hD.mem,hD.m,hD.evs,hD.nts,hD.used,hD.ends,hD.wts,hD.stuck,hD.fp⟩,hD.inv,hD.os,hD.output,hD.tape,hD.size,fun b hb hF=>?_⟩
  have h1:Mn b = w.heap[b]?:=if_neg hF
  rw [<- h1]; refine hD.keep b ?_
  rw [h1,Array.getElem?_eq_getElem hb]; simp
end
end Go.Vy.Sc
end
/- The law of clients that are stopped. -/
section
namespace Go.Vy.Sc
open Go Go.Conc Go.Yc Go.RowKit Go.Proofs Go.Proofs.Ytfmoeemolgjodaa
open Go.Vc Go.Wg
theorem boxF {w:World} {b:Nat} {cs:Array Value} {T:TypeId} (h:BlkF w b cs T (0,0)):Blk w b cs T:=h
section
variable [Ctx Try.prog]
end
end Go.Vy.Sc
end
/- The law of what is not divided: its run, told without a program. -/
section
namespace Go.Vy.Sc
open Go Go.Conc Go.Yc Go.RowKit Go.Proofs Go.Proofs.Ytfmoeemolgjodaa
open Go.Vc Go.Wg
theorem RunM.evs_at {B i k:Nat} {x:Nat × Stp} {v:Value} {w:World} {R:Rn} (h:RunM w B R) (hi:R.evs[i]? = some x) (hv:(evC x)[k]? = some v):w.cell? ⟨ab R.ea,ao R.ea + i * 4 + k,none⟩ = some v:=by
 have hkl:k < 4:=(List.getElem?_eq_some_iff.1 hv).1
 have key:∀ (l:List (Nat × Stp)) (i:Nat),l[i]? = some x->(l.flatMap evC)[i * 4 + k]? = some v:=by
  intro l
  induction l with
  | nil=>intro i h; cases h
  | cons a l ih =>
   intro i h
   cases i with
   | zero =>
    cases h
    rw [List.flatMap_cons,List.getElem?_append_left (by simpa [evC] using hkl)]
    simpa using hv
   | succ i =>
    rw [List.flatMap_cons,List.getElem?_append_right (by simp [evC]; omega)]
    have:(i + 1) * 4 + k - (evC a).length = i * 4 + k:=by simp [evC]; omega
    rw [this]
    exact ih i (by simpa using h)
 rw [h.evs.off,Nat.zero_add]
 exact h.evs.cell (key _ _ hi)
def wr (s:Int) (j:Nat):Int:=if j = 0 then s else IntKind.i64.wrap (s + j)
section
variable {m r c rb t lb:Nat} {pl:Nat->Plug}
end
end Go.Vy.Sc
end
/- The law of Number and Picks: its run, told without a program. -/
section
namespace Go.Vy.Sc
open Go Go.Conc Go.Yc Go.RowKit Go.Proofs Go.Proofs.Ytfmoeemolgjodaa
open Go.Vc Go.Wg
theorem lset_same {α:Type} {l:List α} {k:Nat} {a:α} (v:α) (h:l[k]? = some a):(l.set k v)[k]? = some v:=by
 obtain ⟨h1,_⟩:=List.getElem?_eq_some_iff.1 h
 rw [List.getElem?_set_self h1]
theorem lset_ne {α:Type} {l:List α} {k q:Nat} (v:α) (h:q ≠ k):(l.set k v)[q]? = l[q]?:=List.getElem?_set_ne (Ne.symm h)
abbrev Log:=List (Nat × Option Nat)
def cnt (i:Nat) (s:Log):Nat:=(s.filter fun e=>decide (e.1 = i) && e.2.isSome).length
theorem cnt_app (i:Nat) (s:Log) (e:Nat × Option Nat):cnt i (s ++ [e]) = cnt i s + if e.1 = i/\e.2.isSome = true then 1 else 0:=by
 unfold cnt
 rw [List.filter_append,List.length_append]
 by_cases h:e.1 = i/\e.2.isSome = true
 ·rw [if_pos h]; simp [h.1,h.2]
 ·rw [if_neg h]
  have:([e].filter fun e=>decide (e.1 = i) && e.2.isSome) = []:=by
   rw [List.filter_eq_nil_iff]
   intro a ha
   simp at ha
   subst ha
   intro hc
   simp at hc
   exact h ⟨hc.1,hc.2⟩
  rw [this]; rfl
def lastN:Option Nat->Nat
 | none=>0
 | some l=>l + 1
def LastOk (s:Log):Prop:=∀ s' e,s = s' ++ [e]->cnt e.1 s = lastN e.2
@[reducible] def cnSys (m wb:Nat) (ib:Nat->Nat) (lb:Nat) (pl:Nat->Plug):Sys where
 S:=Log
 L:=Nat
 m:=m
 s0:=[]
 nil:=fun _=>false
 stp:=fun i _=>⟨1,0,(i:Int)⟩
 rdy:=fun _ _ _=>true
 beg:=fun i s=>⟨s ++ [(i,none)],[],.inl 0⟩
 go:=fun i l s=>⟨s ++ [(i,some l)],[],if l + 1 < 20 then .inl (l + 1) else .inr 1⟩
 Inv:=fun _ w F=>F = (fun k=>k = wb\/∃ j,j < m/\k = ib j)/\BlkF w wb #[.bool false] 4 (0,0)/\∀ j,j < m->BlkF w (ib j) #[.int .i64 (j:Int)] 3 (0,0)
 lb:=lb
 pl:=pl
section
variable {m wb lb:Nat} {ib:Nat->Nat} {pl:Nat->Plug}
theorem cn_ok:SysOk (cnSys m wb ib lb pl):=by
 refine ⟨fun s w w' F h hw=>?_,fun s w F h k hk=>?_⟩
 ·obtain ⟨rfl,h1,h2⟩:=h
  exact ⟨rfl,(hw wb (.inl rfl)).trans h1,fun j hj=>(hw (ib j) (.inr ⟨j,hj,rfl⟩)).trans (h2 j hj)⟩
 ·obtain ⟨rfl,h1,h2⟩:=h
  rcases hk with rfl | ⟨j,hj,rfl⟩
  ·exact ⟨h1.lt,blkF_ne_nothing h1 Nat.one_pos⟩
  ·exact ⟨(h2 j hj).lt,blkF_ne_nothing (h2 j hj) Nat.one_pos⟩
structure CnI (p:PR (cnSys m wb ib lb pl)):Prop where
 nts:p.nts = []
 len:p.who.length = p.outs.length
 outs:∀ (t:Nat) o,p.outs[t]? = some o->LastOk o.s/\o.s ≠ []/\∀ i,cnt i o.s = (p.who.take (t + 1)).count (some i)
 now:∀ i,cnt i p.s = p.who.count (some i)
 ft:∀ (i l:Nat),p.ft[i]? = some (.inl l)->cnt i p.s = l
 new:∀ i,p.ft.length <= i->cnt i p.s = 0
 evs:∀ e,e ∈ p.evs->e.2.num = (e.1:Int)
theorem cn_pn (sc:Nat->Int) (n:Nat):CnI ((cnSys m wb ib lb pl).pn sc n):=by
 refine Sys.ind (Y:=cnSys m wb ib lb pl) (fun p=>CnI p) ⟨rfl,rfl,fun t o h=>(by cases h),fun i=>rfl,fun i l h=>(by cases h),fun i _=>rfl,fun e h=>(by cases h)⟩ (fun p hp _=>?_) (fun p i l hp _ hf _=>?_) sc n
 ·have hb:(cnSys m wb ib lb pl).bgn p = { p with s:=p.s ++ [(p.ft.length,none)],ft:=p.ft ++ [Sum.inl 0],nts:=p.nts ++ [],outs:=p.outs ++ [(⟨p.s ++ [(p.ft.length,none)],[],Sum.inl 0⟩:Out' Log Nat)],who:=p.who ++ [none] }:=rfl
  rw [hb]
  have hc:∀ i,cnt i (p.s ++ [(p.ft.length,none)]) = cnt i p.s:=fun i=>by rw [cnt_app]; simp
  refine ⟨by show p.nts ++ [] = []; rw [hp.nts]; rfl,by show (p.who ++ [none]).length = (p.outs ++ [_]).length; rw [List.length_append,List.length_append,hp.len]; rfl,fun t o h=>?_,fun i=>?_,fun i l h=>?_,fun i hi=>?_,hp.evs⟩
  ·have h:(p.outs ++ [(⟨p.s ++ [(p.ft.length,none)],[],Sum.inl 0⟩:Out' Log Nat)])[t]? = some o:=h
   show _/\_/\∀ i,cnt i o.s = ((p.who ++ [none]).take (t + 1)).count (some i)
   rcases app_some h with h | ⟨ht9,h9⟩
   ·have hlt:=(List.getElem?_eq_some_iff.1 h).1
    rw [List.take_append_of_le_length (by rw [hp.len]; omega)]
    exact hp.outs t o h
   ·subst ht9
    subst h9
    refine ⟨fun s' e he=>?_,by simp,fun i=>?_⟩
    ·have he2:=List.append_inj' he rfl
     have h9:e = (p.ft.length,none):=(List.singleton_inj.1 he2.2).symm
     subst h9
     show cnt p.ft.length (p.s ++ [(p.ft.length,none)]) = 0
     rw [hc]; exact hp.new _ (Nat.le_refl _)
    ·rw [<- hp.len,List.take_of_length_le (by simp)]
     show cnt i (p.s ++ [(p.ft.length,none)]) = _
     rw [hc,hp.now i]; simp
  ·show cnt i (p.s ++ [(p.ft.length,none)]) = (p.who ++ [none]).count (some i)
   rw [hc,hp.now i]; simp
  ·have h:(p.ft ++ [Sum.inl 0])[i]? = some (Sum.inl l):=h
   show cnt i (p.s ++ [(p.ft.length,none)]) = l
   rw [hc]
   rcases app_some h with h | ⟨hi,h⟩
   ·exact hp.ft i l h
   ·cases h
    exact hp.new i (by omega)
  ·have hi:(p.ft ++ [Sum.inl 0]).length <= i:=hi
   rw [List.length_append] at hi
   show cnt i (p.s ++ [(p.ft.length,none)]) = 0
   rw [hc]; exact hp.new i (by have:p.ft.length + 1 <= i:=hi; omega)
 ·have ht:(cnSys m wb ib lb pl).turn p i = { p with s:=p.s ++ [(i,some l)],ft:=p.ft.set i (if l + 1 < 20 then .inl (l + 1) else .inr 1),evs:=p.evs ++ [(i,(⟨1,0,(i:Int)⟩:Stp))],nts:=p.nts ++ [],outs:=p.outs ++ [(⟨p.s ++ [(i,some l)],[],if l + 1 < 20 then .inl (l + 1) else .inr 1⟩:Out' Log Nat)],who:=p.who ++ [some i],used:=p.used + 1 }:=by
   unfold Sys.turn
   rw [hf]; rfl
  rw [ht]
  have hlt:=(List.getElem?_eq_some_iff.1 hf).1
  have hc:∀ k,cnt k (p.s ++ [(i,some l)]) = cnt k p.s + if i = k then 1 else 0:=fun k=>by rw [cnt_app]; simp
  refine ⟨by show p.nts ++ [] = []; rw [hp.nts]; rfl,by show (p.who ++ [some i]).length = (p.outs ++ [_]).length; rw [List.length_append,List.length_append,hp.len]; rfl,fun t o h=>?_,fun k=>?_,fun k l' h=>?_,fun k hk=>?_,fun e he=>?_⟩
  ·have h:(p.outs ++ [(⟨p.s ++ [(i,some l)],[],if l + 1 < 20 then .inl (l + 1) else .inr 1⟩:Out' Log Nat)])[t]? = some o:=h
   show _/\_/\∀ k,cnt k o.s = ((p.who ++ [some i]).take (t + 1)).count (some k)
   rcases app_some h with h | ⟨ht9,h9⟩
   ·have hlt:=(List.getElem?_eq_some_iff.1 h).1
    rw [List.take_append_of_le_length (by rw [hp.len]; omega)]
    exact hp.outs t o h
   ·subst ht9
    subst h9
    refine ⟨fun s' e he=>?_,by simp,fun k=>?_⟩
    ·have he2:=List.append_inj' he rfl
     have h9:e = (i,some l):=(List.singleton_inj.1 he2.2).symm
     subst h9
     show cnt i (p.s ++ [(i,some l)]) = l + 1
     rw [hc,if_pos rfl,hp.ft i l hf]
    ·rw [<- hp.len,List.take_of_length_le (by simp)]
     show cnt k (p.s ++ [(i,some l)]) = _
     rw [hc,hp.now k,List.count_append]
     by_cases e:i = k
     ·subst e; simp
     ·simp [e]
  ·show cnt k (p.s ++ [(i,some l)]) = (p.who ++ [some i]).count (some k)
   rw [hc,hp.now k,List.count_append]
   by_cases e:i = k
   ·subst e; simp
   ·simp [e]
  ·have h:(p.ft.set i (if l + 1 < 20 then Sum.inl (l + 1) else Sum.inr 1))[k]? = some (.inl l'):=h
   show cnt k (p.s ++ [(i,some l)]) = l'
   rw [hc]
   by_cases e:i = k
   ·subst e
    rw [lset_same _ hf] at h
    rw [if_pos rfl,hp.ft i l hf]
    split at h
    ·exact Sum.inl.inj (Option.some.inj h)
    ·cases h
   ·rw [lset_ne _ (Ne.symm e)] at h
    rw [if_neg e]; exact hp.ft k l' h
  ·have hk:(p.ft.set i _).length <= k:=hk
   rw [List.length_set] at hk
   show cnt k (p.s ++ [(i,some l)]) = 0
   rw [hc,if_neg (by omega)]; exact hp.new k hk
  ·have he:e ∈ p.evs ++ [(i,(⟨1,0,(i:Int)⟩:Stp))]:=he
   rw [List.mem_append] at he
   rcases he with he | he
   ·exact hp.evs e he
   ·simp at he
    subst he
    rfl
theorem cn_picks {sc:Nat->Int} {n t i:Nat} {s:Log} {x:Option Nat} {f:Nat ⊕ Nat} (h:(cnSys m wb ib lb pl).outAt ((cnSys m wb ib lb pl).pn sc n) t = ⟨s ++ [(i,x)],[],f⟩):(cnSys m wb ib lb pl).picks ((cnSys m wb ib lb pl).pn sc n) i t = lastN x:=by
 have hI:=cn_pn (m:=m) (wb:=wb) (ib:=ib) (lb:=lb) (pl:=pl) sc n
 generalize (cnSys m wb ib lb pl).pn sc n = q at *
 unfold Sys.outAt at h
 cases ho:q.outs[t]? with
 | none =>
  rw [ho] at h
  have:=congrArg Out'.s h
  have:([]:Log) = s ++ [(i,x)]:=this
  simp at this
 | some o =>
  rw [ho] at h
  have h:o = ⟨s ++ [(i,x)],[],f⟩:=h
  obtain ⟨h1,_,h3⟩:=hI.outs t o ho
  show (q.who.take (t + 1)).count (some i) = _
  rw [<- h3 i]
  have hs:o.s = s ++ [(i,x)]:=by rw [h]
  exact h1 s (i,x) hs
end
end Go.Vy.Sc
end
/- The law of Number and Picks. -/
section
namespace Go.Vy.Sc
open Go Go.Conc Go.Yc Go.RowKit Go.Proofs Go.Proofs.Ytfmoeemolgjodaa
open Go.Vc Go.Wg
theorem buCN_0 (x0:Int) (x1:Int):Try.prog.built 43 [(0,.int .i64 x0),(2,.int .i64 x1)] = some #[.int .i64 x0,.int .i64 0,.int .i64 x1]:=by kernel_rfl
theorem cndo_c {wb b3 ib cb nm:Nat} (w:World) (h1:Blk w wb #[.bool false] 4) (h3:Blk w b3 #[.pointer (some ⟨cb,0,none⟩)] 50) (hi:Blk w ib #[.int .i64 (nm:Int)] 3) :
  @C Try.prog (numCtx Try.prog 24 cb nm) 26 #[.pointer (some ⟨wb,0,none⟩),.pointer (some ⟨b3,0,none⟩),.pointer (some ⟨ib,0,none⟩)] w fun v w'=>v = .tuple #[]/\Below w.heap.size w w' :=by
 letI:Ctx Try.prog:=numCtx Try.prog 24 cb nm
 refine C.enter (n:=10) Try.func26 rfl rfl ?_
 obtain ⟨w0,hw0⟩:∃ w0,w0 = w:=⟨_,rfl⟩
 have hb:Below w0.heap.size w0 w:=hw0 ▸ Below.refl _ _
 refine W.fl 5 [3] [0,1,2,4,3] (fun w'=>Blk w' wb #[.bool false] 4/\Blk w' b3 #[.pointer (some (⟨cb,0,none⟩))] 50/\Blk w' ib #[.int .i64 (nm:Int)] 3) (by kernel_rfl) (by kernel_rfl) (by kernel_rfl) (by kernel_rfl) (by kernel_rfl) (⟨h1.keep (Below.refl w.heap.size w).drew,h3.keep (Below.refl w.heap.size w).drew,hi.keep (Below.refl w.heap.size w).drew⟩) ?_
 have hdr:Below w.heap.size w w.drew:=(Below.refl w.heap.size w).drew
 have hb:=cl_step hb hdr
 have h1:=h1.keep hdr
 have h3:=h3.keep hdr
 have hi:=hi.keep hdr
 clear hdr
 generalize w.drew = w at *
 refine F.va rfl rfl (fun w' hw'=>(x_load rfl Try.underlying4 rfl (hw'.1.cellAt 0 (v:=.bool false) rfl))) ?_
 refine F.va rfl rfl (fun w' hw'=>(x_mvB rfl)) ?_
 refine F.on rfl rfl rfl (fun w' hw'=>(x_load rfl Try.underlying50 rfl (hw'.2.1.cellAt 0 (v:=.pointer (some (⟨cb,0,none⟩))) rfl))) ?_
 refine F.on rfl rfl rfl (fun w' hw'=>(x_load rfl Try.underlying3 rfl (hw'.2.2.cellAt 0 (v:=.int .i64 (nm:Int)) rfl))) ?_
 refine F.doo rfl rfl ?_
 refine L.on rfl ?_
 refine L.call (x_call1 rfl Try.func24 rfl nm24 rfl) num_number ?_
 rintro _ w1 ⟨rfl,hw1⟩
 rw [hw1]
 clear hw1 w1
 refine L.nil ⟨rfl,⟨h1,h3,hi⟩,?_⟩
 refine F.nil ?_
 show L _ _ _ _ _ _ _
 refine L.on rfl ?_
 refine L.va (d_bool (r:=false) (decide_eq_false (fun h=>h rfl)) (x_neq (m:=(nm:Int)) (k:=(nm:Int)) rfl rfl)) ?_
 refine L.va (x_pickF rfl) ?_
 refine L.putF (b:=wb) (o:=0) (f:=(0,0)) #[.bool false] rfl rfl rfl sz4 rfl rfl h1 (by show 0 + 1 <= 1; decide) (.inr (Nat.zero_le _)) rfl ?_
 rw [setBlkF_same h1]
 refine L.nil ?_
 repeat (first | refine T.nrm ?_ | refine B.nrm ?_ | refine N.nrm ?_)
 refine ends.none (.inl rfl) rfl ?_
 exact ⟨rfl,hw0 ▸ hb⟩
structure CnMem (m wb:Nat) (ib:Nat->Nat) (w:World):Prop where
 wb:BlkF w wb #[.bool false] 4 (0,0)
 ib:∀ j,j < m->BlkF w (ib j) #[.int .i64 (j:Int)] 3 (0,0)
theorem CnMem.keep {m wb:Nat} {ib:Nat->Nat} {w w':World} (h:CnMem m wb ib w) (hb:Below w.heap.size w w'):CnMem m wb ib w':=⟨h.wb.keep hb,fun j hj=>(h.ib j hj).keep hb⟩
def cnF (m wb:Nat) (ib:Nat->Nat):Nat->Prop:=fun k=>k = wb\/∃ j,j < m/\k = ib j
theorem CnMem.inv {m wb lb:Nat} {ib:Nat->Nat} {pl:Nat->Plug} {w:World} (h:CnMem m wb ib w) (s:Log):(cnSys m wb ib lb pl).Inv s w (cnF m wb ib):=⟨rfl,h.wb,h.ib⟩
def cnO (i k:Nat) (s:Log) (x:Option Nat):Out' Log Nat:=⟨s ++ [(i,x)],[],if k < 20 then .inl k else .inr 1⟩
theorem step_cn {m wb lb sn n cb k b3:Nat} {ib:Nat->Nat} {pl:Nat->Plug} {fb:Nat->FuncId} {sc:Nat->Int} {w0 w:World} {top:List Frame} {s:Log} {x:Option Nat} (hn:n < m) (hs:CSt ((cnSys m wb ib lb pl).cfg fb ((cnSys m wb ib lb pl).pn sc sn) w0 n cb top) w (cnO n k s x)) (hk:k < 20) (hM:CnMem m wb ib w) (h3:BlkF w b3 #[.pointer (some ⟨cb,0,none⟩)] 50 (0,0)) (hsep:¬ cnF m wb ib b3) :
  @Calls Try.prog (procCtx ((cnSys m wb ib lb pl).cfg fb ((cnSys m wb ib lb pl).pn sc sn) w0 n cb top)) 18 #[.pointer (some ⟨cb,0,none⟩),stepV ⟨1,0,(n:Int)⟩,.nilFunc,.func (.func 26) #[] #[.pointer (some ⟨wb,0,none⟩),.pointer (some ⟨b3,0,none⟩),.pointer (some ⟨ib n,0,none⟩)]] w (fun e u=>match e with
   | .returned v=>v = .tuple #[]/\∃ s',CSt ((cnSys m wb ib lb pl).cfg fb ((cnSys m wb ib lb pl).pn sc sn) w0 n cb top) u (cnO n (k + 1) s' (some k))/\CnMem m wb ib u/\BlkF u b3 #[.pointer (some ⟨cb,0,none⟩)] 50 (0,0)/\w.heap.size <= u.heap.size
   | .panicked ch=>Raised ch/\∃ F',((cnSys m wb ib lb pl).cfg fb ((cnSys m wb ib lb pl).pn sc sn) w0 n cb top).Done u F' (.panicked ch)
   | .outgrown=>False):=by
 have hat:∀ (u:World) (F':Nat->Prop),((cnSys m wb ib lb pl).cfg fb ((cnSys m wb ib lb pl).pn sc sn) w0 n cb top).Later w (cnF m wb ib) u F'->CnMem m wb ib u/\BlkF u b3 #[.pointer (some ⟨cb,0,none⟩)] 50 (0,0):=fun u F' hl=>by
  obtain ⟨_,i1,i2⟩:=hl.inv
  exact ⟨⟨i1,i2⟩,(hl.keep b3 h3.lt (blkF_ne_nothing h3 Nat.one_pos) hsep).1.trans h3⟩
 have hf:(cnO n k s x).fate = .inl k:=if_pos hk
 have hI:(cnSys m wb ib lb pl).Inv (cnO n k s x).s w (cnF m wb ib):=hM.inv _
 refine @Calls.mono _ (procCtx ((cnSys m wb ib lb pl).cfg fb ((cnSys m wb ib lb pl).pn sc sn) w0 n cb top)) _ _ _ _ _ (proc_step (K:=((cnSys m wb ib lb pl).cfg fb ((cnSys m wb ib lb pl).pn sc sn) w0 n cb top)) (l:=(k:Nat)) (hs.told hf hI) rfl (.inl ⟨rfl,fun _=>rfl⟩) (.inr ⟨_,_,fnIs Try.func26 rfl nm26⟩) (fun u u2=>Below u.heap.size u u2) (fun u F' hg=>.inr ⟨26,_,fnIs Try.func26 rfl nm26,?_⟩)) fun e u he=>?_
 ·obtain ⟨hM2,h32⟩:=hat u F' hg.later
  refine @Calls.mono _ (numCtx Try.prog 24 cb n) _ _ _ _ _ (cndo_c u hM2.wb h32 (hM2.ib n hn)) fun e u2 he=>?_
  cases e with
  | returned v=>exact he.2
  | panicked ch=>exact he.elim
  | outgrown=>exact he.elim
 ·cases e with
  | outgrown=>exact he.elim
  | returned v =>
   obtain ⟨rfl,u0,F',hg,hb,_⟩:=he
   obtain ⟨hM2,h32⟩:=hat u0 F' hg.later
   exact ⟨rfl,_,(hs.goes hg (fun _=>rfl)).keep hb,hM2.keep hb,h32.keep hb,Nat.le_trans hg.later.size hb.size⟩
  | panicked ch =>
   obtain ⟨hra,F',hl,h2⟩:=he
   exact ⟨hra,F',hra,.inr ⟨h2,hl.inv,hl.os.trans hs.os,hl.output.trans hs.output⟩⟩
set_option maxHeartbeats 1000000 in
theorem cnbody_p {m wb lb sn n cb:Nat} {ib:Nat->Nat} {pl:Nat->Plug} {fb:Nat->FuncId} {sc:Nat->Int} {w0:World} {top:List Frame} (hn:n < m) (s0:Log) (w:World) (hM:CnMem m wb ib w) (hs:CSt ((cnSys m wb ib lb pl).cfg fb ((cnSys m wb ib lb pl).pn sc sn) w0 n cb top) w (cnO n 0 s0 none)) :
  @Calls Try.prog (procCtx ((cnSys m wb ib lb pl).cfg fb ((cnSys m wb ib lb pl).pn sc sn) w0 n cb top)) 23 #[.pointer (some ⟨cb,0,none⟩),.pointer (some ⟨wb,0,none⟩),.pointer (some ⟨ib n,0,none⟩)] w (fun e u2=>∃ F,((cnSys m wb ib lb pl).cfg fb ((cnSys m wb ib lb pl).pn sc sn) w0 n cb top).Done u2 F e):=by
 letI:Ctx Try.prog:=procCtx ((cnSys m wb ib lb pl).cfg fb ((cnSys m wb ib lb pl).pn sc sn) w0 n cb top)
 refine Calls.enterP (n:=27) Try.func23 rfl rfl ?_
 refine W.seq ?_
 refine W.region rfl ?_
 refine L.box (cs:=#[.pointer (some (⟨cb,0,none⟩))]) rfl rfl (fun w b3 F3=>?_)
 have lt3:w.heap.size <= w.heap.size:=Nat.le_refl _
 have hsep:¬ cnF m wb ib b3:=by rintro (e | ⟨j,hj,e⟩); exact absurd hM.wb.lt (by have:=F3.here; omega); exact absurd (hM.ib j hj).lt (by have:=F3.here; omega)
 have hs:=hs.keep F3.below
 have hM:=hM.keep F3.below
 have hB3:=F3.blk
 refine L.nil ?_
 show W _ _ _ _ _ _
 refine W.seq ?_
 refine W.region rfl ?_
 refine L.va (x_asI rfl) ?_
 refine L.nil ?_
 show W _ _ _ _ _ _
 refine W.block ?_
 refine W.loop (fun k e w=>∃ (k1:Nat),∃ (s:Log),∃ (x:Option Nat),∃ (b3:Nat),k = 20 - k1/\e 0 = .pointer (some (⟨cb,0,none⟩))/\e 1 = .pointer (some ⟨wb,0,none⟩)/\e 2 = .pointer (some ⟨(ib n),0,none⟩)/\e 3 = .pointer (some ⟨b3,0,none⟩)/\e 4 = .int .i64 (k1:Int)/\k1 <= 20/\lastN x = k1/\CSt ((cnSys m wb ib lb pl).cfg fb ((cnSys m wb ib lb pl).pn sc sn) w0 n cb top) w (cnO n k1 s x)/\CnMem m wb ib w/\Blk w b3 #[.pointer (some ⟨cb,0,none⟩)] 50/\¬ cnF m wb ib b3) _ ⟨0,s0,none,b3,rfl,rfl,rfl,rfl,rfl,rfl,Nat.zero_le _,rfl,hs,hM,hB3,hsep⟩ ?_
 rintro k e w ⟨k1,s,x,b3,hk,s0,s1,s2,s3,s4,hk1,hx,hs,hM,h3,hsep⟩
 rw [upd_id s0,upd_id s1,upd_id s2,upd_id s3,upd_id s4]
 clear s0 s1 s2 s3 s4
 refine W.seq ?_
 refine W.seq ?_
 refine W.region rfl ?_
 refine L.va (x_mvI rfl) ?_
 refine L.va (x_lss rfl rfl) ?_
 refine L.nil ?_
 show W _ _ _ _ _ _
 refine W.condP rfl (fun h6=>?_) (fun h6=>?_)
 ·have hlt:k1 < 20:=by omega
  refine W.skip ?_
  show W _ _ _ _ _ _
  refine W.seq ?_
  refine W.block ?_
  refine W.seq ?_
  have h1:=hM.wb
  have hi:=(hM.ib n hn)
  refine W.fl 11 [3,9] [0,1,2,4,3,5,6,7,8,10,9] (fun w'=>BlkF w' wb #[.bool false] 4 (0,0)/\Blk w' b3 #[.pointer (some (⟨cb,0,none⟩))] 50/\BlkF w' (ib n) #[.int .i64 (n:Int)] 3 (0,0)) (by kernel_rfl) (by kernel_rfl) (by kernel_rfl) (by kernel_rfl) (by kernel_rfl) (⟨h1.keep (Below.refl w.heap.size w).drew,h3.keep (Below.refl w.heap.size w).drew,hi.keep (Below.refl w.heap.size w).drew⟩) ?_
  have hdr:Below w.heap.size w w.drew:=(Below.refl w.heap.size w).drew
  have hs:=hs.keep hdr
  have hM:=hM.keep hdr
  have h3:=h3.keep hdr
  have h1:=h1.keep hdr
  have hi:=hi.keep hdr
  clear hdr
  generalize w.drew = w at *
  refine F.va rfl rfl (fun w' hw'=>(x_load rfl Try.underlying4 rfl (hw'.1.cellAt 0 (v:=.bool false) rfl))) ?_
  refine F.va rfl rfl (fun w' hw'=>(x_mvB rfl)) ?_
  refine F.on rfl rfl rfl (fun w' hw'=>(x_load rfl Try.underlying50 rfl (hw'.2.1.cellAt 0 (v:=.pointer (some (⟨cb,0,none⟩))) rfl))) ?_
  refine F.on rfl rfl rfl (fun w' hw'=>(x_load rfl Try.underlying3 rfl (hw'.2.2.cellAt 0 (v:=.int .i64 (n:Int)) rfl))) ?_
  refine F.doo rfl rfl ?_
  refine L.on rfl ?_
  refine L.call (x_call1 rfl Try.func24 rfl nm24 rfl) proc_number ?_
  rintro _ w1 ⟨rfl,hw1⟩
  rw [hw1]
  clear hw1 w1
  refine L.nil ⟨rfl,⟨h1,h3,hi⟩,?_⟩
  refine F.on rfl rfl rfl (fun w' hw'=>(d_bool (r:=false) (decide_eq_false (fun h=>h rfl)) (x_neq (m:=(n:Int)) (k:=(n:Int)) rfl rfl))) ?_
  refine F.va rfl rfl (fun w' hw'=>(x_pickF rfl)) ?_
  refine F.va rfl rfl (fun w' hw'=>(x_mvB rfl)) ?_
  refine F.on rfl rfl rfl (fun w' hw'=>(x_load rfl Try.underlying50 rfl (hw'.2.1.cellAt 0 (v:=.pointer (some (⟨cb,0,none⟩))) rfl))) ?_
  refine F.on rfl rfl rfl (fun w' hw'=>(x_mvI rfl)) ?_
  refine F.doo rfl rfl ?_
  refine L.on rfl ?_
  have hpk:((cnSys m wb ib lb pl).cfg fb ((cnSys m wb ib lb pl).pn sc sn) w0 n cb top).picks (gh w 0) = lastN x:=cn_picks hs.out
  refine L.call (x_call1 rfl Try.func25 rfl nm25 rfl) (proc_picks hs.on) ?_
  rintro _ w1 ⟨rfl,hw1⟩
  rw [hw1,hpk,hx]
  clear hw1 w1 hpk
  refine L.nil ⟨rfl,⟨h1,h3,hi⟩,?_⟩
  refine F.nil ?_
  show L _ _ _ _ _ _ _
  refine L.on rfl ?_
  refine L.va (d_bool (r:=false) (decide_eq_false (fun h=>h rfl)) (x_neq (m:=(k1:Int)) (k:=(k1:Int)) rfl rfl)) ?_
  refine L.va (x_pickF rfl) ?_
  refine L.putF (b:=wb) (o:=0) (f:=(0,0)) #[.bool false] rfl rfl rfl sz4 rfl rfl hM.wb (by show 0 + 1 <= 1; decide) (.inr (Nat.zero_le _)) rfl ?_
  rw [setBlkF_same hM.wb]
  refine L.nil ?_
  try clear h1
  try clear hi
  show W _ _ _ _ _ _
  refine W.region rfl ?_
  refine L.va (x_load rfl Try.underlying50 rfl (h3.cellAt 0 (v:=.pointer (some (⟨cb,0,none⟩))) rfl)) ?_
  refine L.va (x_load rfl Try.underlying3 rfl ((hM.ib n hn).cellAt 0 (v:=.int .i64 (n:Int)) rfl)) ?_
  refine L.va (x_build (parts:=[(0,.const (.int .i64 1)),(2,.tmp 23)]) rfl (buCN_0 1 (n:Int))) ?_
  refine L.va (x_makeFuncL (l:=[.tmp 1,.tmp 3,.tmp 2]) (vs:=[.pointer (some ⟨wb,0,none⟩),.pointer (some ⟨b3,0,none⟩),.pointer (some ⟨(ib n),0,none⟩)]) rfl) ?_
  refine L.callP' rfl (x_call4 rfl rfl rfl rfl Try.func18 rfl nm18 rfl) (step_cn hn hs hlt hM h3 hsep) ?_ ?_ (fun _ h=>h)
  ·rintro v w1 ⟨rfl,s',hs,hM,h3,_⟩
   rename World=>w
   refine L.nil ?_
   refine B.nrm ?_
   show W _ _ _ _ _ _
   refine W.region rfl ?_
   refine L.va (x_mvI rfl) ?_
   refine L.va (x_inc rfl rfl (by omega)) ?_
   refine L.va (x_asI rfl) ?_
   refine L.nil ?_
   refine T.nrm ?_
   exact ⟨_,by omega,⟨k1 + 1,s',some k1,b3,rfl,rfl,rfl,rfl,rfl,rfl,hlt,rfl,hs,hM,h3,hsep⟩⟩
  ·rintro ch w ⟨hra,hd⟩; exact hd
 ·have hge:k1 = 20:=by omega
  refine W.exit ?_
  repeat (first | refine T.exit ?_ | refine N.exit ?_ | refine B.exitNe (by decide) ?_)
  refine B.exitEq ?_
  repeat (first | refine T.nrm ?_ | refine B.nrm ?_ | refine N.nrm ?_)
  refine ends.none (.inl rfl) rfl ?_
  have hI:(cnSys m wb ib lb pl).Inv (cnO n k1 s x).s w (cnF m wb ib):=hM.inv _
  exact ⟨_,CSt.done hs (by subst hge; rfl) hI⟩
structure IbAt (w:World) (B i:Nat) (ib:Nat->Nat):Prop where
 le:∀ j,j < i->B <= ib j
 at_:∀ j,j < i->BlkF w (ib j) #[.int .i64 (j:Int)] 3 (0,0)
theorem IbAt.keep {w w':World} {B i:Nat} {ib:Nat->Nat} (h:IbAt w B i ib) (hb:Below w.heap.size w w'):IbAt w' B i ib:=⟨h.le,fun j hj=>(h.at_ j hj).keep hb⟩
theorem IbAt.otherB {w w':World} {B i b:Nat} {ib:Nat->Nat} (h:IbAt w B i ib) (hg:w.grownBy w' (some b)) (hn:∀ j,j < i->ib j ≠ b):IbAt w' B i ib:=⟨h.le,fun j hj=>(h.at_ j hj).other hg (hn j hj)⟩
theorem IbAt.snoc {w:World} {B i x:Nat} {ib:Nat->Nat} (h:IbAt w B i ib) (hx:BlkF w x #[.int .i64 (i:Int)] 3 (0,0)) (lx:B <= x):IbAt w B (i + 1) (upN ib i x):=by
 refine ⟨fun j hj=>?_,fun j hj=>?_⟩ <;> by_cases hn:j = i
 ·subst hn; rw [upN_eq]; exact lx
 ·rw [upN_ne hn]; exact h.le j (by omega)
 ·subst hn; rw [upN_eq]; exact hx
 ·rw [upN_ne hn]; exact h.at_ j (by omega)
def fvN (wb:Nat) (ib:Nat->Nat) (k:Nat):Value:=.func (.func 23) #[] #[.pointer (some ⟨wb,0,none⟩),.pointer (some ⟨ib k,0,none⟩)]
theorem range_fvN {i x wb:Nat} {ib:Nat->Nat}:(List.range (i + 1)).map (fvN wb (upN ib i x)) = (List.range i).map (fvN wb ib) ++ [.func (.func 23) #[] #[.pointer (some ⟨wb,0,none⟩),.pointer (some ⟨x,0,none⟩)]]:=by
 rw [List.range_succ,List.map_append]
 congr 1
 ·apply List.map_congr_left
  intro j hj
  have:j ≠ i:=by have:j < i:=(by simpa using hj); omega
  unfold fvN
  rw [upN_ne this]
 ·simp [fvN,upN_eq]
theorem IbAt.mod {w w':World} {B B2 i:Nat} {ib:Nat->Nat} {TS:List TypeId} (h:IbAt w B i ib) (hm:ModT w w' B2 TS) (hT:TS.contains 3 = false):IbAt w' B i ib:=⟨h.le,fun j hj=>blkF_of (Blk.mod (boxF (h.at_ j hj)) hm hT)⟩
set_option maxHeartbeats 2000000 in
theorem counts_ok {lb sn scp m:Nat} {pl:Nat->Plug} {sa:Option Addr} {sc:Nat->Int} (w0:World) (hSc:ScAt w0 sa sn scp sc) (hm:m <= 16) (hsn:sn <= 1000):@C Try.prog (loneCtx lb pl) 10 #[.int .i64 (m:Int),.slice sa sn scp] w0 fun v w=>v = .bool true/\Below w0.heap.size w0 w:=by
 letI:Ctx Try.prog:=loneCtx lb pl
 refine C.enter (n:=73) Try.func10 rfl rfl ?_
 have hb:Below w0.heap.size w0 w0:=Below.refl _ _
 refine W.seq ?_
 refine W.region rfl ?_
 refine L.va (x_asB rfl) ?_
 refine L.nil ?_
 show W _ _ _ _ _ _
 refine W.seq ?_
 refine W.seq ?_
 refine W.region rfl ?_
 refine L.va (x_mvI rfl) ?_
 refine L.va (d_bool (r:=false) (decide_eq_false (by omega)) (x_lss (m:=(m:Int)) (k:=0) rfl rfl)) ?_
 refine L.va (x_mvB rfl) ?_
 refine L.on rfl ?_
 refine L.va (x_mvI rfl) ?_
 refine L.on rfl ?_
 refine L.va (d_bool (r:=false) (decide_eq_false (by omega)) (x_gtr (m:=(m:Int)) (k:=16) rfl rfl)) ?_
 refine L.va (x_pickF rfl) ?_
 refine L.va (x_mvB rfl) ?_
 refine L.on rfl ?_
 refine L.va (x_mvS rfl) ?_
 refine L.on rfl ?_
 refine L.va (x_len rfl Try.underlying26 rfl) ?_
 refine L.on rfl ?_
 refine L.va (d_bool (r:=false) (decide_eq_false (by omega)) (x_gtr (m:=(sn:Int)) (k:=1000) rfl rfl)) ?_
 refine L.va (x_pickF rfl) ?_
 refine L.nil ?_
 show W _ _ _ _ _ _
 refine W.condF rfl ?_
 refine W.skip ?_
 show W _ _ _ _ _ _
 refine W.seq ?_
 refine W.region rfl ?_
 refine L.alloc (cs:=#[.bool false]) zr4 rfl (fun w b5 F5=>?_)
 have lt5:w0.heap.size <= b5:=by have h9:=F5.here; have h8:=hb.size; omega
 have hb:=cl_step hb F5.below
 have hB5:=F5.blk
 refine L.put (b:=b5) (o:=0) (vs:=[.bool false]) #[.bool false] rfl rfl rfl sz4 rfl rfl hB5 (Nat.le_of_ble_eq_true rfl) rfl (fun w hnew hg hsz=>?_)
 have hm0:=ModT.put0 hB5 hg
 have hb:=below_gr hb hb.size hg lt5
 have hB5:=hnew
 clear hm0
 refine L.nil ?_
 show W _ _ _ _ _ _
 refine W.seq ?_
 refine W.region rfl ?_
 refine L.va (x_asS rfl) ?_
 refine L.nil ?_
 show W _ _ _ _ _ _
 refine W.seq ?_
 refine W.seq ?_
 refine W.region rfl ?_
 refine L.alloc (cs:=#[.int .i64 0]) zr3 rfl (fun w b7 F7=>?_)
 have lt7:w0.heap.size <= b7:=by have h9:=F7.here; have h8:=hb.size; omega
 have hb:=cl_step hb F7.below
 have hB5:=hB5.keep F7.below
 have hB7:=F7.blk
 refine L.put (b:=b7) (o:=0) (vs:=[.int .i64 0]) #[.int .i64 0] rfl rfl rfl sz3 rfl rfl hB7 (Nat.le_of_ble_eq_true rfl) rfl (fun w hnew hg hsz=>?_)
 have hm0:=ModT.put0 hB7 hg
 have hb:=below_gr hb hb.size hg lt7
 have hB5:=hB5.mod hm0 rfl
 have hB7:=hnew
 clear hm0
 refine L.nil ?_
 show W _ _ _ _ _ _
 refine W.block ?_
 refine W.loop (fun k e w=>∃ (i:Nat),∃ (l:Option Addr),∃ (lc:Nat),∃ (b7:Nat),∃ (ib:Nat->Nat),k = m - i/\e 0 = .int .i64 (m:Int)/\e 1 = .slice sa sn scp/\e 5 = .pointer (some ⟨b5,0,none⟩)/\e 6 = .slice l i lc/\e 7 = .pointer (some ⟨b7,0,none⟩)/\i <= m/\Own w w0.heap.size 52 1 l i lc ((List.range i).map (fvN b5 ib))/\Blk w b5 #[.bool false] 4/\Blk w b7 #[.int .i64 (i:Int)] 3/\IbAt w w0.heap.size i ib/\(∀ j,j < i->ib j < b7)/\w0.heap.size <= b7/\Below w0.heap.size w0 w) _ ⟨0,none,0,b7,(fun _=>0),rfl,rfl,rfl,rfl,rfl,rfl,Nat.zero_le _,Own.nil _ _ _ _,hB5,hB7,⟨fun j hj=>absurd hj (Nat.not_lt_zero j),fun j hj=>absurd hj (Nat.not_lt_zero j)⟩,(fun j hj=>absurd hj (Nat.not_lt_zero j)),lt7,hb⟩ ?_
 rintro k e w ⟨i,l,lc,b7,ib,hk,s0,s1,s5,s6,s7,hi,hl,hB5,hB7,hib,hlt7,lt7,hb⟩
 rw [upd_id s0,upd_id s1,upd_id s5,upd_id s6,upd_id s7]
 clear s0 s1 s5 s6 s7
 refine W.seq ?_
 refine W.seq ?_
 refine W.region rfl ?_
 refine L.va (x_load rfl Try.underlying3 rfl (hB7.cellAt 0 (v:=.int .i64 (i:Int)) rfl)) ?_
 refine L.va (x_mvI rfl) ?_
 refine L.va (x_lss rfl rfl) ?_
 refine L.nil ?_
 show W _ _ _ _ _ _
 refine W.condP rfl (fun h25=>?_) (fun h25=>?_)
 ·have hlt:i < m:=by omega
  refine W.skip ?_
  show W _ _ _ _ _ _
  refine W.seq ?_
  refine W.block ?_
  refine W.region rfl ?_
  refine L.va (x_mvS rfl) ?_
  refine L.va (x_makeFuncL (l:=[.tmp 5,.tmp 7]) (vs:=[.pointer (some ⟨b5,0,none⟩),.pointer (some ⟨b7,0,none⟩)]) rfl) ?_
  refine L.build1 (cs:=#[.func (.func 23) #[] #[.pointer (some ⟨b5,0,none⟩),.pointer (some ⟨b7,0,none⟩)]]) rfl rfl Try.underlying49 sz52 rfl ⟨_,zr52⟩ (by decide) (fun w b30 F30=>?_)
  have lt30:w0.heap.size <= b30:=by have h9:=F30.here; have h8:=hb.size; omega
  have hb:=cl_step hb F30.below
  have hl:=hl.keep F30.below
  have hB5:=hB5.keep F30.below
  have hB7:=hB7.keep F30.below
  have hib:=hib.keep F30.below
  have hB30:=F30.blk
  refine L.appendAny (B:=w0.heap.size) (m:=1) rfl rfl Try.underlying49 in52 rfl (by decide) hl (fun h=>by cases h) (news:=[.func (.func 23) #[] #[.pointer (some ⟨b5,0,none⟩),.pointer (some ⟨b7,0,none⟩)]]) rfl (fun ad had j u hj=>by
   cases had
   rw [Addr.add_lit]
   match j,hj with
   | 0,hj=>cases hj; exact hB30.cellAt 0 rfl) (fun u hu=>by simp only [List.mem_cons,List.not_mem_nil,or_false] at hu; subst hu; rfl) (by omega) (by omega) hb.size (fun l2 lc2 w2 hO2 hg2 hbel _=>?_)
  have hmo:ModT w w2 w0.heap.size [52]:=ModT.app hl hg2 hbel rfl hO2
  have hb:=hb.trans hbel
  have hB5:=hB5.mod hmo rfl
  have hB7:=hB7.mod hmo rfl
  have hib:=hib.mod hmo rfl
  clear hmo hg2 hbel hl
  rename World=>w
  refine L.va (x_asS rfl) ?_
  refine L.nil ?_
  refine B.nrm ?_
  show W _ _ _ _ _ _
  refine W.seq ?_
  refine W.seq ?_
  refine W.region rfl ?_
  refine L.va (x_load rfl Try.underlying3 rfl (hB7.cellAt 0 (v:=.int .i64 (i:Int)) rfl)) ?_
  refine L.nil ?_
  show W _ _ _ _ _ _
  refine W.region rfl ?_
  refine L.alloc (cs:=#[.int .i64 0]) zr3 rfl (fun w bN FN=>?_)
  have ltN:w0.heap.size <= bN:=by have h9:=FN.here; have h8:=hb.size; omega
  have neN:b7 ≠ bN:=FN.ne hB7
  have hl7N:b7 < bN:=by have h9:=FN.here; have h8:=(blkF_of hB7).lt; omega
  have hltN:∀ j,j < i->ib j < bN:=fun j hj=>Nat.lt_trans (hlt7 j hj) hl7N
  have hb:=cl_step hb FN.below
  have hB5:=hB5.keep FN.below
  have hB7:=hB7.keep FN.below
  have hib:=hib.keep FN.below
  have hO2:=hO2.keep FN.below
  have hBN:=FN.blk
  refine L.put (b:=bN) (o:=0) (vs:=[.int .i64 (i:Int)]) #[.int .i64 (i:Int)] rfl rfl rfl sz3 rfl rfl hBN (Nat.le_of_ble_eq_true rfl) rfl (fun w hnew hg hsz=>?_)
  have hm0:=ModT.put0 hBN hg
  have hb:=below_gr hb hb.size hg ltN
  have hB5:=hB5.mod hm0 rfl
  have hB7:=hB7.other hg neN
  have hib:=hib.otherB hg (fun j hj=>Nat.ne_of_lt (hltN j hj))
  have hO2:=hO2.mod hm0 rfl
  have hBN:=hnew
  clear hm0
  refine L.nil ?_
  show W _ _ _ _ _ _
  refine W.region rfl ?_
  refine L.va (x_load rfl Try.underlying3 rfl (hBN.cellAt 0 (v:=.int .i64 (i:Int)) rfl)) ?_
  refine L.va (x_inc rfl rfl (by omega)) ?_
  refine L.put (b:=bN) (o:=0) (vs:=[.int .i64 ((i + 1:Nat):Int)]) #[.int .i64 ((i + 1:Nat):Int)] rfl rfl rfl sz3 rfl rfl hBN (Nat.le_of_ble_eq_true rfl) rfl (fun w hnew hg hsz=>?_)
  have hm0:=ModT.put0 hBN hg
  have hb:=below_gr hb hb.size hg ltN
  have hB5:=hB5.mod hm0 rfl
  have hB7:=hB7.other hg neN
  have hib:=hib.otherB hg (fun j hj=>Nat.ne_of_lt (hltN j hj))
  have hO2:=hO2.mod hm0 rfl
  have hBN:=hnew
  clear hm0
  refine L.nil ?_
  refine T.nrm ?_
  exact ⟨_,by omega,⟨i + 1,l2,lc2,bN,upN ib i b7,rfl,rfl,rfl,rfl,rfl,rfl,(by omega),(by rw [range_fvN]; exact hO2),hB5,hBN,hib.snoc (blkF_of hB7) lt7,(fun j hj=>if e:j = i then (by subst e; rw [upN_eq]; exact hl7N) else (by rw [upN_ne e]; exact hltN j (by omega))),ltN,hb⟩⟩
 ·obtain rfl:m = i:=by omega
  refine W.exit ?_
  repeat (first | refine T.exit ?_ | refine N.exit ?_ | refine B.exitNe (by decide) ?_)
  refine B.exitEq ?_
  show W _ _ _ _ _ _
  refine W.seq ?_
  refine W.region rfl ?_
  refine L.va (x_mvS rfl) ?_
  refine L.va (x_mvS rfl) ?_
  have hO:RunOk (cnSys m b5 ib lb pl) (fun _=>23) (fun k=>#[.pointer (some ⟨b5,0,none⟩),.pointer (some ⟨ib k,0,none⟩)]) (fun k=>fvN b5 ib k) l sa sn sc:=by
   refine ⟨cn_ok,hm,by omega,hl.sl,hSc.sl,fun i hi=>.inr ⟨rfl,rfl,_,Try.func23,rfl,nm23⟩,by rw [(cn_pn sc sn).nts]; exact Nat.zero_le _,fun base i cb top u F hi _ hst=>?_⟩
   obtain ⟨s0,⟨_,hB0,hI0⟩,hs0⟩:=CSt.start hst (fun _=>rfl)
   exact cnbody_p hi s0 u ⟨hB0,hI0⟩ hs0 (Proc ((cnSys m b5 ib lb pl).cfg (fun _=>23) ((cnSys m b5 ib lb pl).pn sc sn) base i cb top)) rfl top fun e u2 fr he hf hl=>by obtain ⟨F2,hd⟩:=he; exact .done hf hl hd
  have hScw:=hSc.keep hb
  refine L.call (x_call2 rfl rfl Try.func19 rfl nm19 rfl) (run_any (Y:=(cnSys m b5 ib lb pl)) (lc:=lc) hO ⟨rfl,blkF_of hB5,hib.at_⟩ (fun j hj=>by rw [hl.off,Nat.zero_add,Nat.mul_one]; exact hl.cell (by rw [List.getElem?_map,List.getElem?_range hj]; rfl)) (fun h0 e=>by rcases e with e | ⟨j,hj,e⟩; exact Own.neBlk' hl (blkF_of hB5) (by decide) h0 e; exact Own.neBlk' hl (hib.at_ j hj) (by decide) h0 e) hScw (fun h0 e=>by have h2:=cell_lt (hSc.cell 0 h0); have h2:ab sa < w0.heap.size:=h2; rcases e with e | ⟨j,hj,e⟩; omega; have:=hib.le j hj; omega)) ?_
  rintro _ w1 ⟨R,rfl,hX,⟨F',⟨rfl,hB5n,hibn⟩,hns⟩,ho1,ho2,ho3,hsz,hkp⟩
  have hbs0:=hb.size
  have hb:Below w0.heap.size w0 w1:=⟨ho1.trans hb.os,ho3.trans hb.tape,ho2.trans hb.output,Nat.le_trans hb.size hsz,fun k hk=>(hkp k (Nat.lt_of_lt_of_le hk hb.size) (by rintro (e | ⟨j,hj,e⟩); omega; have:=hib.le j hj; omega)).trans (hb.block k hk)⟩
  have hX:=hX.down hbs0
  have hnum:∀ e,e ∈ R.evs->e.2.num = (e.1:Int):=fun e he=>(cn_pn (m:=m) (wb:=b5) (ib:=ib) (lb:=lb) (pl:=pl) sc sn).evs e (hX.evs ▸ he)
  have hlen:R.evs.length <= 1000:=by rw [hX.evs]; exact Nat.le_trans (Sys.evs_pn sc sn).1 hsn
  have hns5:=hns b5 (.inl rfl)
  have hB5:Blk w1 b5 #[.bool false] 4:=hB5n
  clear hB5n hibn hib hO hScw hl ho1 ho2 ho3 hsz hkp hlt7 hB7 hns
  rename World=>w
  refine L.va (x_mvT rfl) ?_
  refine L.va (x_extract rfl rfl) ?_
  refine L.va (x_extract rfl rfl) ?_
  refine L.alloc (cs:=#[.slice none 0 0,.slice none 0 0,.slice none 0 0,.slice none 0 0,.bool false,.int .i64 0]) zr31 rfl (fun w b8 F8=>?_)
  have lt8:w0.heap.size <= b8:=by have h9:=F8.here; have h8:=hb.size; omega
  have hn8:¬ R.fp b8:=fun z=>by have:=hX.mem.lt z; have:=F8.here; omega
  have hb:=cl_step hb F8.below
  have hX:=hX.keep F8.below
  have hB5:=hB5.keep F8.below
  have hB8:=F8.blk
  refine L.put (b:=b8) (o:=0) (vs:=[.slice (R.ea) (R.evs.length) (R.ec),.slice (R.na) (R.nts.length) (R.nc),.slice (some ⟨R.eb,0,none⟩) (R.m) (R.m),.slice (some ⟨R.wb,0,none⟩) (R.m) (R.m),.bool (R.stuck),.int .i64 (R.used:Int)]) #[.slice (R.ea) (R.evs.length) (R.ec),.slice (R.na) (R.nts.length) (R.nc),.slice (some ⟨R.eb,0,none⟩) (R.m) (R.m),.slice (some ⟨R.wb,0,none⟩) (R.m) (R.m),.bool (R.stuck),.int .i64 (R.used:Int)] rfl rfl rfl sz31 rfl rfl hB8 (Nat.le_of_ble_eq_true rfl) rfl (fun w hnew hg hsz=>?_)
  have hm0:=ModT.put0 hB8 hg
  have hb:=below_gr hb hb.size hg lt8
  have hX:=hX.otherB hg hn8
  have hB5:=hB5.mod hm0 rfl
  have hB8:=hnew
  clear hm0
  refine L.va (x_asI rfl) ?_
  refine L.nil ?_
  show W _ _ _ _ _ _
  refine W.seq ?_
  refine W.seq ?_
  refine W.region rfl ?_
  refine L.va (x_asI rfl) ?_
  refine L.nil ?_
  show W _ _ _ _ _ _
  refine W.block ?_
  refine W.loop (fun k e w=>∃ (i:Nat),k = R.evs.length - i/\e 0 = .int .i64 (m:Int)/\e 5 = .pointer (some ⟨b5,0,none⟩)/\e 8 = .pointer (some ⟨b8,0,none⟩)/\e 9 = .int .i64 0/\e 10 = .int .i64 (i:Int)/\i <= R.evs.length/\RunX (cnSys m b5 ib lb pl) sc sn w0.heap.size R w/\Blk w b5 #[.bool false] 4/\Blk w b8 #[.slice R.ea R.evs.length R.ec,.slice R.na R.nts.length R.nc,.slice (some ⟨R.eb,0,none⟩) R.m R.m,.slice (some ⟨R.wb,0,none⟩) R.m R.m,.bool R.stuck,.int .i64 (R.used:Int)] 31/\Below w0.heap.size w0 w) _ ⟨0,rfl,rfl,rfl,rfl,rfl,rfl,Nat.zero_le _,hX,hB5,hB8,hb⟩ ?_
  rintro k e w ⟨i,hk,s0,s5,s8,s9,s10,hi,hX,hB5,hB8,hb⟩
  rw [upd_id s0,upd_id s5,upd_id s8,upd_id s9,upd_id s10]
  clear s0 s5 s8 s9 s10
  refine W.seq ?_
  refine W.seq ?_
  refine W.region rfl ?_
  refine L.va (x_mvI rfl) ?_
  refine L.va (x_field rfl Try.underlying31 rfl sz27 (by decide)) ?_
  refine L.va (x_load rfl Try.underlying27 rfl (hB8.cellAt 0 (v:=.slice (R.ea) (R.evs.length) (R.ec)) rfl)) ?_
  refine L.va (x_len rfl Try.underlying27 rfl) ?_
  refine L.va (x_lss rfl rfl) ?_
  refine L.nil ?_
  show W _ _ _ _ _ _
  refine W.condP rfl (fun h43=>?_) (fun h43=>?_)
  ·have hlt:i < R.evs.length:=by omega
   refine W.skip ?_
   show W _ _ _ _ _ _
   refine W.seq ?_
   refine W.block ?_
   obtain ⟨ev,hev⟩:∃ ev,R.evs[i]? = some ev:=⟨_,List.getElem?_eq_getElem hlt⟩
   have hnm:=hnum ev (List.mem_of_getElem? hev)
   refine W.lastL 17 (fun w'=>Below w.heap.size w w') (by kernel_rfl) (by kernel_rfl) (by kernel_rfl) (by kernel_rfl) ((Below.refl w.heap.size w).drew) ?_
   refine D.va (fun w' hw'=>(x_load rfl Try.underlying4 rfl ((hB5.keep hw').cellAt 0 (v:=.bool false) rfl))) ?_
   refine D.va (fun w' hw'=>(x_mvB rfl)) ?_
   refine D.on rfl ?_
   refine D.va (fun w' hw'=>(x_field rfl Try.underlying31 rfl sz27 (by decide))) ?_
   refine D.on rfl ?_
   refine D.va (fun w' hw'=>(x_load rfl Try.underlying27 rfl ((hB8.keep hw').cellAt 0 (v:=.slice (R.ea) (R.evs.length) (R.ec)) rfl))) ?_
   refine D.on rfl ?_
   refine D.va (fun w' hw'=>(x_mvI rfl)) ?_
   refine D.on rfl ?_
   refine D.va (fun w' hw'=>(x_idx (i:=i) rfl rfl Try.underlying27 sz45 hX.mem.evs.sl hlt)) ?_
   refine D.on rfl ?_
   refine D.va (fun w' hw'=>(x_field rfl Try.underlying45 rfl sz3 (by decide))) ?_
   refine D.on rfl ?_
   refine D.va (fun w' hw'=>(x_load (v:=.int .i64 (ev.1:Int)) rfl Try.underlying3 rfl ((hX.keep hw').mem.evs_at (k:=0) hev rfl))) ?_
   refine D.on rfl ?_
   refine D.va (fun w' hw'=>(x_field rfl Try.underlying31 rfl sz27 (by decide))) ?_
   refine D.on rfl ?_
   refine D.va (fun w' hw'=>(x_load rfl Try.underlying27 rfl ((hB8.keep hw').cellAt 0 (v:=.slice (R.ea) (R.evs.length) (R.ec)) rfl))) ?_
   refine D.on rfl ?_
   refine D.va (fun w' hw'=>(x_mvI rfl)) ?_
   refine D.on rfl ?_
   refine D.va (fun w' hw'=>(x_idx (i:=i) rfl rfl Try.underlying27 sz45 hX.mem.evs.sl hlt)) ?_
   refine D.on rfl ?_
   refine D.va (fun w' hw'=>(x_field rfl Try.underlying45 rfl sz43 (by decide))) ?_
   refine D.on rfl ?_
   refine D.va (fun w' hw'=>(x_field rfl Try.underlying43 rfl sz3 (by decide))) ?_
   refine D.on rfl ?_
   refine D.va (fun w' hw'=>(x_load (v:=.int .i64 ev.2.num) rfl Try.underlying3 rfl ((hX.keep hw').mem.evs_at (k:=3) hev rfl))) ?_
   refine D.on rfl ?_
   refine D.va (fun w' hw'=>(d_bool (r:=false) (decide_eq_false (by rw [hnm]; exact fun h=>h rfl)) (x_neq (m:=(ev.1:Int)) (k:=ev.2.num) rfl rfl))) ?_
   refine D.va (fun w' hw'=>(x_pickF rfl)) ?_
   refine D.nil (fun w hbw=>?_)
   have hb:=cl_step hb hbw
   have hX:=hX.keep hbw
   have hB5:=hB5.keep hbw
   have hB8:=hB8.keep hbw
   clear hbw
   refine L.put (b:=b5) (o:=0) (vs:=[.bool false]) #[.bool false] rfl rfl rfl sz4 rfl rfl hB5 (Nat.le_of_ble_eq_true rfl) rfl (fun w hnew hg hsz=>?_)
   have hm0:=ModT.put0 hB5 hg
   have hb:=below_gr hb hb.size hg lt5
   have hX:=hX.otherB hg hns5
   have hB8:=hB8.mod hm0 rfl
   have hB5:=hnew
   clear hm0
   refine L.nil ?_
   refine B.nrm ?_
   show W _ _ _ _ _ _
   refine W.region rfl ?_
   refine L.va (x_mvI rfl) ?_
   refine L.va (x_inc rfl rfl (by omega)) ?_
   refine L.va (x_asI rfl) ?_
   refine L.nil ?_
   refine T.nrm ?_
   exact ⟨_,by omega,⟨i + 1,rfl,rfl,rfl,rfl,rfl,rfl,(by omega),hX,hB5,hB8,hb⟩⟩
  ·refine W.exit ?_
   repeat (first | refine T.exit ?_ | refine N.exit ?_ | refine B.exitNe (by decide) ?_)
   refine B.exitEq ?_
   show W _ _ _ _ _ _
   refine W.seq ?_
   refine W.region rfl ?_
   refine L.va (x_mvI rfl) ?_
   refine L.call (x_call1 rfl Try.func12 rfl nm12 rfl) (errno_c 0 _) ?_
   rintro _ w1 ⟨rfl,hw1⟩
   rw [hw1]
   clear hw1 w1
   refine L.va (d_bool (r:=true) (by decide) (x_eql (m:=0) (k:=0) rfl rfl)) ?_
   refine L.va (x_mvB rfl) ?_
   refine L.on rfl ?_
   refine L.va (x_load rfl Try.underlying4 rfl (hB5.cellAt 0 (v:=.bool false) rfl)) ?_
   refine L.on rfl ?_
   refine L.va (x_not rfl) ?_
   refine L.va (x_pickT rfl) ?_
   refine L.va (x_mvB rfl) ?_
   refine L.on rfl ?_
   refine L.call (x_call0 Try.func13 rfl nm13 rfl) (live_c _) ?_
   rintro _ w1 ⟨rfl,hbw⟩
   have hb:=cl_step hb hbw
   have hX:=hX.keep hbw
   have hB5:=hB5.keep hbw
   have hB8:=hB8.keep hbw
   clear hbw
   rename World=>w
   refine L.va (x_pickT rfl) ?_
   refine L.va (x_asB rfl) ?_
   refine L.nil ?_
   show W _ _ _ _ _ _
   refine W.ret ?_
   repeat (first | refine T.ret ?_ | refine B.ret ?_ | refine N.ret ?_)
   refine ends.one (.inr rfl) rfl ?_
   exact ⟨rfl,hb⟩
theorem counts_no {lb sn scp:Nat} {pl:Nat->Plug} {n:Int} {sa:Option Addr} (w0:World) (hno:n < 0\/16 < n\/1000 < sn):@C Try.prog (loneCtx lb pl) 10 #[.int .i64 n,.slice sa sn scp] w0 fun v w=>v = .bool true/\Below w0.heap.size w0 w:=by
 letI:Ctx Try.prog:=loneCtx lb pl
 refine C.enter (n:=73) Try.func10 rfl rfl ?_
 have hb:Below w0.heap.size w0 w0:=Below.refl _ _
 refine W.seq ?_
 refine W.region rfl ?_
 refine L.va (x_asB rfl) ?_
 refine L.nil ?_
 show W _ _ _ _ _ _
 refine W.seq ?_
 refine W.seq ?_
 refine W.region rfl ?_
 refine L.va (x_mvI rfl) ?_
 refine L.va (x_lss rfl rfl) ?_
 refine L.va (x_mvB rfl) ?_
 refine L.meetB 3 [13,14,15,16] 16 (.bool (decide (n < 0\/16 < n))) (tj:=13) rfl (fun hb13=>?_) (fun hb13=>?_) (fun f=>?_)
 ·refine L.off rfl ?_
  refine L.off rfl ?_
  refine L.va (x_pickT rfl) ?_
  refine L.nil ?_
  refine ⟨rfl,congrArg Value.bool (by first | exact or_t hb13 | rfl | (simp_all; done) | (rw [Bool.eq_iff_iff]; simp_all; omega)),?_⟩
  exact Agree.upd rfl (Agree.upd rfl (Agree.upd rfl (Agree.upd rfl (Agree.refl _ _))))
 ·refine L.on rfl ?_
  refine L.va (x_mvI rfl) ?_
  refine L.on rfl ?_
  refine L.va (x_gtr rfl rfl) ?_
  refine L.va (x_pickF rfl) ?_
  refine L.nil ?_
  refine ⟨rfl,congrArg Value.bool (by first | exact or_f hb13 | rfl | (simp_all; done) | (rw [Bool.eq_iff_iff]; simp_all; omega)),?_⟩
  exact Agree.upd rfl (Agree.upd rfl (Agree.upd rfl (Agree.upd rfl (Agree.refl _ _))))
 refine L.va (x_mvB rfl) ?_
 refine L.meetB 4 [17,18,19,20,21] 21 (.bool (decide (n < 0\/16 < n\/1000 < sn))) (tj:=17) rfl (fun hb17=>?_) (fun hb17=>?_) (fun f=>?_)
 ·refine L.off rfl ?_
  refine L.off rfl ?_
  refine L.off rfl ?_
  refine L.va (x_pickT rfl) ?_
  refine L.nil ?_
  refine ⟨rfl,congrArg Value.bool (by first | exact or_t hb17 | rfl | (simp_all; done) | (rw [Bool.eq_iff_iff]; simp_all; omega)),?_⟩
  exact Agree.upd rfl (Agree.upd rfl (Agree.upd rfl (Agree.upd rfl (Agree.upd rfl (Agree.refl _ _)))))
 ·refine L.on rfl ?_
  refine L.va (x_mvS rfl) ?_
  refine L.on rfl ?_
  refine L.va (x_len rfl Try.underlying26 rfl) ?_
  refine L.on rfl ?_
  refine L.va (x_gtr rfl rfl) ?_
  refine L.va (x_pickF rfl) ?_
  refine L.nil ?_
  refine ⟨rfl,congrArg Value.bool (by first | exact or_f hb17 | rfl | (simp_all; done) | (rw [Bool.eq_iff_iff]; simp_all; omega)),?_⟩
  exact Agree.upd rfl (Agree.upd rfl (Agree.upd rfl (Agree.upd rfl (Agree.upd rfl (Agree.refl _ _)))))
 refine L.nil ?_
 show W _ _ _ _ _ _
 refine W.condP rfl (fun h21=>?_) (fun h21=>?_)
 ·refine W.seq ?_
  refine W.region rfl ?_
  refine L.call (x_call0 Try.func13 rfl nm13 rfl) (live_c _) ?_
  rintro _ w1 ⟨rfl,hbw⟩
  have hb:=cl_step hb hbw
  clear hbw
  rename World=>w
  refine L.va (x_asB rfl) ?_
  refine L.nil ?_
  show W _ _ _ _ _ _
  refine W.ret ?_
  repeat (first | refine T.ret ?_ | refine B.ret ?_ | refine N.ret ?_)
  refine ends.one (.inr rfl) rfl ?_
  exact ⟨rfl,hb⟩
 ·exact absurd hno h21
theorem counts_l {lb sn scp:Nat} {pl:Nat->Plug} {sa:Option Addr} {sc:Nat->Int} (n:Int) (w0:World) (hSc:ScAt w0 sa sn scp sc):@C Try.prog (loneCtx lb pl) 10 #[.int .i64 n,.slice sa sn scp] w0 fun v w=>v = .bool true/\Below w0.heap.size w0 w:=by
 by_cases h:n < 0\/16 < n\/1000 < sn
 ·exact counts_no w0 h
 ·obtain ⟨m,rfl⟩:∃ m:Nat,n = (m:Int):=⟨n.toNat,by omega⟩
  exact counts_ok w0 hSc (by omega) (by omega)
end Go.Vy.Sc
end
