/- What the claim leans on, part 5. The law's step, as a client goes through it. -/
import Derived.Test.YtfmoeemolgjodaaK4
import Derived.Conc.LeavingOf
import Derived.ProofKit
import Derived.Deep.Slices
import Derived.SizedLaws
import Derived.ChangeKeysEq
import Derived.JoinedCond
import Derived.Deep.CondSized
set_option linter.unusedVariables false
section
namespace Go.Vy.Sc
open Go Go.Conc Go.Yc Go.RowKit Go.Proofs Go.Proofs.Ytfmoeemolgjodaa
open Go.Vc Go.Wg
theorem fnIs {f:FuncId} {caps:Array Value} {fn:Func} (h1:Try.prog.funcs[f]? = some fn) (h2:fn.body.isSome = true) (h3:(fn.name == "runtime.NumGoroutine") = false):FnIs Try.prog (.func (.func f) #[] caps) f caps:=⟨rfl,fn,h1,h2,h3⟩
theorem step_p {Λ:Lay} {fb:Nat->FuncId} {q:PR (bodiesSys Λ)} {w0:World} {n cb:Nat} {top:List Frame} (hΛ:LayOk Λ) (hn:n < Λ.m) {k j:Nat} {c:Cells} {o:OpD} (ho:(Λ.bo n)[k]? = some o) (hk:o.kind = 1) (w:World) (hs:BSt Λ fb q w0 n cb top k j c w) :
  @Calls Try.prog (procCtx ((bodiesSys Λ).cfg fb q w0 n cb top)) 41 #[.pointer (some ⟨Λ.sb,0,none⟩),.pointer (some ⟨cb,0,none⟩),.agg (opC o).toArray] w (fun e u2=>match e with
   | .returned v=>v = .tuple #[]/\∃ c',BSt Λ fb q w0 n cb top (k + 1) j c' u2
   | .panicked ch=>Raised ch/\((bodiesSys Λ).cfg fb q w0 n cb top).Done u2 Λ.F (.panicked ch)
   | .outgrown=>False):=by
 letI:Ctx Try.prog:=procCtx ((bodiesSys Λ).cfg fb q w0 n cb top)
 refine Calls.enterP (n:=16) Try.func41 rfl rfl ?_
 have hi0:=hs.inv
 have hb:Below w.heap.size w w:=Below.refl _ _
 obtain ⟨wE,hwE⟩:∃ wE,wE = w:=⟨_,rfl⟩
 rw [<- hwE] at hi0
 refine W.seq ?_
 refine W.region rfl ?_
 refine L.box (cs:=#[.pointer (some (⟨Λ.sb,0,none⟩))]) rfl rfl (fun w b3 F3=>?_)
 have hb:=cl_step hb F3.below
 have hs:=hs.keep F3.below
 have hB3:=F3.blk
 refine L.box (cs:=#[.int .i64 (o.kind),.int .i64 (o.step.kind),.int .i64 (o.step.obj),.int .i64 (o.step.num),.bool (o.free),.int .i64 (o.cell),.int .i64 (o.least),.int .i64 (o.to),.int .i64 (o.by_),.string (o.text)]) rfl rfl (fun w b5 F5=>?_)
 have hb:=cl_step hb F5.below
 have hs:=hs.keep F5.below
 have hB3:=hB3.keep F5.below
 have hB5:=F5.blk
 refine L.nil ?_
 show W _ _ _ _ _ _
 refine W.seq ?_
 refine W.region rfl ?_
 refine L.va (x_makeFuncL (l:=[.tmp 3,.tmp 5]) (vs:=[.pointer (some ⟨b3,0,none⟩),.pointer (some ⟨b5,0,none⟩)]) rfl) ?_
 refine L.va (x_asF rfl) ?_
 refine L.nil ?_
 show W _ _ _ _ _ _
 refine W.seq ?_
 refine W.seq ?_
 refine W.region rfl ?_
 refine L.va (x_field rfl Try.underlying63 rfl sz4 (by decide)) ?_
 refine L.va (x_load rfl Try.underlying4 rfl (hB5.cellAt 4 (v:=.bool (o.free)) rfl)) ?_
 refine L.nil ?_
 show W _ _ _ _ _ _
 refine W.cond rfl (fun h9=>?_) (fun h9=>?_)
 ·refine W.region rfl ?_
  refine L.va x_assign ?_
  refine L.nil ?_
  show W _ _ _ _ _ _
  refine W.region rfl ?_
  refine L.va (x_mvP rfl) ?_
  refine L.va (x_field rfl Try.underlying63 rfl sz43 (by decide)) ?_
  refine L.va (x_loadAgg (cs:=[.int .i64 (o.step.kind),.int .i64 (o.step.obj),.int .i64 (o.step.num)]) rfl Try.underlying43 rfl sz43 rfl (hB5.aggAt rfl)) ?_
  refine L.va x_move ?_
  refine L.va (x_makeFuncL (l:=[.tmp 3,.tmp 5]) (vs:=[.pointer (some ⟨b3,0,none⟩),.pointer (some ⟨b5,0,none⟩)]) rfl) ?_
  have hl3:wE.heap.size <= b3:=by have:=F3.here; rw [hwE]; omega
  have hl5:wE.heap.size <= b5:=by have h1:=F5.here; have h2:=F3.below.size; rw [hwE]; omega
  have ht:=hs.told (f:=.inl (k,j)) (by rw [opsGo_at ho,if_pos hk])
  have hkeep:∀ u F',((bodiesSys Λ).cfg fb q w0 n cb top).Later w Λ.F u F'->F' = Λ.F/\ShInv Λ ((bodiesSys Λ).sAt q (gh u 0)) u/\BlkF u b3 #[.pointer (some ⟨Λ.sb,0,none⟩)] 32 (0,0)/\BlkF u b5 (opC o).toArray 63 (0,0):=fun u F' hl=>by
   obtain ⟨hF,hi⟩:=hl.inv
   refine ⟨hF,hi,(hl.keep b3 hB3.lt (blkF_ne_nothing (f:=(0,0)) (blkF_of hB3) (by show 0 < 1; decide)) (fun z=>?_)).1.trans hB3,(hl.keep b5 hB5.lt (blkF_ne_nothing (f:=(0,0)) (blkF_of hB5) (by show 0 < 10; decide)) (fun z=>?_)).1.trans hB5⟩
   ·have:=(hi0.vis z).1; omega
   ·have:=(hi0.vis z).1; omega
  have hr:((bodiesSys Λ).cfg fb q w0 n cb top).ReadyOk w Λ.F .nilFunc (k,j):=.inl ⟨rfl,fun s=>by
   show (match (Λ.bo n)[k]? with | some o=>o.free || decide (o.least <= s (at4 o.cell)) | none=>true) = true
   rw [ho]; simp [h9]⟩
  have hdo:∀ u F',((bodiesSys Λ).cfg fb q w0 n cb top).Goes w Λ.F (k,j) u F'->DoOk Try.prog (.func (.func 48) #[] #[.pointer (some ⟨b3,0,none⟩),.pointer (some ⟨b5,0,none⟩)]) u (fun u2=>BlkF u2 Λ.sb (shC (addC ((bodiesSys Λ).sAt q (gh u 0)) (at4 o.to) o.by_)) 39 (0,0)/\ModS (fun b=>b = Λ.sb) u.heap.size u u2):=fun u F' hg=>by
   obtain ⟨hF,hi,g3,g5⟩:=hkeep u F' hg.later
   letI:Ctx Try.prog:=baseCtx Try.prog false
   exact .inr ⟨48,_,fnIs Try.func48 rfl nm48,C.mono (do_c _ o u u (Below.refl _ _) hi.sh g3 g5) fun v u' hv=>hv.2⟩
  refine L.callP' rfl (x_call4 rfl rfl rfl rfl Try.func18 rfl nm18 rfl) (proc_step ht (by show _ = stepV ((((Λ.bo n)[k]?).map (·.step)).getD sp0); rw [ho]; rfl) hr (.inr ⟨_,_,fnIs Try.func48 rfl nm48⟩) _ hdo) ?_ ?_ (fun _ h=>h)
  ·rintro v u2 ⟨rfl,u,F',hg,hR,htp⟩
   obtain ⟨hF,hi,g3,g5⟩:=hkeep u F' hg.later
   refine L.nil ?_
   repeat (first | refine T.nrm ?_ | refine B.nrm ?_ | refine N.nrm ?_)
   refine ends.none (.inl rfl) rfl ⟨rfl,_,BSt.goes ho hg ⟨hs.os,hs.output⟩ ⟨hR.1,fun b hb=>?_,hi.ok.add _ _⟩ htp ⟨hR.2.os,hR.2.output⟩⟩
   have h1:=hi.ro b hb
   have h2:u2.heap[b]? = u.heap[b]?:=hR.2.block b h1.2.1 fun e=>hΛ.sep (e ▸ hb)
   exact ⟨h2.trans h1.1,Nat.lt_of_lt_of_le h1.2.1 hR.2.size,by rw [h2]; exact h1.2.2⟩
  ·rintro ch u2 ⟨hra,F',hl,h2⟩
   obtain ⟨hF,hi,g3,g5⟩:=hkeep u2 F' hl
   exact ⟨hra,hra,.inr ⟨h2,⟨rfl,hi⟩,hl.os.trans hs.os,hl.output.trans hs.output⟩⟩
 ·refine W.skip ?_
  show W _ _ _ _ _ _
  refine W.region rfl ?_
  refine L.va (x_mvP rfl) ?_
  refine L.va (x_field rfl Try.underlying63 rfl sz43 (by decide)) ?_
  refine L.va (x_loadAgg (cs:=[.int .i64 (o.step.kind),.int .i64 (o.step.obj),.int .i64 (o.step.num)]) rfl Try.underlying43 rfl sz43 rfl (hB5.aggAt rfl)) ?_
  refine L.va (x_mvF rfl) ?_
  refine L.va (x_makeFuncL (l:=[.tmp 3,.tmp 5]) (vs:=[.pointer (some ⟨b3,0,none⟩),.pointer (some ⟨b5,0,none⟩)]) rfl) ?_
  have hl3:wE.heap.size <= b3:=by have:=F3.here; rw [hwE]; omega
  have hl5:wE.heap.size <= b5:=by have h1:=F5.here; have h2:=F3.below.size; rw [hwE]; omega
  have ht:=hs.told (f:=.inl (k,j)) (by rw [opsGo_at ho,if_pos hk])
  have hkeep:∀ u F',((bodiesSys Λ).cfg fb q w0 n cb top).Later w Λ.F u F'->F' = Λ.F/\ShInv Λ ((bodiesSys Λ).sAt q (gh u 0)) u/\BlkF u b3 #[.pointer (some ⟨Λ.sb,0,none⟩)] 32 (0,0)/\BlkF u b5 (opC o).toArray 63 (0,0):=fun u F' hl=>by
   obtain ⟨hF,hi⟩:=hl.inv
   refine ⟨hF,hi,(hl.keep b3 hB3.lt (blkF_ne_nothing (f:=(0,0)) (blkF_of hB3) (by show 0 < 1; decide)) (fun z=>?_)).1.trans hB3,(hl.keep b5 hB5.lt (blkF_ne_nothing (f:=(0,0)) (blkF_of hB5) (by show 0 < 10; decide)) (fun z=>?_)).1.trans hB5⟩
   ·have:=(hi0.vis z).1; omega
   ·have:=(hi0.vis z).1; omega
  have hr:((bodiesSys Λ).cfg fb q w0 n cb top).ReadyOk w Λ.F (.func (.func 47) #[] #[.pointer (some ⟨b3,0,none⟩),.pointer (some ⟨b5,0,none⟩)]) (k,j):=.inr ⟨47,_,fnIs Try.func47 rfl nm47,fun u F' hl=>by
   obtain ⟨hF,hi,g3,g5⟩:=hkeep u F' hl
   letI:Ctx Try.prog:=baseCtx Try.prog true
   refine C.mono (rdy_c _ o u u (Below.refl _ _) hi.sh g3 g5) fun v u' hv=>⟨?_,hv.2⟩
   rw [hv.1]; show _ = Value.bool (match (Λ.bo n)[k]? with | some o=>o.free || decide (o.least <= _) | none=>true)
   rw [ho]; simp [h9]; rfl⟩
  have hdo:∀ u F',((bodiesSys Λ).cfg fb q w0 n cb top).Goes w Λ.F (k,j) u F'->DoOk Try.prog (.func (.func 48) #[] #[.pointer (some ⟨b3,0,none⟩),.pointer (some ⟨b5,0,none⟩)]) u (fun u2=>BlkF u2 Λ.sb (shC (addC ((bodiesSys Λ).sAt q (gh u 0)) (at4 o.to) o.by_)) 39 (0,0)/\ModS (fun b=>b = Λ.sb) u.heap.size u u2):=fun u F' hg=>by
   obtain ⟨hF,hi,g3,g5⟩:=hkeep u F' hg.later
   letI:Ctx Try.prog:=baseCtx Try.prog false
   exact .inr ⟨48,_,fnIs Try.func48 rfl nm48,C.mono (do_c _ o u u (Below.refl _ _) hi.sh g3 g5) fun v u' hv=>hv.2⟩
  refine L.callP' rfl (x_call4 rfl rfl rfl rfl Try.func18 rfl nm18 rfl) (proc_step ht (by show _ = stepV ((((Λ.bo n)[k]?).map (·.step)).getD sp0); rw [ho]; rfl) hr (.inr ⟨_,_,fnIs Try.func48 rfl nm48⟩) _ hdo) ?_ ?_ (fun _ h=>h)
  ·rintro v u2 ⟨rfl,u,F',hg,hR,htp⟩
   obtain ⟨hF,hi,g3,g5⟩:=hkeep u F' hg.later
   refine L.nil ?_
   repeat (first | refine T.nrm ?_ | refine B.nrm ?_ | refine N.nrm ?_)
   refine ends.none (.inl rfl) rfl ⟨rfl,_,BSt.goes ho hg ⟨hs.os,hs.output⟩ ⟨hR.1,fun b hb=>?_,hi.ok.add _ _⟩ htp ⟨hR.2.os,hR.2.output⟩⟩
   have h1:=hi.ro b hb
   have h2:u2.heap[b]? = u.heap[b]?:=hR.2.block b h1.2.1 fun e=>hΛ.sep (e ▸ hb)
   exact ⟨h2.trans h1.1,Nat.lt_of_lt_of_le h1.2.1 hR.2.size,by rw [h2]; exact h1.2.2⟩
  ·rintro ch u2 ⟨hra,F',hl,h2⟩
   obtain ⟨hF,hi,g3,g5⟩:=hkeep u2 F' hl
   exact ⟨hra,hra,.inr ⟨h2,⟨rfl,hi⟩,hl.os.trans hs.os,hl.output.trans hs.output⟩⟩
end Go.Vy.Sc
end
/- The law's body, as a client goes through it. -/
section
namespace Go.Vy.Sc
open Go Go.Conc Go.Yc Go.RowKit Go.Proofs Go.Proofs.Ytfmoeemolgjodaa
open Go.Vc Go.Wg
theorem ShInv.add {Λ:Lay} {c:Cells} {w:World} (h:ShInv Λ c w) (hsep:¬ Λ.RO Λ.sb) (k:Nat) (b:Int):ShInv Λ (addC c k b) (setBlkF w Λ.sb (shC (addC c k b)) 39 (0,0)):=by
 refine ⟨setBlkF_self h.sh _ _ _,fun r hr=>?_,h.ok.add _ _⟩
 have h1:=h.ro r hr
 have h2:(setBlkF w Λ.sb (shC (addC c k b)) 39 (0,0)).heap[r]? = w.heap[r]?:=setBlkF_other fun e=>hsep (e ▸ hr)
 exact ⟨h2.trans h1.1,by rw [setBlkF_size]; exact h1.2.1,by rw [h2]; exact h1.2.2⟩
theorem d_boolK {S:Sem Next} {w:World} {p:Prop} [Decidable p] {r:Bool} (h:decide p = r) (hd:Does Try.prog S w (.val (.bool (decide p))) w):Does Try.prog S w (.val (.bool r)) w:=h ▸ hd
theorem add_assoc_cell (a:Nat):0 + a * 1 = a:=by omega
set_option maxHeartbeats 1000000 in
set_option maxRecDepth 20000 in
theorem body_p {Λ:Lay} {fb:Nat->FuncId} {q:PR (bodiesSys Λ)} {w0:World} {n cb:Nat} {top:List Frame} (hΛ:LayOk Λ) (hn:n < Λ.m) (c:Cells) (w:World) (hs:BSt Λ fb q w0 n cb top 0 0 c w) :
  @Calls Try.prog (procCtx ((bodiesSys Λ).cfg fb q w0 n cb top)) 40 #[.pointer (some ⟨cb,0,none⟩),.pointer (some ⟨Λ.b1 n,0,none⟩),.pointer (some ⟨Λ.b2 n,0,none⟩)] w (fun e u2=>((bodiesSys Λ).cfg fb q w0 n cb top).Done u2 Λ.F e):=by
 letI:Ctx Try.prog:=procCtx ((bodiesSys Λ).cfg fb q w0 n cb top)
 refine Calls.enterP (n:=113) Try.func40 rfl rfl ?_
 refine W.seq ?_
 refine W.region rfl ?_
 refine L.va (x_asI rfl) ?_
 refine L.nil ?_
 show W _ _ _ _ _ _
 refine W.seq ?_
 refine W.region rfl ?_
 refine L.va (x_asI rfl) ?_
 refine L.nil ?_
 show W _ _ _ _ _ _
 refine W.block ?_
 refine W.loop (fun k e w=>∃ (i:Nat),∃ (j:Nat),∃ (c:Cells),k = meas (Λ.bo n) i j/\e 0 = .pointer (some (⟨cb,0,none⟩))/\e 1 = .pointer (some ⟨(Λ.b1 n),0,none⟩)/\e 2 = .pointer (some ⟨(Λ.b2 n),0,none⟩)/\e 4 = .int .i64 (j:Int)/\e 5 = .int .i64 (i:Int)/\BSt Λ fb q w0 n cb top i j c w/\j <= 50/\i <= (Λ.bo n).length) _ ⟨0,0,c,rfl,rfl,rfl,rfl,rfl,rfl,hs,Nat.zero_le _,Nat.zero_le _⟩ ?_
 rintro k e w ⟨i,j,c,hk,s0,s1,s2,s4,s5,hs,hj,hi⟩
 rw [upd_id s0,upd_id s1,upd_id s2,upd_id s4,upd_id s5]
 clear s0 s1 s2 s4 s5
 refine W.seq ?_
 refine W.seq ?_
 refine W.region rfl ?_
 refine L.va (x_mvI rfl) ?_
 refine L.va (x_load rfl Try.underlying64 rfl ((hs.b1 hΛ hn).cellAt 0 (v:=.slice (Λ.ba n) ((Λ.bo n).length) (Λ.bc n)) rfl)) ?_
 refine L.va (x_len rfl Try.underlying64 rfl) ?_
 refine L.va (x_lss rfl rfl) ?_
 refine L.nil ?_
 show W _ _ _ _ _ _
 refine W.condP rfl (fun h10=>?_) (fun h10=>?_)
 ·have hlt:i < (Λ.bo n).length:=by omega
  have hln:=hΛ.len n hn
  obtain ⟨o,ho⟩:∃ o,(Λ.bo n)[i]? = some o:=⟨_,List.getElem?_eq_getElem hlt⟩
  refine W.skip ?_
  show W _ _ _ _ _ _
  refine W.block ?_
  refine W.seq ?_
  refine W.region rfl ?_
  refine L.va (x_load rfl Try.underlying64 rfl ((hs.b1 hΛ hn).cellAt 0 (v:=.slice (Λ.ba n) ((Λ.bo n).length) (Λ.bc n)) rfl)) ?_
  refine L.va (x_mvI rfl) ?_
  refine L.va (x_idx (i:=i) rfl rfl Try.underlying64 sz63 (hΛ.sl n hn) hlt) ?_
  refine L.va (x_loadAgg (cs:=opC o) rfl Try.underlying63 rfl sz63 rfl (fun x v hv=>hs.row hΛ hn ho x v hv)) ?_
  refine L.alloc (cs:=#[.int .i64 0,.int .i64 0,.int .i64 0,.int .i64 0,.bool false,.int .i64 0,.int .i64 0,.int .i64 0,.int .i64 0,.string ByteArray.empty]) zr63 rfl (fun w1 b6 F6=>?_)
  refine L.put (b:=b6) (o:=0) (vs:=[.int .i64 (o.kind),.int .i64 (o.step.kind),.int .i64 (o.step.obj),.int .i64 (o.step.num),.bool (o.free),.int .i64 (o.cell),.int .i64 (o.least),.int .i64 (o.to),.int .i64 (o.by_),.string (o.text)]) #[.int .i64 (o.kind),.int .i64 (o.step.kind),.int .i64 (o.step.obj),.int .i64 (o.step.num),.bool (o.free),.int .i64 (o.cell),.int .i64 (o.least),.int .i64 (o.to),.int .i64 (o.by_),.string (o.text)] rfl rfl rfl sz63 rfl rfl F6.blk (Nat.le_of_ble_eq_true rfl) (setRow_all rfl) (fun w2 hB6 hg hsz=>?_)
  have hbA:Below w.heap.size w w2:=below_gr F6.below F6.below.size hg (by have:=F6.here; omega)
  have hs:=hs.keep hbA
  clear hg hsz hbA F6
  rename World=>w
  refine L.nil ?_
  show W _ _ _ _ _ _
  refine W.seq ?_
  refine W.region rfl ?_
  refine L.va (x_mvI rfl) ?_
  refine L.va (x_inc rfl rfl (by omega)) ?_
  refine L.va (x_asI rfl) ?_
  refine L.nil ?_
  show W _ _ _ _ _ _
  refine W.seq ?_
  have h1:=(hs.b1 hΛ hn)
  have h2:=(hs.b2 hΛ hn)
  have hS:=hs.inv.sh
  refine W.lastL 13 (fun w'=>Below w.heap.size w w') (by kernel_rfl) (by kernel_rfl) (by kernel_rfl) (by kernel_rfl) ((Below.refl w.heap.size w).drew) ?_
  refine D.va (fun w' hw'=>(x_load rfl Try.underlying32 rfl ((h2.keep hw').cellAt 0 (v:=.pointer (some ⟨Λ.sb,0,none⟩)) rfl))) ?_
  refine D.va (fun w' hw'=>(x_load rfl Try.underlying32 rfl ((h2.keep hw').cellAt 0 (v:=.pointer (some ⟨Λ.sb,0,none⟩)) rfl))) ?_
  refine D.va (fun w' hw'=>(x_nilCheck rfl)) ?_
  refine D.va (fun w' hw'=>(x_field rfl Try.underlying39 rfl sz4 (by decide))) ?_
  refine D.va (fun w' hw'=>(x_load rfl Try.underlying4 rfl ((hS.keep hw').cellAt 4 (v:=.bool false) rfl))) ?_
  refine D.va (fun w' hw'=>(x_mvB rfl)) ?_
  refine D.on rfl ?_
  refine D.va (fun w' hw'=>(x_load rfl Try.underlying32 rfl ((h2.keep hw').cellAt 0 (v:=.pointer (some ⟨Λ.sb,0,none⟩)) rfl))) ?_
  refine D.on rfl ?_
  refine D.va (fun w' hw'=>(x_nilCheck rfl)) ?_
  refine D.on rfl ?_
  refine D.va (fun w' hw'=>(x_field rfl Try.underlying39 rfl sz4 (by decide))) ?_
  refine D.on rfl ?_
  refine D.va (fun w' hw'=>(x_load rfl Try.underlying4 rfl ((hS.keep hw').cellAt 5 (v:=.bool false) rfl))) ?_
  refine D.va (fun w' hw'=>(x_pickF rfl)) ?_
  refine D.va (fun w' hw'=>(x_nilCheck rfl)) ?_
  refine D.va (fun w' hw'=>(x_field rfl Try.underlying39 rfl sz4 (by decide))) ?_
  refine D.nil (fun w hbw=>?_)
  have hs:=hs.keep hbw
  have hB6:=hB6.keep hbw
  have h1:=h1.keep hbw
  have h2:=h2.keep hbw
  have hS:=hS.keep hbw
  clear hbw
  refine L.putF (b:=Λ.sb) (o:=4) (f:=(0,0)) (shC c) rfl rfl rfl sz4 rfl rfl hs.inv.sh (by show 4 + 1 <= 6; decide) (.inr (Nat.zero_le _)) rfl ?_
  rw [setBlkF_same hs.inv.sh]
  refine L.nil ?_
  try clear h1
  try clear h2
  try clear hS
  show W _ _ _ _ _ _
  refine W.seq ?_
  refine W.region rfl ?_
  refine L.va (x_field rfl Try.underlying63 rfl sz3 (by decide)) ?_
  refine L.va (x_load rfl Try.underlying3 rfl (hB6.cellAt 0 (v:=.int .i64 (o.kind)) rfl)) ?_
  refine L.nil ?_
  show W _ _ _ _ _ _
  refine W.block ?_
  refine W.seq ?_
  refine W.region rfl ?_
  refine L.va (x_eql rfl rfl) ?_
  refine L.va (x_asB rfl) ?_
  refine L.nil ?_
  show W _ _ _ _ _ _
  refine W.condP rfl (fun hk1=>?_) (fun hk1=>?_)
  ·refine W.region rfl ?_
   refine L.va (x_load rfl Try.underlying32 rfl ((hs.b2 hΛ hn).cellAt 0 (v:=.pointer (some ⟨Λ.sb,0,none⟩)) rfl)) ?_
   refine L.va (x_mvP rfl) ?_
   refine L.va (x_loadAgg (cs:=[.int .i64 (o.kind),.int .i64 (o.step.kind),.int .i64 (o.step.obj),.int .i64 (o.step.num),.bool (o.free),.int .i64 (o.cell),.int .i64 (o.least),.int .i64 (o.to),.int .i64 (o.by_),.string (o.text)]) rfl Try.underlying63 rfl sz63 rfl (hB6.aggAt rfl)) ?_
   refine L.callP' rfl (x_call3 rfl rfl rfl Try.func41 rfl nm41 rfl) (step_p hΛ hn ho hk1 w hs) ?_ ?_ (fun _ h=>h)
   ·rintro v w ⟨rfl,c',hs⟩
    refine L.nil ?_
    refine B.nrm ?_
    refine B.nrm ?_
    refine T.nrm ?_
    have hms:=meas_next (ops:=Λ.bo n) (j:=j) hlt
    exact ⟨_,by omega,⟨i + 1,j,c',rfl,rfl,rfl,rfl,rfl,rfl,hs,hj,(by omega)⟩⟩
   ·rintro ch w ⟨hra,hd⟩
    exact hd
  ·refine W.seq ?_
   refine W.region rfl ?_
   refine L.va (x_eql rfl rfl) ?_
   refine L.va (x_asB rfl) ?_
   refine L.nil ?_
   show W _ _ _ _ _ _
   refine W.condP rfl (fun hk2=>?_) (fun hk2=>?_)
   ·have h1:=(hs.b1 hΛ hn)
    have h2:=(hs.b2 hΛ hn)
    have hS:=hs.inv.sh
    refine W.fl 16 [9,14] [0,1,2,3,4,5,6,7,8,10,11,9,12,13,14,15] (fun w'=>Blk w' b6 #[.int .i64 (o.kind),.int .i64 (o.step.kind),.int .i64 (o.step.obj),.int .i64 (o.step.num),.bool (o.free),.int .i64 (o.cell),.int .i64 (o.least),.int .i64 (o.to),.int .i64 (o.by_),.string (o.text)] 63/\BlkF w' (Λ.b2 n) #[.pointer (some ⟨Λ.sb,0,none⟩)] 32 (0,0)/\BlkF w' Λ.sb #[.int .i64 (c 0),.int .i64 (c 1),.int .i64 (c 2),.int .i64 (c 3),.bool false,.bool false] 39 (0,0)) (by kernel_rfl) (by kernel_rfl) (by kernel_rfl) (by kernel_rfl) (by kernel_rfl) (⟨hB6.keep (Below.refl w.heap.size w).drew,h2.keep (Below.refl w.heap.size w).drew,hS.keep (Below.refl w.heap.size w).drew⟩) ?_
    have hdr:Below w.heap.size w w.drew:=(Below.refl w.heap.size w).drew
    have hs:=hs.keep hdr
    have hB6:=hB6.keep hdr
    have h1:=h1.keep hdr
    have h2:=h2.keep hdr
    have hS:=hS.keep hdr
    clear hdr
    generalize w.drew = w at *
    refine F.va rfl rfl (fun w' hw'=>(x_mvP rfl)) ?_
    refine F.va rfl rfl (fun w' hw'=>(x_field rfl Try.underlying63 rfl sz43 (by decide))) ?_
    refine F.va rfl rfl (fun w' hw'=>(x_field rfl Try.underlying43 rfl sz3 (by decide))) ?_
    refine F.va rfl rfl (fun w' hw'=>(x_load rfl Try.underlying3 rfl (hw'.1.cellAt 1 (v:=.int .i64 (o.step.kind)) rfl))) ?_
    refine F.va rfl rfl (fun w' hw'=>(x_field rfl Try.underlying63 rfl sz9 (by decide))) ?_
    refine F.va rfl rfl (fun w' hw'=>(x_load rfl Try.underlying9 rfl (hw'.1.cellAt 9 (v:=.string (o.text)) rfl))) ?_
    refine F.va rfl rfl (fun w' hw'=>(x_load rfl Try.underlying32 rfl (hw'.2.1.cellAt 0 (v:=.pointer (some ⟨Λ.sb,0,none⟩)) rfl))) ?_
    refine F.va rfl rfl (fun w' hw'=>(x_field rfl Try.underlying63 rfl sz3 (by decide))) ?_
    refine F.va rfl rfl (fun w' hw'=>(x_load rfl Try.underlying3 rfl (hw'.1.cellAt 5 (v:=.int .i64 (o.cell)) rfl))) ?_
    refine F.va rfl rfl (fun w' hw'=>(x_nilCheck rfl)) ?_
    refine F.va rfl rfl (fun w' hw'=>(x_field rfl Try.underlying39 rfl sz35 (by decide))) ?_
    refine F.doo rfl rfl ?_
    refine L.call (x_call1 rfl Try.func34 rfl nm34 rfl) (at_c o.cell w) ?_
    rintro _ w1 ⟨rfl,hw1⟩
    rw [hw1]
    clear hw1 w1
    refine L.nil ⟨rfl,⟨hB6,h2,hS⟩,?_⟩
    refine F.va rfl rfl (fun w' hw'=>(x_idxArr (i:=at4 o.cell) rfl rfl Try.underlying35 sz2 (at4_lt _))) ?_
    refine F.va rfl rfl (fun w' hw'=>(x_load (v:=.int .i64 (c (at4 o.cell))) rfl Try.underlying2 rfl (shc_cell (c:=c) hw'.2.2 (at4_lt _)))) ?_
    refine F.doo rfl rfl ?_
    refine L.call (x_call1 rfl Try.func42 rfl nm42 rfl) (digits_c (c (at4 o.cell)) (hs.inv.ok _) w) ?_
    rintro _ w ⟨rfl,hbw⟩
    have hs:=hs.keep hbw
    have hB6:=hB6.keep hbw
    have h1:=h1.keep hbw
    have h2:=h2.keep hbw
    have hS:=hS.keep hbw
    clear hbw
    refine L.nil ⟨rfl,⟨hB6,h2,hS⟩,?_⟩
    refine F.va rfl rfl (fun w' hw'=>(x_addStr rfl rfl (by have h1:=hΛ.text n hn i o ho; have h2:=digB_size (hs.inv.ok (at4 o.cell)); omega))) ?_
    refine F.nil ?_
    show L _ _ _ _ _ _ _
    have hn2:=hs.note ho hk2
    refine L.call (x_call3 rfl rfl rfl Try.func29 rfl nm29 rfl) (proc_note hs.on hn2.1) ?_
    rintro _ w1 ⟨rfl,hg,g0,g1,g2⟩
    have hs:=hn2.2 w1 hg g0 g1 g2
    rename World=>w
    clear hg g0 g1 g2 hn2
    refine L.nil ?_
    try clear h1
    try clear h2
    try clear hS
    refine B.nrm ?_
    refine B.nrm ?_
    refine T.nrm ?_
    have hms:=meas_next (ops:=Λ.bo n) (j:=j) hlt
    exact ⟨_,by omega,⟨i + 1,j,c,rfl,rfl,rfl,rfl,rfl,rfl,hs,hj,(by omega)⟩⟩
   ·refine W.seq ?_
    refine W.region rfl ?_
    refine L.va (x_eql rfl rfl) ?_
    refine L.va (x_asB rfl) ?_
    refine L.nil ?_
    show W _ _ _ _ _ _
    refine W.condP rfl (fun hk3=>?_) (fun hk3=>?_)
    ·have h1:=(hs.b1 hΛ hn)
     have h2:=(hs.b2 hΛ hn)
     have hS:=hs.inv.sh
     refine W.fl 13 [3] [0,1,2,4,5,8,9,11,12,3,6,7,10] (fun w'=>BlkF w' (Λ.b2 n) #[.pointer (some ⟨Λ.sb,0,none⟩)] 32 (0,0)/\Blk w' b6 #[.int .i64 (o.kind),.int .i64 (o.step.kind),.int .i64 (o.step.obj),.int .i64 (o.step.num),.bool (o.free),.int .i64 (o.cell),.int .i64 (o.least),.int .i64 (o.to),.int .i64 (o.by_),.string (o.text)] 63/\BlkF w' Λ.sb #[.int .i64 (c 0),.int .i64 (c 1),.int .i64 (c 2),.int .i64 (c 3),.bool false,.bool false] 39 (0,0)) (by kernel_rfl) (by kernel_rfl) (by kernel_rfl) (by kernel_rfl) (by kernel_rfl) (⟨h2.keep (Below.refl w.heap.size w).drew,hB6.keep (Below.refl w.heap.size w).drew,hS.keep (Below.refl w.heap.size w).drew⟩) ?_
     have hdr:Below w.heap.size w w.drew:=(Below.refl w.heap.size w).drew
     have hs:=hs.keep hdr
     have hB6:=hB6.keep hdr
     have h1:=h1.keep hdr
     have h2:=h2.keep hdr
     have hS:=hS.keep hdr
     clear hdr
     generalize w.drew = w at *
     refine F.va rfl rfl (fun w' hw'=>(x_load rfl Try.underlying32 rfl (hw'.1.cellAt 0 (v:=.pointer (some ⟨Λ.sb,0,none⟩)) rfl))) ?_
     refine F.va rfl rfl (fun w' hw'=>(x_field rfl Try.underlying63 rfl sz3 (by decide))) ?_
     refine F.va rfl rfl (fun w' hw'=>(x_load rfl Try.underlying3 rfl (hw'.2.1.cellAt 7 (v:=.int .i64 (o.to)) rfl))) ?_
     refine F.va rfl rfl (fun w' hw'=>(x_nilCheck rfl)) ?_
     refine F.va rfl rfl (fun w' hw'=>(x_field rfl Try.underlying39 rfl sz35 (by decide))) ?_
     refine F.va rfl rfl (fun w' hw'=>(x_field rfl Try.underlying63 rfl sz2 (by decide))) ?_
     refine F.va rfl rfl (fun w' hw'=>(x_load rfl Try.underlying2 rfl (hw'.2.1.cellAt 8 (v:=.int .i64 (o.by_)) rfl))) ?_
     refine F.va rfl rfl (fun w' hw'=>(x_nilCheck rfl)) ?_
     refine F.va rfl rfl (fun w' hw'=>(x_field rfl Try.underlying39 rfl sz35 (by decide))) ?_
     refine F.doo rfl rfl ?_
     refine L.call (x_call1 rfl Try.func34 rfl nm34 rfl) (at_c o.to w) ?_
     rintro _ w1 ⟨rfl,hw1⟩
     rw [hw1]
     clear hw1 w1
     refine L.nil ⟨rfl,⟨h2,hB6,hS⟩,?_⟩
     refine F.va rfl rfl (fun w' hw'=>(x_idxArr (i:=at4 o.to) rfl rfl Try.underlying35 sz2 (at4_lt _))) ?_
     refine F.va rfl rfl (fun w' hw'=>(x_load (v:=.int .i64 (c (at4 o.to))) rfl Try.underlying2 rfl (shc_cell (c:=c) hw'.2.2 (at4_lt _)))) ?_
     refine F.va rfl rfl (fun w' hw'=>(x_add (κ:=.i64) (m:=c (at4 o.to)) (k:=o.by_) rfl rfl)) ?_
     refine F.nil ?_
     show L _ _ _ _ _ _ _
     refine L.va (x_idxArr (i:=at4 o.to) rfl rfl Try.underlying35 sz2 (at4_lt _)) ?_
     refine L.putF (b:=Λ.sb) (o:=0 + at4 o.to * 1) (f:=(0,0)) (shC (addC c (at4 o.to) o.by_)) rfl rfl rfl sz2 rfl rfl hs.inv.sh (by have:=at4_lt o.to; show 0 + at4 o.to * 1 + 1 <= 6; omega) (.inr (Nat.zero_le _)) (by rw [add_assoc_cell]; exact shC_add c (at4_lt _) _) ?_
     have hs:=hs.to (i':=i + 1) (j':=j) (c':=addC c (at4 o.to) o.by_) (by rw [opsGo_at ho,if_neg hk1,if_neg hk2,if_pos hk3]) (hs.inv.add hΛ.sep (at4 o.to) o.by_) rfl ⟨rfl,rfl⟩
     refine L.nil ?_
     try clear h1
     try clear h2
     try clear hS
     refine B.nrm ?_
     refine B.nrm ?_
     refine T.nrm ?_
     have hms:=meas_next (ops:=Λ.bo n) (j:=j) hlt
     exact ⟨_,by omega,⟨i + 1,j,(addC c (at4 o.to) o.by_),rfl,rfl,rfl,rfl,rfl,rfl,hs,hj,(by omega)⟩⟩
    ·refine W.seq ?_
     refine W.region rfl ?_
     refine L.va (x_eql rfl rfl) ?_
     refine L.va (x_asB rfl) ?_
     refine L.nil ?_
     show W _ _ _ _ _ _
     refine W.condP rfl (fun hk4=>?_) (fun hk4=>?_)
     ·refine W.region rfl ?_
      refine L.va (x_field rfl Try.underlying63 rfl sz9 (by decide)) ?_
      refine L.va (x_load rfl Try.underlying9 rfl (hB6.cellAt 9 (v:=.string (o.text)) rfl)) ?_
      refine L.va (x_makeIface (v:=.string o.text) rfl Try.underlying9 rfl) ?_
      refine L.panicI rfl ?_
      exact ⟨⟨_,[],rfl,rfl⟩,.inl (hs.told (by rw [opsGo_at ho,if_neg hk1,if_neg hk2,if_neg hk3,if_pos hk4]; rfl))⟩
     ·refine W.seq ?_
      refine W.region rfl ?_
      refine L.va (x_eql rfl rfl) ?_
      refine L.va (x_asB rfl) ?_
      refine L.nil ?_
      show W _ _ _ _ _ _
      refine W.condP rfl (fun hk5=>?_) (fun hk5=>?_)
      ·refine W.ret ?_
       repeat (first | refine T.ret ?_ | refine B.ret ?_ | refine N.ret ?_)
       refine ends.none (.inr rfl) rfl ?_
       exact .inl (hs.told (by rw [opsGo_at ho,if_neg hk1,if_neg hk2,if_neg hk3,if_neg hk4,if_pos hk5]; rfl))
      ·refine W.seq ?_
       refine W.region rfl ?_
       refine L.va (x_eql rfl rfl) ?_
       refine L.va (x_asB rfl) ?_
       refine L.nil ?_
       show W _ _ _ _ _ _
       refine W.condP rfl (fun hk6=>?_) (fun hk6=>?_)
       ·refine W.seq ?_
        by_cases hA:c (at4 o.to) < o.least
        ·by_cases hB:j < 50
         ·have hB':(j:Int) < 50:=by omega
          by_cases hC:0 <= o.cell
          ·by_cases hD:o.cell < (Λ.bo n).length
           ·have hjmp:jumps (Λ.bo n) o j c = true:=by simp [jumps,hk6,hA,hB,hC,hD]
            have h1:=(hs.b1 hΛ hn)
            have h2:=(hs.b2 hΛ hn)
            have hS:=hs.inv.sh
            refine W.fl 25 [3] [0,1,2,4,5,8,9,3,6,7,10,11,12,13,14,15,16,17,18,19,20,21,22,23,24] (fun w'=>BlkF w' (Λ.b2 n) #[.pointer (some ⟨Λ.sb,0,none⟩)] 32 (0,0)/\Blk w' b6 #[.int .i64 (o.kind),.int .i64 (o.step.kind),.int .i64 (o.step.obj),.int .i64 (o.step.num),.bool (o.free),.int .i64 (o.cell),.int .i64 (o.least),.int .i64 (o.to),.int .i64 (o.by_),.string (o.text)] 63/\BlkF w' Λ.sb #[.int .i64 (c 0),.int .i64 (c 1),.int .i64 (c 2),.int .i64 (c 3),.bool false,.bool false] 39 (0,0)/\BlkF w' (Λ.b1 n) #[.slice (Λ.ba n) ((Λ.bo n).length) (Λ.bc n)] 64 (0,0)) (by kernel_rfl) (by kernel_rfl) (by kernel_rfl) (by kernel_rfl) (by kernel_rfl) (⟨h2.keep (Below.refl w.heap.size w).drew,hB6.keep (Below.refl w.heap.size w).drew,hS.keep (Below.refl w.heap.size w).drew,h1.keep (Below.refl w.heap.size w).drew⟩) ?_
            have hdr:Below w.heap.size w w.drew:=(Below.refl w.heap.size w).drew
            have hs:=hs.keep hdr
            have hB6:=hB6.keep hdr
            have h1:=h1.keep hdr
            have h2:=h2.keep hdr
            have hS:=hS.keep hdr
            clear hdr
            generalize w.drew = w at *
            refine F.va rfl rfl (fun w' hw'=>(x_load rfl Try.underlying32 rfl (hw'.1.cellAt 0 (v:=.pointer (some ⟨Λ.sb,0,none⟩)) rfl))) ?_
            refine F.va rfl rfl (fun w' hw'=>(x_field rfl Try.underlying63 rfl sz3 (by decide))) ?_
            refine F.va rfl rfl (fun w' hw'=>(x_load rfl Try.underlying3 rfl (hw'.2.1.cellAt 7 (v:=.int .i64 (o.to)) rfl))) ?_
            refine F.va rfl rfl (fun w' hw'=>(x_nilCheck rfl)) ?_
            refine F.va rfl rfl (fun w' hw'=>(x_field rfl Try.underlying39 rfl sz35 (by decide))) ?_
            refine F.va rfl rfl (fun w' hw'=>(x_field rfl Try.underlying63 rfl sz2 (by decide))) ?_
            refine F.va rfl rfl (fun w' hw'=>(x_load rfl Try.underlying2 rfl (hw'.2.1.cellAt 6 (v:=.int .i64 (o.least)) rfl))) ?_
            refine F.doo rfl rfl ?_
            refine L.call (x_call1 rfl Try.func34 rfl nm34 rfl) (at_c o.to w) ?_
            rintro _ w1 ⟨rfl,hw1⟩
            rw [hw1]
            clear hw1 w1
            refine L.nil ⟨rfl,⟨h2,hB6,hS,h1⟩,?_⟩
            refine F.va rfl rfl (fun w' hw'=>(x_idxArr (i:=at4 o.to) rfl rfl Try.underlying35 sz2 (at4_lt _))) ?_
            refine F.va rfl rfl (fun w' hw'=>(x_load (v:=.int .i64 (c (at4 o.to))) rfl Try.underlying2 rfl (shc_cell (c:=c) hw'.2.2.1 (at4_lt _)))) ?_
            refine F.va rfl rfl (fun w' hw'=>(d_boolK (r:=true) (decide_eq_true hA) (x_lss (m:=c (at4 o.to)) (k:=o.least) rfl rfl))) ?_
            refine F.va rfl rfl (fun w' hw'=>(x_mvB rfl)) ?_
            refine F.on rfl rfl rfl (fun w' hw'=>(x_mvI rfl)) ?_
            refine F.on rfl rfl rfl (fun w' hw'=>(d_boolK (r:=true) (decide_eq_true hB') (x_lss (m:=(j:Int)) (k:=50) rfl rfl))) ?_
            refine F.va rfl rfl (fun w' hw'=>(x_pickT rfl)) ?_
            refine F.va rfl rfl (fun w' hw'=>(x_mvB rfl)) ?_
            refine F.on rfl rfl rfl (fun w' hw'=>(x_field rfl Try.underlying63 rfl sz3 (by decide))) ?_
            refine F.on rfl rfl rfl (fun w' hw'=>(x_load rfl Try.underlying3 rfl (hw'.2.1.cellAt 5 (v:=.int .i64 (o.cell)) rfl))) ?_
            refine F.on rfl rfl rfl (fun w' hw'=>(d_boolK (r:=true) (decide_eq_true hC) (x_geq (m:=o.cell) (k:=0) rfl rfl))) ?_
            refine F.va rfl rfl (fun w' hw'=>(x_pickT rfl)) ?_
            refine F.va rfl rfl (fun w' hw'=>(x_mvB rfl)) ?_
            refine F.on rfl rfl rfl (fun w' hw'=>(x_field rfl Try.underlying63 rfl sz3 (by decide))) ?_
            refine F.on rfl rfl rfl (fun w' hw'=>(x_load rfl Try.underlying3 rfl (hw'.2.1.cellAt 5 (v:=.int .i64 (o.cell)) rfl))) ?_
            refine F.on rfl rfl rfl (fun w' hw'=>(x_load rfl Try.underlying64 rfl (hw'.2.2.2.cellAt 0 (v:=.slice (Λ.ba n) ((Λ.bo n).length) (Λ.bc n)) rfl))) ?_
            refine F.on rfl rfl rfl (fun w' hw'=>(x_len rfl Try.underlying64 rfl)) ?_
            refine F.nil ?_
            show L _ _ _ _ _ _ _
            refine L.on rfl ?_
            refine L.va (d_boolK (r:=true) (decide_eq_true hD) (x_lss (m:=o.cell) (k:=((Λ.bo n).length:Int)) rfl rfl)) ?_
            refine L.va (x_pickT rfl) ?_
            refine L.nil ?_
            try clear h1
            try clear h2
            try clear hS
            show W _ _ _ _ _ _
            refine W.condT rfl ?_
            refine W.seq ?_
            refine W.region rfl ?_
            refine L.va (x_mvI rfl) ?_
            refine L.va (x_inc rfl rfl (by omega)) ?_
            refine L.va (x_asI rfl) ?_
            refine L.nil ?_
            show W _ _ _ _ _ _
            refine W.region rfl ?_
            refine L.va (x_field rfl Try.underlying63 rfl sz3 (by decide)) ?_
            have hcl:((o.cell.toNat:Nat):Int) = o.cell:=by omega
            refine L.va (x_load (v:=.int .i64 ((o.cell.toNat:Nat):Int)) rfl Try.underlying3 rfl (by rw [hcl]; exact hB6.cellAt 5 rfl)) ?_
            refine L.va (x_asI rfl) ?_
            refine L.nil ?_
            refine B.nrm ?_
            refine B.nrm ?_
            refine T.nrm ?_
            have hms:=meas_jump (ops:=Λ.bo n) (i:=i) (k:=o.cell.toNat) hB
            have hs:=hs.to (i':=o.cell.toNat) (j':=j + 1) (c':=c) (by rw [opsGo_at ho,if_neg hk1,if_neg hk2,if_neg hk3,if_neg hk4,if_neg hk5,hjmp]; rfl) hs.inv rfl ⟨rfl,rfl⟩
            exact ⟨_,by omega,⟨o.cell.toNat,j + 1,c,rfl,rfl,rfl,rfl,rfl,rfl,hs,(by omega),(by omega)⟩⟩
           ·have hjmp:jumps (Λ.bo n) o j c = false:=by simp [jumps,hk6,hA,hB,hC,hD]
            have h1:=(hs.b1 hΛ hn)
            have h2:=(hs.b2 hΛ hn)
            have hS:=hs.inv.sh
            refine W.fl 25 [3] [0,1,2,4,5,8,9,3,6,7,10,11,12,13,14,15,16,17,18,19,20,21,22,23,24] (fun w'=>BlkF w' (Λ.b2 n) #[.pointer (some ⟨Λ.sb,0,none⟩)] 32 (0,0)/\Blk w' b6 #[.int .i64 (o.kind),.int .i64 (o.step.kind),.int .i64 (o.step.obj),.int .i64 (o.step.num),.bool (o.free),.int .i64 (o.cell),.int .i64 (o.least),.int .i64 (o.to),.int .i64 (o.by_),.string (o.text)] 63/\BlkF w' Λ.sb #[.int .i64 (c 0),.int .i64 (c 1),.int .i64 (c 2),.int .i64 (c 3),.bool false,.bool false] 39 (0,0)/\BlkF w' (Λ.b1 n) #[.slice (Λ.ba n) ((Λ.bo n).length) (Λ.bc n)] 64 (0,0)) (by kernel_rfl) (by kernel_rfl) (by kernel_rfl) (by kernel_rfl) (by kernel_rfl) (⟨h2.keep (Below.refl w.heap.size w).drew,hB6.keep (Below.refl w.heap.size w).drew,hS.keep (Below.refl w.heap.size w).drew,h1.keep (Below.refl w.heap.size w).drew⟩) ?_
            have hdr:Below w.heap.size w w.drew:=(Below.refl w.heap.size w).drew
            have hs:=hs.keep hdr
            have hB6:=hB6.keep hdr
            have h1:=h1.keep hdr
            have h2:=h2.keep hdr
            have hS:=hS.keep hdr
            clear hdr
            generalize w.drew = w at *
            refine F.va rfl rfl (fun w' hw'=>(x_load rfl Try.underlying32 rfl (hw'.1.cellAt 0 (v:=.pointer (some ⟨Λ.sb,0,none⟩)) rfl))) ?_
            refine F.va rfl rfl (fun w' hw'=>(x_field rfl Try.underlying63 rfl sz3 (by decide))) ?_
            refine F.va rfl rfl (fun w' hw'=>(x_load rfl Try.underlying3 rfl (hw'.2.1.cellAt 7 (v:=.int .i64 (o.to)) rfl))) ?_
            refine F.va rfl rfl (fun w' hw'=>(x_nilCheck rfl)) ?_
            refine F.va rfl rfl (fun w' hw'=>(x_field rfl Try.underlying39 rfl sz35 (by decide))) ?_
            refine F.va rfl rfl (fun w' hw'=>(x_field rfl Try.underlying63 rfl sz2 (by decide))) ?_
            refine F.va rfl rfl (fun w' hw'=>(x_load rfl Try.underlying2 rfl (hw'.2.1.cellAt 6 (v:=.int .i64 (o.least)) rfl))) ?_
            refine F.doo rfl rfl ?_
            refine L.call (x_call1 rfl Try.func34 rfl nm34 rfl) (at_c o.to w) ?_
            rintro _ w1 ⟨rfl,hw1⟩
            rw [hw1]
            clear hw1 w1
            refine L.nil ⟨rfl,⟨h2,hB6,hS,h1⟩,?_⟩
            refine F.va rfl rfl (fun w' hw'=>(x_idxArr (i:=at4 o.to) rfl rfl Try.underlying35 sz2 (at4_lt _))) ?_
            refine F.va rfl rfl (fun w' hw'=>(x_load (v:=.int .i64 (c (at4 o.to))) rfl Try.underlying2 rfl (shc_cell (c:=c) hw'.2.2.1 (at4_lt _)))) ?_
            refine F.va rfl rfl (fun w' hw'=>(d_boolK (r:=true) (decide_eq_true hA) (x_lss (m:=c (at4 o.to)) (k:=o.least) rfl rfl))) ?_
            refine F.va rfl rfl (fun w' hw'=>(x_mvB rfl)) ?_
            refine F.on rfl rfl rfl (fun w' hw'=>(x_mvI rfl)) ?_
            refine F.on rfl rfl rfl (fun w' hw'=>(d_boolK (r:=true) (decide_eq_true hB') (x_lss (m:=(j:Int)) (k:=50) rfl rfl))) ?_
            refine F.va rfl rfl (fun w' hw'=>(x_pickT rfl)) ?_
            refine F.va rfl rfl (fun w' hw'=>(x_mvB rfl)) ?_
            refine F.on rfl rfl rfl (fun w' hw'=>(x_field rfl Try.underlying63 rfl sz3 (by decide))) ?_
            refine F.on rfl rfl rfl (fun w' hw'=>(x_load rfl Try.underlying3 rfl (hw'.2.1.cellAt 5 (v:=.int .i64 (o.cell)) rfl))) ?_
            refine F.on rfl rfl rfl (fun w' hw'=>(d_boolK (r:=true) (decide_eq_true hC) (x_geq (m:=o.cell) (k:=0) rfl rfl))) ?_
            refine F.va rfl rfl (fun w' hw'=>(x_pickT rfl)) ?_
            refine F.va rfl rfl (fun w' hw'=>(x_mvB rfl)) ?_
            refine F.on rfl rfl rfl (fun w' hw'=>(x_field rfl Try.underlying63 rfl sz3 (by decide))) ?_
            refine F.on rfl rfl rfl (fun w' hw'=>(x_load rfl Try.underlying3 rfl (hw'.2.1.cellAt 5 (v:=.int .i64 (o.cell)) rfl))) ?_
            refine F.on rfl rfl rfl (fun w' hw'=>(x_load rfl Try.underlying64 rfl (hw'.2.2.2.cellAt 0 (v:=.slice (Λ.ba n) ((Λ.bo n).length) (Λ.bc n)) rfl))) ?_
            refine F.on rfl rfl rfl (fun w' hw'=>(x_len rfl Try.underlying64 rfl)) ?_
            refine F.nil ?_
            show L _ _ _ _ _ _ _
            refine L.on rfl ?_
            refine L.va (d_boolK (r:=false) (decide_eq_false hD) (x_lss (m:=o.cell) (k:=((Λ.bo n).length:Int)) rfl rfl)) ?_
            refine L.va (x_pickT rfl) ?_
            refine L.nil ?_
            try clear h1
            try clear h2
            try clear hS
            show W _ _ _ _ _ _
            refine W.condF rfl ?_
            refine W.skip ?_
            refine B.nrm ?_
            refine B.nrm ?_
            refine T.nrm ?_
            have hms:=meas_next (ops:=Λ.bo n) (j:=j) hlt
            exact ⟨_,by omega,⟨i + 1,j,c,rfl,rfl,rfl,rfl,rfl,rfl,(hs.to (i':=i + 1) (j':=j) (c':=c) (by rw [opsGo_at ho,if_neg hk1,if_neg hk2,if_neg hk3,if_neg hk4,if_neg hk5,hjmp]; rfl) hs.inv rfl ⟨rfl,rfl⟩),hj,(by omega)⟩⟩
          ·have hjmp:jumps (Λ.bo n) o j c = false:=by simp [jumps,hk6,hA,hB,hC]
           have h1:=(hs.b1 hΛ hn)
           have h2:=(hs.b2 hΛ hn)
           have hS:=hs.inv.sh
           refine W.fl 25 [3] [0,1,2,4,5,8,9,3,6,7,10,11,12,13,14,15,16,17,18,19,20,21,22,23,24] (fun w'=>BlkF w' (Λ.b2 n) #[.pointer (some ⟨Λ.sb,0,none⟩)] 32 (0,0)/\Blk w' b6 #[.int .i64 (o.kind),.int .i64 (o.step.kind),.int .i64 (o.step.obj),.int .i64 (o.step.num),.bool (o.free),.int .i64 (o.cell),.int .i64 (o.least),.int .i64 (o.to),.int .i64 (o.by_),.string (o.text)] 63/\BlkF w' Λ.sb #[.int .i64 (c 0),.int .i64 (c 1),.int .i64 (c 2),.int .i64 (c 3),.bool false,.bool false] 39 (0,0)) (by kernel_rfl) (by kernel_rfl) (by kernel_rfl) (by kernel_rfl) (by kernel_rfl) (⟨h2.keep (Below.refl w.heap.size w).drew,hB6.keep (Below.refl w.heap.size w).drew,hS.keep (Below.refl w.heap.size w).drew⟩) ?_
           have hdr:Below w.heap.size w w.drew:=(Below.refl w.heap.size w).drew
           have hs:=hs.keep hdr
           have hB6:=hB6.keep hdr
           have h1:=h1.keep hdr
           have h2:=h2.keep hdr
           have hS:=hS.keep hdr
           clear hdr
           generalize w.drew = w at *
           refine F.va rfl rfl (fun w' hw'=>(x_load rfl Try.underlying32 rfl (hw'.1.cellAt 0 (v:=.pointer (some ⟨Λ.sb,0,none⟩)) rfl))) ?_
           refine F.va rfl rfl (fun w' hw'=>(x_field rfl Try.underlying63 rfl sz3 (by decide))) ?_
           refine F.va rfl rfl (fun w' hw'=>(x_load rfl Try.underlying3 rfl (hw'.2.1.cellAt 7 (v:=.int .i64 (o.to)) rfl))) ?_
           refine F.va rfl rfl (fun w' hw'=>(x_nilCheck rfl)) ?_
           refine F.va rfl rfl (fun w' hw'=>(x_field rfl Try.underlying39 rfl sz35 (by decide))) ?_
           refine F.va rfl rfl (fun w' hw'=>(x_field rfl Try.underlying63 rfl sz2 (by decide))) ?_
           refine F.va rfl rfl (fun w' hw'=>(x_load rfl Try.underlying2 rfl (hw'.2.1.cellAt 6 (v:=.int .i64 (o.least)) rfl))) ?_
           refine F.doo rfl rfl ?_
           refine L.call (x_call1 rfl Try.func34 rfl nm34 rfl) (at_c o.to w) ?_
           rintro _ w1 ⟨rfl,hw1⟩
           rw [hw1]
           clear hw1 w1
           refine L.nil ⟨rfl,⟨h2,hB6,hS⟩,?_⟩
           refine F.va rfl rfl (fun w' hw'=>(x_idxArr (i:=at4 o.to) rfl rfl Try.underlying35 sz2 (at4_lt _))) ?_
           refine F.va rfl rfl (fun w' hw'=>(x_load (v:=.int .i64 (c (at4 o.to))) rfl Try.underlying2 rfl (shc_cell (c:=c) hw'.2.2 (at4_lt _)))) ?_
           refine F.va rfl rfl (fun w' hw'=>(d_boolK (r:=true) (decide_eq_true hA) (x_lss (m:=c (at4 o.to)) (k:=o.least) rfl rfl))) ?_
           refine F.va rfl rfl (fun w' hw'=>(x_mvB rfl)) ?_
           refine F.on rfl rfl rfl (fun w' hw'=>(x_mvI rfl)) ?_
           refine F.on rfl rfl rfl (fun w' hw'=>(d_boolK (r:=true) (decide_eq_true hB') (x_lss (m:=(j:Int)) (k:=50) rfl rfl))) ?_
           refine F.va rfl rfl (fun w' hw'=>(x_pickT rfl)) ?_
           refine F.va rfl rfl (fun w' hw'=>(x_mvB rfl)) ?_
           refine F.on rfl rfl rfl (fun w' hw'=>(x_field rfl Try.underlying63 rfl sz3 (by decide))) ?_
           refine F.on rfl rfl rfl (fun w' hw'=>(x_load rfl Try.underlying3 rfl (hw'.2.1.cellAt 5 (v:=.int .i64 (o.cell)) rfl))) ?_
           refine F.on rfl rfl rfl (fun w' hw'=>(d_boolK (r:=false) (decide_eq_false hC) (x_geq (m:=o.cell) (k:=0) rfl rfl))) ?_
           refine F.va rfl rfl (fun w' hw'=>(x_pickT rfl)) ?_
           refine F.va rfl rfl (fun w' hw'=>(x_mvB rfl)) ?_
           refine F.off rfl rfl rfl ?_
           refine F.off rfl rfl rfl ?_
           refine F.off rfl rfl rfl ?_
           refine F.off rfl rfl rfl ?_
           refine F.nil ?_
           show L _ _ _ _ _ _ _
           refine L.off rfl ?_
           refine L.va (x_pickF rfl) ?_
           refine L.nil ?_
           try clear h1
           try clear h2
           try clear hS
           show W _ _ _ _ _ _
           refine W.condF rfl ?_
           refine W.skip ?_
           refine B.nrm ?_
           refine B.nrm ?_
           refine T.nrm ?_
           have hms:=meas_next (ops:=Λ.bo n) (j:=j) hlt
           exact ⟨_,by omega,⟨i + 1,j,c,rfl,rfl,rfl,rfl,rfl,rfl,(hs.to (i':=i + 1) (j':=j) (c':=c) (by rw [opsGo_at ho,if_neg hk1,if_neg hk2,if_neg hk3,if_neg hk4,if_neg hk5,hjmp]; rfl) hs.inv rfl ⟨rfl,rfl⟩),hj,(by omega)⟩⟩
         ·have hB':¬ (j:Int) < 50:=by omega
          have hjmp:jumps (Λ.bo n) o j c = false:=by simp [jumps,hk6,hA,hB]
          have h1:=(hs.b1 hΛ hn)
          have h2:=(hs.b2 hΛ hn)
          have hS:=hs.inv.sh
          refine W.fl 25 [3] [0,1,2,4,5,8,9,3,6,7,10,11,12,13,14,15,16,17,18,19,20,21,22,23,24] (fun w'=>BlkF w' (Λ.b2 n) #[.pointer (some ⟨Λ.sb,0,none⟩)] 32 (0,0)/\Blk w' b6 #[.int .i64 (o.kind),.int .i64 (o.step.kind),.int .i64 (o.step.obj),.int .i64 (o.step.num),.bool (o.free),.int .i64 (o.cell),.int .i64 (o.least),.int .i64 (o.to),.int .i64 (o.by_),.string (o.text)] 63/\BlkF w' Λ.sb #[.int .i64 (c 0),.int .i64 (c 1),.int .i64 (c 2),.int .i64 (c 3),.bool false,.bool false] 39 (0,0)) (by kernel_rfl) (by kernel_rfl) (by kernel_rfl) (by kernel_rfl) (by kernel_rfl) (⟨h2.keep (Below.refl w.heap.size w).drew,hB6.keep (Below.refl w.heap.size w).drew,hS.keep (Below.refl w.heap.size w).drew⟩) ?_
          have hdr:Below w.heap.size w w.drew:=(Below.refl w.heap.size w).drew
          have hs:=hs.keep hdr
          have hB6:=hB6.keep hdr
          have h1:=h1.keep hdr
          have h2:=h2.keep hdr
          have hS:=hS.keep hdr
          clear hdr
          generalize w.drew = w at *
          refine F.va rfl rfl (fun w' hw'=>(x_load rfl Try.underlying32 rfl (hw'.1.cellAt 0 (v:=.pointer (some ⟨Λ.sb,0,none⟩)) rfl))) ?_
          refine F.va rfl rfl (fun w' hw'=>(x_field rfl Try.underlying63 rfl sz3 (by decide))) ?_
          refine F.va rfl rfl (fun w' hw'=>(x_load rfl Try.underlying3 rfl (hw'.2.1.cellAt 7 (v:=.int .i64 (o.to)) rfl))) ?_
          refine F.va rfl rfl (fun w' hw'=>(x_nilCheck rfl)) ?_
          refine F.va rfl rfl (fun w' hw'=>(x_field rfl Try.underlying39 rfl sz35 (by decide))) ?_
          refine F.va rfl rfl (fun w' hw'=>(x_field rfl Try.underlying63 rfl sz2 (by decide))) ?_
          refine F.va rfl rfl (fun w' hw'=>(x_load rfl Try.underlying2 rfl (hw'.2.1.cellAt 6 (v:=.int .i64 (o.least)) rfl))) ?_
          refine F.doo rfl rfl ?_
          refine L.call (x_call1 rfl Try.func34 rfl nm34 rfl) (at_c o.to w) ?_
          rintro _ w1 ⟨rfl,hw1⟩
          rw [hw1]
          clear hw1 w1
          refine L.nil ⟨rfl,⟨h2,hB6,hS⟩,?_⟩
          refine F.va rfl rfl (fun w' hw'=>(x_idxArr (i:=at4 o.to) rfl rfl Try.underlying35 sz2 (at4_lt _))) ?_
          refine F.va rfl rfl (fun w' hw'=>(x_load (v:=.int .i64 (c (at4 o.to))) rfl Try.underlying2 rfl (shc_cell (c:=c) hw'.2.2 (at4_lt _)))) ?_
          refine F.va rfl rfl (fun w' hw'=>(d_boolK (r:=true) (decide_eq_true hA) (x_lss (m:=c (at4 o.to)) (k:=o.least) rfl rfl))) ?_
          refine F.va rfl rfl (fun w' hw'=>(x_mvB rfl)) ?_
          refine F.on rfl rfl rfl (fun w' hw'=>(x_mvI rfl)) ?_
          refine F.on rfl rfl rfl (fun w' hw'=>(d_boolK (r:=false) (decide_eq_false hB') (x_lss (m:=(j:Int)) (k:=50) rfl rfl))) ?_
          refine F.va rfl rfl (fun w' hw'=>(x_pickT rfl)) ?_
          refine F.va rfl rfl (fun w' hw'=>(x_mvB rfl)) ?_
          refine F.off rfl rfl rfl ?_
          refine F.off rfl rfl rfl ?_
          refine F.off rfl rfl rfl ?_
          refine F.va rfl rfl (fun w' hw'=>(x_pickF rfl)) ?_
          refine F.va rfl rfl (fun w' hw'=>(x_mvB rfl)) ?_
          refine F.off rfl rfl rfl ?_
          refine F.off rfl rfl rfl ?_
          refine F.off rfl rfl rfl ?_
          refine F.off rfl rfl rfl ?_
          refine F.nil ?_
          show L _ _ _ _ _ _ _
          refine L.off rfl ?_
          refine L.va (x_pickF rfl) ?_
          refine L.nil ?_
          try clear h1
          try clear h2
          try clear hS
          show W _ _ _ _ _ _
          refine W.condF rfl ?_
          refine W.skip ?_
          refine B.nrm ?_
          refine B.nrm ?_
          refine T.nrm ?_
          have hms:=meas_next (ops:=Λ.bo n) (j:=j) hlt
          exact ⟨_,by omega,⟨i + 1,j,c,rfl,rfl,rfl,rfl,rfl,rfl,(hs.to (i':=i + 1) (j':=j) (c':=c) (by rw [opsGo_at ho,if_neg hk1,if_neg hk2,if_neg hk3,if_neg hk4,if_neg hk5,hjmp]; rfl) hs.inv rfl ⟨rfl,rfl⟩),hj,(by omega)⟩⟩
        ·have hjmp:jumps (Λ.bo n) o j c = false:=by simp [jumps,hk6,hA]
         have h1:=(hs.b1 hΛ hn)
         have h2:=(hs.b2 hΛ hn)
         have hS:=hs.inv.sh
         refine W.fl 25 [3] [0,1,2,4,5,8,9,3,6,7,10,11,12,13,14,15,16,17,18,19,20,21,22,23,24] (fun w'=>BlkF w' (Λ.b2 n) #[.pointer (some ⟨Λ.sb,0,none⟩)] 32 (0,0)/\Blk w' b6 #[.int .i64 (o.kind),.int .i64 (o.step.kind),.int .i64 (o.step.obj),.int .i64 (o.step.num),.bool (o.free),.int .i64 (o.cell),.int .i64 (o.least),.int .i64 (o.to),.int .i64 (o.by_),.string (o.text)] 63/\BlkF w' Λ.sb #[.int .i64 (c 0),.int .i64 (c 1),.int .i64 (c 2),.int .i64 (c 3),.bool false,.bool false] 39 (0,0)) (by kernel_rfl) (by kernel_rfl) (by kernel_rfl) (by kernel_rfl) (by kernel_rfl) (⟨h2.keep (Below.refl w.heap.size w).drew,hB6.keep (Below.refl w.heap.size w).drew,hS.keep (Below.refl w.heap.size w).drew⟩) ?_
         have hdr:Below w.heap.size w w.drew:=(Below.refl w.heap.size w).drew
         have hs:=hs.keep hdr
         have hB6:=hB6.keep hdr
         have h1:=h1.keep hdr
         have h2:=h2.keep hdr
         have hS:=hS.keep hdr
         clear hdr
         generalize w.drew = w at *
         refine F.va rfl rfl (fun w' hw'=>(x_load rfl Try.underlying32 rfl (hw'.1.cellAt 0 (v:=.pointer (some ⟨Λ.sb,0,none⟩)) rfl))) ?_
         refine F.va rfl rfl (fun w' hw'=>(x_field rfl Try.underlying63 rfl sz3 (by decide))) ?_
         refine F.va rfl rfl (fun w' hw'=>(x_load rfl Try.underlying3 rfl (hw'.2.1.cellAt 7 (v:=.int .i64 (o.to)) rfl))) ?_
         refine F.va rfl rfl (fun w' hw'=>(x_nilCheck rfl)) ?_
         refine F.va rfl rfl (fun w' hw'=>(x_field rfl Try.underlying39 rfl sz35 (by decide))) ?_
         refine F.va rfl rfl (fun w' hw'=>(x_field rfl Try.underlying63 rfl sz2 (by decide))) ?_
         refine F.va rfl rfl (fun w' hw'=>(x_load rfl Try.underlying2 rfl (hw'.2.1.cellAt 6 (v:=.int .i64 (o.least)) rfl))) ?_
         refine F.doo rfl rfl ?_
         refine L.call (x_call1 rfl Try.func34 rfl nm34 rfl) (at_c o.to w) ?_
         rintro _ w1 ⟨rfl,hw1⟩
         rw [hw1]
         clear hw1 w1
         refine L.nil ⟨rfl,⟨h2,hB6,hS⟩,?_⟩
         refine F.va rfl rfl (fun w' hw'=>(x_idxArr (i:=at4 o.to) rfl rfl Try.underlying35 sz2 (at4_lt _))) ?_
         refine F.va rfl rfl (fun w' hw'=>(x_load (v:=.int .i64 (c (at4 o.to))) rfl Try.underlying2 rfl (shc_cell (c:=c) hw'.2.2 (at4_lt _)))) ?_
         refine F.va rfl rfl (fun w' hw'=>(d_boolK (r:=false) (decide_eq_false hA) (x_lss (m:=c (at4 o.to)) (k:=o.least) rfl rfl))) ?_
         refine F.va rfl rfl (fun w' hw'=>(x_mvB rfl)) ?_
         refine F.off rfl rfl rfl ?_
         refine F.off rfl rfl rfl ?_
         refine F.va rfl rfl (fun w' hw'=>(x_pickF rfl)) ?_
         refine F.va rfl rfl (fun w' hw'=>(x_mvB rfl)) ?_
         refine F.off rfl rfl rfl ?_
         refine F.off rfl rfl rfl ?_
         refine F.off rfl rfl rfl ?_
         refine F.va rfl rfl (fun w' hw'=>(x_pickF rfl)) ?_
         refine F.va rfl rfl (fun w' hw'=>(x_mvB rfl)) ?_
         refine F.off rfl rfl rfl ?_
         refine F.off rfl rfl rfl ?_
         refine F.off rfl rfl rfl ?_
         refine F.off rfl rfl rfl ?_
         refine F.nil ?_
         show L _ _ _ _ _ _ _
         refine L.off rfl ?_
         refine L.va (x_pickF rfl) ?_
         refine L.nil ?_
         try clear h1
         try clear h2
         try clear hS
         show W _ _ _ _ _ _
         refine W.condF rfl ?_
         refine W.skip ?_
         refine B.nrm ?_
         refine B.nrm ?_
         refine T.nrm ?_
         have hms:=meas_next (ops:=Λ.bo n) (j:=j) hlt
         exact ⟨_,by omega,⟨i + 1,j,c,rfl,rfl,rfl,rfl,rfl,rfl,(hs.to (i':=i + 1) (j':=j) (c':=c) (by rw [opsGo_at ho,if_neg hk1,if_neg hk2,if_neg hk3,if_neg hk4,if_neg hk5,hjmp]; rfl) hs.inv rfl ⟨rfl,rfl⟩),hj,(by omega)⟩⟩
       ·refine W.skip ?_
        refine B.nrm ?_
        refine B.nrm ?_
        refine T.nrm ?_
        have hms:=meas_next (ops:=Λ.bo n) (j:=j) hlt
        exact ⟨_,by omega,⟨i + 1,j,c,rfl,rfl,rfl,rfl,rfl,rfl,(hs.to (i':=i + 1) (j':=j) (c':=c) (by rw [opsGo_at ho,if_neg hk1,if_neg hk2,if_neg hk3,if_neg hk4,if_neg hk5,if_neg (by simp [jumps,hk6])]) hs.inv rfl ⟨rfl,rfl⟩),hj,(by omega)⟩⟩
 ·refine W.exit ?_
  repeat (first | refine T.exit ?_ | refine N.exit ?_ | refine B.exitNe (by decide) ?_)
  refine B.exitEq ?_
  repeat (first | refine T.nrm ?_ | refine B.nrm ?_ | refine N.nrm ?_)
  refine ends.none (.inl rfl) rfl ?_
  exact .inl (hs.told (opsGo_end (by omega)))
end Go.Vy.Sc
end
/- Bodies under a script: what sched.Run answers, told without a program; how many notes there can be. -/
section
namespace Go.Vy.Sc
open Go Go.Conc Go.Yc Go.RowKit Go.Proofs Go.Proofs.Ytfmoeemolgjodaa
open Go.Vc Go.Wg
open Go.ConcN (sumTo sumTo_upd sumTo_congr sumTo_le)
@[reducible] def pSys (m:Nat) (bo:Nat->List OpD):Sys where
 S:=Cells
 L:=Nat × Nat
 m:=m
 s0:=fun _=>0
 nil:=fun _=>false
 stp:=fun i l=>(((bo i)[l.1]?).map (·.step)).getD sp0
 rdy:=fun i l s=>match (bo i)[l.1]? with
  | some o=>o.free || decide (o.least <= s (at4 o.cell))
  | none=>true
 beg:=fun i s=>opsGo (bo i) 0 0 s
 go:=fun i l s=>match (bo i)[l.1]? with
  | some o=>opsGo (bo i) (l.1 + 1) l.2 (addC s (at4 o.to) o.by_)
  | none=>⟨s,[],.inr 1⟩
 Inv:=fun _ _ _=>True
 lb:=0
 pl:=fun _=>.all
abbrev PB (m:Nat) (bo:Nat->List OpD) (sc:Nat->Int) (n:Nat):PR (pSys m bo):=(pSys m bo).pn sc n
section
variable {Λ:Lay}
def toP (p:PR (bodiesSys Λ)):PR (pSys Λ.m Λ.bo):=⟨p.s,p.ft,p.evs,p.nts,p.outs,p.who,p.used⟩
theorem toP_bgn (p:PR (bodiesSys Λ)):toP ((bodiesSys Λ).bgn p) = (pSys Λ.m Λ.bo).bgn (toP p):=rfl
theorem toP_begs:∀ n,toP ((bodiesSys Λ).begs n) = (pSys Λ.m Λ.bo).begs n
 | 0=>rfl
 | n + 1=>by
  show toP ((bodiesSys Λ).bgn ((bodiesSys Λ).begs n)) = (pSys Λ.m Λ.bo).bgn ((pSys Λ.m Λ.bo).begs n)
  rw [toP_bgn,toP_begs n]
theorem toP_turn (p:PR (bodiesSys Λ)) (i:Nat):toP ((bodiesSys Λ).turn p i) = (pSys Λ.m Λ.bo).turn (toP p) i:=by
 unfold Sys.turn
 rcases hx:p.ft[i]? with _ | (l | x)
 ·have hx':(toP p).ft[i]? = none:=hx
  rw [hx']
 ·have hx':(toP p).ft[i]? = some (.inl l):=hx
  rw [hx']; rfl
 ·have hx':(toP p).ft[i]? = some (.inr x):=hx
  rw [hx']
theorem toP_isRdy (p:PR (bodiesSys Λ)) (i:Nat):(bodiesSys Λ).isRdy p i = (pSys Λ.m Λ.bo).isRdy (toP p) i:=by
 unfold Sys.isRdy
 rcases hx:p.ft[i]? with _ | (l | x)
 ·have hx':(toP p).ft[i]? = none:=hx
  rw [hx']
 ·have hx':(toP p).ft[i]? = some (.inl l):=hx
  rw [hx']; rfl
 ·have hx':(toP p).ft[i]? = some (.inr x):=hx
  rw [hx']
theorem toP_rds (p:PR (bodiesSys Λ)):(bodiesSys Λ).rds p = (pSys Λ.m Λ.bo).rds (toP p):=by
 unfold Sys.rds
 exact congrArg (fun f=>(List.range Λ.m).filter f) (funext fun i=>toP_isRdy p i)
theorem toP_step (p:PR (bodiesSys Λ)) (e:Int):toP ((bodiesSys Λ).step p e) = (pSys Λ.m Λ.bo).step (toP p) e:=by
 unfold Sys.step
 rw [toP_rds]
 cases ((pSys Λ.m Λ.bo).rds (toP p))[pickIx e ((pSys Λ.m Λ.bo).rds (toP p)).length]? with
 | none=>rfl
 | some i=>exact toP_turn p i
theorem toP_pn (sc:Nat->Int):∀ n,toP ((bodiesSys Λ).pn sc n) = (pSys Λ.m Λ.bo).pn sc n
 | 0=>toP_begs _
 | n + 1=>by
  show toP ((bodiesSys Λ).step ((bodiesSys Λ).pn sc n) (sc n)) = (pSys Λ.m Λ.bo).step ((pSys Λ.m Λ.bo).pn sc n) (sc n)
  rw [toP_step,toP_pn sc n]
theorem toP_wt (j:Nat) (x:Option ((Nat × Nat) ⊕ Nat)):wtOf (bodiesSys Λ) j x = wtOf (pSys Λ.m Λ.bo) j x:=by
 rcases x with _ | (l | x) <;> rfl
end
def potF (ops:List OpD):(Nat × Nat) ⊕ Nat->Nat
 | .inl (i,j)=>meas ops i j
 | .inr _=>0
theorem opsGo_nts (ops:List OpD):∀ (μ i j:Nat) (c:Cells),meas ops i j = μ->(opsGo ops i j c).nts.length + potF ops (opsGo ops i j c).fate <= μ:=by
 intro μ
 induction μ using Nat.strongRecOn with
 | _ μ ih =>
 intro i j c hμ
 rcases Nat.lt_or_ge i ops.length with hi | hi
 ·obtain ⟨o,ho⟩:∃ o,ops[i]? = some o:=⟨_,List.getElem?_eq_getElem hi⟩
  have hn:=meas_next (j:=j) hi
  have hstep:∀ c',(opsGo ops (i + 1) j c').nts.length + potF ops (opsGo ops (i + 1) j c').fate <= meas ops (i + 1) j:=fun c'=>ih _ (by omega) (i + 1) j c' rfl
  rw [opsGo_at ho]
  split
  ·show 0 + meas ops i j <= μ
   omega
  split
  ·have:=hstep c
   show ((opsGo ops (i + 1) j c).nts.length + 1) + potF ops (opsGo ops (i + 1) j c).fate <= μ
   omega
  split
  ·have:=hstep (addC c (at4 o.to) o.by_); omega
  split
  ·exact Nat.zero_le _
  split
  ·exact Nat.zero_le _
  split
  ·rename_i hj
   have hj':j < 50:=by
    simp only [jumps,Bool.and_eq_true,decide_eq_true_eq] at hj
    exact hj.1.1.2
   have hm:=meas_jump (ops:=ops) (i:=i) (k:=o.cell.toNat) hj'
   have:=ih _ (by omega) o.cell.toNat (j + 1) c rfl
   omega
  ·have:=hstep c; omega
 ·rw [opsGo_end (by omega)]
  exact Nat.zero_le _
def potN (bo:Nat->List OpD) (ft:List ((Nat × Nat) ⊕ Nat)) (i:Nat):Nat:=match ft[i]? with
 | some f=>potF (bo i) f
 | none=>meas (bo i) 0 0
section
variable {m:Nat} {bo:Nat->List OpD}
def NtsOk (m:Nat) (bo:Nat->List OpD) (p:PR (pSys m bo)):Prop:=p.ft.length <= m/\p.nts.length + sumTo m (potN bo p.ft) <= sumTo m fun i=>meas (bo i) 0 0
theorem sumTo_upd1 {f:Nat->Nat} {g:Nat->Nat} {i m:Nat} (hi:i < m) (h:∀ j,j ≠ i->f j = g j):sumTo m f + g i = sumTo m g + f i:=by
 have:=sumTo_upd (α:=Nat) g (f i) (fun x=>x) hi
 have h2:sumTo m (fun a=>(Go.ConcN.upd g i (f i)) a) = sumTo m f:=sumTo_congr fun j _=>by
  by_cases hj:j = i
  ·subst hj; exact Go.ConcN.upd_same _ _ _
  ·rw [Go.ConcN.upd_ne _ _ hj,h j hj]
 simp only [h2] at this
 exact this
theorem tell_len (i n:Nat) (l:List Nte):(tell i n l).length = l.length:=by simp [tell]
theorem NtsOk.bgn {p:PR (pSys m bo)} (h:NtsOk m bo p) (hl:p.ft.length < m):NtsOk m bo ((pSys m bo).bgn p):=by
 obtain ⟨h1,h2⟩:=h
 have hb:(pSys m bo).bgn p = { p with s:=(opsGo (bo p.ft.length) 0 0 p.s).s,ft:=p.ft ++ [(opsGo (bo p.ft.length) 0 0 p.s).fate],nts:=p.nts ++ tell p.ft.length p.evs.length (opsGo (bo p.ft.length) 0 0 p.s).nts,outs:=p.outs ++ [opsGo (bo p.ft.length) 0 0 p.s],who:=p.who ++ [none] }:=rfl
 rw [hb]
 refine ⟨?_,?_⟩
 ·show (p.ft ++ [_]).length <= m
  rw [List.length_append]; exact hl
 ·have hs:=opsGo_nts (bo p.ft.length) _ 0 0 p.s rfl
  have hq:=sumTo_upd1 (f:=potN bo (p.ft ++ [(opsGo (bo p.ft.length) 0 0 p.s).fate])) (g:=potN bo p.ft) hl fun j hj=>by
   unfold potN
   rcases Nat.lt_or_ge j p.ft.length with z | z
   ·rw [List.getElem?_append_left z]
   ·rw [List.getElem?_eq_none z,List.getElem?_eq_none]
    rw [List.length_append]
    show p.ft.length + 1 <= j
    omega
  have e1:potN bo (p.ft ++ [(opsGo (bo p.ft.length) 0 0 p.s).fate]) p.ft.length = potF (bo p.ft.length) (opsGo (bo p.ft.length) 0 0 p.s).fate:=by
   unfold potN; simp
  have e2:potN bo p.ft p.ft.length = meas (bo p.ft.length) 0 0:=by
   unfold potN; simp
  show (p.nts ++ tell _ _ _).length + sumTo m (potN bo (p.ft ++ [_])) <= _
  rw [List.length_append,tell_len]
  omega
theorem NtsOk.turn {p:PR (pSys m bo)} (h:NtsOk m bo p) (i:Nat):NtsOk m bo ((pSys m bo).turn p i):=by
 obtain ⟨h1,h2⟩:=h
 unfold Sys.turn
 split
 ·rename_i l hl
  obtain ⟨hil,_⟩:=List.getElem?_eq_some_iff.1 hl
  have hs:((pSys m bo).go i l p.s).nts.length + potF (bo i) ((pSys m bo).go i l p.s).fate <= potF (bo i) (.inl l):=by
   obtain ⟨k,j⟩:=l
   show ((match (bo i)[k]? with | some o=>opsGo (bo i) (k + 1) j (addC p.s (at4 o.to) o.by_) | none=>⟨p.s,[],.inr 1⟩:Out' Cells (Nat × Nat))).nts.length + potF (bo i) (match (bo i)[k]? with | some o=>opsGo (bo i) (k + 1) j (addC p.s (at4 o.to) o.by_) | none=>⟨p.s,[],.inr 1⟩:Out' Cells (Nat × Nat)).fate <= meas (bo i) k j
   cases ho:(bo i)[k]? with
   | none=>exact Nat.zero_le _
   | some o =>
    have:=opsGo_nts (bo i) _ (k + 1) j (addC p.s (at4 o.to) o.by_) rfl
    have:=meas_next (ops:=bo i) (j:=j) (List.getElem?_eq_some_iff.1 ho).1
    show (opsGo _ _ _ _).nts.length + potF _ (opsGo _ _ _ _).fate <= _
    omega
  refine ⟨?_,?_⟩
  ·show (p.ft.set i _).length <= m
   rw [List.length_set]; exact h1
  ·have hq:=sumTo_upd1 (m:=m) (i:=i) (f:=potN bo (p.ft.set i ((pSys m bo).go i l p.s).fate)) (g:=potN bo p.ft) (by omega) fun j hj=>by
    unfold potN
    rw [List.getElem?_set_ne (Ne.symm hj)]
   have e1:potN bo (p.ft.set i ((pSys m bo).go i l p.s).fate) i = potF (bo i) ((pSys m bo).go i l p.s).fate:=by
    unfold potN; simp [hil]
   have e2:potN bo p.ft i = potF (bo i) (.inl l):=by
    have hl':p.ft[i]? = some (.inl l):=hl
    unfold potN; rw [hl']
   show (p.nts ++ tell _ _ _).length + sumTo m (potN bo (p.ft.set i _)) <= _
   rw [List.length_append,tell_len]
   omega
 ·exact ⟨h1,h2⟩
theorem nts_ok (sc:Nat->Int):∀ n,NtsOk m bo (PB m bo sc n)
 | 0=>by
  have:∀ k,k <= m->NtsOk m bo ((pSys m bo).begs k):=by
   intro k
   induction k with
   | zero=>intro _; exact ⟨Nat.zero_le _,by show 0 + sumTo m _ <= _; rw [Nat.zero_add,sumTo_congr (g:=fun i=>meas (bo i) 0 0)]; exact Nat.le_refl _; intro i _; rfl⟩
   | succ k ih=>intro hk; exact (ih (by omega)).bgn (by rw [Sys.len_begs]; omega)
  exact this m (Nat.le_refl _)
 | n + 1=>by
  show NtsOk m bo ((pSys m bo).step (PB m bo sc n) (sc n))
  unfold Sys.step
  split
  ·exact (nts_ok sc n).turn _
  ·exact nts_ok sc n
theorem nts_len (hm:m <= 16) (hl:∀ i,i < m->(bo i).length <= 1048576) (sc:Nat->Int) (n:Nat):(PB m bo sc n).nts.length <= 1000000000:=by
 have h1:=(nts_ok (m:=m) (bo:=bo) sc n).2
 have h2:sumTo m (fun i=>meas (bo i) 0 0) <= 53477427 * m:=sumTo_le fun i hi=>by
  have:=hl i hi
  unfold meas
  omega
 omega
end
structure BodsAt (w:World) (ba:Option Addr) (m:Nat) (bo:Nat->List OpD) (aa:Nat->Option Addr) (cc:Nat->Nat):Prop where
 sl:SL ba m
 row:∀ i,i < m->w.cell? ⟨ab ba,ao ba + i * 1,none⟩ = some (.slice (aa i) (bo i).length (cc i))
 rsl:∀ i,i < m->SL (aa i) (bo i).length
 op:∀ i,i < m->∀ (k:Nat) (o:OpD),(bo i)[k]? = some o->∀ (j:Nat) (v:Value),(opC o)[j]? = some v->w.cell? ⟨ab (aa i),ao (aa i) + k * 10 + j,none⟩ = some v
 len:∀ i,i < m->(bo i).length <= 1048576
 text:∀ i,i < m->∀ (k:Nat) (o:OpD),(bo i)[k]? = some o->o.text.size <= 1000000000000
theorem cell_lt {w:World} {a:Addr} {v:Value} (h:w.cell? a = some v):a.block < w.heap.size:=by
 unfold World.cell? at h
 rcases Nat.lt_or_ge a.block w.heap.size with z | z
 ·exact z
 ·rw [Array.getElem?_eq_none z] at h; simp at h
theorem cell_nn {w:World} {a:Addr} {v:Value} (h:w.cell? a = some v):w.heap[a.block]? ≠ some nothing:=by
 unfold World.cell? at h
 intro e
 rw [e] at h
 simp [nothing] at h
theorem cell_keep {w0 w:World} {a:Addr} {v:Value} (h:w0.cell? a = some v) (hb:Below w0.heap.size w0 w):w.cell? a = some v:=by
 rw [(cell_of_heap (u:=w0) (u':=w) (a:=a) (hb.block _ (cell_lt h))).1]; exact h
theorem BodsAt.keep {w w':World} {ba:Option Addr} {m:Nat} {bo:Nat->List OpD} {aa:Nat->Option Addr} {cc:Nat->Nat} (h:BodsAt w ba m bo aa cc) (hb:Below w.heap.size w w'):BodsAt w' ba m bo aa cc :=
 ⟨h.sl,fun i hi=>cell_keep (h.row i hi) hb,h.rsl,fun i hi k o ho j v hv=>cell_keep (h.op i hi k o ho j v hv) hb,h.len,h.text⟩
def fvB (b1 b2:Nat->Nat) (k:Nat):Value:=.func (.func 40) #[] #[.pointer (some ⟨b1 k,0,none⟩),.pointer (some ⟨b2 k,0,none⟩)]
structure Boxes (w:World) (B m:Nat) (bo:Nat->List OpD) (aa:Nat->Option Addr) (cc:Nat->Nat) (sb:Nat) (b1 b2:Nat->Nat):Prop where
 le:∀ i,i < m->B <= b1 i/\B <= b2 i
 one:∀ i,i < m->BlkF w (b1 i) #[.slice (aa i) (bo i).length (cc i)] 64 (0,0)
 two:∀ i,i < m->BlkF w (b2 i) #[.pointer (some ⟨sb,0,none⟩)] 32 (0,0)
theorem Boxes.keep {w w':World} {B m sb:Nat} {bo:Nat->List OpD} {aa:Nat->Option Addr} {cc:Nat->Nat} {b1 b2:Nat->Nat} (h:Boxes w B m bo aa cc sb b1 b2) (hb:Below w.heap.size w w'):Boxes w' B m bo aa cc sb b1 b2 :=
 ⟨h.le,fun i hi=>(hb.block _ (h.one i hi).lt).trans (h.one i hi),fun i hi=>(hb.block _ (h.two i hi).lt).trans (h.two i hi)⟩
structure PlayM (B m:Nat) (bo:Nat->List OpD) (sn:Nat) (sc:Nat->Int) (w:World) (R:Rn):Prop where
 mem:RunM w B R
 hm:R.m = m
 evs:R.evs = (PB m bo sc sn).evs
 nts:R.nts = (PB m bo sc sn).nts
 used:R.used = (PB m bo sc sn).used
 ends:∀ j,j < m->R.ends[j]? = some (endOf (PB m bo sc sn).ft[j]?)
 wts:∀ j,j < m->R.wts[j]? = some (wtOf (pSys m bo) j ((PB m bo sc sn).ft[j]?))
 stuck:R.stuck = ((PB m bo sc sn).ft.any (·.isLeft) && ((pSys m bo).rds (PB m bo sc sn)).isEmpty)
 fp:∀ b,R.fp b->B <= b
theorem PlayM.congr {B m sn:Nat} {bo:Nat->List OpD} {sc:Nat->Int} {w w':World} {R:Rn} (h:PlayM B m bo sn sc w R) (he:∀ k,R.fp k->w'.heap[k]? = w.heap[k]?):PlayM B m bo sn sc w' R :=
 ⟨h.mem.congr he,h.hm,h.evs,h.nts,h.used,h.ends,h.wts,h.stuck,h.fp⟩
theorem PlayM.keep {B m sn:Nat} {bo:Nat->List OpD} {sc:Nat->Int} {w w':World} {R:Rn} (h:PlayM B m bo sn sc w R) (hb:Below w.heap.size w w'):PlayM B m bo sn sc w' R:=h.congr fun k hk=>hb.block k (h.mem.lt hk)
theorem PlayM.down {B B' m sn:Nat} {bo:Nat->List OpD} {sc:Nat->Int} {w:World} {R:Rn} (h:PlayM B' m bo sn sc w R) (hB:B <= B'):PlayM B m bo sn sc w R:=by
 obtain ⟨h1,h2,h3,h4,h5,h6,h7,h8,h9⟩:=h
 exact ⟨⟨h1.run,h1.cls.down hB,h1.evs.down hB,h1.nts.down hB,h1.ends,h1.wts,h1.lend,h1.lwts,h1.lcl,h1.blk⟩,h2,h3,h4,h5,h6,h7,h8,fun b hb=>Nat.le_trans hB (h9 b hb)⟩
theorem play_run {lb:Nat} {pl:Nat->Plug} {m sn sb lc gc:Nat} {bo:Nat->List OpD} {sc:Nat->Int} {ba l g:Option Addr} {aa:Nat->Option Addr} {cc:Nat->Nat} {b1 b2:Nat->Nat} {tl:List Value} {w0 w:World} (hBo:BodsAt w0 ba m bo aa cc) (hb:Below w0.heap.size w0 w) (hm:m <= 16) (hsn:sn <= 262144)
  (hl:Own w w0.heap.size 52 1 l m lc ((List.range m).map (fvB b1 b2))) {gn:Nat} (hg:Own w w0.heap.size 3 1 g gn gc ((List.range sn).map (fun j=>.int .i64 (sc j)) ++ tl)) (hgn:sn <= gn) (hS:BlkF w sb (shC fun _=>0) 39 (0,0)) (hsb:w0.heap.size <= sb) (hx:Boxes w w0.heap.size m bo aa cc sb b1 b2) :
  @C Try.prog (loneCtx lb pl) 19 #[.slice l m lc,.slice g sn gc] w fun v w'=>∃ R,v = .tuple #[outV R,.int .i64 0]/\PlayM w.heap.size m bo sn sc w' R/\¬ R.fp sb/\BlkF w' sb (shC (PB m bo sc sn).s) 39 (0,0)/\w.grownBy w' (some sb):=by
 classical
 let RO:Nat->Prop:=fun b=>∃ i,i < m/\(b = b1 i\/b = b2 i\/(0 < (bo i).length/\b = ab (aa i)))
 let Λ:Lay:=⟨m,sb,bo,aa,cc,b1,b2,RO,w,lb,pl⟩
 have hBw:=hBo.keep hb
 have hop0:∀ i,i < m->0 < (bo i).length->∃ v,w0.cell? ⟨ab (aa i),ao (aa i) + 0 * 10 + 0,none⟩ = some v:=fun i hi hl0=>by
  obtain ⟨o,ho⟩:∃ o,(bo i)[0]? = some o:=⟨_,List.getElem?_eq_getElem hl0⟩
  exact ⟨_,hBo.op i hi 0 o ho 0 _ rfl⟩
 have hlow:∀ i,i < m->0 < (bo i).length->ab (aa i) < w0.heap.size:=fun i hi hl0=>by
  obtain ⟨v,hv⟩:=hop0 i hi hl0
  exact cell_lt hv
 have hsep:¬ RO sb:=by
  rintro ⟨i,hi,h | h | ⟨h0,h⟩⟩
  ·exact BlkF.ne hS (hx.one i hi) (by decide) h
  ·exact BlkF.ne hS (hx.two i hi) (by decide) h
  ·have:=hlow i hi h0; omega
 have hrolt:∀ b,RO b->b < w.heap.size/\w.heap[b]? ≠ some nothing:=by
  rintro b ⟨i,hi,rfl | rfl | ⟨h0,rfl⟩⟩
  ·exact ⟨(hx.one i hi).lt,blkF_ne_nothing (hx.one i hi) Nat.one_pos⟩
  ·exact ⟨(hx.two i hi).lt,blkF_ne_nothing (hx.two i hi) Nat.one_pos⟩
  ·obtain ⟨v,hv⟩:=hop0 i hi h0
   have hv':=cell_keep hv hb
   exact ⟨cell_lt hv',cell_nn hv'⟩
 have hΛ:LayOk Λ:=⟨hBw.op,hBw.rsl,hsep,fun i hi h0=>⟨i,hi,.inr (.inr ⟨h0,rfl⟩)⟩,fun i hi=>⟨i,hi,.inl rfl⟩,fun i hi=>⟨i,hi,.inr (.inl rfl)⟩,hx.one,hx.two,fun i hi=>Nat.le_trans (hBo.len i hi) (by decide),hBo.text⟩
 let Mn:Nat->Option Obj:=fun b=>if b = sb\/RO b then none else w.heap[b]?
 have hO:RunOk (bodiesSys Λ) (fun _=>40) (fun i=>#[.pointer (some ⟨b1 i,0,none⟩),.pointer (some ⟨b2 i,0,none⟩)]) (fvB b1 b2) l g sn sc:=by
  refine ⟨bodies_ok Λ,hm,hsn,hl.sl,fun h=>hg.sl (by omega),fun i hi=>.inr ⟨rfl,rfl,_,Try.func40,rfl,nm40⟩,?_,fun base i cb top u F hi _ hs=>?_⟩
  ·have:=nts_len (bo:=bo) hm hBo.len sc sn
   have h2:=congrArg PR.nts (toP_pn (Λ:=Λ) sc sn)
   have h3:((bodiesSys Λ).pn sc sn).nts = (PB m bo sc sn).nts:=h2
   rw [h3]; exact this
  ·obtain ⟨rfl,h1⟩:=BSt.start hs
   exact body_p hΛ hi _ u h1 (Proc ((bodiesSys Λ).cfg (fun _=>40) ((bodiesSys Λ).pn sc sn) base i cb top)) rfl top fun e u2 fr he hf hl=>.done hf hl he
 have key:=run_c (Mn:=Mn) (w0:=w) (F:=Λ.F) (bc:=lc) (scp:=gc) hO (fun b o h=>by
   have h:(if b = sb\/RO b then none else w.heap[b]?) = some o:=h
   split at h
   ·cases h
   ·exact h) ⟨rfl,hS,fun b hb=>⟨rfl,hrolt b hb⟩,fun k=>⟨by show (_:Int) <= 0; decide,by show (0:Int) <= _; decide⟩⟩ (fun b hb=>if_pos hb) (fun w' hw j hj=>by
   have hj:j < m:=hj
   have hla:l ≠ none:=hl.some_of (by omega)
   have hb2:¬ (ab l = sb\/RO (ab l)):=by
    obtain ⟨cur,hc,hle,_⟩:=hl.row hla
    have hc:BlkF w (ab l) cur _ (0,0):=hc
    rintro (h | ⟨i,hi,h | h | ⟨h0,h⟩⟩)
    ·exact BlkF.ne hc hS (by decide) h
    ·exact BlkF.ne hc (hx.one i hi) (by decide) h
    ·exact BlkF.ne hc (hx.two i hi) (by decide) h
    ·have:=hlow i hi h0; omega
   have h1:Mn (ab l) = w.heap[ab l]?:=if_neg hb2
   have h2:w'.heap[ab l]? = w.heap[ab l]?:=by
    rw [<- h1]; refine hw _ ?_
    rw [h1,Array.getElem?_eq_getElem (hl.lt hla)]; simp
   rw [(cell_of_heap (u:=w) (u':=w') (a:=⟨ab l,ao l + j * 1,none⟩) h2).1,hl.off,Nat.zero_add,Nat.mul_one]
   exact hl.cell (by simp [hj])) (fun w' hw j hj=>by
   have hla:g ≠ none:=hg.some_of (by omega)
   have hb2:¬ (ab g = sb\/RO (ab g)):=by
    obtain ⟨cur,hc,hle,_⟩:=hg.row hla
    have hc:BlkF w (ab g) cur _ (0,0):=hc
    rintro (h | ⟨i,hi,h | h | ⟨h0,h⟩⟩)
    ·exact BlkF.ne hc hS (by decide) h
    ·exact BlkF.ne hc (hx.one i hi) (by decide) h
    ·exact BlkF.ne hc (hx.two i hi) (by decide) h
    ·have:=hlow i hi h0; omega
   have h1:Mn (ab g) = w.heap[ab g]?:=if_neg hb2
   have h2:w'.heap[ab g]? = w.heap[ab g]?:=by
    rw [<- h1]; refine hw _ ?_
    rw [h1,Array.getElem?_eq_getElem (hg.lt hla)]; simp
   rw [(cell_of_heap (u:=w) (u':=w') (a:=⟨ab g,ao g + j * 1,none⟩) h2).1,hg.off,Nat.zero_add,Nat.mul_one]
   refine hg.cell ?_
   rw [List.getElem?_append_left (by simp [hj])]
   simp [hj])
 refine @Calls.mono _ (loneCtx lb pl) _ _ _ _ _ key fun e w' he=>?_
 cases e with
 | panicked ch=>exact he.elim
 | outgrown=>exact he.elim
 | returned v =>
  obtain ⟨R,rfl,hD⟩:=he
  obtain ⟨F,⟨rfl,hI⟩,hF⟩:=hD.inv
  have hpn:=toP_pn (Λ:=Λ) sc sn
  have hs:((bodiesSys Λ).pn sc sn).s = (PB m bo sc sn).s:=congrArg PR.s hpn
  refine ⟨R,rfl,⟨hD.mem,hD.m,hD.evs.trans (congrArg PR.evs hpn),hD.nts.trans (congrArg PR.nts hpn),hD.used.trans (congrArg PR.used hpn),fun j hj=>?_,fun j hj=>?_,?_,hD.fp⟩,hF sb (.inl rfl),?_,hD.os,hD.tape,hD.output,hD.size,fun b hb hne=>?_⟩
  ·rw [hD.ends j hj]
   exact congrArg (fun x:List ((Nat × Nat) ⊕ Nat)=>some (endOf x[j]?)) (congrArg PR.ft hpn)
  ·rw [hD.wts j hj]
   exact (congrArg some (toP_wt j _)).trans (congrArg (fun x:List ((Nat × Nat) ⊕ Nat)=>some (wtOf (pSys m bo) j x[j]?)) (congrArg PR.ft hpn))
  ·rw [hD.stuck,toP_rds,hpn]
   exact congrArg (fun x:List ((Nat × Nat) ⊕ Nat)=>(x.any (·.isLeft) && _)) (congrArg PR.ft hpn)
  ·rw [<- hs]; exact hI.sh
  ·have hne':b ≠ sb:=fun e=>hne (by rw [e])
   by_cases hr:RO b
   ·exact (hI.ro b hr).1
   ·have h1:Mn b = w.heap[b]?:=if_neg fun h=>h.elim hne' hr
    rw [<- h1]
    refine hD.keep b ?_
    rw [h1,Array.getElem?_eq_getElem hb]; simp
end Go.Vy.Sc
end
/- Results that lie in cells. Nothing here speaks of a program. -/
section
namespace Go.Vc
open Go Go.RowKit
end Go.Vc
namespace Go.Vy
open Go Go.Conc Go.Yc Go.RowKit
open Go.Vc
theorem results_cell_tmp2 {fn:Func} {p u v:Tmp} {ty:TypeId} (h:fn.results = #[.cell p ty,.tmp u,.tmp v]) (tmps:Array Value) (P:Program) (w:World) :
  (results fn tmps).run P w = ((do let a <- asAddr (tmps.getD p undef); let x <- loadVar ty a; pure (.tuple #[x,tmps.getD u undef,tmps.getD v undef])):Sem Value).run P w:=by
 simp [results,h]
theorem results_cell2_tmp {fn:Func} {p q v:Tmp} {ty tq:TypeId} (h:fn.results = #[.cell p ty,.cell q tq,.tmp v]) (tmps:Array Value) (P:Program) (w:World) :
  (results fn tmps).run P w = ((do let a <- asAddr (tmps.getD p undef); let x <- loadVar ty a; let b <- asAddr (tmps.getD q undef); let y <- loadVar tq b; pure (.tuple #[x,y,tmps.getD v undef])):Sem Value).run P w:=by
 simp [results,h]
theorem load_whole {P:Program} {w:World} {b:Nat} {cs:Array Value} {T E:TypeId} {d:TypeDesc} (hT:P.underlying T = some d) (hu:flatB d = false) (hs:(P.info? T).map (·.size) = some cs.size) (hB:Blk w b cs E):(loadVar T ⟨b,0,Option.none⟩).run P w = .ok (.agg cs) w:=by
 have h2:∀ j v,cs.toList[j]? = some v->w.cell? ((⟨b,0,Option.none⟩:Addr).add j) = some v:=fun j v hj=>by
  rw [Addr.add_lit,Nat.zero_add]; exact hB.cell (by simpa using hj)
 have:=run_loadCells_list (P:=P) (w:=w) ⟨b,0,Option.none⟩ cs.toList h2
 simp only [Array.length_toList] at this
 simp [loadVar,Go.Vc.run_isAgg hT,hu,Go.Vc.run_sizeOf hs,this]
theorem ends.cellTmp2 {P:Program} [Ctx P] {fn:Func} {R:Value->World->Prop} {x:Exit} {e:Env} {w:World} {t u v b:Nat} {cs:Array Value} {T E:TypeId} {d:TypeDesc} (hx:x = .normal\/x = .ret) (hr:fn.results = #[.cell t T,.tmp u,.tmp v])
  (he:e t = .pointer (some ⟨b,0,Option.none⟩)) (hT:P.underlying T = some d) (hu:flatB d = false) (hs:(P.info? T).map (·.size) = some cs.size) (hB:Blk w b cs E) (h:R (.tuple #[.agg cs,e u,e v]) w):ends P fn R x e w :=
 ⟨hx,_,fun tmps ht=>resDoes_tame tame_results fun τ d'=>by
  have hB:Blk (onT w τ d') b cs E:=hB
  generalize onT w τ d' = w at hB ⊢
  have h3:tmps.getD t undef = .pointer (some ⟨b,0,Option.none⟩):=by rw [ht,he]
  rw [results_cell_tmp2 hr,h3]
  simp [asAddr,load_whole hT hu hs hB,ht],h⟩
theorem ends.cell2Tmp {P:Program} [Ctx P] {fn:Func} {R:Value->World->Prop} {x:Exit} {e:Env} {w:World} {t u v b c:Nat} {cs ds:Array Value} {T E T' E':TypeId} {d d2:TypeDesc} (hx:x = .normal\/x = .ret) (hr:fn.results = #[.cell t T,.cell u T',.tmp v])
  (he:e t = .pointer (some ⟨b,0,Option.none⟩)) (he':e u = .pointer (some ⟨c,0,Option.none⟩)) (hT:P.underlying T = some d) (hu:flatB d = false) (hs:(P.info? T).map (·.size) = some cs.size) (hT':P.underlying T' = some d2) (hu':flatB d2 = false) (hs':(P.info? T').map (·.size) = some ds.size) (hB:Blk w b cs E) (hC:Blk w c ds E') (h:R (.tuple #[.agg cs,.agg ds,e v]) w):ends P fn R x e w :=
 ⟨hx,_,fun tmps ht=>resDoes_tame tame_results fun τ d'=>by
  have hB:Blk (onT w τ d') b cs E:=hB
  have hC:Blk (onT w τ d') c ds E':=hC
  generalize onT w τ d' = w at hB hC ⊢
  have h3:tmps.getD t undef = .pointer (some ⟨b,0,Option.none⟩):=by rw [ht,he]
  have h4:tmps.getD u undef = .pointer (some ⟨c,0,Option.none⟩):=by rw [ht,he']
  rw [results_cell2_tmp hr,h3,h4]
  simp [asAddr,load_whole hT hu hs hB,load_whole hT' hu' hs' hC,ht],h⟩
theorem d_bool {P:Program} {S:Sem Next} {w:World} {p:Prop} [Decidable p] {r:Bool} (h:decide p = r) (hd:Does P S w (.val (.bool (decide p))) w):Does P S w (.val (.bool r)) w:=h ▸ hd
theorem Own.neBlk {w:World} {B s n c b:Nat} {E T:TypeId} {a:Option Addr} {xs:List Value} {cs:Array Value} {f:Nat × Nat} (h:Own w B E s a n c xs) (hb:BlkF w b cs T f) (hne:E ≠ T):a ≠ none->ab a ≠ b:=fun ha=>by
 obtain ⟨cur,hc,_⟩:=h.row ha
 have hc:BlkF w (ab a) cur E (0,0):=hc
 exact hc.ne hb hne
end Go.Vy
end
/- A play: bodies under a script. -/
section
namespace Go.Vy.Sc
open Go Go.Conc Go.Yc Go.RowKit Go.Proofs Go.Proofs.Ytfmoeemolgjodaa
open Go.Vc Go.Wg
theorem Boxes.mod {w w':World} {B B' m sb:Nat} {TS:List TypeId} {bo:Nat->List OpD} {aa:Nat->Option Addr} {cc:Nat->Nat} {b1 b2:Nat->Nat} (h:Boxes w B m bo aa cc sb b1 b2) (hm:ModT w w' B' TS) (hT:(TS.contains 64 || TS.contains 32) = false):Boxes w' B m bo aa cc sb b1 b2:=by
  rw [Bool.or_eq_false_iff] at hT
  exact ⟨h.le,fun i hi=>Blk.mod (h.one i hi) hm hT.1,fun i hi=>Blk.mod (h.two i hi) hm hT.2⟩
theorem Boxes.snoc {w:World} {B m sb x y:Nat} {bo:Nat->List OpD} {aa:Nat->Option Addr} {cc:Nat->Nat} {b1 b2:Nat->Nat} (h:Boxes w B m bo aa cc sb b1 b2) (hx:BlkF w x #[.slice (aa m) (bo m).length (cc m)] 64 (0,0)) (hy:BlkF w y #[.pointer (some ⟨sb,0,none⟩)] 32 (0,0)) (lx:B <= x) (ly:B <= y):Boxes w B (m + 1) bo aa cc sb (upN b1 m x) (upN b2 m y):=by
  have key:∀ i,i < m + 1->i ≠ m->i < m:=fun i hi hn=>by omega
  refine ⟨fun i hi=>?_,fun i hi=>?_,fun i hi=>?_⟩ <;> by_cases hn:i = m
  · subst hn; rw [upN_eq,upN_eq]; exact ⟨lx,ly⟩
  · rw [upN_ne hn,upN_ne hn]; exact h.le i (key i hi hn)
  · subst hn; rw [upN_eq]; exact hx
  · rw [upN_ne hn]; exact h.one i (key i hi hn)
  · subst hn; rw [upN_eq]; exact hy
  · rw [upN_ne hn]; exact h.two i (key i hi hn)
theorem range_fv {m x y:Nat} {b1 b2:Nat->Nat}:(List.range (m + 1)).map (fvB (upN b1 m x) (upN b2 m y)) = (List.range m).map (fvB b1 b2) ++ [.func (.func 40) #[] #[.pointer (some ⟨x,0,none⟩),.pointer (some ⟨y,0,none⟩)]]:=by
  rw [List.range_succ,List.map_append]
  congr 1
  · apply List.map_congr_left
    intro i hi
    have:i ≠ m:=by have:i < m:=(by simpa using hi); omega
    unfold fvB
    rw [upN_ne this,upN_ne this]
  · simp [fvB,upN_eq]
theorem PlayM.otherB {B m sn b:Nat} {bo:Nat->List OpD} {sc:Nat->Int} {w w':World} {R:Rn} (h:PlayM B m bo sn sc w R) (hg:w.grownBy w' (some b)) (hn:¬ R.fp b):PlayM B m bo sn sc w' R :=
  h.congr fun k hk=>hg.block k (h.mem.lt hk) fun e=>hn (by cases e; exact hk)
structure ScAt (w:World) (sa:Option Addr) (sn scp:Nat) (sc:Nat->Int):Prop where
  sl:SL sa sn
  nil:sa = none->sn = 0/\scp = 0
  cap:sn <= scp
  cell:∀ j,j < sn->w.cell? ⟨ab sa,ao sa + j * 1,none⟩ = some (.int .i64 (sc j))
theorem ScAt.keep {w w':World} {sa:Option Addr} {sn scp:Nat} {sc:Nat->Int} (h:ScAt w sa sn scp sc) (hb:Below w.heap.size w w'):ScAt w' sa sn scp sc:=⟨h.sl,h.nil,h.cap,fun j hj=>cell_keep (h.cell j hj) hb⟩
theorem ScAt.src {w:World} {sa:Option Addr} {sn scp:Nat} {sc:Nat->Int} (h:ScAt w sa sn scp sc) (ad:Addr) (had:sa = some ad) (j:Nat) (u:Value) (hj:((List.range sn).map fun j=>Value.int .i64 (sc j))[j]? = some u):w.cell? (ad.add j) = some u:=by
  have hl:j < sn:=by
    have:=(List.getElem?_eq_some_iff.1 hj).1
    simpa using this
  have:=h.cell j hl
  have hs:=h.sl (by omega)
  rw [had] at hs
  have hs:=Option.some.inj hs
  rw [hs,Addr.add_lit]
  rw [had] at this
  rw [Nat.mul_one] at this
  simp [hl] at hj
  rw [<- hj]; exact this

theorem buP_0:Try.prog.built 31 [] = some #[.slice none 0 0,.slice none 0 0,.slice none 0 0,.slice none 0 0,.bool false,.int .i64 0]:=by kernel_rfl
theorem buP_1:Try.prog.built 39 [] = some #[.int .i64 0,.int .i64 0,.int .i64 0,.int .i64 0,.bool false,.bool false]:=by kernel_rfl
section
variable [Ctx Try.prog]

theorem mkbody_c (sb n c:Nat) (a:Option Addr) (w0:World):C Try.prog 30 #[.pointer (some ⟨sb,0,none⟩),.slice a n c] w0 fun v w=>∃ x y,v = .func (.func 40) #[] #[.pointer (some ⟨x,0,none⟩),.pointer (some ⟨y,0,none⟩)]/\BlkF w x #[.slice a n c] 64 (0,0)/\BlkF w y #[.pointer (some ⟨sb,0,none⟩)] 32 (0,0)/\w0.heap.size <= x/\w0.heap.size <= y/\Below w0.heap.size w0 w:=by
  refine C.enter (n:=6) Try.func30 rfl rfl ?_
  have hb:Below w0.heap.size w0 w0:=Below.refl _ _
  skip
  refine W.seq ?_
  refine W.region rfl ?_
  refine L.box (cs:=#[.pointer (some (⟨sb,0,none⟩))]) rfl rfl (fun w b2 F2=>?_)
  have lt2:w0.heap.size <= b2:=by have h9:=F2.here; have h8:=hb.size; omega
  have hb:=cl_step hb F2.below
  have hB2:=F2.blk
  refine L.box (cs:=#[.slice a n c]) rfl rfl (fun w b3 F3=>?_)
  have lt3:w0.heap.size <= b3:=by have h9:=F3.here; have h8:=hb.size; omega
  have hb:=cl_step hb F3.below
  have hB2:=hB2.keep F3.below
  have hB3:=F3.blk
  refine L.va x_assign ?_
  refine L.nil ?_
  show W _ _ _ _ _ _
  refine W.seq ?_
  refine W.region rfl ?_
  refine L.va (x_makeFuncL (l:=[.tmp 3,.tmp 2]) (vs:=[.pointer (some ⟨b3,0,none⟩),.pointer (some ⟨b2,0,none⟩)]) rfl) ?_
  refine L.va (x_asF rfl) ?_
  refine L.nil ?_
  show W _ _ _ _ _ _
  refine W.ret ?_
  repeat (first | refine T.ret ?_ | refine B.ret ?_ | refine N.ret ?_)
  refine ends.one (.inr rfl) rfl ?_
  exact ⟨_,_,rfl,hB3,hB2,lt3,lt2,hb⟩

theorem runbig_c (ba sa:Option Addr) (m bc sn scp:Nat) (w0:World) (h:16 < m):C Try.prog 19 #[.slice ba m bc,.slice sa sn scp] w0 fun v w=>v = .tuple #[.agg #[.slice none 0 0,.slice none 0 0,.slice none 0 0,.slice none 0 0,.bool false,.int .i64 0],.int .i64 90]/\Below w0.heap.size w0 w:=by
  refine C.enter (n:=83) Try.func19 rfl rfl ?_
  have hb:Below w0.heap.size w0 w0:=Below.refl _ _
  refine W.seq ?_
  refine W.region rfl ?_
  refine L.alloc (cs:=#[.slice none 0 0,.slice none 0 0,.slice none 0 0,.slice none 0 0,.bool false,.int .i64 0]) zr31 rfl (fun w b4 F4=>?_)
  have lt4:w0.heap.size <= b4:=by have h9:=F4.here; have h8:=hb.size; omega
  have hb:=cl_step hb F4.below
  have hB4:=F4.blk
  refine L.va (x_asI rfl) ?_
  refine L.nil ?_
  show W _ _ _ _ _ _
  refine W.seq ?_
  refine W.seq ?_
  refine W.region rfl ?_
  refine L.va (x_mvS rfl) ?_
  refine L.va (x_len rfl Try.underlying49 rfl) ?_
  refine L.va (x_gtr rfl rfl) ?_
  refine L.nil ?_
  show W _ _ _ _ _ _
  refine W.condT (congrArg Value.bool (decide_eq_true (by omega))) ?_
  refine W.seq ?_
  refine W.region rfl ?_
  refine L.va (x_build (parts:=[]) rfl buP_0) ?_
  refine L.put (b:=b4) (o:=0) (vs:=[.slice none 0 0,.slice none 0 0,.slice none 0 0,.slice none 0 0,.bool false,.int .i64 0]) #[.slice none 0 0,.slice none 0 0,.slice none 0 0,.slice none 0 0,.bool false,.int .i64 0] rfl rfl rfl sz31 rfl rfl hB4 (Nat.le_of_ble_eq_true rfl) rfl (fun w hnew hg hsz=>?_)
  have hm0:=ModT.put0 hB4 hg
  have hb:=below_gr hb hb.size hg lt4
  have hB4:=hnew
  clear hm0
  refine L.va (x_asI rfl) ?_
  refine L.nil ?_
  show W _ _ _ _ _ _
  refine W.ret ?_
  repeat (first | refine T.ret ?_ | refine B.ret ?_ | refine N.ret ?_)
  refine ends.cellTmp (cs:=#[.slice none 0 0,.slice none 0 0,.slice none 0 0,.slice none 0 0,.bool false,.int .i64 0]) (.inr rfl) rfl rfl Try.underlying31 rfl sz31 hB4 ?_
  exact ⟨rfl,hb⟩

theorem runlong_c (ba sa:Option Addr) (m bc sn scp:Nat) (w0:World) (hm:m <= 16) (h:262144 < sn):C Try.prog 19 #[.slice ba m bc,.slice sa sn scp] w0 fun v w=>v = .tuple #[.agg #[.slice none 0 0,.slice none 0 0,.slice none 0 0,.slice none 0 0,.bool false,.int .i64 0],.int .i64 1]/\Below w0.heap.size w0 w:=by
  refine C.enter (n:=83) Try.func19 rfl rfl ?_
  have hb:Below w0.heap.size w0 w0:=Below.refl _ _
  refine W.seq ?_
  refine W.region rfl ?_
  refine L.alloc (cs:=#[.slice none 0 0,.slice none 0 0,.slice none 0 0,.slice none 0 0,.bool false,.int .i64 0]) zr31 rfl (fun w b4 F4=>?_)
  have lt4:w0.heap.size <= b4:=by have h9:=F4.here; have h8:=hb.size; omega
  have hb:=cl_step hb F4.below
  have hB4:=F4.blk
  refine L.va (x_asI rfl) ?_
  refine L.nil ?_
  show W _ _ _ _ _ _
  refine W.seq ?_
  refine W.seq ?_
  refine W.region rfl ?_
  refine L.va (x_mvS rfl) ?_
  refine L.va (x_len rfl Try.underlying49 rfl) ?_
  refine L.va (x_gtr rfl rfl) ?_
  refine L.nil ?_
  show W _ _ _ _ _ _
  refine W.condF (congrArg Value.bool (decide_eq_false (by omega))) ?_
  refine W.skip ?_
  show W _ _ _ _ _ _
  refine W.seq ?_
  refine W.seq ?_
  refine W.region rfl ?_
  refine L.va (x_mvS rfl) ?_
  refine L.va (x_len rfl Try.underlying26 rfl) ?_
  refine L.va (x_gtr rfl rfl) ?_
  refine L.nil ?_
  show W _ _ _ _ _ _
  refine W.condT (congrArg Value.bool (decide_eq_true (by omega))) ?_
  refine W.seq ?_
  refine W.region rfl ?_
  refine L.va (x_build (parts:=[]) rfl buP_0) ?_
  refine L.put (b:=b4) (o:=0) (vs:=[.slice none 0 0,.slice none 0 0,.slice none 0 0,.slice none 0 0,.bool false,.int .i64 0]) #[.slice none 0 0,.slice none 0 0,.slice none 0 0,.slice none 0 0,.bool false,.int .i64 0] rfl rfl rfl sz31 rfl rfl hB4 (Nat.le_of_ble_eq_true rfl) rfl (fun w hnew hg hsz=>?_)
  have hm0:=ModT.put0 hB4 hg
  have hb:=below_gr hb hb.size hg lt4
  have hB4:=hnew
  clear hm0
  refine L.va (x_asI rfl) ?_
  refine L.nil ?_
  show W _ _ _ _ _ _
  refine W.ret ?_
  repeat (first | refine T.ret ?_ | refine B.ret ?_ | refine N.ret ?_)
  refine ends.cellTmp (cs:=#[.slice none 0 0,.slice none 0 0,.slice none 0 0,.slice none 0 0,.bool false,.int .i64 0]) (.inr rfl) rfl rfl Try.underlying31 rfl sz31 hB4 ?_
  exact ⟨rfl,hb⟩

end

set_option maxHeartbeats 1000000 in
theorem play_c {lb:Nat} {pl:Nat->Plug} {m bc sn scp:Nat} {bo:Nat->List OpD} {sc:Nat->Int} {ba sa:Option Addr} {aa:Nat->Option Addr} {cc:Nat->Nat} (w0:World) (hBo:BodsAt w0 ba m bo aa cc) (hSc:ScAt w0 sa sn scp sc) (hm:m <= 16) (hsn:sn <= 262144):@C Try.prog (loneCtx lb pl) 14 #[.slice ba m bc,.slice sa sn scp] w0 fun v w=>∃ R sb,v = .tuple #[outV R,.pointer (some ⟨sb,0,none⟩),.int .i64 0]/\PlayM w0.heap.size m bo sn sc w R/\¬ R.fp sb/\BlkF w sb #[.int .i64 ((PB m bo sc sn).s 0),.int .i64 ((PB m bo sc sn).s 1),.int .i64 ((PB m bo sc sn).s 2),.int .i64 ((PB m bo sc sn).s 3),.bool false,.bool true] 39 (0,0)/\w0.heap.size <= sb/\Below w0.heap.size w0 w:=by
  letI:Ctx Try.prog:=loneCtx lb pl
  refine C.enter (n:=68) Try.func14 rfl rfl ?_
  have hb:Below w0.heap.size w0 w0:=Below.refl _ _
  refine W.seq ?_
  refine W.region rfl ?_
  refine L.alloc (cs:=#[.slice none 0 0,.slice none 0 0,.slice none 0 0,.slice none 0 0,.bool false,.int .i64 0]) zr31 rfl (fun w b4 F4=>?_)
  have lt4:w0.heap.size <= b4:=by have h9:=F4.here; have h8:=hb.size; omega
  have hb:=cl_step hb F4.below
  have hB4:=F4.blk
  refine L.va (x_asP rfl) ?_
  refine L.va (x_asI rfl) ?_
  refine L.nil ?_
  show W _ _ _ _ _ _
  refine W.seq ?_
  refine W.region rfl ?_
  refine L.va (x_build (parts:=[]) rfl buP_1) ?_
  refine L.box (cs:=#[.int .i64 0,.int .i64 0,.int .i64 0,.int .i64 0,.bool false,.bool false]) rfl rfl (fun w b14 F14=>?_)
  have lt14:w0.heap.size <= b14:=by have h9:=F14.here; have h8:=hb.size; omega
  have hb:=cl_step hb F14.below
  have hB4:=hB4.keep F14.below
  have hB14:=F14.blk
  refine L.va (x_asP rfl) ?_
  refine L.nil ?_
  show W _ _ _ _ _ _
  refine W.seq ?_
  refine W.region rfl ?_
  refine L.va (x_asS rfl) ?_
  refine L.nil ?_
  show W _ _ _ _ _ _
  refine W.seq ?_
  refine W.seq ?_
  refine W.region rfl ?_
  refine L.va (x_asI rfl) ?_
  refine L.nil ?_
  show W _ _ _ _ _ _
  refine W.block ?_
  refine W.loop (fun k e w=>∃ (i:Nat),∃ (l:Option Addr),∃ (lc:Nat),∃ (b1:Nat->Nat),∃ (b2:Nat->Nat),k = m - i/\e 0 = .slice ba m bc/\e 1 = .slice sa sn scp/\e 4 = .pointer (some ⟨b4,0,none⟩)/\e 5 = .pointer none/\e 6 = .int .i64 0/\e 7 = .pointer (some ⟨b14,0,none⟩)/\e 8 = .slice l i lc/\e 9 = .int .i64 (i:Int)/\i <= m/\Own w w0.heap.size 52 1 l i lc ((List.range i).map (fvB b1 b2))/\Boxes w w0.heap.size i bo aa cc b14 b1 b2/\Blk w b4 #[.slice none 0 0,.slice none 0 0,.slice none 0 0,.slice none 0 0,.bool false,.int .i64 0] 31/\Blk w b14 #[.int .i64 0,.int .i64 0,.int .i64 0,.int .i64 0,.bool false,.bool false] 39/\Below w0.heap.size w0 w) _ ⟨0,none,0,(fun _=>0),(fun _=>0),rfl,rfl,rfl,rfl,rfl,rfl,rfl,rfl,rfl,Nat.zero_le _,Own.nil _ _ _ _,⟨fun i hi=>absurd hi (Nat.not_lt_zero _),fun i hi=>absurd hi (Nat.not_lt_zero _),fun i hi=>absurd hi (Nat.not_lt_zero _)⟩,hB4,hB14,hb⟩ ?_
  rintro k e w ⟨i,l,lc,b1,b2,hk,s0,s1,s4,s5,s6,s7,s8,s9,hi,hl,hx,hB4,hB14,hb⟩
  rw [upd_id s0,upd_id s1,upd_id s4,upd_id s5,upd_id s6,upd_id s7,upd_id s8,upd_id s9]
  clear s0 s1 s4 s5 s6 s7 s8 s9
  refine W.seq ?_
  refine W.seq ?_
  refine W.region rfl ?_
  refine L.va (x_mvI rfl) ?_
  refine L.va (x_mvS rfl) ?_
  refine L.va (x_len rfl Try.underlying25 rfl) ?_
  refine L.va (x_lss rfl rfl) ?_
  refine L.nil ?_
  show W _ _ _ _ _ _
  refine W.condP rfl (fun h18=>?_) (fun h18=>?_)
  · have hlt:i < m:=by omega
    refine W.skip ?_
    show W _ _ _ _ _ _
    refine W.seq ?_
    refine W.block ?_
    refine W.region rfl ?_
    refine L.va (x_mvS rfl) ?_
    refine L.va (x_mvP rfl) ?_
    refine L.va (x_mvS rfl) ?_
    refine L.va (x_mvI rfl) ?_
    refine L.va (x_idx (i:=i) rfl rfl Try.underlying25 sz64 hBo.sl hlt) ?_
    refine L.va (x_load (v:=.slice (aa i) (bo i).length (cc i)) rfl Try.underlying64 rfl ((hBo.keep hb).row i hlt)) ?_
    refine L.call (x_call2 rfl rfl Try.func30 rfl nm30 rfl) (mkbody_c b14 (bo i).length (cc i) (aa i) w) ?_
    rintro _ w1 ⟨x,y,rfl,hx1,hy1,lx,ly,hbw⟩
    have lx:=Nat.le_trans hb.size lx
    have ly:=Nat.le_trans hb.size ly
    have hb:=cl_step hb hbw
    have hl:=hl.keep hbw
    have hx:=hx.keep hbw
    have hB4:=hB4.keep hbw
    have hB14:=hB14.keep hbw
    clear hbw
    rename World=>w
    have hx1:Blk w x #[.slice (aa i) (bo i).length (cc i)] 64:=hx1
    have hy1:Blk w y #[.pointer (some ⟨b14,0,none⟩)] 32:=hy1
    refine L.build1 (cs:=#[.func (.func 40) #[] #[.pointer (some (⟨x,0,none⟩)),.pointer (some (⟨y,0,none⟩))]]) rfl rfl Try.underlying49 sz52 rfl ⟨_,zr52⟩ (by decide) (fun w b28 F28=>?_)
    have lt28:w0.heap.size <= b28:=by have h9:=F28.here; have h8:=hb.size; omega
    have hb:=cl_step hb F28.below
    have hl:=hl.keep F28.below
    have hx:=hx.keep F28.below
    have hB4:=hB4.keep F28.below
    have hB14:=hB14.keep F28.below
    have hx1:=hx1.keep F28.below
    have hy1:=hy1.keep F28.below
    have hB28:=F28.blk
    refine L.appendAny (B:=w0.heap.size) (m:=1) rfl rfl Try.underlying49 in52 rfl (by decide) hl (fun h=>by cases h) (news:=[.func (.func 40) #[] #[.pointer (some (⟨x,0,none⟩)),.pointer (some (⟨y,0,none⟩))]]) rfl (fun ad had j u hj=>by
      cases had
      rw [Addr.add_lit]
      match j,hj with
      | 0,hj=>cases hj; exact hB28.cellAt 0 rfl) (fun u hu=>by simp only [List.mem_cons,List.not_mem_nil,or_false] at hu; subst hu; rfl) (by omega) (by omega) hb.size (fun l2 lc2 w2 hO2 hg2 hbel _=>?_)
    have hmo:ModT w w2 w0.heap.size [52]:=ModT.app hl hg2 hbel rfl hO2
    have hb:=hb.trans hbel
    have hx:=hx.mod hmo rfl
    have hB4:=hB4.mod hmo rfl
    have hB14:=hB14.mod hmo rfl
    have hx1:=hx1.mod hmo rfl
    have hy1:=hy1.mod hmo rfl

    clear hmo hg2 hbel hl
    rename World=>w
    refine L.va (x_asS rfl) ?_
    refine L.nil ?_
    refine B.nrm ?_
    show W _ _ _ _ _ _
    refine W.region rfl ?_
    refine L.va (x_mvI rfl) ?_
    refine L.va (x_inc rfl rfl (by omega)) ?_
    refine L.va (x_asI rfl) ?_
    refine L.nil ?_
    refine T.nrm ?_
    exact ⟨_,by omega,⟨i + 1,l2,lc2,(upN b1 i x),(upN b2 i y),rfl,rfl,rfl,rfl,rfl,rfl,rfl,rfl,rfl,(by omega),(by rw [range_fv]; exact hO2),(hx.snoc hx1 hy1 lx ly),hB4,hB14,hb⟩⟩
  · obtain rfl:m = i:=by omega
    refine W.exit ?_
    repeat (first | refine T.exit ?_ | refine N.exit ?_ | refine B.exitNe (by decide) ?_)
    refine B.exitEq ?_
    show W _ _ _ _ _ _
    refine W.seq ?_
    refine W.region rfl ?_
    refine L.build0 Try.underlying26 sz3 (fun w b30 F30=>?_)
    have lt30:w0.heap.size <= b30:=by have h9:=F30.here; have h8:=hb.size; omega
    have hb:=cl_step hb F30.below
    have hl:=hl.keep F30.below
    have hx:=hx.keep F30.below
    have hB4:=hB4.keep F30.below
    have hB14:=hB14.keep F30.below
    have hB30:=F30.blk
    have hO:Own w w0.heap.size 3 1 (some ⟨b30,0,none⟩) 0 0 []:=Own.ofBlk (c:=0) hB30 rfl lt30 (by decide) (by decide)
    clear hB30
    refine L.va (x_mvS rfl) ?_
    refine L.appendAny (B:=w0.heap.size) (m:=sn) rfl rfl Try.underlying26 in3 rfl (by decide) hO hSc.nil (news:=(List.range sn).map fun j=>.int .i64 (sc j)) (by simp) (fun ad had j u hj=>(hSc.keep hb).src ad had j u hj) (fun u hu=>by obtain ⟨j,_,rfl⟩:=List.mem_map.1 hu; rfl) (by omega) (by omega) hb.size (fun g1 gc1 w2 hO2 hg2 hbel _=>?_)
    have hmo:ModT w w2 w0.heap.size [3]:=ModT.app hO hg2 hbel rfl hO2
    have hb:=hb.trans hbel
    have hl:=hl.mod hmo rfl
    have hx:=hx.mod hmo rfl
    have hB4:=hB4.mod hmo rfl
    have hB14:=hB14.mod hmo rfl
    clear hmo hg2 hbel hO
    rename World=>w
    have hO:=hO2
    clear hO2
    refine L.buildF (vs:=[(0,.int .i64 77),(1,.int .i64 78)]) (cs:=#[.int .i64 77,.int .i64 78]) rfl Try.underlying26 sz3 zr3 (by decide) (by kernel_rfl) (fun w b33 F33=>?_)
    have lt33:w0.heap.size <= b33:=by have h9:=F33.here; have h8:=hb.size; omega
    have hb:=cl_step hb F33.below
    have hl:=hl.keep F33.below
    have hx:=hx.keep F33.below
    have hB4:=hB4.keep F33.below
    have hB14:=hB14.keep F33.below
    have hO:=hO.keep F33.below
    have hB33:=F33.blk
    refine L.appendAny (B:=w0.heap.size) (m:=2) rfl rfl Try.underlying26 in3 rfl (by decide) hO (fun h=>by cases h) (news:=[.int .i64 77,.int .i64 78]) rfl (fun ad had j u hj=>by
        cases had
        rw [Addr.add_lit]
        match j,hj with
        | 0,hj=>cases hj; exact hB33.cellAt 0 rfl
        | 1,hj=>cases hj; exact hB33.cellAt 1 rfl) (fun u hu=>by simp only [List.mem_cons,List.not_mem_nil,or_false] at hu; rcases hu with rfl | rfl <;> rfl) (by omega) (by omega) hb.size (fun g gc w2 hO2 hg2 hbel _=>?_)
    have hmo:ModT w w2 w0.heap.size [3]:=ModT.app hO hg2 hbel rfl hO2
    have hb:=hb.trans hbel
    have hl:=hl.mod hmo rfl
    have hx:=hx.mod hmo rfl
    have hB4:=hB4.mod hmo rfl
    have hB14:=hB14.mod hmo rfl

    clear hmo hg2 hbel hO
    rename World=>w
    have hO:=hO2
    clear hO2
    have hgc:sn <= gc:=by
        obtain ⟨_,_,_,h,_⟩:=hO.row (hO.some_of (by omega))
        omega
    rw [List.nil_append] at hO
    refine L.va (x_asS rfl) ?_
    refine L.nil ?_
    show W _ _ _ _ _ _
    refine W.seq ?_
    refine W.region rfl ?_
    refine L.va (x_mvS rfl) ?_
    refine L.va (x_mvS rfl) ?_
    refine L.va (x_mvS rfl) ?_
    refine L.va (x_len rfl Try.underlying26 rfl) ?_
    refine L.va (x_sliceTo (k:=sn) rfl rfl Try.underlying26 sz3 hgc) ?_
    have hn4:b4 ≠ b14:=BlkF.ne (blkF_of hB4) (blkF_of hB14) (by decide)
    refine L.call (x_call2 rfl rfl Try.func19 rfl nm19 rfl) (play_run hBo hb hm hsn hl hO (by omega) hB14 lt14 hx) ?_
    rintro _ w1 ⟨R,rfl,hP,hns,hS,hgr⟩
    have hO:=hO.otherB hgr (Own.neBlk hO (blkF_of hB14) (by decide))
    have hf4:¬ R.fp b4:=fun z=>by have:=hP.fp _ z; have:=hB4.lt; omega
    have hB4:=hB4.other hgr hn4
    have hP:=hP.down hb.size
    have hb:=below_gr hb hb.size hgr lt14
    have hB14:Blk w1 b14 #[.int .i64 ((PB m bo sc sn).s 0),.int .i64 ((PB m bo sc sn).s 1),.int .i64 ((PB m bo sc sn).s 2),.int .i64 ((PB m bo sc sn).s 3),.bool false,.bool false] 39:=hS
    clear hS hgr hl hx
    rename World=>w
    refine L.va (x_mvT rfl) ?_
    refine L.va (x_extract rfl rfl) ?_
    refine L.va (x_extract rfl rfl) ?_
    refine L.alloc (cs:=#[.slice none 0 0,.slice none 0 0,.slice none 0 0,.slice none 0 0,.bool false,.int .i64 0]) zr31 rfl (fun w b11 F11=>?_)
    have lt11:w0.heap.size <= b11:=by have h9:=F11.here; have h8:=hb.size; omega
    have ne11hB4:=F11.ne hB4
    have hn11:¬ R.fp b11:=fun z=>by have:=hP.mem.lt z; have:=F11.here; omega
    have hb:=cl_step hb F11.below
    have hB4:=hB4.keep F11.below
    have hB14:=hB14.keep F11.below
    have hO:=hO.keep F11.below
    have hP:=hP.keep F11.below
    have hB11:=F11.blk
    refine L.put (b:=b11) (o:=0) (vs:=[.slice (R.ea) (R.evs.length) (R.ec),.slice (R.na) (R.nts.length) (R.nc),.slice (some ⟨R.eb,0,none⟩) (R.m) (R.m),.slice (some ⟨R.wb,0,none⟩) (R.m) (R.m),.bool (R.stuck),.int .i64 (R.used:Int)]) #[.slice (R.ea) (R.evs.length) (R.ec),.slice (R.na) (R.nts.length) (R.nc),.slice (some ⟨R.eb,0,none⟩) (R.m) (R.m),.slice (some ⟨R.wb,0,none⟩) (R.m) (R.m),.bool (R.stuck),.int .i64 (R.used:Int)] rfl rfl rfl sz31 rfl rfl hB11 (Nat.le_of_ble_eq_true rfl) rfl (fun w hnew hg hsz=>?_)
    have hm0:=ModT.put0 hB11 hg
    have hb:=below_gr hb hb.size hg lt11
    have hB4:=hB4.other hg ne11hB4
    have hB14:=hB14.mod hm0 rfl
    have hO:=hO.mod hm0 rfl
    have hP:=hP.otherB hg hn11
    have hB11:=hnew
    clear hm0
    refine L.va (x_asI rfl) ?_
    refine L.nil ?_
    show W _ _ _ _ _ _
    refine W.seq ?_
    refine W.region rfl ?_
    refine L.va (x_mvP rfl) ?_
    refine L.va (x_nilCheck rfl) ?_
    refine L.va (x_field rfl Try.underlying39 rfl sz4 (by decide)) ?_
    refine L.put (b:=b14) (o:=5) (vs:=[.bool true]) #[.int .i64 ((PB m bo sc sn).s 0),.int .i64 ((PB m bo sc sn).s 1),.int .i64 ((PB m bo sc sn).s 2),.int .i64 ((PB m bo sc sn).s 3),.bool false,.bool true] rfl rfl rfl sz4 rfl rfl hB14 (Nat.le_of_ble_eq_true rfl) rfl (fun w hnew hg hsz=>?_)
    have hm0:=ModT.put0 hB14 hg
    have hb:=below_gr hb hb.size hg lt14
    have hB4:=hB4.mod hm0 rfl
    have hO:=hO.mod hm0 rfl
    have hP:=hP.otherB hg hns
    have hB11:=hB11.mod hm0 rfl
    have hB14:=hnew
    clear hm0
    refine L.nil ?_
    show W _ _ _ _ _ _
    refine W.seq ?_
    refine W.seq ?_
    refine W.region rfl ?_
    refine L.va (x_mvS rfl) ?_
    refine L.va (x_mvS rfl) ?_
    refine L.va (x_len rfl Try.underlying26 rfl) ?_
    refine L.va (x_idx (i:=sn) rfl rfl Try.underlying26 sz3 hO.sl (by omega)) ?_
    refine L.va (x_load (v:=.int .i64 77) rfl Try.underlying3 rfl (by rw [hO.off,Nat.zero_add,Nat.mul_one]; exact hO.cell (by rw [List.getElem?_append_right (by simp)]; simp))) ?_
    refine L.va (d_bool (r:=false) (by decide) (x_neq (m:=77) (k:=77) rfl rfl)) ?_
    refine L.va (x_mvB rfl) ?_
    refine L.on rfl ?_
    refine L.va (x_mvS rfl) ?_
    refine L.on rfl ?_
    refine L.va (x_mvS rfl) ?_
    refine L.on rfl ?_
    refine L.va (x_len rfl Try.underlying26 rfl) ?_
    refine L.on rfl ?_
    refine L.va (x_inc rfl rfl (by omega)) ?_
    refine L.on rfl ?_
    refine L.va (x_idx (i:=sn + 1) rfl rfl Try.underlying26 sz3 hO.sl (by omega)) ?_
    refine L.on rfl ?_
    refine L.va (x_load (v:=.int .i64 78) rfl Try.underlying3 rfl (by rw [hO.off,Nat.zero_add,Nat.mul_one]; exact hO.cell (by rw [List.getElem?_append_right (by simp)]; simp))) ?_
    refine L.on rfl ?_
    refine L.va (d_bool (r:=false) (by decide) (x_neq (m:=78) (k:=78) rfl rfl)) ?_
    refine L.va (x_pickF rfl) ?_
    refine L.nil ?_
    show W _ _ _ _ _ _
    refine W.condF rfl ?_
    refine W.skip ?_
    show W _ _ _ _ _ _
    refine W.seq ?_
    refine W.region rfl ?_
    refine L.va (x_loadAgg (cs:=[.slice (R.ea) (R.evs.length) (R.ec),.slice (R.na) (R.nts.length) (R.nc),.slice (some ⟨R.eb,0,none⟩) (R.m) (R.m),.slice (some ⟨R.wb,0,none⟩) (R.m) (R.m),.bool (R.stuck),.int .i64 (R.used:Int)]) rfl Try.underlying31 rfl sz31 rfl (hB11.aggAt rfl)) ?_
    refine L.va (x_mvP rfl) ?_
    refine L.va (x_mvI rfl) ?_
    refine L.put (b:=b4) (o:=0) (vs:=[.slice (R.ea) (R.evs.length) (R.ec),.slice (R.na) (R.nts.length) (R.nc),.slice (some ⟨R.eb,0,none⟩) (R.m) (R.m),.slice (some ⟨R.wb,0,none⟩) (R.m) (R.m),.bool (R.stuck),.int .i64 (R.used:Int)]) #[.slice (R.ea) (R.evs.length) (R.ec),.slice (R.na) (R.nts.length) (R.nc),.slice (some ⟨R.eb,0,none⟩) (R.m) (R.m),.slice (some ⟨R.wb,0,none⟩) (R.m) (R.m),.bool (R.stuck),.int .i64 (R.used:Int)] rfl rfl rfl sz31 rfl rfl hB4 (Nat.le_of_ble_eq_true rfl) rfl (fun w hnew hg hsz=>?_)
    have hm0:=ModT.put0 hB4 hg
    have hb:=below_gr hb hb.size hg lt4
    have hB14:=hB14.mod hm0 rfl
    have hO:=hO.mod hm0 rfl
    have hP:=hP.otherB hg hf4
    have hB11:=hB11.other hg (Ne.symm ne11hB4)
    have hB4:=hnew
    clear hm0
    refine L.va (x_asP rfl) ?_
    refine L.va (x_asI rfl) ?_
    refine L.nil ?_
    show W _ _ _ _ _ _
    refine W.ret ?_
    repeat (first | refine T.ret ?_ | refine B.ret ?_ | refine N.ret ?_)
    refine ends.cellTmp2 (cs:=#[.slice (R.ea) (R.evs.length) (R.ec),.slice (R.na) (R.nts.length) (R.nc),.slice (some ⟨R.eb,0,none⟩) (R.m) (R.m),.slice (some ⟨R.wb,0,none⟩) (R.m) (R.m),.bool (R.stuck),.int .i64 (R.used:Int)]) (.inr rfl) rfl rfl Try.underlying31 rfl sz31 hB4 ?_
    exact ⟨R,b14,rfl,hP,hns,hB14,lt14,hb⟩

set_option maxHeartbeats 1000000 in
theorem play_big_c {lb:Nat} {pl:Nat->Plug} {m bc sn scp:Nat} {bo:Nat->List OpD} {sc:Nat->Int} {ba sa:Option Addr} {aa:Nat->Option Addr} {cc:Nat->Nat} (w0:World) (hBo:BodsAt w0 ba m bo aa cc) (hSc:ScAt w0 sa sn scp sc) (hmb:m <= 1000000000000) (hsn:sn <= 1000000000000) (h:16 < m):@C Try.prog (loneCtx lb pl) 14 #[.slice ba m bc,.slice sa sn scp] w0 fun v w=>∃ sb,v = .tuple #[.agg #[.slice none 0 0,.slice none 0 0,.slice none 0 0,.slice none 0 0,.bool false,.int .i64 0],.pointer (some ⟨sb,0,none⟩),.int .i64 90]/\BlkF w sb #[.int .i64 0,.int .i64 0,.int .i64 0,.int .i64 0,.bool false,.bool true] 39 (0,0)/\w0.heap.size <= sb/\Below w0.heap.size w0 w:=by
  letI:Ctx Try.prog:=loneCtx lb pl
  refine C.enter (n:=68) Try.func14 rfl rfl ?_
  have hb:Below w0.heap.size w0 w0:=Below.refl _ _
  refine W.seq ?_
  refine W.region rfl ?_
  refine L.alloc (cs:=#[.slice none 0 0,.slice none 0 0,.slice none 0 0,.slice none 0 0,.bool false,.int .i64 0]) zr31 rfl (fun w b4 F4=>?_)
  have lt4:w0.heap.size <= b4:=by have h9:=F4.here; have h8:=hb.size; omega
  have hb:=cl_step hb F4.below
  have hB4:=F4.blk
  refine L.va (x_asP rfl) ?_
  refine L.va (x_asI rfl) ?_
  refine L.nil ?_
  show W _ _ _ _ _ _
  refine W.seq ?_
  refine W.region rfl ?_
  refine L.va (x_build (parts:=[]) rfl buP_1) ?_
  refine L.box (cs:=#[.int .i64 0,.int .i64 0,.int .i64 0,.int .i64 0,.bool false,.bool false]) rfl rfl (fun w b14 F14=>?_)
  have lt14:w0.heap.size <= b14:=by have h9:=F14.here; have h8:=hb.size; omega
  have hb:=cl_step hb F14.below
  have hB4:=hB4.keep F14.below
  have hB14:=F14.blk
  refine L.va (x_asP rfl) ?_
  refine L.nil ?_
  show W _ _ _ _ _ _
  refine W.seq ?_
  refine W.region rfl ?_
  refine L.va (x_asS rfl) ?_
  refine L.nil ?_
  show W _ _ _ _ _ _
  refine W.seq ?_
  refine W.seq ?_
  refine W.region rfl ?_
  refine L.va (x_asI rfl) ?_
  refine L.nil ?_
  show W _ _ _ _ _ _
  refine W.block ?_
  refine W.loop (fun k e w=>∃ (i:Nat),∃ (l:Option Addr),∃ (lc:Nat),∃ (b1:Nat->Nat),∃ (b2:Nat->Nat),k = m - i/\e 0 = .slice ba m bc/\e 1 = .slice sa sn scp/\e 4 = .pointer (some ⟨b4,0,none⟩)/\e 5 = .pointer none/\e 6 = .int .i64 0/\e 7 = .pointer (some ⟨b14,0,none⟩)/\e 8 = .slice l i lc/\e 9 = .int .i64 (i:Int)/\i <= m/\Own w w0.heap.size 52 1 l i lc ((List.range i).map (fvB b1 b2))/\Boxes w w0.heap.size i bo aa cc b14 b1 b2/\Blk w b4 #[.slice none 0 0,.slice none 0 0,.slice none 0 0,.slice none 0 0,.bool false,.int .i64 0] 31/\Blk w b14 #[.int .i64 0,.int .i64 0,.int .i64 0,.int .i64 0,.bool false,.bool false] 39/\Below w0.heap.size w0 w) _ ⟨0,none,0,(fun _=>0),(fun _=>0),rfl,rfl,rfl,rfl,rfl,rfl,rfl,rfl,rfl,Nat.zero_le _,Own.nil _ _ _ _,⟨fun i hi=>absurd hi (Nat.not_lt_zero _),fun i hi=>absurd hi (Nat.not_lt_zero _),fun i hi=>absurd hi (Nat.not_lt_zero _)⟩,hB4,hB14,hb⟩ ?_
  rintro k e w ⟨i,l,lc,b1,b2,hk,s0,s1,s4,s5,s6,s7,s8,s9,hi,hl,hx,hB4,hB14,hb⟩
  rw [upd_id s0,upd_id s1,upd_id s4,upd_id s5,upd_id s6,upd_id s7,upd_id s8,upd_id s9]
  clear s0 s1 s4 s5 s6 s7 s8 s9
  refine W.seq ?_
  refine W.seq ?_
  refine W.region rfl ?_
  refine L.va (x_mvI rfl) ?_
  refine L.va (x_mvS rfl) ?_
  refine L.va (x_len rfl Try.underlying25 rfl) ?_
  refine L.va (x_lss rfl rfl) ?_
  refine L.nil ?_
  show W _ _ _ _ _ _
  refine W.condP rfl (fun h18=>?_) (fun h18=>?_)
  · have hlt:i < m:=by omega
    refine W.skip ?_
    show W _ _ _ _ _ _
    refine W.seq ?_
    refine W.block ?_
    refine W.region rfl ?_
    refine L.va (x_mvS rfl) ?_
    refine L.va (x_mvP rfl) ?_
    refine L.va (x_mvS rfl) ?_
    refine L.va (x_mvI rfl) ?_
    refine L.va (x_idx (i:=i) rfl rfl Try.underlying25 sz64 hBo.sl hlt) ?_
    refine L.va (x_load (v:=.slice (aa i) (bo i).length (cc i)) rfl Try.underlying64 rfl ((hBo.keep hb).row i hlt)) ?_
    refine L.call (x_call2 rfl rfl Try.func30 rfl nm30 rfl) (mkbody_c b14 (bo i).length (cc i) (aa i) w) ?_
    rintro _ w1 ⟨x,y,rfl,hx1,hy1,lx,ly,hbw⟩
    have lx:=Nat.le_trans hb.size lx
    have ly:=Nat.le_trans hb.size ly
    have hb:=cl_step hb hbw
    have hl:=hl.keep hbw
    have hx:=hx.keep hbw
    have hB4:=hB4.keep hbw
    have hB14:=hB14.keep hbw
    clear hbw
    rename World=>w
    have hx1:Blk w x #[.slice (aa i) (bo i).length (cc i)] 64:=hx1
    have hy1:Blk w y #[.pointer (some ⟨b14,0,none⟩)] 32:=hy1
    refine L.build1 (cs:=#[.func (.func 40) #[] #[.pointer (some (⟨x,0,none⟩)),.pointer (some (⟨y,0,none⟩))]]) rfl rfl Try.underlying49 sz52 rfl ⟨_,zr52⟩ (by decide) (fun w b28 F28=>?_)
    have lt28:w0.heap.size <= b28:=by have h9:=F28.here; have h8:=hb.size; omega
    have hb:=cl_step hb F28.below
    have hl:=hl.keep F28.below
    have hx:=hx.keep F28.below
    have hB4:=hB4.keep F28.below
    have hB14:=hB14.keep F28.below
    have hx1:=hx1.keep F28.below
    have hy1:=hy1.keep F28.below
    have hB28:=F28.blk
    refine L.appendAny (B:=w0.heap.size) (m:=1) rfl rfl Try.underlying49 in52 rfl (by decide) hl (fun h=>by cases h) (news:=[.func (.func 40) #[] #[.pointer (some (⟨x,0,none⟩)),.pointer (some (⟨y,0,none⟩))]]) rfl (fun ad had j u hj=>by
      cases had
      rw [Addr.add_lit]
      match j,hj with
      | 0,hj=>cases hj; exact hB28.cellAt 0 rfl) (fun u hu=>by simp only [List.mem_cons,List.not_mem_nil,or_false] at hu; subst hu; rfl) (by omega) (by omega) hb.size (fun l2 lc2 w2 hO2 hg2 hbel _=>?_)
    have hmo:ModT w w2 w0.heap.size [52]:=ModT.app hl hg2 hbel rfl hO2
    have hb:=hb.trans hbel
    have hx:=hx.mod hmo rfl
    have hB4:=hB4.mod hmo rfl
    have hB14:=hB14.mod hmo rfl
    have hx1:=hx1.mod hmo rfl
    have hy1:=hy1.mod hmo rfl

    clear hmo hg2 hbel hl
    rename World=>w
    refine L.va (x_asS rfl) ?_
    refine L.nil ?_
    refine B.nrm ?_
    show W _ _ _ _ _ _
    refine W.region rfl ?_
    refine L.va (x_mvI rfl) ?_
    refine L.va (x_inc rfl rfl (by omega)) ?_
    refine L.va (x_asI rfl) ?_
    refine L.nil ?_
    refine T.nrm ?_
    exact ⟨_,by omega,⟨i + 1,l2,lc2,(upN b1 i x),(upN b2 i y),rfl,rfl,rfl,rfl,rfl,rfl,rfl,rfl,rfl,(by omega),(by rw [range_fv]; exact hO2),(hx.snoc hx1 hy1 lx ly),hB4,hB14,hb⟩⟩
  · obtain rfl:m = i:=by omega
    refine W.exit ?_
    repeat (first | refine T.exit ?_ | refine N.exit ?_ | refine B.exitNe (by decide) ?_)
    refine B.exitEq ?_
    show W _ _ _ _ _ _
    refine W.seq ?_
    refine W.region rfl ?_
    refine L.build0 Try.underlying26 sz3 (fun w b30 F30=>?_)
    have lt30:w0.heap.size <= b30:=by have h9:=F30.here; have h8:=hb.size; omega
    have hb:=cl_step hb F30.below
    have hl:=hl.keep F30.below
    have hx:=hx.keep F30.below
    have hB4:=hB4.keep F30.below
    have hB14:=hB14.keep F30.below
    have hB30:=F30.blk
    have hO:Own w w0.heap.size 3 1 (some ⟨b30,0,none⟩) 0 0 []:=Own.ofBlk (c:=0) hB30 rfl lt30 (by decide) (by decide)
    clear hB30
    refine L.va (x_mvS rfl) ?_
    refine L.appendAny (B:=w0.heap.size) (m:=sn) rfl rfl Try.underlying26 in3 rfl (by decide) hO hSc.nil (news:=(List.range sn).map fun j=>.int .i64 (sc j)) (by simp) (fun ad had j u hj=>(hSc.keep hb).src ad had j u hj) (fun u hu=>by obtain ⟨j,_,rfl⟩:=List.mem_map.1 hu; rfl) (by omega) (by omega) hb.size (fun g1 gc1 w2 hO2 hg2 hbel _=>?_)
    have hmo:ModT w w2 w0.heap.size [3]:=ModT.app hO hg2 hbel rfl hO2
    have hb:=hb.trans hbel
    have hl:=hl.mod hmo rfl
    have hx:=hx.mod hmo rfl
    have hB4:=hB4.mod hmo rfl
    have hB14:=hB14.mod hmo rfl
    clear hmo hg2 hbel hO
    rename World=>w
    have hO:=hO2
    clear hO2
    refine L.buildF (vs:=[(0,.int .i64 77),(1,.int .i64 78)]) (cs:=#[.int .i64 77,.int .i64 78]) rfl Try.underlying26 sz3 zr3 (by decide) (by kernel_rfl) (fun w b33 F33=>?_)
    have lt33:w0.heap.size <= b33:=by have h9:=F33.here; have h8:=hb.size; omega
    have hb:=cl_step hb F33.below
    have hl:=hl.keep F33.below
    have hx:=hx.keep F33.below
    have hB4:=hB4.keep F33.below
    have hB14:=hB14.keep F33.below
    have hO:=hO.keep F33.below
    have hB33:=F33.blk
    refine L.appendAny (B:=w0.heap.size) (m:=2) rfl rfl Try.underlying26 in3 rfl (by decide) hO (fun h=>by cases h) (news:=[.int .i64 77,.int .i64 78]) rfl (fun ad had j u hj=>by
        cases had
        rw [Addr.add_lit]
        match j,hj with
        | 0,hj=>cases hj; exact hB33.cellAt 0 rfl
        | 1,hj=>cases hj; exact hB33.cellAt 1 rfl) (fun u hu=>by simp only [List.mem_cons,List.not_mem_nil,or_false] at hu; rcases hu with rfl | rfl <;> rfl) (by omega) (by omega) hb.size (fun g gc w2 hO2 hg2 hbel _=>?_)
    have hmo:ModT w w2 w0.heap.size [3]:=ModT.app hO hg2 hbel rfl hO2
    have hb:=hb.trans hbel
    have hl:=hl.mod hmo rfl
    have hx:=hx.mod hmo rfl
    have hB4:=hB4.mod hmo rfl
    have hB14:=hB14.mod hmo rfl

    clear hmo hg2 hbel hO
    rename World=>w
    have hO:=hO2
    clear hO2
    have hgc:sn <= gc:=by
        obtain ⟨_,_,_,h,_⟩:=hO.row (hO.some_of (by omega))
        omega
    rw [List.nil_append] at hO
    refine L.va (x_asS rfl) ?_
    refine L.nil ?_
    show W _ _ _ _ _ _
    refine W.seq ?_
    refine W.region rfl ?_
    refine L.va (x_mvS rfl) ?_
    refine L.va (x_mvS rfl) ?_
    refine L.va (x_mvS rfl) ?_
    refine L.va (x_len rfl Try.underlying26 rfl) ?_
    refine L.va (x_sliceTo (k:=sn) rfl rfl Try.underlying26 sz3 hgc) ?_
    refine L.call (x_call2 rfl rfl Try.func19 rfl nm19 rfl) (runbig_c l g m lc sn gc w h) ?_
    rintro _ w1 ⟨rfl,hbw⟩
    have hb:=cl_step hb hbw
    have hl:=hl.keep hbw
    have hx:=hx.keep hbw
    have hB4:=hB4.keep hbw
    have hB14:=hB14.keep hbw
    have hO:=hO.keep hbw
    clear hbw
    rename World=>w
    refine L.va (x_mvT rfl) ?_
    refine L.va (x_extract rfl rfl) ?_
    refine L.va (x_extract rfl rfl) ?_
    refine L.alloc (cs:=#[.slice none 0 0,.slice none 0 0,.slice none 0 0,.slice none 0 0,.bool false,.int .i64 0]) zr31 rfl (fun w b11 F11=>?_)
    have lt11:w0.heap.size <= b11:=by have h9:=F11.here; have h8:=hb.size; omega
    have ne11hB4:=F11.ne hB4
    have hb:=cl_step hb F11.below
    have hl:=hl.keep F11.below
    have hx:=hx.keep F11.below
    have hB4:=hB4.keep F11.below
    have hB14:=hB14.keep F11.below
    have hO:=hO.keep F11.below
    have hB11:=F11.blk
    refine L.put (b:=b11) (o:=0) (vs:=[.slice none 0 0,.slice none 0 0,.slice none 0 0,.slice none 0 0,.bool false,.int .i64 0]) #[.slice none 0 0,.slice none 0 0,.slice none 0 0,.slice none 0 0,.bool false,.int .i64 0] rfl rfl rfl sz31 rfl rfl hB11 (Nat.le_of_ble_eq_true rfl) rfl (fun w hnew hg hsz=>?_)
    have hm0:=ModT.put0 hB11 hg
    have hb:=below_gr hb hb.size hg lt11
    have hl:=hl.mod hm0 rfl
    have hx:=hx.mod hm0 rfl
    have hB4:=hB4.other hg ne11hB4
    have hB14:=hB14.mod hm0 rfl
    have hO:=hO.mod hm0 rfl
    have hB11:=hnew
    clear hm0
    refine L.va (x_asI rfl) ?_
    refine L.nil ?_
    show W _ _ _ _ _ _
    refine W.seq ?_
    refine W.region rfl ?_
    refine L.va (x_mvP rfl) ?_
    refine L.va (x_nilCheck rfl) ?_
    refine L.va (x_field rfl Try.underlying39 rfl sz4 (by decide)) ?_
    refine L.put (b:=b14) (o:=5) (vs:=[.bool true]) #[.int .i64 0,.int .i64 0,.int .i64 0,.int .i64 0,.bool false,.bool true] rfl rfl rfl sz4 rfl rfl hB14 (Nat.le_of_ble_eq_true rfl) rfl (fun w hnew hg hsz=>?_)
    have hm0:=ModT.put0 hB14 hg
    have hb:=below_gr hb hb.size hg lt14
    have hl:=hl.mod hm0 rfl
    have hx:=hx.mod hm0 rfl
    have hB4:=hB4.mod hm0 rfl
    have hO:=hO.mod hm0 rfl
    have hB11:=hB11.mod hm0 rfl
    have hB14:=hnew
    clear hm0
    refine L.nil ?_
    show W _ _ _ _ _ _
    refine W.seq ?_
    refine W.seq ?_
    refine W.region rfl ?_
    refine L.va (x_mvS rfl) ?_
    refine L.va (x_mvS rfl) ?_
    refine L.va (x_len rfl Try.underlying26 rfl) ?_
    refine L.va (x_idx (i:=sn) rfl rfl Try.underlying26 sz3 hO.sl (by omega)) ?_
    refine L.va (x_load (v:=.int .i64 77) rfl Try.underlying3 rfl (by rw [hO.off,Nat.zero_add,Nat.mul_one]; exact hO.cell (by rw [List.getElem?_append_right (by simp)]; simp))) ?_
    refine L.va (d_bool (r:=false) (by decide) (x_neq (m:=77) (k:=77) rfl rfl)) ?_
    refine L.va (x_mvB rfl) ?_
    refine L.on rfl ?_
    refine L.va (x_mvS rfl) ?_
    refine L.on rfl ?_
    refine L.va (x_mvS rfl) ?_
    refine L.on rfl ?_
    refine L.va (x_len rfl Try.underlying26 rfl) ?_
    refine L.on rfl ?_
    refine L.va (x_inc rfl rfl (by omega)) ?_
    refine L.on rfl ?_
    refine L.va (x_idx (i:=sn + 1) rfl rfl Try.underlying26 sz3 hO.sl (by omega)) ?_
    refine L.on rfl ?_
    refine L.va (x_load (v:=.int .i64 78) rfl Try.underlying3 rfl (by rw [hO.off,Nat.zero_add,Nat.mul_one]; exact hO.cell (by rw [List.getElem?_append_right (by simp)]; simp))) ?_
    refine L.on rfl ?_
    refine L.va (d_bool (r:=false) (by decide) (x_neq (m:=78) (k:=78) rfl rfl)) ?_
    refine L.va (x_pickF rfl) ?_
    refine L.nil ?_
    show W _ _ _ _ _ _
    refine W.condF rfl ?_
    refine W.skip ?_
    show W _ _ _ _ _ _
    refine W.seq ?_
    refine W.region rfl ?_
    refine L.va (x_loadAgg (cs:=[.slice none 0 0,.slice none 0 0,.slice none 0 0,.slice none 0 0,.bool false,.int .i64 0]) rfl Try.underlying31 rfl sz31 rfl (hB11.aggAt rfl)) ?_
    refine L.va (x_mvP rfl) ?_
    refine L.va (x_mvI rfl) ?_
    refine L.put (b:=b4) (o:=0) (vs:=[.slice none 0 0,.slice none 0 0,.slice none 0 0,.slice none 0 0,.bool false,.int .i64 0]) #[.slice none 0 0,.slice none 0 0,.slice none 0 0,.slice none 0 0,.bool false,.int .i64 0] rfl rfl rfl sz31 rfl rfl hB4 (Nat.le_of_ble_eq_true rfl) rfl (fun w hnew hg hsz=>?_)
    have hm0:=ModT.put0 hB4 hg
    have hb:=below_gr hb hb.size hg lt4
    have hl:=hl.mod hm0 rfl
    have hx:=hx.mod hm0 rfl
    have hB14:=hB14.mod hm0 rfl
    have hO:=hO.mod hm0 rfl
    have hB11:=hB11.other hg (Ne.symm ne11hB4)
    have hB4:=hnew
    clear hm0
    refine L.va (x_asP rfl) ?_
    refine L.va (x_asI rfl) ?_
    refine L.nil ?_
    show W _ _ _ _ _ _
    refine W.ret ?_
    repeat (first | refine T.ret ?_ | refine B.ret ?_ | refine N.ret ?_)
    refine ends.cellTmp2 (cs:=#[.slice none 0 0,.slice none 0 0,.slice none 0 0,.slice none 0 0,.bool false,.int .i64 0]) (.inr rfl) rfl rfl Try.underlying31 rfl sz31 hB4 ?_
    exact ⟨b14,rfl,hB14,lt14,hb⟩

set_option maxHeartbeats 1000000 in
theorem play_long_c {lb:Nat} {pl:Nat->Plug} {m bc sn scp:Nat} {bo:Nat->List OpD} {sc:Nat->Int} {ba sa:Option Addr} {aa:Nat->Option Addr} {cc:Nat->Nat} (w0:World) (hBo:BodsAt w0 ba m bo aa cc) (hSc:ScAt w0 sa sn scp sc) (hm:m <= 16) (hsn:sn <= 1000000000000) (h:262144 < sn):@C Try.prog (loneCtx lb pl) 14 #[.slice ba m bc,.slice sa sn scp] w0 fun v w=>∃ sb,v = .tuple #[.agg #[.slice none 0 0,.slice none 0 0,.slice none 0 0,.slice none 0 0,.bool false,.int .i64 0],.pointer (some ⟨sb,0,none⟩),.int .i64 1]/\BlkF w sb #[.int .i64 0,.int .i64 0,.int .i64 0,.int .i64 0,.bool false,.bool true] 39 (0,0)/\w0.heap.size <= sb/\Below w0.heap.size w0 w:=by
  letI:Ctx Try.prog:=loneCtx lb pl
  refine C.enter (n:=68) Try.func14 rfl rfl ?_
  have hb:Below w0.heap.size w0 w0:=Below.refl _ _
  refine W.seq ?_
  refine W.region rfl ?_
  refine L.alloc (cs:=#[.slice none 0 0,.slice none 0 0,.slice none 0 0,.slice none 0 0,.bool false,.int .i64 0]) zr31 rfl (fun w b4 F4=>?_)
  have lt4:w0.heap.size <= b4:=by have h9:=F4.here; have h8:=hb.size; omega
  have hb:=cl_step hb F4.below
  have hB4:=F4.blk
  refine L.va (x_asP rfl) ?_
  refine L.va (x_asI rfl) ?_
  refine L.nil ?_
  show W _ _ _ _ _ _
  refine W.seq ?_
  refine W.region rfl ?_
  refine L.va (x_build (parts:=[]) rfl buP_1) ?_
  refine L.box (cs:=#[.int .i64 0,.int .i64 0,.int .i64 0,.int .i64 0,.bool false,.bool false]) rfl rfl (fun w b14 F14=>?_)
  have lt14:w0.heap.size <= b14:=by have h9:=F14.here; have h8:=hb.size; omega
  have hb:=cl_step hb F14.below
  have hB4:=hB4.keep F14.below
  have hB14:=F14.blk
  refine L.va (x_asP rfl) ?_
  refine L.nil ?_
  show W _ _ _ _ _ _
  refine W.seq ?_
  refine W.region rfl ?_
  refine L.va (x_asS rfl) ?_
  refine L.nil ?_
  show W _ _ _ _ _ _
  refine W.seq ?_
  refine W.seq ?_
  refine W.region rfl ?_
  refine L.va (x_asI rfl) ?_
  refine L.nil ?_
  show W _ _ _ _ _ _
  refine W.block ?_
  refine W.loop (fun k e w=>∃ (i:Nat),∃ (l:Option Addr),∃ (lc:Nat),∃ (b1:Nat->Nat),∃ (b2:Nat->Nat),k = m - i/\e 0 = .slice ba m bc/\e 1 = .slice sa sn scp/\e 4 = .pointer (some ⟨b4,0,none⟩)/\e 5 = .pointer none/\e 6 = .int .i64 0/\e 7 = .pointer (some ⟨b14,0,none⟩)/\e 8 = .slice l i lc/\e 9 = .int .i64 (i:Int)/\i <= m/\Own w w0.heap.size 52 1 l i lc ((List.range i).map (fvB b1 b2))/\Boxes w w0.heap.size i bo aa cc b14 b1 b2/\Blk w b4 #[.slice none 0 0,.slice none 0 0,.slice none 0 0,.slice none 0 0,.bool false,.int .i64 0] 31/\Blk w b14 #[.int .i64 0,.int .i64 0,.int .i64 0,.int .i64 0,.bool false,.bool false] 39/\Below w0.heap.size w0 w) _ ⟨0,none,0,(fun _=>0),(fun _=>0),rfl,rfl,rfl,rfl,rfl,rfl,rfl,rfl,rfl,Nat.zero_le _,Own.nil _ _ _ _,⟨fun i hi=>absurd hi (Nat.not_lt_zero _),fun i hi=>absurd hi (Nat.not_lt_zero _),fun i hi=>absurd hi (Nat.not_lt_zero _)⟩,hB4,hB14,hb⟩ ?_
  rintro k e w ⟨i,l,lc,b1,b2,hk,s0,s1,s4,s5,s6,s7,s8,s9,hi,hl,hx,hB4,hB14,hb⟩
  rw [upd_id s0,upd_id s1,upd_id s4,upd_id s5,upd_id s6,upd_id s7,upd_id s8,upd_id s9]
  clear s0 s1 s4 s5 s6 s7 s8 s9
  refine W.seq ?_
  refine W.seq ?_
  refine W.region rfl ?_
  refine L.va (x_mvI rfl) ?_
  refine L.va (x_mvS rfl) ?_
  refine L.va (x_len rfl Try.underlying25 rfl) ?_
  refine L.va (x_lss rfl rfl) ?_
  refine L.nil ?_
  show W _ _ _ _ _ _
  refine W.condP rfl (fun h18=>?_) (fun h18=>?_)
  · have hlt:i < m:=by omega
    refine W.skip ?_
    show W _ _ _ _ _ _
    refine W.seq ?_
    refine W.block ?_
    refine W.region rfl ?_
    refine L.va (x_mvS rfl) ?_
    refine L.va (x_mvP rfl) ?_
    refine L.va (x_mvS rfl) ?_
    refine L.va (x_mvI rfl) ?_
    refine L.va (x_idx (i:=i) rfl rfl Try.underlying25 sz64 hBo.sl hlt) ?_
    refine L.va (x_load (v:=.slice (aa i) (bo i).length (cc i)) rfl Try.underlying64 rfl ((hBo.keep hb).row i hlt)) ?_
    refine L.call (x_call2 rfl rfl Try.func30 rfl nm30 rfl) (mkbody_c b14 (bo i).length (cc i) (aa i) w) ?_
    rintro _ w1 ⟨x,y,rfl,hx1,hy1,lx,ly,hbw⟩
    have lx:=Nat.le_trans hb.size lx
    have ly:=Nat.le_trans hb.size ly
    have hb:=cl_step hb hbw
    have hl:=hl.keep hbw
    have hx:=hx.keep hbw
    have hB4:=hB4.keep hbw
    have hB14:=hB14.keep hbw
    clear hbw
    rename World=>w
    have hx1:Blk w x #[.slice (aa i) (bo i).length (cc i)] 64:=hx1
    have hy1:Blk w y #[.pointer (some ⟨b14,0,none⟩)] 32:=hy1
    refine L.build1 (cs:=#[.func (.func 40) #[] #[.pointer (some (⟨x,0,none⟩)),.pointer (some (⟨y,0,none⟩))]]) rfl rfl Try.underlying49 sz52 rfl ⟨_,zr52⟩ (by decide) (fun w b28 F28=>?_)
    have lt28:w0.heap.size <= b28:=by have h9:=F28.here; have h8:=hb.size; omega
    have hb:=cl_step hb F28.below
    have hl:=hl.keep F28.below
    have hx:=hx.keep F28.below
    have hB4:=hB4.keep F28.below
    have hB14:=hB14.keep F28.below
    have hx1:=hx1.keep F28.below
    have hy1:=hy1.keep F28.below
    have hB28:=F28.blk
    refine L.appendAny (B:=w0.heap.size) (m:=1) rfl rfl Try.underlying49 in52 rfl (by decide) hl (fun h=>by cases h) (news:=[.func (.func 40) #[] #[.pointer (some (⟨x,0,none⟩)),.pointer (some (⟨y,0,none⟩))]]) rfl (fun ad had j u hj=>by
      cases had
      rw [Addr.add_lit]
      match j,hj with
      | 0,hj=>cases hj; exact hB28.cellAt 0 rfl) (fun u hu=>by simp only [List.mem_cons,List.not_mem_nil,or_false] at hu; subst hu; rfl) (by omega) (by omega) hb.size (fun l2 lc2 w2 hO2 hg2 hbel _=>?_)
    have hmo:ModT w w2 w0.heap.size [52]:=ModT.app hl hg2 hbel rfl hO2
    have hb:=hb.trans hbel
    have hx:=hx.mod hmo rfl
    have hB4:=hB4.mod hmo rfl
    have hB14:=hB14.mod hmo rfl
    have hx1:=hx1.mod hmo rfl
    have hy1:=hy1.mod hmo rfl

    clear hmo hg2 hbel hl
    rename World=>w
    refine L.va (x_asS rfl) ?_
    refine L.nil ?_
    refine B.nrm ?_
    show W _ _ _ _ _ _
    refine W.region rfl ?_
    refine L.va (x_mvI rfl) ?_
    refine L.va (x_inc rfl rfl (by omega)) ?_
    refine L.va (x_asI rfl) ?_
    refine L.nil ?_
    refine T.nrm ?_
    exact ⟨_,by omega,⟨i + 1,l2,lc2,(upN b1 i x),(upN b2 i y),rfl,rfl,rfl,rfl,rfl,rfl,rfl,rfl,rfl,(by omega),(by rw [range_fv]; exact hO2),(hx.snoc hx1 hy1 lx ly),hB4,hB14,hb⟩⟩
  · obtain rfl:m = i:=by omega
    refine W.exit ?_
    repeat (first | refine T.exit ?_ | refine N.exit ?_ | refine B.exitNe (by decide) ?_)
    refine B.exitEq ?_
    show W _ _ _ _ _ _
    refine W.seq ?_
    refine W.region rfl ?_
    refine L.build0 Try.underlying26 sz3 (fun w b30 F30=>?_)
    have lt30:w0.heap.size <= b30:=by have h9:=F30.here; have h8:=hb.size; omega
    have hb:=cl_step hb F30.below
    have hl:=hl.keep F30.below
    have hx:=hx.keep F30.below
    have hB4:=hB4.keep F30.below
    have hB14:=hB14.keep F30.below
    have hB30:=F30.blk
    have hO:Own w w0.heap.size 3 1 (some ⟨b30,0,none⟩) 0 0 []:=Own.ofBlk (c:=0) hB30 rfl lt30 (by decide) (by decide)
    clear hB30
    refine L.va (x_mvS rfl) ?_
    refine L.appendAny (B:=w0.heap.size) (m:=sn) rfl rfl Try.underlying26 in3 rfl (by decide) hO hSc.nil (news:=(List.range sn).map fun j=>.int .i64 (sc j)) (by simp) (fun ad had j u hj=>(hSc.keep hb).src ad had j u hj) (fun u hu=>by obtain ⟨j,_,rfl⟩:=List.mem_map.1 hu; rfl) (by omega) (by omega) hb.size (fun g1 gc1 w2 hO2 hg2 hbel _=>?_)
    have hmo:ModT w w2 w0.heap.size [3]:=ModT.app hO hg2 hbel rfl hO2
    have hb:=hb.trans hbel
    have hl:=hl.mod hmo rfl
    have hx:=hx.mod hmo rfl
    have hB4:=hB4.mod hmo rfl
    have hB14:=hB14.mod hmo rfl
    clear hmo hg2 hbel hO
    rename World=>w
    have hO:=hO2
    clear hO2
    refine L.buildF (vs:=[(0,.int .i64 77),(1,.int .i64 78)]) (cs:=#[.int .i64 77,.int .i64 78]) rfl Try.underlying26 sz3 zr3 (by decide) (by kernel_rfl) (fun w b33 F33=>?_)
    have lt33:w0.heap.size <= b33:=by have h9:=F33.here; have h8:=hb.size; omega
    have hb:=cl_step hb F33.below
    have hl:=hl.keep F33.below
    have hx:=hx.keep F33.below
    have hB4:=hB4.keep F33.below
    have hB14:=hB14.keep F33.below
    have hO:=hO.keep F33.below
    have hB33:=F33.blk
    refine L.appendAny (B:=w0.heap.size) (m:=2) rfl rfl Try.underlying26 in3 rfl (by decide) hO (fun h=>by cases h) (news:=[.int .i64 77,.int .i64 78]) rfl (fun ad had j u hj=>by
        cases had
        rw [Addr.add_lit]
        match j,hj with
        | 0,hj=>cases hj; exact hB33.cellAt 0 rfl
        | 1,hj=>cases hj; exact hB33.cellAt 1 rfl) (fun u hu=>by simp only [List.mem_cons,List.not_mem_nil,or_false] at hu; rcases hu with rfl | rfl <;> rfl) (by omega) (by omega) hb.size (fun g gc w2 hO2 hg2 hbel _=>?_)
    have hmo:ModT w w2 w0.heap.size [3]:=ModT.app hO hg2 hbel rfl hO2
    have hb:=hb.trans hbel
    have hl:=hl.mod hmo rfl
    have hx:=hx.mod hmo rfl
    have hB4:=hB4.mod hmo rfl
    have hB14:=hB14.mod hmo rfl

    clear hmo hg2 hbel hO
    rename World=>w
    have hO:=hO2
    clear hO2
    have hgc:sn <= gc:=by
        obtain ⟨_,_,_,h,_⟩:=hO.row (hO.some_of (by omega))
        omega
    rw [List.nil_append] at hO
    refine L.va (x_asS rfl) ?_
    refine L.nil ?_
    show W _ _ _ _ _ _
    refine W.seq ?_
    refine W.region rfl ?_
    refine L.va (x_mvS rfl) ?_
    refine L.va (x_mvS rfl) ?_
    refine L.va (x_mvS rfl) ?_
    refine L.va (x_len rfl Try.underlying26 rfl) ?_
    refine L.va (x_sliceTo (k:=sn) rfl rfl Try.underlying26 sz3 hgc) ?_
    refine L.call (x_call2 rfl rfl Try.func19 rfl nm19 rfl) (runlong_c l g m lc sn gc w hm h) ?_
    rintro _ w1 ⟨rfl,hbw⟩
    have hb:=cl_step hb hbw
    have hl:=hl.keep hbw
    have hx:=hx.keep hbw
    have hB4:=hB4.keep hbw
    have hB14:=hB14.keep hbw
    have hO:=hO.keep hbw
    clear hbw
    rename World=>w
    refine L.va (x_mvT rfl) ?_
    refine L.va (x_extract rfl rfl) ?_
    refine L.va (x_extract rfl rfl) ?_
    refine L.alloc (cs:=#[.slice none 0 0,.slice none 0 0,.slice none 0 0,.slice none 0 0,.bool false,.int .i64 0]) zr31 rfl (fun w b11 F11=>?_)
    have lt11:w0.heap.size <= b11:=by have h9:=F11.here; have h8:=hb.size; omega
    have ne11hB4:=F11.ne hB4
    have hb:=cl_step hb F11.below
    have hl:=hl.keep F11.below
    have hx:=hx.keep F11.below
    have hB4:=hB4.keep F11.below
    have hB14:=hB14.keep F11.below
    have hO:=hO.keep F11.below
    have hB11:=F11.blk
    refine L.put (b:=b11) (o:=0) (vs:=[.slice none 0 0,.slice none 0 0,.slice none 0 0,.slice none 0 0,.bool false,.int .i64 0]) #[.slice none 0 0,.slice none 0 0,.slice none 0 0,.slice none 0 0,.bool false,.int .i64 0] rfl rfl rfl sz31 rfl rfl hB11 (Nat.le_of_ble_eq_true rfl) rfl (fun w hnew hg hsz=>?_)
    have hm0:=ModT.put0 hB11 hg
    have hb:=below_gr hb hb.size hg lt11
    have hl:=hl.mod hm0 rfl
    have hx:=hx.mod hm0 rfl
    have hB4:=hB4.other hg ne11hB4
    have hB14:=hB14.mod hm0 rfl
    have hO:=hO.mod hm0 rfl
    have hB11:=hnew
    clear hm0
    refine L.va (x_asI rfl) ?_
    refine L.nil ?_
    show W _ _ _ _ _ _
    refine W.seq ?_
    refine W.region rfl ?_
    refine L.va (x_mvP rfl) ?_
    refine L.va (x_nilCheck rfl) ?_
    refine L.va (x_field rfl Try.underlying39 rfl sz4 (by decide)) ?_
    refine L.put (b:=b14) (o:=5) (vs:=[.bool true]) #[.int .i64 0,.int .i64 0,.int .i64 0,.int .i64 0,.bool false,.bool true] rfl rfl rfl sz4 rfl rfl hB14 (Nat.le_of_ble_eq_true rfl) rfl (fun w hnew hg hsz=>?_)
    have hm0:=ModT.put0 hB14 hg
    have hb:=below_gr hb hb.size hg lt14
    have hl:=hl.mod hm0 rfl
    have hx:=hx.mod hm0 rfl
    have hB4:=hB4.mod hm0 rfl
    have hO:=hO.mod hm0 rfl
    have hB11:=hB11.mod hm0 rfl
    have hB14:=hnew
    clear hm0
    refine L.nil ?_
    show W _ _ _ _ _ _
    refine W.seq ?_
    refine W.seq ?_
    refine W.region rfl ?_
    refine L.va (x_mvS rfl) ?_
    refine L.va (x_mvS rfl) ?_
    refine L.va (x_len rfl Try.underlying26 rfl) ?_
    refine L.va (x_idx (i:=sn) rfl rfl Try.underlying26 sz3 hO.sl (by omega)) ?_
    refine L.va (x_load (v:=.int .i64 77) rfl Try.underlying3 rfl (by rw [hO.off,Nat.zero_add,Nat.mul_one]; exact hO.cell (by rw [List.getElem?_append_right (by simp)]; simp))) ?_
    refine L.va (d_bool (r:=false) (by decide) (x_neq (m:=77) (k:=77) rfl rfl)) ?_
    refine L.va (x_mvB rfl) ?_
    refine L.on rfl ?_
    refine L.va (x_mvS rfl) ?_
    refine L.on rfl ?_
    refine L.va (x_mvS rfl) ?_
    refine L.on rfl ?_
    refine L.va (x_len rfl Try.underlying26 rfl) ?_
    refine L.on rfl ?_
    refine L.va (x_inc rfl rfl (by omega)) ?_
    refine L.on rfl ?_
    refine L.va (x_idx (i:=sn + 1) rfl rfl Try.underlying26 sz3 hO.sl (by omega)) ?_
    refine L.on rfl ?_
    refine L.va (x_load (v:=.int .i64 78) rfl Try.underlying3 rfl (by rw [hO.off,Nat.zero_add,Nat.mul_one]; exact hO.cell (by rw [List.getElem?_append_right (by simp)]; simp))) ?_
    refine L.on rfl ?_
    refine L.va (d_bool (r:=false) (by decide) (x_neq (m:=78) (k:=78) rfl rfl)) ?_
    refine L.va (x_pickF rfl) ?_
    refine L.nil ?_
    show W _ _ _ _ _ _
    refine W.condF rfl ?_
    refine W.skip ?_
    show W _ _ _ _ _ _
    refine W.seq ?_
    refine W.region rfl ?_
    refine L.va (x_loadAgg (cs:=[.slice none 0 0,.slice none 0 0,.slice none 0 0,.slice none 0 0,.bool false,.int .i64 0]) rfl Try.underlying31 rfl sz31 rfl (hB11.aggAt rfl)) ?_
    refine L.va (x_mvP rfl) ?_
    refine L.va (x_mvI rfl) ?_
    refine L.put (b:=b4) (o:=0) (vs:=[.slice none 0 0,.slice none 0 0,.slice none 0 0,.slice none 0 0,.bool false,.int .i64 0]) #[.slice none 0 0,.slice none 0 0,.slice none 0 0,.slice none 0 0,.bool false,.int .i64 0] rfl rfl rfl sz31 rfl rfl hB4 (Nat.le_of_ble_eq_true rfl) rfl (fun w hnew hg hsz=>?_)
    have hm0:=ModT.put0 hB4 hg
    have hb:=below_gr hb hb.size hg lt4
    have hl:=hl.mod hm0 rfl
    have hx:=hx.mod hm0 rfl
    have hB14:=hB14.mod hm0 rfl
    have hO:=hO.mod hm0 rfl
    have hB11:=hB11.other hg (Ne.symm ne11hB4)
    have hB4:=hnew
    clear hm0
    refine L.va (x_asP rfl) ?_
    refine L.va (x_asI rfl) ?_
    refine L.nil ?_
    show W _ _ _ _ _ _
    refine W.ret ?_
    repeat (first | refine T.ret ?_ | refine B.ret ?_ | refine N.ret ?_)
    refine ends.cellTmp2 (cs:=#[.slice none 0 0,.slice none 0 0,.slice none 0 0,.slice none 0 0,.bool false,.int .i64 0]) (.inr rfl) rfl rfl Try.underlying31 rfl sz31 hB4 ?_
    exact ⟨b14,rfl,hB14,lt14,hb⟩

end Go.Vy.Sc
end
/- The run that the law's own check goes through. -/
section
namespace Go.Vy.Sc
open Go Go.Conc Go.Yc Go.RowKit Go.Proofs Go.Proofs.Ytfmoeemolgjodaa
open Go.Vc Go.Wg
def liveOp (k:Int):OpD:=⟨1,⟨k,0,0⟩,true,0,0,0,0,ByteArray.empty⟩
def liveOps:List OpD:=[liveOp 1,liveOp 2]
def liveSc:Nat->Int:=fun j=>if j = 1 then 1 else 0
theorem live0 (c:Cells):opsGo liveOps 0 0 c = ⟨c,[],.inl (0,0)⟩:=(opsGo_at (o:=liveOp 1) rfl).trans (if_pos rfl)
theorem live1 (c:Cells):opsGo liveOps 1 0 c = ⟨c,[],.inl (1,0)⟩:=(opsGo_at (o:=liveOp 2) rfl).trans (if_pos rfl)
theorem live2 (c:Cells):opsGo liveOps 2 0 c = ⟨c,[],.inr 1⟩:=opsGo_end (by decide)
abbrev liveS:Sys:=pSys 2 fun _=>liveOps
theorem live_beg:(liveS.begs 2).ft = [.inl (0,0),.inl (0,0)]/\(liveS.begs 2).evs = []:=by
 simp [Sys.begs,Sys.bgn,Sys.p0,live0]
theorem live_step {p:PR liveS} {e:Int} {i:Nat} (h:(liveS.rds p)[pickIx e (liveS.rds p).length]? = some i):liveS.step p e = liveS.turn p i:=by
 unfold Sys.step; rw [h]
theorem live_rds {p:PR liveS} (a b:Bool) (ha:liveS.isRdy p 0 = a) (hb:liveS.isRdy p 1 = b):liveS.rds p = [0,1].filter fun i=>if i = 0 then a else b:=by
 unfold Sys.rds
 have:List.range liveS.m = [0,1]:=rfl
 rw [this]
 apply List.filter_congr
 intro i hi
 simp only [List.mem_cons,List.not_mem_nil,or_false] at hi
 rcases hi with rfl | rfl
 ·simp [ha]
 ·simp [hb]
theorem live_evs:(PB 2 (fun _=>liveOps) liveSc 4).evs = [(0,⟨1,0,0⟩),(1,⟨1,0,0⟩),(0,⟨2,0,0⟩),(1,⟨2,0,0⟩)]:=by
 obtain ⟨h1,h2⟩:=live_beg
 show (liveS.step (liveS.step (liveS.step (liveS.step (liveS.begs 2) 0) 1) 0) 0).evs = _
 generalize liveS.begs 2 = p0 at *
 have r0:liveS.rds p0 = [0,1]:=live_rds true true (by simp [Sys.isRdy,h1,liveOps,liveOp]) (by simp [Sys.isRdy,h1,liveOps,liveOp])
 have s0:liveS.step p0 0 = liveS.turn p0 0:=live_step (by rw [r0]; rfl)
 have t0:(liveS.turn p0 0).ft = [.inl (1,0),.inl (0,0)]/\(liveS.turn p0 0).evs = [(0,⟨1,0,0⟩)]:=by
  have h3:p0.ft[0]? = some (.inl (0,0)):=by rw [h1]; rfl
  have e:(liveOps)[0]? = some (liveOp 1):=rfl
  unfold Sys.turn; rw [h3]; simp only []
  rw [h1,h2]
  simp only [e,Nat.zero_add,live1]
  exact ⟨rfl,rfl⟩
 rw [s0]
 generalize liveS.turn p0 0 = p1 at *
 obtain ⟨h1,h2⟩:=t0
 have r1:liveS.rds p1 = [0,1]:=live_rds true true (by simp [Sys.isRdy,h1,liveOps,liveOp]) (by simp [Sys.isRdy,h1,liveOps,liveOp])
 have s1:liveS.step p1 1 = liveS.turn p1 1:=live_step (by rw [r1]; rfl)
 have t1:(liveS.turn p1 1).ft = [.inl (1,0),.inl (1,0)]/\(liveS.turn p1 1).evs = [(0,⟨1,0,0⟩),(1,⟨1,0,0⟩)]:=by
  have h3:p1.ft[1]? = some (.inl (0,0)):=by rw [h1]; rfl
  have e:(liveOps)[0]? = some (liveOp 1):=rfl
  unfold Sys.turn; rw [h3]; simp only []
  rw [h1,h2]
  simp only [e,Nat.zero_add,live1]
  exact ⟨rfl,rfl⟩
 rw [s1]
 generalize liveS.turn p1 1 = p2 at *
 obtain ⟨h1,h2⟩:=t1
 have r2:liveS.rds p2 = [0,1]:=live_rds true true (by simp [Sys.isRdy,h1,liveOps,liveOp]) (by simp [Sys.isRdy,h1,liveOps,liveOp])
 have s2:liveS.step p2 0 = liveS.turn p2 0:=live_step (by rw [r2]; rfl)
 have t2:(liveS.turn p2 0).ft = [.inr 1,.inl (1,0)]/\(liveS.turn p2 0).evs = [(0,⟨1,0,0⟩),(1,⟨1,0,0⟩),(0,⟨2,0,0⟩)]:=by
  have h3:p2.ft[0]? = some (.inl (1,0)):=by rw [h1]; rfl
  have e:(liveOps)[1]? = some (liveOp 2):=rfl
  unfold Sys.turn; rw [h3]; simp only []
  rw [h1,h2]
  simp only [e,Nat.reduceAdd,live2]
  exact ⟨rfl,rfl⟩
 rw [s2]
 generalize liveS.turn p2 0 = p3 at *
 obtain ⟨h1,h2⟩:=t2
 have r3:liveS.rds p3 = [1]:=live_rds false true (by simp [Sys.isRdy,h1]) (by simp [Sys.isRdy,h1,liveOps,liveOp])
 have s3:liveS.step p3 0 = liveS.turn p3 1:=live_step (by rw [r3]; rfl)
 rw [s3]
 have h3:p3.ft[1]? = some (.inl (1,0)):=by rw [h1]; rfl
 unfold Sys.turn; rw [h3]; simp only []
 rw [h2]; rfl
theorem live_bods {w:World} {b9 b13:Nat} (h9:BlkF w b9 ((opC (liveOp 1) ++ opC (liveOp 2)).toArray) 63 (0,0)) (h13:BlkF w b13 #[.slice (some ⟨b9,0,none⟩) 2 2,.slice (some ⟨b9,0,none⟩) 2 2] 64 (0,0)) :
  BodsAt w (some ⟨b13,0,none⟩) 2 (fun _=>liveOps) (fun _=>some ⟨b9,0,none⟩) (fun _=>2):=by
 have h9:Blk w b9 ((opC (liveOp 1) ++ opC (liveOp 2)).toArray) 63:=h9
 have h13:Blk w b13 #[.slice (some ⟨b9,0,none⟩) 2 2,.slice (some ⟨b9,0,none⟩) 2 2] 64:=h13
 refine ⟨fun _=>rfl,fun i hi=>?_,fun i hi _=>rfl,fun i hi k o ho j v hv=>?_,fun i hi=>by decide,fun i hi k o ho=>?_⟩
 ·match i,hi with
  | 0,_=>exact h13.cellAt 0 rfl
  | 1,_=>exact h13.cellAt 1 rfl
 ·have hjl:j < 10:=(List.getElem?_eq_some_iff.1 hv).1
  match k,ho with
  | 0,ho =>
   cases ho
   have:=h9.cellAt j (v:=v) (by simp only [List.getElem?_toArray]; rw [List.getElem?_append_left (by exact hjl)]; exact hv)
   show w.cell? ⟨b9,0 + 0 * 10 + j,none⟩ = some v
   rw [show 0 + 0 * 10 + j = j by omega]; exact this
  | 1,ho =>
   cases ho
   have:=h9.cellAt (10 + j) (v:=v) (by simp only [List.getElem?_toArray]; rw [List.getElem?_append_right (by show 10 <= 10 + j; omega)]; simpa [opC] using hv)
   show w.cell? ⟨b9,0 + 1 * 10 + j,none⟩ = some v
   rw [show 0 + 1 * 10 + j = 10 + j by omega]; exact this
 ·match k,ho with
  | 0,ho=>cases ho; decide
  | 1,ho=>cases ho; decide
theorem live_sc {w:World} {b:Nat} (h:BlkF w b #[.int .i64 0,.int .i64 1,.int .i64 0,.int .i64 0] 3 (0,0)):ScAt w (some ⟨b,0,none⟩) 4 4 liveSc:=by
 have h:Blk w b #[.int .i64 0,.int .i64 1,.int .i64 0,.int .i64 0] 3:=h
 refine ⟨fun _=>rfl,(fun h=>by cases h),by decide,fun j hj=>?_⟩
 match j,hj with
 | 0,_=>exact h.cellAt 0 rfl
 | 1,_=>exact h.cellAt 1 rfl
 | 2,_=>exact h.cellAt 2 rfl
 | 3,_=>exact h.cellAt 3 rfl
end Go.Vy.Sc
end
/- The law's own check answers true. -/
section
namespace Go.Vy.Sc
open Go Go.Conc Go.Yc Go.RowKit Go.Proofs Go.Proofs.Ytfmoeemolgjodaa
open Go.Vc Go.Wg
theorem buQ_0 (x0:Int):Try.prog.built 43 [(0,.int .i64 x0)] = some #[.int .i64 x0,.int .i64 0,.int .i64 0]:=by kernel_rfl
theorem buQ_1 (x0:Int) (x1:Int) (x2:Int) (x3:Int) (x4:Bool):Try.prog.built 63 [(0,.int .i64 x0),(1,.agg #[.int .i64 x1,.int .i64 x2,.int .i64 x3]),(2,.bool x4)] = some #[.int .i64 x0,.int .i64 x1,.int .i64 x2,.int .i64 x3,.bool x4,.int .i64 0,.int .i64 0,.int .i64 0,.int .i64 0,.string ByteArray.empty]:=by kernel_rfl
section
variable [Ctx Try.prog]
theorem errno_c (n:Int) (w0:World):C Try.prog 12 #[.int .i64 n] w0 fun v w=>v = .int .i64 n/\w = w0:=by
 refine C.enter (n:=4) Try.func12 rfl rfl ?_
 refine W.seq ?_
 refine W.region rfl ?_
 refine L.va (x_asI rfl) ?_
 refine L.nil ?_
 show W _ _ _ _ _ _
 refine W.seq ?_
 refine W.region rfl ?_
 refine L.va (x_mvI rfl) ?_
 refine L.va (x_asI rfl) ?_
 refine L.nil ?_
 show W _ _ _ _ _ _
 refine W.ret ?_
 repeat (first | refine T.ret ?_ | refine B.ret ?_ | refine N.ret ?_)
 refine ends.one (.inr rfl) rfl ?_
 exact ⟨rfl,rfl⟩
end
theorem live_c {lb:Nat} {pl:Nat->Plug} (w0:World):@C Try.prog (loneCtx lb pl) 13 #[] w0 fun v w=>v = .bool true/\Below w0.heap.size w0 w:=by
 letI:Ctx Try.prog:=loneCtx lb pl
 refine C.enter (n:=45) Try.func13 rfl rfl ?_
 have hb:Below w0.heap.size w0 w0:=Below.refl _ _
 refine W.seq ?_
 refine W.region rfl ?_
 refine L.va (x_asB rfl) ?_
 refine L.nil ?_
 show W _ _ _ _ _ _
 refine W.seq ?_
 refine W.region rfl ?_
 refine L.va (x_build (parts:=[(0,.const (.int .i64 1))]) rfl (buQ_0 1)) ?_
 refine L.va (x_build (parts:=[(0,.const (.int .i64 1)),(1,.tmp 5),(2,.const (.bool true))]) rfl (buQ_1 1 1 0 0 true)) ?_
 refine L.va (x_build (parts:=[(0,.const (.int .i64 2))]) rfl (buQ_0 2)) ?_
 refine L.va (x_build (parts:=[(0,.const (.int .i64 1)),(1,.tmp 7),(2,.const (.bool true))]) rfl (buQ_1 1 2 0 0 true)) ?_
 refine L.buildF (vs:=[(0,.agg #[.int .i64 1,.int .i64 1,.int .i64 0,.int .i64 0,.bool true,.int .i64 0,.int .i64 0,.int .i64 0,.int .i64 0,.string ByteArray.empty]),(1,.agg #[.int .i64 1,.int .i64 2,.int .i64 0,.int .i64 0,.bool true,.int .i64 0,.int .i64 0,.int .i64 0,.int .i64 0,.string ByteArray.empty])]) (cs:=#[.int .i64 1,.int .i64 1,.int .i64 0,.int .i64 0,.bool true,.int .i64 0,.int .i64 0,.int .i64 0,.int .i64 0,.string ByteArray.empty,.int .i64 1,.int .i64 2,.int .i64 0,.int .i64 0,.bool true,.int .i64 0,.int .i64 0,.int .i64 0,.int .i64 0,.string ByteArray.empty]) rfl Try.underlying64 sz63 zr63 (by decide) (by kernel_rfl) (fun w b9 F9=>?_)
 have lt9:w0.heap.size <= b9:=by have h9:=F9.here; have h8:=hb.size; omega
 have hb:=cl_step hb F9.below
 have hB9:=F9.blk
 refine L.va (x_asS rfl) ?_
 refine L.nil ?_
 show W _ _ _ _ _ _
 refine W.seq ?_
 refine W.region rfl ?_
 refine L.va (x_mvS rfl) ?_
 refine L.va (x_mvS rfl) ?_
 refine L.buildF (vs:=[(0,.slice (some ⟨b9,0,none⟩) 2 2),(1,.slice (some ⟨b9,0,none⟩) 2 2)]) (cs:=#[.slice (some ⟨b9,0,none⟩) 2 2,.slice (some ⟨b9,0,none⟩) 2 2]) rfl Try.underlying25 sz64 zr64 (by decide) (by kernel_rfl) (fun w b13 F13=>?_)
 have lt13:w0.heap.size <= b13:=by have h9:=F13.here; have h8:=hb.size; omega
 have hb:=cl_step hb F13.below
 have hB9:=hB9.keep F13.below
 have hB13:=F13.blk
 refine L.buildF (vs:=[(0,.int .i64 0),(1,.int .i64 1),(2,.int .i64 0),(3,.int .i64 0)]) (cs:=#[.int .i64 0,.int .i64 1,.int .i64 0,.int .i64 0]) rfl Try.underlying26 sz3 zr3 (by decide) (by kernel_rfl) (fun w b14 F14=>?_)
 have lt14:w0.heap.size <= b14:=by have h9:=F14.here; have h8:=hb.size; omega
 have hb:=cl_step hb F14.below
 have hB9:=hB9.keep F14.below
 have hB13:=hB13.keep F14.below
 have hB14:=F14.blk
 refine L.call (x_call2 rfl rfl Try.func14 rfl nm14 rfl) (play_c w (live_bods (blkF_of hB9) (blkF_of hB13)) (live_sc (blkF_of hB14)) (by decide) (by decide)) ?_
 rintro _ w1 ⟨R,sb,rfl,hP,_,_,_,hbw⟩
 have hP:=hP.down hb.size
 have hb:=cl_step hb hbw
 have hB9:=hB9.keep hbw
 have hB13:=hB13.keep hbw
 have hB14:=hB14.keep hbw
 clear hbw
 rename World=>w
 have hev:=hP.evs.trans live_evs
 refine L.va (x_mvT rfl) ?_
 refine L.va (x_extract rfl rfl) ?_
 refine L.va (x_extract rfl rfl) ?_
 refine L.va (x_extract rfl rfl) ?_
 refine L.alloc (cs:=#[.slice none 0 0,.slice none 0 0,.slice none 0 0,.slice none 0 0,.bool false,.int .i64 0]) zr31 rfl (fun w b2 F2=>?_)
 have lt2:w0.heap.size <= b2:=by have h9:=F2.here; have h8:=hb.size; omega
 have hn2:¬ R.fp b2:=fun z=>by have:=hP.mem.lt z; have:=F2.here; omega
 have hb:=cl_step hb F2.below
 have hP:=hP.keep F2.below
 have hB2:=F2.blk
 refine L.put (b:=b2) (o:=0) (vs:=[.slice (R.ea) (R.evs.length) (R.ec),.slice (R.na) (R.nts.length) (R.nc),.slice (some ⟨R.eb,0,none⟩) (R.m) (R.m),.slice (some ⟨R.wb,0,none⟩) (R.m) (R.m),.bool (R.stuck),.int .i64 (R.used:Int)]) #[.slice (R.ea) (R.evs.length) (R.ec),.slice (R.na) (R.nts.length) (R.nc),.slice (some ⟨R.eb,0,none⟩) (R.m) (R.m),.slice (some ⟨R.wb,0,none⟩) (R.m) (R.m),.bool (R.stuck),.int .i64 (R.used:Int)] rfl rfl rfl sz31 rfl rfl hB2 (Nat.le_of_ble_eq_true rfl) rfl (fun w hnew hg hsz=>?_)
 have hm0:=ModT.put0 hB2 hg
 have hb:=below_gr hb hb.size hg lt2
 have hP:=hP.otherB hg hn2
 have hB2:=hnew
 clear hm0
 refine L.va (x_asP rfl) ?_
 refine L.va (x_asI rfl) ?_
 refine L.nil ?_
 show W _ _ _ _ _ _
 refine W.seq ?_
 refine W.region rfl ?_
 refine L.va (x_mvI rfl) ?_
 refine L.call (x_call1 rfl Try.func12 rfl nm12 rfl) (errno_c 0 _) ?_
 rintro _ w1 ⟨rfl,hw1⟩
 rw [hw1]
 clear hw1 w1
 refine L.va (d_bool (r:=true) (by decide) (x_eql (m:=0) (k:=0) rfl rfl)) ?_
 refine L.va (x_mvB rfl) ?_
 refine L.on rfl ?_
 refine L.va (x_field rfl Try.underlying31 rfl sz27 (by decide)) ?_
 refine L.on rfl ?_
 refine L.va (x_load rfl Try.underlying27 rfl (hB2.cellAt 0 (v:=.slice (R.ea) (R.evs.length) (R.ec)) rfl)) ?_
 refine L.on rfl ?_
 refine L.va (x_lenK (m:=4) (by rw [hev]; rfl) rfl Try.underlying27 rfl) ?_
 refine L.on rfl ?_
 refine L.va (d_bool (r:=true) (by decide) (x_eql (m:=4) (k:=4) rfl rfl)) ?_
 refine L.va (x_pickT rfl) ?_
 refine L.va (x_mvB rfl) ?_
 refine L.on rfl ?_
 refine L.va (x_field rfl Try.underlying31 rfl sz27 (by decide)) ?_
 refine L.on rfl ?_
 refine L.va (x_load rfl Try.underlying27 rfl (hB2.cellAt 0 (v:=.slice (R.ea) (R.evs.length) (R.ec)) rfl)) ?_
 refine L.on rfl ?_
 refine L.va (x_idx (i:=1) rfl rfl Try.underlying27 sz45 hP.mem.evs.sl (by rw [hev]; decide)) ?_
 refine L.on rfl ?_
 refine L.va (x_field rfl Try.underlying45 rfl sz3 (by decide)) ?_
 refine L.on rfl ?_
 refine L.va (x_load (v:=.int .i64 1) rfl Try.underlying3 rfl (by rw [hP.mem.evs.off]; exact hP.mem.evs.cell (j:=4) (by rw [hev]; rfl))) ?_
 refine L.on rfl ?_
 refine L.va (d_bool (r:=true) (by decide) (x_eql (m:=1) (k:=1) rfl rfl)) ?_
 refine L.va (x_pickT rfl) ?_
 refine L.va (x_mvB rfl) ?_
 refine L.on rfl ?_
 refine L.va (x_field rfl Try.underlying31 rfl sz27 (by decide)) ?_
 refine L.on rfl ?_
 refine L.va (x_load rfl Try.underlying27 rfl (hB2.cellAt 0 (v:=.slice (R.ea) (R.evs.length) (R.ec)) rfl)) ?_
 refine L.on rfl ?_
 refine L.va (x_idx (i:=2) rfl rfl Try.underlying27 sz45 hP.mem.evs.sl (by rw [hev]; decide)) ?_
 refine L.on rfl ?_
 refine L.va (x_field rfl Try.underlying45 rfl sz43 (by decide)) ?_
 refine L.on rfl ?_
 refine L.va (x_field rfl Try.underlying43 rfl sz3 (by decide)) ?_
 refine L.on rfl ?_
 refine L.va (x_load (v:=.int .i64 2) rfl Try.underlying3 rfl (by rw [hP.mem.evs.off]; exact hP.mem.evs.cell (j:=9) (by rw [hev]; rfl))) ?_
 refine L.on rfl ?_
 refine L.va (d_bool (r:=true) (by decide) (x_eql (m:=2) (k:=2) rfl rfl)) ?_
 refine L.va (x_pickT rfl) ?_
 refine L.va (x_asB rfl) ?_
 refine L.nil ?_
 show W _ _ _ _ _ _
 refine W.ret ?_
 repeat (first | refine T.ret ?_ | refine B.ret ?_ | refine N.ret ?_)
 refine ends.one (.inr rfl) rfl ?_
 exact ⟨rfl,hb⟩
end Go.Vy.Sc
end
/- From a law's walk to what its statement asks. -/
section
namespace Go.Vy
open Go Go.Conc Go.Yc Go.RowKit
open Go.Vc
theorem doneG {P:Program} {fr:Frame} {fn:Func} {v:Value} {t:Tmp} (hm:fr.mode = .returning) (hd:fr.defers = []) (hk:fr.kind = .normal) (hf:P.funcs[fr.fn]? = some fn) (hr:fn.results = #[.tmp t]) (hv:fr.tmps.getD t undef = v) (hi:P.inits.idxOf? fr.fn = none) (w:World):stepG P true (G fr []) w = .ended (.done v) w #[]:=by
 have h1:=results_tmp hr fr.tmps P w
 have h2:=events_results_tmp (P:=P) (w:=w) hr fr.tmps
 simp [G,stepG,unwind,doReturn,hm,hd,hk,hf,hi,h1,h2,hv,seen,GStep.after]
theorem leaves_tmp {P:Program} {fr:Frame} {fn:Func} {w:World} {v:Value} {t:Tmp} (hl:Leaves P fr w (.returned v)) (hf:P.funcs[fr.fn]? = some fn) (hr:fn.results = #[.tmp t]) (hnv:NoView w):fr.tmps.getD t undef = v:=by
 obtain ⟨h1,h2,h3,fn',h4,h5⟩:=hl
 rw [hf] at h4
 obtain rfl:=Option.some.inj h4
 obtain ⟨x',es,h6,_⟩:=h5 w.tape w.drawn _ w hnv.sim
 have h7:=results_tmp hr fr.tmps P w
 rw [Sem.runT_eq] at h6
 have h8:=(Prod.mk.inj h6).1
 rw [h7] at h8
 injection h8
end Go.Vy
namespace Go.Vy.Sc
open Go Go.Conc Go.Yc Go.RowKit Go.Proofs Go.Proofs.Ytfmoeemolgjodaa
open Go.Vc Go.Wg
def BelowT (W w':World):Prop:=Below W.heap.size W { w' with tape:=W.tape }
theorem BelowT.frame {W w':World} (h:BelowT W w') (may:MemPlace->Prop):W.keptBut w' may:=Below.frame h may
theorem BelowT.trod {H:Type} {enc:TypeId × Value->H} {P:Program} {t:TypeId} (hl:laidOutB P = true) (hr:P.readableRec t = true) (hrow:t < P.types.size) {W W':World} {v:Value} {d:DataW H} {ps:List MemPlace}
  (h:DataW.Trod enc P W 0 (fun _=>true) true t v d ps) (hb:BelowT W W') (hlt:∀ x ∈ ps,x.block < W.heap.size) :
  DataW.Trod enc P W' 0 (fun b=>decide (b < W.heap.size)) true t v d ps :=
 WideElems.Trod_stays hl hr hrow h (fun x hx=>(Below.same hb (hlt x hx):W.sameAt { W' with tape:=W.tape } x)) (fun x hx=>by simpa using hlt x hx)
theorem like_all {x y:Obj} (h:Like .all x y):y = x:=by cases h; rfl
theorem like_gone {o x y:Obj} (h:Like (.gone o) x y):y = o:=by cases h; rfl
theorem lone_ends {f:FuncId} {fn:Func} {t:Tmp} {args:Array Value} {W:World} (hf:Try.prog.funcs[f]? = some fn) (hr:fn.results = #[.tmp t]) (hi:Try.prog.inits.idxOf? f = none) (h:@C Try.prog (loneCtx W.heap.size (X0 W).plug) f args (veil W) fun v w=>v = .bool true/\Below (veil W).heap.size (veil W) w) :
  Yc.Ends Try.prog (fun v w'=>v = .bool true/\BelowT W w') (solo (G (Frame.enter Try.prog f args .normal) []) W) #[]:=by
 have hsz:(veil W).heap.size = W.heap.size:=by simp [veil]
 refine Fin.start (h _ ⟨_,rfl⟩ [] (fun e w' fr he hfr hl=>?_) (X0 W) ⟨fun _=>rfl,rfl,rfl,rfl,X0_under W _,fun b hb=>X0_plug (by rw [<- hsz]; exact hb),Nat.one_pos⟩ (by rw [hsz]; exact Nat.le_refl _) (fun _ hb=>hb.elim) rfl)
 cases e with
 | panicked ch=>exact he.elim
 | outgrown=>exact he.elim
 | returned v =>
  obtain ⟨rfl,hb⟩:=he
  rw [hsz] at hb
  refine loneZ_ign _ _ _ _ _ fun hnv X hX h1 h2 h3=>?_
  have hfr':Try.prog.funcs[fr.fn]? = some fn:=by rw [hfr]; exact hf
  have hv:=leaves_tmp hl hfr' hr hnv
  obtain ⟨hm,hd,hk,_⟩:=hl
  refine Fin.ends rfl hX.seat hX.cap (doneG hm hd hk hfr' hr hv (by rw [hfr]; exact hi)) fun ρ w hs hρ=>⟨rfl,?_⟩
  refine ⟨hs.os.trans hb.os,rfl,hs.output.trans hb.output,?_,fun k hk=>?_⟩
  ·show W.heap.size <= w.heap.size
   rw [hs.size]
   show W.heap.size <= w'.heap.size
   rw [<- hsz]; exact hb.size
  ·show w.heap[k]? = W.heap[k]?
   have hk':k < w'.heap.size:=by have:=hb.size; rw [hsz] at this; omega
   obtain ⟨y,hy,hlk⟩:=hs.obj k _ (Array.getElem?_eq_getElem hk')
   have e1:some w'.heap[k] = (veil W).heap[k]?:=by rw [<- hb.block k hk]; exact (Array.getElem?_eq_getElem hk').symm
   have e2:(veil W).heap[k]? = (W.heap[k]?).map fun o=>if isView o then nothing else o:=by
    show (W.heap.map _)[k]? = _
    rw [Array.getElem?_map]
   rw [Array.getElem?_eq_getElem hk] at e2
   rw [e2] at e1
   have e1:=Option.some.inj e1
   have hp:ρ k = (X0 W).plug k:=by
    rw [hρ k fun z=>by have:=h2 k z; omega,h3]
   have hp2:(X0 W).plug k = if isView W.heap[k] then .gone W.heap[k] else .all:=by
    show (match W.heap[k]? with | some o=>if isView o then Plug.gone o else .all | none=>.all) = _
    rw [Array.getElem?_eq_getElem hk]
   rw [hy,Array.getElem?_eq_getElem hk]
   have hlk:Like (ρ k) w'.heap[k] y:=hlk
   rw [hp,hp2,e1] at hlk
   cases hv:isView W.heap[k]
   ·simp only [hv,Bool.false_eq_true,if_false] at hlk
    rw [like_all hlk]
   ·simp only [hv,if_true] at hlk
    rw [like_gone hlk]
end Go.Vy.Sc
end
/- Clients without bodies; how states of a run hang together, by induction. -/
section
namespace Go.Vy.Sc
open Go Go.Conc Go.Yc Go.RowKit Go.Proofs Go.Proofs.Ytfmoeemolgjodaa
open Go.Vc Go.Wg
theorem RunM.ends_at {B j:Nat} {x:Int} {w:World} {R:Rn} (h:RunM w B R) (hj:R.ends[j]? = some x):w.cell? ⟨R.eb,j,none⟩ = some (.int .i64 x):=by
 have h1:Blk w R.eb (R.ends.map (Value.int .i64)).toArray 3:=h.ends
 exact h1.cellAt j (by simp [hj])
theorem RunM.wts_at {B j k:Nat} {x:Stp} {v:Value} {w:World} {R:Rn} (h:RunM w B R) (hj:R.wts[j]? = some x) (hv:(spC x)[k]? = some v):w.cell? ⟨R.wb,j * 3 + k,none⟩ = some v:=by
 have h1:Blk w R.wb (R.wts.flatMap spC).toArray 43:=h.wts
 refine h1.cellAt (j * 3 + k) ?_
 rw [List.getElem?_toArray]
 have hkl:k < 3:=(List.getElem?_eq_some_iff.1 hv).1
 have key:∀ (l:List Stp) (j:Nat),l[j]? = some x->(l.flatMap spC)[j * 3 + k]? = some v:=by
  intro l
  induction l with
  | nil=>intro j h; cases h
  | cons a l ih =>
   intro j h
   cases j with
   | zero =>
    cases h
    rw [List.flatMap_cons,List.getElem?_append_left (by simpa [spC] using hkl)]
    simpa using hv
   | succ j =>
    rw [List.flatMap_cons,List.getElem?_append_right (by simp [spC]; omega)]
    have:(j + 1) * 3 + k - (spC a).length = j * 3 + k:=by simp [spC]; omega
    rw [this]
    exact ih j (by simpa using h)
 exact key _ _ hj
section
variable {m lb:Nat} {pl:Nat->Plug}
end
end Go.Vy.Sc
end
/- What comes in, read. -/
section
namespace Go.Vy.Sc
open Go Go.Conc Go.Yc Go.RowKit Go.Proofs Go.Proofs.Ytfmoeemolgjodaa
open Go.Vc Go.Wg Go.ChangeShapes Go.WideShapes Go.ChangeAt Go.Deep
theorem veil_cell {W:World} {a:Addr} {v:Value} (h:W.cell? a = some v):(veil W).cell? a = some v:=by
 unfold World.cell? at h ⊢
 cases ho:W.heap[a.block]? with
 | none=>rw [ho] at h; cases h
 | some o =>
  cases o with
  | cells c e f =>
   rw [veil_get ho rfl]
   rw [ho] at h
   exact h
  | _=>rw [ho] at h; cases h
theorem chooseLt {α:Type} [Inhabited α] {n:Nat} {p:Nat->α->Prop} (h:∀ i,i < n->∃ x,p i x):∃ f:Nat->α,∀ i,i < n->p i (f i):=by
 classical
 exact ⟨fun i=>if hi:i < n then (h i hi).choose else default,fun i hi=>by
  show p i (if hi:i < n then (h i hi).choose else default)
  rw [dif_pos hi]; exact (h i hi).choose_spec⟩
section
variable {H:Type} {enc:TypeId × Value->H} {W:World} {base:Nat} {spare:Nat->Bool} {held:Bool} {P:Program}
theorem trod_field {t:TypeId} {fs:Array Field} {fuel:Nat} {cs:List Value} {x:DataW H × List MemPlace} (ht:P.underlying t = some (.struct fs)) (h:DataW.trod enc P W base spare held fuel t cs = some x) :
  ∃ m,cs.length = P.cellsOf t/\∀ (j:Nat) f,fs[j]? = some f->∃ y,DataW.trod enc P W base spare held m f.type ((cs.drop f.offset).take (P.cellsOf f.type)) = some y:=by
 obtain ⟨xs,m,_,_,hl,hxl,hf⟩:=DataW.trod_struct ht h
 refine ⟨m,hl,fun j f hj=>?_⟩
 have hjl:j < xs.length:=by rw [hxl]; exact (Array.getElem?_eq_some_iff.1 hj).1
 exact ⟨xs[j],by rw [hf j f hj]; exact List.getElem?_eq_getElem hjl⟩
end
section
variable {H:Type} {enc:TypeId × Value->H} {W:World} {base:Nat} {spare:Nat->Bool} {held:Bool}
theorem cellsInt:Try.prog.cellsOf 3 = 1:=by kernel_rfl
theorem cellsStep:Try.prog.cellsOf 43 = 3:=by kernel_rfl
theorem len3 {α:Type}:∀ {cs:List α},cs.length = 3->∃ a b c,cs = [a,b,c]
 | [a,b,c],_=>⟨a,b,c,rfl⟩
set_option maxRecDepth 100000 in
theorem step_cells {n:Nat} {cs:List Value} {x:DataW H × List MemPlace} (h:DataW.trod enc Try.prog W base spare held n 43 cs = some x):∃ s:Stp,cs = spC s:=by
 obtain ⟨m,hl,hf⟩:=trod_field Try.underlying43 h
 rw [cellsStep] at hl
 obtain ⟨v0,v1,v2,rfl⟩:∃ a b c,cs = [a,b,c]:=len3 hl
 ·obtain ⟨y0,h0⟩:∃ y,DataW.trod enc Try.prog W base spare held m 3 (([v0,v1,v2].drop 0).take (Try.prog.cellsOf 3)) = some y:=hf 0 _ rfl
  obtain ⟨y1,h1⟩:∃ y,DataW.trod enc Try.prog W base spare held m 3 (([v0,v1,v2].drop 1).take (Try.prog.cellsOf 3)) = some y:=hf 1 _ rfl
  obtain ⟨y2,h2⟩:∃ y,DataW.trod enc Try.prog W base spare held m 3 (([v0,v1,v2].drop 2).take (Try.prog.cellsOf 3)) = some y:=hf 2 _ rfl
  rw [cellsInt] at h0 h1 h2
  obtain ⟨a,ha,_⟩:=DataW.trod_int Try.underlying3 h0
  obtain ⟨b,hb,_⟩:=DataW.trod_int Try.underlying3 h1
  obtain ⟨c,hc,_⟩:=DataW.trod_int Try.underlying3 h2
  simp at ha hb hc
  exact ⟨⟨a,b,c⟩,by rw [ha,hb,hc]; rfl⟩
end
end Go.Vy.Sc
end
/- The law of what is not divided: its run, told without a program. -/
section
namespace Go.Vy.Sc
open Go Go.Conc Go.Yc Go.RowKit Go.Proofs Go.Proofs.Ytfmoeemolgjodaa
open Go.Vc Go.Wg
theorem RunM.evs_at {B i k:Nat} {x:Nat × Stp} {v:Value} {w:World} {R:Rn} (h:RunM w B R) (hi:R.evs[i]? = some x) (hv:(evC x)[k]? = some v):w.cell? ⟨ab R.ea,ao R.ea + i * 4 + k,none⟩ = some v:=by
 have hkl:k < 4:=(List.getElem?_eq_some_iff.1 hv).1
 have key:∀ (l:List (Nat × Stp)) (i:Nat),l[i]? = some x->(l.flatMap evC)[i * 4 + k]? = some v:=by
  intro l
  induction l with
  | nil=>intro i h; cases h
  | cons a l ih =>
   intro i h
   cases i with
   | zero =>
    cases h
    rw [List.flatMap_cons,List.getElem?_append_left (by simpa [evC] using hkl)]
    simpa using hv
   | succ i =>
    rw [List.flatMap_cons,List.getElem?_append_right (by simp [evC]; omega)]
    have:(i + 1) * 4 + k - (evC a).length = i * 4 + k:=by simp [evC]; omega
    rw [this]
    exact ih i (by simpa using h)
 rw [h.evs.off,Nat.zero_add]
 exact h.evs.cell (key _ _ hi)
def wr (s:Int) (j:Nat):Int:=if j = 0 then s else IntKind.i64.wrap (s + j)
section
variable {m r c rb t lb:Nat} {pl:Nat->Plug}
end
end Go.Vy.Sc
end
/- Comparison of a struct with itself. Nothing here speaks of a program. -/
section
namespace Go.Vy
open Go Go.Conc Go.Yc Go.RowKit
open Go.Vc
section
variable {P:Program}
theorem run_part_agg {t:TypeId} {fs:Array Field} {s off:Nat} {cs:Array Value} (hT:P.underlying t = some (.struct fs)) (hs:(P.info? t).map (·.size) = some s) (w:World):(part t cs off).run P w = .ok (.agg (cs.extract off (off + s))) w:=by
 have h0:flatB (.struct fs) = false:=rfl
 simp [part,Go.Vc.run_isAgg hT,Go.Vc.run_sizeOf hs,h0]
theorem eqF_nil {d:Nat} {xs:Array Value} (w:World):(Op.eqFields d xs xs []).run P w = .ok true w:=rfl
theorem eqF_cons {d:Nat} {xs:Array Value} {f:Field} {fs:List Field} {v:Value} (hn:f.name ≠ "_") (hp:∀ w,(part f.type xs f.offset).run P w = .ok v w) (he:∀ w,(Op.equalIn d f.type v v).run P w = .ok true w) (hr:∀ w,(Op.eqFields d xs xs fs).run P w = .ok true w) (w:World):(Op.eqFields d xs xs (f :: fs)).run P w = .ok true w:=by
 simp [Op.eqFields,hn,hp,he,hr]
theorem eq_int {d:Nat} {t:TypeId} {κ κ':IntKind} {a:Int} (h:P.underlying t = some (.int κ')) (w:World):(Op.equalIn (d + 1) t (.int κ a) (.int κ a)).run P w = .ok true w:=by
 rw [run_equalIn_int w d t κ κ' a a h]; simp
theorem eq_str {d:Nat} {t:TypeId} {a:ByteArray} (h:P.underlying t = some .string) (w:World):(Op.equalIn (d + 1) t (.string a) (.string a)).run P w = .ok true w:=by
 rw [run_equalIn_string w d t a a h]; simp
theorem eq_struct {d:Nat} {t:TypeId} {xs:Array Value} {fs:Array Field} (ht:P.underlying t = some (.struct fs)) (hp:P.stoodInHeld t = false) (h:∀ w,(Op.eqFields d xs xs fs.toList).run P w = .ok true w) (w:World):(Op.equalIn (d + 1) t (.agg xs) (.agg xs)).run P w = .ok true w:=by
 have hf:P.fieldsOf t = fs:=by unfold Program.fieldsOf; rw [ht]
 rw [run_equalIn_struct w d t xs xs (by rw [hf]; exact ht) hp,hf]
 exact h w
end
section
variable {P:Program} {ρ:Operand->Value} {w:World} {d:Option Nat} {ty:TypeId} {ps:String} {af:Array Edge} {g:Option (Nat × Bool)} {x y:Operand} {T T':TypeId}
theorem x_neqSame {cs:Array Value} (hx:ρ x = .agg cs) (hy:ρ y = .agg cs) (he:∀ w,(Op.equalIn (9999 + 1) T (.agg cs) (.agg cs)).run P w = .ok true w) (hg:P.eqGuardType P.depth T = false) (hb:∀ c ∈ cs,noAddr c = true) :
  Does P (execOp ρ ⟨d,.binOp .neq T x y T',ty,ps,af,g⟩) w (.val (.bool false)) w :=
 .of_tame (t_neqAgg hg hb hx hy) rfl rfl fun τ d=>by
  simp only [execOp,hx,hy,Sem.run_bind,run_eqGuard_agg (P:=P) (w:=onT w τ d) .neq T x y _ _ hg,Result.andThen_ok,run_neq_struct]
  rw [he]
  rfl
theorem x_neqBoolSame {a:Bool} (hx:ρ x = .bool a) (hy:ρ y = .bool a) (hT:P.underlying T = some .bool):Does P (execOp ρ ⟨d,.binOp .neq T x y T',ty,ps,af,g⟩) w (.val (.bool false)) w:=by
 have h1:∀ w:World,(binOp .neq T (.bool a) (.bool a)).run P w = .ok (.bool false) w:=fun w=>by
  have h2:=run_equal_bool (P:=P) w T a a hT
  simp [binOp,h2]
 have h3:tame P (binOp .neq T (.bool a) (.bool a)):=t_neqOf (t_equalIn (n:=9999) rfl) rfl
 refine .of_tame (t_binOf hx hy (t_guard (fun _ h=>by cases h) (fun h=>by cases h)) h3) rfl rfl fun τ d=>?_
 have h2:∀ w:World,(eqGuard .neq T x y (.bool a) (.bool a)).run P w = .ok () w:=fun w=>by simp [eqGuard]
 simp only [execOp,hx,hy,Sem.run_bind,h2,h1,Result.andThen_ok]
 rfl
end
end Go.Vy
end
/- Two runs that are alike. -/
section
namespace Go.Vy.Sc
open Go Go.Conc Go.Yc Go.RowKit Go.Proofs Go.Proofs.Ytfmoeemolgjodaa
open Go.Vc Go.Wg
structure RunAt (w:World) (ea na za wa:Option Addr) (m:Nat) (evs:List (Nat × Stp)) (nts:List (Nat × Nat × Nte)) (ends:List Int) (wts:List Stp):Prop where
 esl:SL ea evs.length
 nsl:SL na nts.length
 zsl:SL za m
 wsl:SL wa m
 hz:ends.length = m
 hw:wts.length = m
 ev:∀ (i:Nat) x (k:Nat) v,evs[i]? = some x->(evC x)[k]? = some v->w.cell? ⟨ab ea,ao ea + i * 4 + k,none⟩ = some v
 nt:∀ (i:Nat) x (k:Nat) v,nts[i]? = some x->(ntC x)[k]? = some v->w.cell? ⟨ab na,ao na + i * 4 + k,none⟩ = some v
 en:∀ (i:Nat) (x:Int),ends[i]? = some x->w.cell? ⟨ab za,ao za + i * 1,none⟩ = some (.int .i64 x)
 wt:∀ (i:Nat) x (k:Nat) v,wts[i]? = some x->(spC x)[k]? = some v->w.cell? ⟨ab wa,ao wa + i * 3 + k,none⟩ = some v
section
variable {w w':World} {ea na za wa:Option Addr} {m B:Nat} {evs:List (Nat × Stp)} {nts:List (Nat × Nat × Nte)} {ends:List Int} {wts:List Stp} {R:Rn}
theorem RunAt.keep (h:RunAt w ea na za wa m evs nts ends wts) (hb:Below w.heap.size w w'):RunAt w' ea na za wa m evs nts ends wts :=
 ⟨h.esl,h.nsl,h.zsl,h.wsl,h.hz,h.hw,fun i x k v h1 h2=>cell_keep (h.ev i x k v h1 h2) hb,fun i x k v h1 h2=>cell_keep (h.nt i x k v h1 h2) hb,fun i x h1=>cell_keep (h.en i x h1) hb,fun i x k v h1 h2=>cell_keep (h.wt i x k v h1 h2) hb⟩
theorem RunM.nts_at {i k:Nat} {x:Nat × Nat × Nte} {v:Value} (h:RunM w B R) (hi:R.nts[i]? = some x) (hv:(ntC x)[k]? = some v):w.cell? ⟨ab R.na,ao R.na + i * 4 + k,none⟩ = some v:=by
 have hkl:k < 4:=(List.getElem?_eq_some_iff.1 hv).1
 have key:∀ (l:List (Nat × Nat × Nte)) (i:Nat),l[i]? = some x->(l.flatMap ntC)[i * 4 + k]? = some v:=by
  intro l
  induction l with
  | nil=>intro i h; cases h
  | cons a l ih =>
   intro i h
   cases i with
   | zero =>
    cases h
    rw [List.flatMap_cons,List.getElem?_append_left (by simpa [ntC] using hkl)]
    simpa using hv
   | succ i =>
    rw [List.flatMap_cons,List.getElem?_append_right (by simp [ntC]; omega)]
    have:(i + 1) * 4 + k - (ntC a).length = i * 4 + k:=by simp [ntC]; omega
    rw [this]
    exact ih i (by simpa using h)
 rw [h.nts.off,Nat.zero_add]
 exact h.nts.cell (key _ _ hi)
theorem RunM.runAt (h:RunM w B R):RunAt w R.ea R.na (some ⟨R.eb,0,none⟩) (some ⟨R.wb,0,none⟩) R.m R.evs R.nts R.ends R.wts:=by
 refine ⟨h.evs.sl,h.nts.sl,SL.mk _ _ _,SL.mk _ _ _,h.lend,h.lwts,fun i x k v h1 h2=>h.evs_at h1 h2,fun i x k v h1 h2=>h.nts_at h1 h2,fun i x h1=>?_,fun i x k v h1 h2=>?_⟩
 ·show w.cell? ⟨R.eb,0 + i * 1,none⟩ = _
  rw [Nat.zero_add,Nat.mul_one]; exact h.ends_at h1
 ·show w.cell? ⟨R.wb,0 + i * 3 + k,none⟩ = _
  rw [Nat.zero_add]; exact h.wts_at h1 h2
end
theorem eqInts {d:Nat} {a:Int} (w:World):(Op.equalIn (d + 1) 3 (.int .i64 a) (.int .i64 a)).run Try.prog w = .ok true w:=eq_int Try.underlying3 w
theorem plainInt:Try.prog.plainKey 3 = true:=by kernel_rfl
theorem plainStr:Try.prog.plainKey 9 = true:=by kernel_rfl
theorem eqStp (d:Nat) (a b c:Int) (w:World):(Op.equalIn (d + 2) 43 (.agg #[.int .i64 a,.int .i64 b,.int .i64 c]) (.agg #[.int .i64 a,.int .i64 b,.int .i64 c])).run Try.prog w = .ok true w :=
 eq_struct Try.underlying43 (by kernel_rfl) (eqF_cons (by decide) (fun w=>run_part_plain w plainInt rfl) eqInts (eqF_cons (by decide) (fun w=>run_part_plain w plainInt rfl) eqInts (eqF_cons (by decide) (fun w=>run_part_plain w plainInt rfl) eqInts eqF_nil))) w
theorem eqEv (d:Nat) (a b c e:Int) (w:World):(Op.equalIn (d + 3) 45 (.agg #[.int .i64 a,.int .i64 b,.int .i64 c,.int .i64 e]) (.agg #[.int .i64 a,.int .i64 b,.int .i64 c,.int .i64 e])).run Try.prog w = .ok true w :=
 eq_struct Try.underlying45 (by kernel_rfl) (eqF_cons (by decide) (fun w=>run_part_plain w plainInt rfl) eqInts (eqF_cons (v:=.agg #[.int .i64 b,.int .i64 c,.int .i64 e]) (by decide) (fun w=>run_part_agg Try.underlying43 sz43 w) (eqStp d b c e) eqF_nil)) w
theorem eqNt (d:Nat) (a b c:Int) (s:ByteArray) (w:World):(Op.equalIn (d + 2) 47 (.agg #[.int .i64 a,.int .i64 b,.int .i64 c,.string s]) (.agg #[.int .i64 a,.int .i64 b,.int .i64 c,.string s])).run Try.prog w = .ok true w :=
 eq_struct Try.underlying47 (by kernel_rfl) (eqF_cons (by decide) (fun w=>run_part_plain w plainInt rfl) eqInts (eqF_cons (by decide) (fun w=>run_part_plain w plainInt rfl) eqInts (eqF_cons (by decide) (fun w=>run_part_plain w plainInt rfl) eqInts (eqF_cons (by decide) (fun w=>run_part_plain w plainStr rfl) (eq_str Try.underlying9) eqF_nil)))) w
theorem noAddr3 {a b c:Value} (h:noAddr a = true/\noAddr b = true/\noAddr c = true):∀ x ∈ #[a,b,c],noAddr x = true:=fun x hx=>by
 simp at hx
 rcases hx with rfl | rfl | rfl
 ·exact h.1
 ·exact h.2.1
 ·exact h.2.2
theorem noAddr4 {a b c d:Value} (h:noAddr a = true/\noAddr b = true/\noAddr c = true/\noAddr d = true):∀ x ∈ #[a,b,c,d],noAddr x = true:=fun x hx=>by
 simp at hx
 rcases hx with rfl | rfl | rfl | rfl
 ·exact h.1
 ·exact h.2.1
 ·exact h.2.2.1
 ·exact h.2.2.2
end Go.Vy.Sc
end
/- Two runs that are alike are found to be so. -/
section
namespace Go.Vy.Sc
open Go Go.Conc Go.Yc Go.RowKit Go.Proofs Go.Proofs.Ytfmoeemolgjodaa
open Go.Vc Go.Wg
section
variable [Ctx Try.prog]
set_option maxHeartbeats 1000000 in
theorem same_c {m:Nat} {evs:List (Nat × Stp)} {nts:List (Nat × Nat × Nte)} {ens:List Int} {wts:List Stp} {ea na za wa ea' na' za' wa':Option Addr} {ec nc zc wc ec' nc' zc' wc':Nat} {st:Bool} {us:Int} (w0:World) (hl:evs.length <= 1000000000000/\nts.length <= 1000000000000/\m <= 1000000000000) (h1:RunAt w0 ea na za wa m evs nts ens wts) (h2:RunAt w0 ea' na' za' wa' m evs nts ens wts) :
  C Try.prog 16 #[.agg #[.slice ea evs.length ec,.slice na nts.length nc,.slice za m zc,.slice wa m wc,.bool st,.int .i64 us],.agg #[.slice ea' evs.length ec',.slice na' nts.length nc',.slice za' m zc',.slice wa' m wc',.bool st,.int .i64 us]] w0 fun v w=>v = .bool true/\Below w0.heap.size w0 w:=by
 refine C.enter (n:=123) Try.func16 rfl rfl ?_
 have hb:Below w0.heap.size w0 w0:=Below.refl _ _
 refine W.seq ?_
 refine W.region rfl ?_
 refine L.box (cs:=#[.slice ea (evs.length) ec,.slice na (nts.length) nc,.slice za m zc,.slice wa m wc,.bool st,.int .i64 us]) rfl rfl (fun w b2 F2=>?_)
 have lt2:w0.heap.size <= b2:=by have h9:=F2.here; have h8:=hb.size; omega
 have hb:=cl_step hb F2.below
 have h1:=h1.keep F2.below
 have h2:=h2.keep F2.below
 have hB2:=F2.blk
 refine L.box (cs:=#[.slice ea' (evs.length) ec',.slice na' (nts.length) nc',.slice za' m zc',.slice wa' m wc',.bool st,.int .i64 us]) rfl rfl (fun w b3 F3=>?_)
 have lt3:w0.heap.size <= b3:=by have h9:=F3.here; have h8:=hb.size; omega
 have ne3hB2:=F3.ne hB2
 have hb:=cl_step hb F3.below
 have h1:=h1.keep F3.below
 have h2:=h2.keep F3.below
 have hB2:=hB2.keep F3.below
 have hB3:=F3.blk
 refine L.va (x_asB rfl) ?_
 refine L.nil ?_
 show W _ _ _ _ _ _
 refine W.seq ?_
 refine W.seq ?_
 refine W.region rfl ?_
 refine L.va (x_field rfl Try.underlying31 rfl sz27 (by decide)) ?_
 refine L.va (x_load rfl Try.underlying27 rfl (hB2.cellAt 0 (v:=.slice ea (evs.length) ec) rfl)) ?_
 refine L.va (x_len rfl Try.underlying27 rfl) ?_
 refine L.va (x_field rfl Try.underlying31 rfl sz27 (by decide)) ?_
 refine L.va (x_load rfl Try.underlying27 rfl (hB3.cellAt 0 (v:=.slice ea' (evs.length) ec') rfl)) ?_
 refine L.va (x_len rfl Try.underlying27 rfl) ?_
 refine L.va (d_bool (r:=false) (decide_eq_false (fun h=>h rfl)) (x_neq (m:=(evs.length:Int)) (k:=(evs.length:Int)) rfl rfl)) ?_
 refine L.va (x_mvB rfl) ?_
 refine L.on rfl ?_
 refine L.va (x_field rfl Try.underlying31 rfl sz28 (by decide)) ?_
 refine L.on rfl ?_
 refine L.va (x_load rfl Try.underlying28 rfl (hB2.cellAt 1 (v:=.slice na (nts.length) nc) rfl)) ?_
 refine L.on rfl ?_
 refine L.va (x_len rfl Try.underlying28 rfl) ?_
 refine L.on rfl ?_
 refine L.va (x_field rfl Try.underlying31 rfl sz28 (by decide)) ?_
 refine L.on rfl ?_
 refine L.va (x_load rfl Try.underlying28 rfl (hB3.cellAt 1 (v:=.slice na' (nts.length) nc') rfl)) ?_
 refine L.on rfl ?_
 refine L.va (x_len rfl Try.underlying28 rfl) ?_
 refine L.on rfl ?_
 refine L.va (d_bool (r:=false) (decide_eq_false (fun h=>h rfl)) (x_neq (m:=(nts.length:Int)) (k:=(nts.length:Int)) rfl rfl)) ?_
 refine L.va (x_pickF rfl) ?_
 refine L.va (x_mvB rfl) ?_
 refine L.on rfl ?_
 refine L.va (x_field rfl Try.underlying31 rfl sz26 (by decide)) ?_
 refine L.on rfl ?_
 refine L.va (x_load rfl Try.underlying26 rfl (hB2.cellAt 2 (v:=.slice za m zc) rfl)) ?_
 refine L.on rfl ?_
 refine L.va (x_len rfl Try.underlying26 rfl) ?_
 refine L.on rfl ?_
 refine L.va (x_field rfl Try.underlying31 rfl sz26 (by decide)) ?_
 refine L.on rfl ?_
 refine L.va (x_load rfl Try.underlying26 rfl (hB3.cellAt 2 (v:=.slice za' m zc') rfl)) ?_
 refine L.on rfl ?_
 refine L.va (x_len rfl Try.underlying26 rfl) ?_
 refine L.on rfl ?_
 refine L.va (d_bool (r:=false) (decide_eq_false (fun h=>h rfl)) (x_neq (m:=(m:Int)) (k:=(m:Int)) rfl rfl)) ?_
 refine L.va (x_pickF rfl) ?_
 refine L.va (x_mvB rfl) ?_
 refine L.on rfl ?_
 refine L.va (x_field rfl Try.underlying31 rfl sz29 (by decide)) ?_
 refine L.on rfl ?_
 refine L.va (x_load rfl Try.underlying29 rfl (hB2.cellAt 3 (v:=.slice wa m wc) rfl)) ?_
 refine L.on rfl ?_
 refine L.va (x_len rfl Try.underlying29 rfl) ?_
 refine L.on rfl ?_
 refine L.va (x_field rfl Try.underlying31 rfl sz29 (by decide)) ?_
 refine L.on rfl ?_
 refine L.va (x_load rfl Try.underlying29 rfl (hB3.cellAt 3 (v:=.slice wa' m wc') rfl)) ?_
 refine L.on rfl ?_
 refine L.va (x_len rfl Try.underlying29 rfl) ?_
 refine L.on rfl ?_
 refine L.va (d_bool (r:=false) (decide_eq_false (fun h=>h rfl)) (x_neq (m:=(m:Int)) (k:=(m:Int)) rfl rfl)) ?_
 refine L.va (x_pickF rfl) ?_
 refine L.va (x_mvB rfl) ?_
 refine L.on rfl ?_
 refine L.va (x_field rfl Try.underlying31 rfl sz4 (by decide)) ?_
 refine L.on rfl ?_
 refine L.va (x_load rfl Try.underlying4 rfl (hB2.cellAt 4 (v:=.bool st) rfl)) ?_
 refine L.on rfl ?_
 refine L.va (x_field rfl Try.underlying31 rfl sz4 (by decide)) ?_
 refine L.on rfl ?_
 refine L.va (x_load rfl Try.underlying4 rfl (hB3.cellAt 4 (v:=.bool st) rfl)) ?_
 refine L.on rfl ?_
 refine L.va (x_neqBoolSame rfl rfl Try.underlying4) ?_
 refine L.va (x_pickF rfl) ?_
 refine L.va (x_mvB rfl) ?_
 refine L.on rfl ?_
 refine L.va (x_field rfl Try.underlying31 rfl sz3 (by decide)) ?_
 refine L.on rfl ?_
 refine L.va (x_load rfl Try.underlying3 rfl (hB2.cellAt 5 (v:=.int .i64 us) rfl)) ?_
 refine L.on rfl ?_
 refine L.va (x_field rfl Try.underlying31 rfl sz3 (by decide)) ?_
 refine L.on rfl ?_
 refine L.va (x_load rfl Try.underlying3 rfl (hB3.cellAt 5 (v:=.int .i64 us) rfl)) ?_
 refine L.on rfl ?_
 refine L.va (d_bool (r:=false) (decide_eq_false (fun h=>h rfl)) (x_neq (m:=(us:Int)) (k:=(us:Int)) rfl rfl)) ?_
 refine L.va (x_pickF rfl) ?_
 refine L.nil ?_
 show W _ _ _ _ _ _
 refine W.condF rfl ?_
 refine W.skip ?_
 show W _ _ _ _ _ _
 refine W.seq ?_
 refine W.seq ?_
 refine W.region rfl ?_
 refine L.va (x_asI rfl) ?_
 refine L.nil ?_
 show W _ _ _ _ _ _
 refine W.block ?_
 refine W.loop (fun k e w=>∃ (i:Nat),k = evs.length - i/\e 2 = .pointer (some ⟨b2,0,none⟩)/\e 3 = .pointer (some ⟨b3,0,none⟩)/\e 5 = .int .i64 (i:Int)/\i <= evs.length/\RunAt w ea na za wa m evs nts ens wts/\RunAt w ea' na' za' wa' m evs nts ens wts/\Blk w b2 #[.slice ea evs.length ec,.slice na nts.length nc,.slice za m zc,.slice wa m wc,.bool st,.int .i64 us] 31/\Blk w b3 #[.slice ea' evs.length ec',.slice na' nts.length nc',.slice za' m zc',.slice wa' m wc',.bool st,.int .i64 us] 31/\Below w0.heap.size w0 w) _ ⟨0,rfl,rfl,rfl,rfl,Nat.zero_le _,h1,h2,hB2,hB3,hb⟩ ?_
 rintro k e w ⟨i,hk,s2,s3,s5,hi,h1,h2,hB2,hB3,hb⟩
 rw [upd_id s2,upd_id s3,upd_id s5]
 clear s2 s3 s5
 refine W.seq ?_
 refine W.seq ?_
 refine W.region rfl ?_
 refine L.va (x_mvI rfl) ?_
 refine L.va (x_field rfl Try.underlying31 rfl sz27 (by decide)) ?_
 refine L.va (x_load rfl Try.underlying27 rfl (hB2.cellAt 0 (v:=.slice ea (evs.length) ec) rfl)) ?_
 refine L.va (x_len rfl Try.underlying27 rfl) ?_
 refine L.va (x_lss rfl rfl) ?_
 refine L.nil ?_
 show W _ _ _ _ _ _
 refine W.condP rfl (fun h60=>?_) (fun h60=>?_)
 ·have hlt:i < evs.length:=by omega
  obtain ⟨x,hx⟩:∃ x,evs[i]? = some x:=⟨_,List.getElem?_eq_getElem hlt⟩
  refine W.skip ?_
  show W _ _ _ _ _ _
  refine W.seq ?_
  refine W.block ?_
  refine W.seq ?_
  refine W.quiet (fun w'=>Below w.heap.size w w') (by kernel_rfl) (by kernel_rfl) ((Below.refl w.heap.size w).drew) ?_
  refine D.va (fun w' hw'=>(x_field rfl Try.underlying31 rfl sz27 (by decide))) ?_
  refine D.va (fun w' hw'=>(x_load rfl Try.underlying27 rfl ((hB2.keep hw').cellAt 0 (v:=.slice ea (evs.length) ec) rfl))) ?_
  refine D.va (fun w' hw'=>(x_mvI rfl)) ?_
  refine D.va (fun w' hw'=>(x_idx (i:=i) rfl rfl Try.underlying27 sz45 h1.esl hlt)) ?_
  refine D.va (fun w' hw'=>(x_loadAgg (cs:=[.int .i64 (x.1:Int),.int .i64 (x.2.kind),.int .i64 (x.2.obj),.int .i64 (x.2.num)]) rfl Try.underlying45 rfl sz45 rfl (fun j v hv=>(h1.keep hw').ev i x j v hx hv))) ?_
  refine D.va (fun w' hw'=>(x_field rfl Try.underlying31 rfl sz27 (by decide))) ?_
  refine D.va (fun w' hw'=>(x_load rfl Try.underlying27 rfl ((hB3.keep hw').cellAt 0 (v:=.slice ea' (evs.length) ec') rfl))) ?_
  refine D.va (fun w' hw'=>(x_mvI rfl)) ?_
  refine D.va (fun w' hw'=>(x_idx (i:=i) rfl rfl Try.underlying27 sz45 h2.esl hlt)) ?_
  refine D.va (fun w' hw'=>(x_loadAgg (cs:=[.int .i64 (x.1:Int),.int .i64 (x.2.kind),.int .i64 (x.2.obj),.int .i64 (x.2.num)]) rfl Try.underlying45 rfl sz45 rfl (fun j v hv=>(h2.keep hw').ev i x j v hx hv))) ?_
  refine D.va (fun w' hw'=>(x_neqSame rfl rfl (eqEv 9997 _ _ _ _) (by kernel_rfl) (noAddr4 ⟨rfl,rfl,rfl,rfl⟩))) ?_
  refine D.nil (fun w hbw=>?_)
  have hb:=cl_step hb hbw
  have h1:=h1.keep hbw
  have h2:=h2.keep hbw
  have hB2:=hB2.keep hbw
  have hB3:=hB3.keep hbw
  clear hbw
  show W _ _ _ _ _ _
  refine W.condF rfl ?_
  refine W.skip ?_
  refine B.nrm ?_
  show W _ _ _ _ _ _
  refine W.region rfl ?_
  refine L.va (x_mvI rfl) ?_
  refine L.va (x_inc rfl rfl (by omega)) ?_
  refine L.va (x_asI rfl) ?_
  refine L.nil ?_
  refine T.nrm ?_
  exact ⟨_,by omega,⟨i + 1,rfl,rfl,rfl,rfl,(by omega),h1,h2,hB2,hB3,hb⟩⟩
 ·refine W.exit ?_
  repeat (first | refine T.exit ?_ | refine N.exit ?_ | refine B.exitNe (by decide) ?_)
  refine B.exitEq ?_
  show W _ _ _ _ _ _
  refine W.seq ?_
  refine W.seq ?_
  refine W.region rfl ?_
  refine L.va (x_asI rfl) ?_
  refine L.nil ?_
  show W _ _ _ _ _ _
  refine W.block ?_
  refine W.loop (fun k e w=>∃ (i:Nat),k = nts.length - i/\e 2 = .pointer (some ⟨b2,0,none⟩)/\e 3 = .pointer (some ⟨b3,0,none⟩)/\e 6 = .int .i64 (i:Int)/\i <= nts.length/\RunAt w ea na za wa m evs nts ens wts/\RunAt w ea' na' za' wa' m evs nts ens wts/\Blk w b2 #[.slice ea evs.length ec,.slice na nts.length nc,.slice za m zc,.slice wa m wc,.bool st,.int .i64 us] 31/\Blk w b3 #[.slice ea' evs.length ec',.slice na' nts.length nc',.slice za' m zc',.slice wa' m wc',.bool st,.int .i64 us] 31/\Below w0.heap.size w0 w) _ ⟨0,rfl,rfl,rfl,rfl,Nat.zero_le _,h1,h2,hB2,hB3,hb⟩ ?_
  rintro k e w ⟨i,hk,s2,s3,s6,hi,h1,h2,hB2,hB3,hb⟩
  rw [upd_id s2,upd_id s3,upd_id s6]
  clear s2 s3 s6
  refine W.seq ?_
  refine W.seq ?_
  refine W.region rfl ?_
  refine L.va (x_mvI rfl) ?_
  refine L.va (x_field rfl Try.underlying31 rfl sz28 (by decide)) ?_
  refine L.va (x_load rfl Try.underlying28 rfl (hB2.cellAt 1 (v:=.slice na (nts.length) nc) rfl)) ?_
  refine L.va (x_len rfl Try.underlying28 rfl) ?_
  refine L.va (x_lss rfl rfl) ?_
  refine L.nil ?_
  show W _ _ _ _ _ _
  refine W.condP rfl (fun h78=>?_) (fun h78=>?_)
  ·have hlt:i < nts.length:=by omega
   obtain ⟨x,hx⟩:∃ x,nts[i]? = some x:=⟨_,List.getElem?_eq_getElem hlt⟩
   refine W.skip ?_
   show W _ _ _ _ _ _
   refine W.seq ?_
   refine W.block ?_
   refine W.seq ?_
   refine W.quiet (fun w'=>Below w.heap.size w w') (by kernel_rfl) (by kernel_rfl) ((Below.refl w.heap.size w).drew) ?_
   refine D.va (fun w' hw'=>(x_field rfl Try.underlying31 rfl sz28 (by decide))) ?_
   refine D.va (fun w' hw'=>(x_load rfl Try.underlying28 rfl ((hB2.keep hw').cellAt 1 (v:=.slice na (nts.length) nc) rfl))) ?_
   refine D.va (fun w' hw'=>(x_mvI rfl)) ?_
   refine D.va (fun w' hw'=>(x_idx (i:=i) rfl rfl Try.underlying28 sz47 h1.nsl hlt)) ?_
   refine D.va (fun w' hw'=>(x_loadAgg (cs:=[.int .i64 (x.1:Int),.int .i64 (x.2.1:Int),.int .i64 (x.2.2.kind),.string (x.2.2.text)]) rfl Try.underlying47 rfl sz47 rfl (fun j v hv=>(h1.keep hw').nt i x j v hx hv))) ?_
   refine D.va (fun w' hw'=>(x_field rfl Try.underlying31 rfl sz28 (by decide))) ?_
   refine D.va (fun w' hw'=>(x_load rfl Try.underlying28 rfl ((hB3.keep hw').cellAt 1 (v:=.slice na' (nts.length) nc') rfl))) ?_
   refine D.va (fun w' hw'=>(x_mvI rfl)) ?_
   refine D.va (fun w' hw'=>(x_idx (i:=i) rfl rfl Try.underlying28 sz47 h2.nsl hlt)) ?_
   refine D.va (fun w' hw'=>(x_loadAgg (cs:=[.int .i64 (x.1:Int),.int .i64 (x.2.1:Int),.int .i64 (x.2.2.kind),.string (x.2.2.text)]) rfl Try.underlying47 rfl sz47 rfl (fun j v hv=>(h2.keep hw').nt i x j v hx hv))) ?_
   refine D.va (fun w' hw'=>(x_neqSame rfl rfl (eqNt 9998 _ _ _ _) (by kernel_rfl) (noAddr4 ⟨rfl,rfl,rfl,rfl⟩))) ?_
   refine D.nil (fun w hbw=>?_)
   have hb:=cl_step hb hbw
   have h1:=h1.keep hbw
   have h2:=h2.keep hbw
   have hB2:=hB2.keep hbw
   have hB3:=hB3.keep hbw
   clear hbw
   show W _ _ _ _ _ _
   refine W.condF rfl ?_
   refine W.skip ?_
   refine B.nrm ?_
   show W _ _ _ _ _ _
   refine W.region rfl ?_
   refine L.va (x_mvI rfl) ?_
   refine L.va (x_inc rfl rfl (by omega)) ?_
   refine L.va (x_asI rfl) ?_
   refine L.nil ?_
   refine T.nrm ?_
   exact ⟨_,by omega,⟨i + 1,rfl,rfl,rfl,rfl,(by omega),h1,h2,hB2,hB3,hb⟩⟩
  ·refine W.exit ?_
   repeat (first | refine T.exit ?_ | refine N.exit ?_ | refine B.exitNe (by decide) ?_)
   refine B.exitEq ?_
   show W _ _ _ _ _ _
   refine W.seq ?_
   refine W.seq ?_
   refine W.region rfl ?_
   refine L.va (x_asI rfl) ?_
   refine L.nil ?_
   show W _ _ _ _ _ _
   refine W.block ?_
   refine W.loop (fun k e w=>∃ (i:Nat),k = m - i/\e 2 = .pointer (some ⟨b2,0,none⟩)/\e 3 = .pointer (some ⟨b3,0,none⟩)/\e 7 = .int .i64 (i:Int)/\i <= m/\RunAt w ea na za wa m evs nts ens wts/\RunAt w ea' na' za' wa' m evs nts ens wts/\Blk w b2 #[.slice ea evs.length ec,.slice na nts.length nc,.slice za m zc,.slice wa m wc,.bool st,.int .i64 us] 31/\Blk w b3 #[.slice ea' evs.length ec',.slice na' nts.length nc',.slice za' m zc',.slice wa' m wc',.bool st,.int .i64 us] 31/\Below w0.heap.size w0 w) _ ⟨0,rfl,rfl,rfl,rfl,Nat.zero_le _,h1,h2,hB2,hB3,hb⟩ ?_
   rintro k e w ⟨i,hk,s2,s3,s7,hi,h1,h2,hB2,hB3,hb⟩
   rw [upd_id s2,upd_id s3,upd_id s7]
   clear s2 s3 s7
   refine W.seq ?_
   refine W.seq ?_
   refine W.region rfl ?_
   refine L.va (x_mvI rfl) ?_
   refine L.va (x_field rfl Try.underlying31 rfl sz26 (by decide)) ?_
   refine L.va (x_load rfl Try.underlying26 rfl (hB2.cellAt 2 (v:=.slice za m zc) rfl)) ?_
   refine L.va (x_len rfl Try.underlying26 rfl) ?_
   refine L.va (x_lss rfl rfl) ?_
   refine L.nil ?_
   show W _ _ _ _ _ _
   refine W.condP rfl (fun h96=>?_) (fun h96=>?_)
   ·have hlt:i < m:=by omega
    obtain ⟨x,hx⟩:∃ x,ens[i]? = some x:=⟨_,List.getElem?_eq_getElem (by rw [h1.hz]; exact hlt)⟩
    obtain ⟨y,hy⟩:∃ y,wts[i]? = some y:=⟨_,List.getElem?_eq_getElem (by rw [h1.hw]; exact hlt)⟩
    refine W.skip ?_
    show W _ _ _ _ _ _
    refine W.seq ?_
    refine W.block ?_
    refine W.seq ?_
    refine W.quiet (fun w'=>Below w.heap.size w w') (by kernel_rfl) (by kernel_rfl) ((Below.refl w.heap.size w).drew) ?_
    refine D.va (fun w' hw'=>(x_field rfl Try.underlying31 rfl sz26 (by decide))) ?_
    refine D.va (fun w' hw'=>(x_load rfl Try.underlying26 rfl ((hB2.keep hw').cellAt 2 (v:=.slice za m zc) rfl))) ?_
    refine D.va (fun w' hw'=>(x_mvI rfl)) ?_
    refine D.va (fun w' hw'=>(x_idx (i:=i) rfl rfl Try.underlying26 sz3 h1.zsl hlt)) ?_
    refine D.va (fun w' hw'=>(x_load (v:=.int .i64 x) rfl Try.underlying3 rfl ((h1.keep hw').en i x hx))) ?_
    refine D.va (fun w' hw'=>(x_field rfl Try.underlying31 rfl sz26 (by decide))) ?_
    refine D.va (fun w' hw'=>(x_load rfl Try.underlying26 rfl ((hB3.keep hw').cellAt 2 (v:=.slice za' m zc') rfl))) ?_
    refine D.va (fun w' hw'=>(x_mvI rfl)) ?_
    refine D.va (fun w' hw'=>(x_idx (i:=i) rfl rfl Try.underlying26 sz3 h2.zsl hlt)) ?_
    refine D.va (fun w' hw'=>(x_load (v:=.int .i64 x) rfl Try.underlying3 rfl ((h2.keep hw').en i x hx))) ?_
    refine D.va (fun w' hw'=>(d_bool (r:=false) (decide_eq_false (fun h=>h rfl)) (x_neq (m:=(x:Int)) (k:=(x:Int)) rfl rfl))) ?_
    refine D.va (fun w' hw'=>(x_mvB rfl)) ?_
    refine D.on rfl ?_
    refine D.va (fun w' hw'=>(x_field rfl Try.underlying31 rfl sz29 (by decide))) ?_
    refine D.on rfl ?_
    refine D.va (fun w' hw'=>(x_load rfl Try.underlying29 rfl ((hB2.keep hw').cellAt 3 (v:=.slice wa m wc) rfl))) ?_
    refine D.on rfl ?_
    refine D.va (fun w' hw'=>(x_mvI rfl)) ?_
    refine D.on rfl ?_
    refine D.va (fun w' hw'=>(x_idx (i:=i) rfl rfl Try.underlying29 sz43 h1.wsl hlt)) ?_
    refine D.on rfl ?_
    refine D.va (fun w' hw'=>(x_loadAgg (cs:=[.int .i64 (y.kind),.int .i64 (y.obj),.int .i64 (y.num)]) rfl Try.underlying43 rfl sz43 rfl (fun j v hv=>(h1.keep hw').wt i y j v hy hv))) ?_
    refine D.on rfl ?_
    refine D.va (fun w' hw'=>(x_field rfl Try.underlying31 rfl sz29 (by decide))) ?_
    refine D.on rfl ?_
    refine D.va (fun w' hw'=>(x_load rfl Try.underlying29 rfl ((hB3.keep hw').cellAt 3 (v:=.slice wa' m wc') rfl))) ?_
    refine D.on rfl ?_
    refine D.va (fun w' hw'=>(x_mvI rfl)) ?_
    refine D.on rfl ?_
    refine D.va (fun w' hw'=>(x_idx (i:=i) rfl rfl Try.underlying29 sz43 h2.wsl hlt)) ?_
    refine D.on rfl ?_
    refine D.va (fun w' hw'=>(x_loadAgg (cs:=[.int .i64 (y.kind),.int .i64 (y.obj),.int .i64 (y.num)]) rfl Try.underlying43 rfl sz43 rfl (fun j v hv=>(h2.keep hw').wt i y j v hy hv))) ?_
    refine D.on rfl ?_
    refine D.va (fun w' hw'=>(x_neqSame rfl rfl (eqStp 9998 _ _ _) (by kernel_rfl) (noAddr3 ⟨rfl,rfl,rfl⟩))) ?_
    refine D.va (fun w' hw'=>(x_pickF rfl)) ?_
    refine D.nil (fun w hbw=>?_)
    have hb:=cl_step hb hbw
    have h1:=h1.keep hbw
    have h2:=h2.keep hbw
    have hB2:=hB2.keep hbw
    have hB3:=hB3.keep hbw
    clear hbw
    show W _ _ _ _ _ _
    refine W.condF rfl ?_
    refine W.skip ?_
    refine B.nrm ?_
    show W _ _ _ _ _ _
    refine W.region rfl ?_
    refine L.va (x_mvI rfl) ?_
    refine L.va (x_inc rfl rfl (by omega)) ?_
    refine L.va (x_asI rfl) ?_
    refine L.nil ?_
    refine T.nrm ?_
    exact ⟨_,by omega,⟨i + 1,rfl,rfl,rfl,rfl,(by omega),h1,h2,hB2,hB3,hb⟩⟩
   ·refine W.exit ?_
    repeat (first | refine T.exit ?_ | refine N.exit ?_ | refine B.exitNe (by decide) ?_)
    refine B.exitEq ?_
    show W _ _ _ _ _ _
    refine W.seq ?_
    refine W.region rfl ?_
    refine L.va (x_asB rfl) ?_
    refine L.nil ?_
    show W _ _ _ _ _ _
    refine W.ret ?_
    repeat (first | refine T.ret ?_ | refine B.ret ?_ | refine N.ret ?_)
    refine ends.one (.inr rfl) rfl ?_
    exact ⟨rfl,hb⟩
end
end Go.Vy.Sc
end
/- From one good run of a call that starts goroutines to a statement with a bound on what comes in. Nothing here speaks of a program. -/
section
namespace Go.Vy
open Go Go.Conc
theorem leaving_of_cond {H:Type} {enc:TypeId × Value->H} {a:Assume} {C:Checked} {os:Os} {f:FuncId} {fn:Func} {s:OpenSpec} {k:(H:Type)->List (DataW H)->Bool} (hk:s.cond = some k) {F:Stop.Interp} {conds:List PathCond} {apart fresh handsOn again:Bool}
  (own:ownKnob C.prog.godebug = none) (started:os.Started) (hfn:C.prog.funcs[f]? = some fn)
  (wit:∃ (w:World) (tape:Tape) (i:Input),w.os = os/\(w.forCall tape i).Shaped C.prog/\i.vars = []/\Input.okWide C.prog (w.forCall tape i) .any w.heap.size f i/\s.pre6 enc C.prog fn conds apart (w.forCall tape i).memory i.args/\a.holds C.prog (lone (Frame.enter C.prog f i.args .normal) [] (w.forCall tape i)))
  (runs:∀ (W:World) (base:Nat) (args:Array Value) (ds gs:List (DataW H)) (before:List MemPlace),(∀ (j:Nat) t v,fn.params[j]? = some t->args[j]? = some v->Value.okWide C.prog W .any base t v)->DataW.Whole enc C.prog fn.params.toList s.vars apart W args.toList ds gs before->k H (ds ++ gs) = true ->
   ∃ M last o w' t',runNT C.prog (M + 1) (solo (G (Frame.enter C.prog f args .normal) []) W) #[] = (.ended o w',t')/\runN C.prog M (solo (G (Frame.enter C.prog f args .normal) []) W) = .next last/\step C.prog last = .ended o w'/\Conc.Good C.prog (fun v W'=>(s.at F).post enc C.prog fn apart fresh handsOn again W args v W') last o w' t') :
  ReturnsInLeavingWide a C os f .any (s.pre6 enc C.prog fn conds apart) ((s.at F).post enc C.prog fn apart fresh handsOn again):=by
 refine returnsInLeavingWide_of_good own started wit fun w tape i _ _ _ hok hpre _=>?_
 obtain ⟨_,_,_,fn',hfn',_,_,_,_,hval⟩:=hok
 rw [hfn] at hfn'
 obtain rfl:=Option.some.inj hfn'
 obtain ⟨ds,gs,before,hw,_,hkk⟩:=(OpenSpec.pre_some hk conds apart _ _).1 hpre.1
 obtain ⟨M,last,o,w',t',h1,h2,h3,h4⟩:=runs (w.forCall tape i) w.heap.size i.args ds gs before hval (DataW.Whole.of_heap (w':=w.forCall tape i) (by rfl) hw) hkk
 exact ⟨M,last,o,w',t',h1,h2,h3,h4.mono fun v hp=>ChangeSpec.post_blind hp⟩
theorem holds_leaving_cond {p:Pinned} {s:OpenSpec} {c:OpenClaim} (f:FuncId) (fn:Func) (hn:c.program = p.name) (hs:c.sum = p.sum) (hsp:c.spec = s.name) (hstart:c.start = .entering) (hout:c.outside = []) (hin:c.inits = []) (hun:c.under = none)
  (hi4:c.initsInPlace = []/\c.initsUnfollowed = false/\c.initsRecurse = false/\c.initsNamed = []/\c.initsPassed = []) (hnb:c.noBlocks = false) (hlv:c.leaving = true) (hfo:c.followed = none) (hnar:c.narrowed = s.cond.isSome) (hstill:c.still = false)
  (hfn:p.checked.prog.funcNamed c.func = some f) (hf:p.checked.prog.funcs[f]? = some fn) (closed:joinedFacts p.checked.prog f fn s.bare c = true) (hinst:fn.isInstance p.checked.prog c.origin c.targs) (hwrap:fn.isWrapper p.checked.prog c.wrapper c.mainSum)
  (h:∀ os:Os,os.Started->∀ (H:Type) (enc:TypeId × Value->H),(∀ a b,enc a = enc b->a = b)->∀ F:Stop.Interp,ReturnsInLeavingWide c.assume p.checked os f .any (c.pre enc p.checked.prog fn s) ((s.at F).post enc p.checked.prog fn c.apart c.fresh c.handsOn c.again)):c.holds p s:=by
 simp only [joinedFacts,Bool.and_eq_true,beq_iff_eq,Array.all_eq_true_iff_forall_mem,List.all_eq_true,decide_eq_true_eq] at closed
 obtain ⟨⟨⟨⟨⟨⟨⟨⟨⟨⟨⟨⟨⟨⟨⟨⟨⟨⟨⟨⟨⟨⟨⟨⟨⟨⟨⟨⟨⟨⟨⟨q1,q2⟩,q3⟩,q4⟩,q5⟩,q6⟩,q7⟩,q8⟩,q9⟩,q10⟩,q11⟩,q12⟩,q13⟩,q14⟩,q15⟩,q16⟩,q17⟩,q17b⟩,q18⟩,q19⟩,q20⟩,q21⟩,q22⟩,q23⟩,q23b⟩,q24⟩,q24b⟩,q24c⟩,q25⟩,q26⟩,q27⟩,q28⟩:=closed
 have hq:∀ os:Os,Stop.quiet p.checked.prog os:=fun os k hk=>by rw [q9] at hk; cases hk
 have hex:∃ os:Os,c.world os/\Stop.quiet p.checked.prog os:=⟨_,by unfold OpenClaim.world; rw [hout,hstart]; exact WideRow.started_initial,hq _⟩
 refine ⟨q1,hn,hs,hsp,q2,q3,?_,?_,f,fn,hfn,hf,⟨q4,q19⟩,(fun hb=>by rw [hnb] at hb; cases hb),?_,hinst,hwrap,q6.trans q7.symm,⟨q8.trans q9.symm,?_,q23b⟩,q10,q11,q12,q13,q14,⟨q15,q27,q28⟩,⟨q16,q20⟩,⟨q17,q21,q25,q26⟩,⟨q22,q24b,q24c,q17b⟩,?_,fun n hn'=>varReadable_some (q18 n hn'),hex,[],?_,fun os st _ H enc inj=>?_⟩
 ·unfold OpenClaim.startFits; rw [hstart]; exact q24
 ·unfold OpenClaim.startTold; rw [hstart]; exact ⟨hin,hun,hi4⟩
 ·unfold OpenClaim.namedList; rw [hfo]; exact q5
 ·unfold Program.envWorded; rw [q9]; rfl
 ·rw [hout,hnar]
  cases hsh:c.shortTexts with
  | none=>simp
  | some _=>rw [hsh] at q23; cases q23
 ·unfold OpenClaim.lists; rw [hfo]
 ·have st':os.Started:=by unfold OpenClaim.world at st; rw [hout,hstart] at st; exact st
  rw [OpenClaim.post_not_still hstill]
  unfold OpenClaim.form
  rw [hstart,q6]
  intro F
  have e1:c.okInput = Input.okWide:=by unfold OpenClaim.okInput; rw [hnb]
  have e2:c.atReturn p.checked.prog = leavingAtReturn p.checked.prog:=by unfold OpenClaim.atReturn; rw [hlv]
  have e3:c.always p.checked.prog [] = nothingAlways:=by unfold OpenClaim.always; rw [hfo]
  have e4:s.post enc p.checked.prog fn F c.outside c.apart c.fresh c.handsOn c.again = (s.at F).post enc p.checked.prog fn c.apart c.fresh c.handsOn c.again:=by rw [hout]; rfl
  rw [e1,e2,e3]
  show ReturnsInOpen _ _ _ _ _ _ _ _ (s.post enc p.checked.prog fn F c.outside c.apart c.fresh c.handsOn c.again) _ _
  rw [e4]
  exact h os st' H enc inj F q24
end Go.Vy
end
/- Bodies and scripts that come in, read; what their bulk bounds. -/
section
namespace Go.Vy.Sc
open Go Go.Conc Go.Yc Go.RowKit Go.Proofs Go.Proofs.Ytfmoeemolgjodaa
open Go.Vc Go.Wg Go.ChangeShapes Go.WideShapes Go.ChangeAt Go.Deep
theorem bulk_one {H:Type} (d:DataW H):1 <= Rows.uptoBulk d:=by
 cases d with
 | lit l=>cases l <;> simp [Rows.uptoBulk]
 | _=>simp [Rows.uptoBulk]
theorem bulk_part {H:Type} {d:DataW H}:∀ {l:List (DataW H)},d ∈ l->Rows.uptoBulk d <= Rows.uptoBulkAll l
 | x :: r,h=>by
  simp only [Rows.uptoBulkAll]
  rcases List.mem_cons.1 h with rfl | h
  ·omega
  ·have:=bulk_part h; omega
theorem bulk_len {H:Type}:∀ (l:List (DataW H)),l.length <= Rows.uptoBulkAll l
 | []=>Nat.zero_le _
 | x :: r=>by
  have:=bulk_one x
  have:=bulk_len r
  simp only [Rows.uptoBulkAll,List.length_cons]; omega
theorem bulk_small {H:Type} {l:List (DataW H)} (h:Rows.uptoSmall H l = true):Rows.uptoBulkAll l <= 1048576:=of_decide_eq_true h
section
variable {H:Type} {enc:TypeId × Value->H} {W:World} {base:Nat} {spare:Nat->Bool} {held:Bool} {P:Program}
theorem open_slD {t e:TypeId} {s:Nat} {a:Option Addr} {len cap fuel:Nat} {x:DataW H × List MemPlace} (ht:P.underlying t = some (.slice e)) (hs:P.cellsOf e = s) (h0:0 < s) (h:DataW.trod enc P W base spare held fuel t [.slice a len cap] = some x) :
  SL a len/\(a = none->len = 0/\cap = 0)/\(len <= cap/\len <= Rows.uptoBulk x.1)/\∃ n,∀ i,i < len->∃ cs y,Rows.uptoBulk y.1 <= Rows.uptoBulk x.1/\cs.length = s/\(∀ (j:Nat) v,cs[j]? = some v->W.cell? ⟨ab a,ao a + i * s + j,none⟩ = some v)/\DataW.trod enc P W base spare held n e cs = some y:=by
 rcases open_slice ht h with ⟨hcs,_⟩ | ⟨ad,l,c,m,n,D,Pl,hcs,hb,hl,hm,hmm,hx,hi⟩
 ·simp at hcs
  obtain ⟨rfl,rfl,rfl⟩:=hcs
  exact ⟨SL.zero _,fun _=>⟨rfl,rfl⟩,⟨Nat.le_refl _,Nat.zero_le _⟩,0,fun i hi=>absurd hi (Nat.not_lt_zero _)⟩
 ·simp at hcs
  obtain ⟨rfl,rfl,rfl⟩:=hcs
  have hlm:len <= m:=by rw [hmm]; split <;> omega
  have hbk:Rows.uptoBulkAll ((List.range len).map D) <= Rows.uptoBulk x.1:=by
   rw [hx]
   simp only [Rows.uptoBulk]; omega
  have hE:∀ i,i < len->∃ cs y,Rows.uptoBulk y.1 <= Rows.uptoBulk x.1/\cs.length = s/\(∀ (j:Nat) v,cs[j]? = some v->W.cell? ((ad.add (i * s)).add j) = some v)/\DataW.trod enc P W base spare held n e cs = some y:=fun i hil=>by
   obtain ⟨cs,h1,h2⟩:=hi i (by omega)
   rw [hs] at h1
   obtain ⟨_,h4,h3⟩:=World.cells?_some h1
   refine ⟨cs,_,Nat.le_trans (bulk_part (List.mem_map.2 ⟨i,by simpa using hil,rfl⟩)) hbk,h4,fun j v hj=>?_,h2⟩
   have:j < s:=by rw [<- h4]; exact (List.getElem?_eq_some_iff.1 hj).1
   rw [h3 j this]; exact hj
  have hsp:0 < len->ad = ⟨ad.block,ad.off,none⟩:=fun hl0=>by
   obtain ⟨cs,y,_,h1,h2,_⟩:=hE 0 hl0
   obtain ⟨v,hv⟩:∃ v,cs[0]? = some v:=⟨_,List.getElem?_eq_getElem (by omega)⟩
   have:=h2 0 v hv
   rw [Nat.zero_mul] at this
   have e1:(ad.add 0).add 0 = ad:=by simp [Addr.add]
   rw [e1] at this
   obtain ⟨b,o,sp⟩:=ad
   cases sp with
   | none=>rfl
   | some sp=>unfold World.cell? at this; simp at this; split at this <;> simp at this
  refine ⟨fun hl0=>by rw [hsp hl0]; rfl,(fun h=>by cases h),⟨hl,?_⟩,n,fun i hil=>?_⟩
  ·have:=bulk_len ((List.range len).map D)
   rw [List.length_map,List.length_range] at this
   omega
  ·obtain ⟨cs,y,h5,h1,h2,h3⟩:=hE i hil
   refine ⟨cs,y,h5,h1,fun j v hj=>?_,h3⟩
   have:=h2 j v hj
   rw [hsp (by omega),Addr.add_lit,Addr.add_lit] at this
   exact this
end
section
variable {H:Type} {enc:TypeId × Value->H} {W:World} {base:Nat} {spare:Nat->Bool} {held:Bool}
theorem cellsOp:Try.prog.cellsOf 63 = 10:=by kernel_rfl
theorem cellsBool:Try.prog.cellsOf 4 = 1:=by kernel_rfl
theorem cellsI64:Try.prog.cellsOf 2 = 1:=by kernel_rfl
theorem cellsStr:Try.prog.cellsOf 9 = 1:=by kernel_rfl
theorem cellsOps:Try.prog.cellsOf 64 = 1:=by kernel_rfl
theorem len10 {α:Type}:∀ {cs:List α},cs.length = 10->∃ a b c d e f g h i j,cs = [a,b,c,d,e,f,g,h,i,j]
 | [a,b,c,d,e,f,g,h,i,j],_=>⟨a,b,c,d,e,f,g,h,i,j,rfl⟩
instance:Inhabited OpD:=⟨⟨0,⟨0,0,0⟩,false,0,0,0,0,ByteArray.empty⟩⟩
set_option maxRecDepth 100000 in
theorem op_cells {n:Nat} {cs:List Value} {x:DataW H × List MemPlace} (h:DataW.trod enc Try.prog W base spare held n 63 cs = some x):∃ o:OpD,cs = opC o/\o.text.size <= Rows.uptoBulk x.1:=by
 obtain ⟨xs,m,_,hx0,hl,hxl,hf⟩:=DataW.trod_struct Try.underlying63 h
 rw [cellsOp] at hl
 obtain ⟨v0,v1,v2,v3,v4,v5,v6,v7,v8,v9,rfl⟩:=len10 hl
 have hln:xs.length = 8:=hxl
 have get:∀ j,j < 8->∃ y,xs[j]? = some y/\y ∈ xs:=fun j hj=>⟨xs[j]'(by omega),List.getElem?_eq_getElem (by omega),List.getElem_mem _⟩
 obtain ⟨y0,e0,_⟩:=get 0 (by decide)
 obtain ⟨y1,e1,_⟩:=get 1 (by decide)
 obtain ⟨y2,e2,_⟩:=get 2 (by decide)
 obtain ⟨y3,e3,_⟩:=get 3 (by decide)
 obtain ⟨y4,e4,_⟩:=get 4 (by decide)
 obtain ⟨y5,e5,_⟩:=get 5 (by decide)
 obtain ⟨y6,e6,_⟩:=get 6 (by decide)
 obtain ⟨y7,e7,m7⟩:=get 7 (by decide)
 have h0:DataW.trod enc Try.prog W base spare held m 3 ([v0,v1,v2,v3,v4,v5,v6,v7,v8,v9].drop 0 |>.take (Try.prog.cellsOf 3)) = some y0:=(hf 0 _ rfl).trans e0
 have h1:DataW.trod enc Try.prog W base spare held m 43 ([v0,v1,v2,v3,v4,v5,v6,v7,v8,v9].drop 1 |>.take (Try.prog.cellsOf 43)) = some y1:=(hf 1 _ rfl).trans e1
 have h2:DataW.trod enc Try.prog W base spare held m 4 ([v0,v1,v2,v3,v4,v5,v6,v7,v8,v9].drop 4 |>.take (Try.prog.cellsOf 4)) = some y2:=(hf 2 _ rfl).trans e2
 have h3:DataW.trod enc Try.prog W base spare held m 3 ([v0,v1,v2,v3,v4,v5,v6,v7,v8,v9].drop 5 |>.take (Try.prog.cellsOf 3)) = some y3:=(hf 3 _ rfl).trans e3
 have h4:DataW.trod enc Try.prog W base spare held m 2 ([v0,v1,v2,v3,v4,v5,v6,v7,v8,v9].drop 6 |>.take (Try.prog.cellsOf 2)) = some y4:=(hf 4 _ rfl).trans e4
 have h5:DataW.trod enc Try.prog W base spare held m 3 ([v0,v1,v2,v3,v4,v5,v6,v7,v8,v9].drop 7 |>.take (Try.prog.cellsOf 3)) = some y5:=(hf 5 _ rfl).trans e5
 have h6:DataW.trod enc Try.prog W base spare held m 2 ([v0,v1,v2,v3,v4,v5,v6,v7,v8,v9].drop 8 |>.take (Try.prog.cellsOf 2)) = some y6:=(hf 6 _ rfl).trans e6
 have h7:DataW.trod enc Try.prog W base spare held m 9 ([v0,v1,v2,v3,v4,v5,v6,v7,v8,v9].drop 9 |>.take (Try.prog.cellsOf 9)) = some y7:=(hf 7 _ rfl).trans e7
 rw [cellsInt] at h0 h3 h5
 rw [cellsStep] at h1
 rw [cellsBool] at h2
 rw [cellsI64] at h4 h6
 rw [cellsStr] at h7
 obtain ⟨z0,g0,_⟩:=DataW.trod_int Try.underlying3 h0
 obtain ⟨z1,g1⟩:=step_cells h1
 obtain ⟨z2,g2,_⟩:=DataW.trod_bool Try.underlying4 h2
 obtain ⟨z3,g3,_⟩:=DataW.trod_int Try.underlying3 h3
 obtain ⟨z4,g4,_⟩:=DataW.trod_int Try.underlying2 h4
 obtain ⟨z5,g5,_⟩:=DataW.trod_int Try.underlying3 h5
 obtain ⟨z6,g6,_⟩:=DataW.trod_int Try.underlying2 h6
 obtain ⟨z7,g7,q7,_⟩:=DataW.trod_string Try.underlying9 h7
 refine ⟨⟨z0,z1,z2,z3,z4,z5,z6,z7⟩,?_,?_⟩
 ·have g1:[v1,v2,v3] = [.int .i64 z1.kind,.int .i64 z1.obj,.int .i64 z1.num]:=g1
  simp at g0 g1 g2 g3 g4 g5 g6 g7
  obtain ⟨g1,g1',g1''⟩:=g1
  rw [g0,g1,g1',g1'',g2,g3,g4,g5,g6,g7]; rfl
 ·show z7.size <= _
  have h8:Rows.uptoBulk y7.1 = z7.size + 1:=by
   rw [q7]
   simp [Rows.uptoBulk]
  have h9:Rows.uptoBulk y7.1 <= Rows.uptoBulk x.1:=by
   rw [hx0]
   simp only [Rows.uptoBulk]
   have:=bulk_part (List.mem_map.2 ⟨y7,m7,rfl⟩:y7.1 ∈ xs.map (·.1))
   omega
  omega
theorem ops_at {n len cap:Nat} {a:Option Addr} {x:DataW H × List MemPlace} (h:DataW.trod enc Try.prog W base spare held n 64 [.slice a len cap] = some x) (hx:Rows.uptoBulk x.1 <= 1048576):∃ l:List OpD,l.length = len/\SL a len/\len <= 1048576/\(∀ (k:Nat) (o:OpD),l[k]? = some o->o.text.size <= 1048576/\∀ (j:Nat) (v:Value),(opC o)[j]? = some v->W.cell? ⟨ab a,ao a + k * 10 + j,none⟩ = some v):=by
 obtain ⟨h1,_,⟨_,h2⟩,m,h3⟩:=open_slD Try.underlying64 cellsOp (by decide) h
 obtain ⟨f,hf⟩:=chooseLt (α:=OpD) (n:=len) (p:=fun i o=>o.text.size <= 1048576/\∀ (j:Nat) (v:Value),(opC o)[j]? = some v->W.cell? ⟨ab a,ao a + i * 10 + j,none⟩ = some v) fun i hi=>by
  obtain ⟨cs,y,g0,_,g2,g3⟩:=h3 i hi
  obtain ⟨o,rfl,ho⟩:=op_cells g3
  exact ⟨o,by omega,g2⟩
 refine ⟨(List.range len).map f,by simp,h1,by omega,fun k o hk=>?_⟩
 have hkl:k < len:=by
  have:=(List.getElem?_eq_some_iff.1 hk).1
  simpa using this
 simp [hkl] at hk
 rw [<- hk]
 exact hf k hkl
theorem open_scriptU {a:Option Addr} {len cap:Nat} {d:DataW H} {p:List MemPlace} (h:DataW.Trod enc Try.prog W base spare held 26 (.slice a len cap) d p) (hd:Rows.uptoBulk d <= 1048576):∃ sc,ScAt (veil W) a len cap sc/\len <= 1048576:=by
 obtain ⟨fuel,hf⟩:=h
 obtain ⟨h1,h2,h4,n,h3⟩:=open_slD Try.underlying26 cellsInt Nat.one_pos (show DataW.trod enc Try.prog W base spare held fuel 26 [.slice a len cap] = _ from hf)
 have h4c:=h4.1
 have h4:len <= Rows.uptoBulk d:=h4.2
 obtain ⟨sc,hsc⟩:=chooseLt (α:=Int) (n:=len) (p:=fun i z=>W.cell? ⟨ab a,ao a + i * 1,none⟩ = some (.int .i64 z)) fun i hi=>by
  obtain ⟨cs,y,_,_,g2,g3⟩:=h3 i hi
  obtain ⟨z,rfl,_⟩:=DataW.trod_int Try.underlying3 g3
  exact ⟨z,g2 0 _ rfl⟩
 exact ⟨sc,⟨h1,h2,h4c,fun j hj=>veil_cell (hsc j hj)⟩,by omega⟩
theorem open_bodies {a:Option Addr} {len cap:Nat} {d:DataW H} {p:List MemPlace} (h:DataW.Trod enc Try.prog W base spare held 25 (.slice a len cap) d p) (hd:Rows.uptoBulk d <= 1048576):∃ bo aa cc,BodsAt (veil W) a len bo aa cc/\len <= 1048576/\(a = none->len = 0/\cap = 0):=by
 obtain ⟨fuel,hf⟩:=h
 obtain ⟨h1,h2,h4,n,h3⟩:=open_slD Try.underlying25 cellsOps Nat.one_pos (show DataW.trod enc Try.prog W base spare held fuel 25 [.slice a len cap] = _ from hf)
 have h4c:=h4.1
 have h4:len <= Rows.uptoBulk d:=h4.2
 obtain ⟨F,hF⟩:=chooseLt (α:=List OpD × Option Addr × Nat) (n:=len) (p:=fun i z=>W.cell? ⟨ab a,ao a + i * 1,none⟩ = some (.slice z.2.1 z.1.length z.2.2)/\SL z.2.1 z.1.length/\z.1.length <= 1048576/\∀ (k:Nat) (o:OpD),z.1[k]? = some o->o.text.size <= 1048576/\∀ (j:Nat) (v:Value),(opC o)[j]? = some v->W.cell? ⟨ab z.2.1,ao z.2.1 + k * 10 + j,none⟩ = some v) fun i hi=>by
  obtain ⟨cs,y,g0,g1,g2,g3⟩:=h3 i hi
  have g0:Rows.uptoBulk y.1 <= Rows.uptoBulk d:=g0
  have hcs:∃ a' len' cap',cs = [.slice a' len' cap']:=by
   rcases DataW.trod_slice Try.underlying64 g3 with ⟨h0,_⟩ | ⟨a',len',cap',_,_,_,_,h0,_⟩
   ·exact ⟨_,_,_,h0⟩
   ·exact ⟨_,_,_,h0⟩
  obtain ⟨a',len',cap',rfl⟩:=hcs
  obtain ⟨l,rfl,q1,q2,q3⟩:=ops_at g3 (by omega)
  exact ⟨(l,a',cap'),g2 0 _ rfl,q1,q2,q3⟩
 refine ⟨fun i=>(F i).1,fun i=>(F i).2.1,fun i=>(F i).2.2,⟨h1,fun i hi=>veil_cell (hF i hi).1,fun i hi=>(hF i hi).2.1,fun i hi k o ho j v hv=>veil_cell (((hF i hi).2.2.2 k o ho).2 j v hv),fun i hi=>(hF i hi).2.2.1,fun i hi k o ho=>?_⟩,by omega,h2⟩
 have:=((hF i hi).2.2.2 k o ho).1
 omega
end
end Go.Vy.Sc
end
/- A play, whatever comes in: what it answers. -/
section
namespace Go.Vy.Sc
open Go Go.Conc Go.Yc Go.RowKit Go.Proofs Go.Proofs.Ytfmoeemolgjodaa
open Go.Vc Go.Wg
section
variable {P:Program} [Ctx P] {n:Nat} {Q:Exit->Env->World->Prop} {e:Env} {w:World} {ops:Array Oper} {rest:List Oper} {d:Nat} {ty:TypeId} {ps:String} {af:Array Edge} {T E:TypeId} {x y:Operand}
end
structure PD where
 e:Int
 mm:Nat
 evs:List (Nat × Stp)
 nts:List (Nat × Nat × Nte)
 ens:List Int
 wts:List Stp
 st:Bool
 us:Int
noncomputable def pd (m:Nat) (bo:Nat->List OpD) (sn:Nat) (sc:Nat->Int):PD :=
 if 16 < m then ⟨90,0,[],[],[],[],false,0⟩ else if 262144 < sn then ⟨1,0,[],[],[],[],false,0⟩ else
  ⟨0,m,(PB m bo sc sn).evs,(PB m bo sc sn).nts,(List.range m).map fun j=>endOf (PB m bo sc sn).ft[j]?,(List.range m).map fun j=>wtOf (pSys m bo) j (PB m bo sc sn).ft[j]?,(PB m bo sc sn).ft.any (·.isLeft) && ((pSys m bo).rds (PB m bo sc sn)).isEmpty,((PB m bo sc sn).used:Int)⟩
structure Off (b:Nat) (ea na za wa:Option Addr) (d:PD):Prop where
 ev:d.evs ≠ []->ab ea ≠ b
 nt:d.nts ≠ []->ab na ≠ b
 en:0 < d.mm->ab za ≠ b
 wt:0 < d.mm->ab wa ≠ b
structure Lo (B:Nat) (ea na za wa:Option Addr) (d:PD):Prop where
 ev:d.evs ≠ []->B <= ab ea
 nt:d.nts ≠ []->B <= ab na
 en:0 < d.mm->B <= ab za
 wt:0 < d.mm->B <= ab wa
abbrev RunD (w:World) (ea na za wa:Option Addr) (d:PD):Prop:=RunAt w ea na za wa d.mm d.evs d.nts d.ens d.wts
section
variable {w w':World} {ea na za wa:Option Addr} {d:PD} {b:Nat}
theorem ne_nil_of_get {α:Type} {l:List α} {i:Nat} {x:α} (h:l[i]? = some x):l ≠ []:=fun e=>by rw [e] at h; cases h
theorem RunD.lt (h:RunD w ea na za wa d):(d.evs ≠ []->ab ea < w.heap.size)/\(d.nts ≠ []->ab na < w.heap.size)/\(0 < d.mm->ab za < w.heap.size)/\(0 < d.mm->ab wa < w.heap.size):=by
 refine ⟨fun hn=>?_,fun hn=>?_,fun hn=>?_,fun hn=>?_⟩
 ·obtain ⟨x,l,hx⟩:=List.exists_cons_of_ne_nil hn
  exact cell_lt (h.ev 0 x 0 _ (by rw [hx]; rfl) rfl)
 ·obtain ⟨x,l,hx⟩:=List.exists_cons_of_ne_nil hn
  exact cell_lt (h.nt 0 x 0 _ (by rw [hx]; rfl) rfl)
 ·obtain ⟨x,hx⟩:∃ x,d.ens[0]? = some x:=⟨_,List.getElem?_eq_getElem (by rw [h.hz]; exact hn)⟩
  exact cell_lt (h.en 0 x hx)
 ·obtain ⟨x,hx⟩:∃ x,d.wts[0]? = some x:=⟨_,List.getElem?_eq_getElem (by rw [h.hw]; exact hn)⟩
  exact cell_lt (h.wt 0 x 0 _ hx rfl)
theorem RunD.off (h:RunD w ea na za wa d) (hb:w.heap.size <= b):Off b ea na za wa d:=by
 obtain ⟨h1,h2,h3,h4⟩:=RunD.lt h
 exact ⟨fun z=>by have:=h1 z; omega,fun z=>by have:=h2 z; omega,fun z=>by have:=h3 z; omega,fun z=>by have:=h4 z; omega⟩
theorem cell_other {a:Addr} {v:Value} (h:w.cell? a = some v) (hg:w.grownBy w' (some b)) (hn:a.block ≠ b):w'.cell? a = some v:=by
 rw [(cell_of_heap (u:=w) (u':=w') (a:=a) (hg.block _ (cell_lt h) (by simpa using hn))).1]; exact h
theorem RunD.otherB (h:RunD w ea na za wa d) (hg:w.grownBy w' (some b)) (ho:Off b ea na za wa d):RunD w' ea na za wa d :=
 ⟨h.esl,h.nsl,h.zsl,h.wsl,h.hz,h.hw,fun i x k v h1 h2=>cell_other (h.ev i x k v h1 h2) hg (ho.ev (ne_nil_of_get h1)),fun i x k v h1 h2=>cell_other (h.nt i x k v h1 h2) hg (ho.nt (ne_nil_of_get h1)),
  fun i x h1=>cell_other (h.en i x h1) hg (ho.en (by have:=(List.getElem?_eq_some_iff.1 h1).1; rw [h.hz] at this; omega)),fun i x k v h1 h2=>cell_other (h.wt i x k v h1 h2) hg (ho.wt (by have:=(List.getElem?_eq_some_iff.1 h1).1; rw [h.hw] at this; omega))⟩
end
theorem RunAt.otherB {w w':World} {ea na za wa:Option Addr} {d:PD} {b:Nat} (h:RunAt w ea na za wa d.mm d.evs d.nts d.ens d.wts) (hg:w.grownBy w' (some b)) (ho:Off b ea na za wa d):RunAt w' ea na za wa d.mm d.evs d.nts d.ens d.wts:=RunD.otherB h hg ho
theorem PlayM.lists {B m sn:Nat} {bo:Nat->List OpD} {sc:Nat->Int} {w:World} {R:Rn} (h:PlayM B m bo sn sc w R):R.ends = (List.range m).map (fun j=>endOf (PB m bo sc sn).ft[j]?)/\R.wts = (List.range m).map (fun j=>wtOf (pSys m bo) j (PB m bo sc sn).ft[j]?):=by
 have h1:=h.mem.lend
 have h2:=h.mem.lwts
 rw [h.hm] at h1 h2
 constructor
 ·apply List.ext_getElem?
  intro j
  rcases Nat.lt_or_ge j m with hj | hj
  ·rw [h.ends j hj]; simp [hj]
  ·rw [List.getElem?_eq_none (by omega),List.getElem?_eq_none (by simpa using hj)]
 ·apply List.ext_getElem?
  intro j
  rcases Nat.lt_or_ge j m with hj | hj
  ·rw [h.wts j hj]; simp [hj]
  ·rw [List.getElem?_eq_none (by omega),List.getElem?_eq_none (by simpa using hj)]
theorem runAt_nil (w:World):RunAt w none none none none 0 [] [] [] [] :=
 ⟨SL.zero _,SL.zero _,SL.zero _,SL.zero _,rfl,rfl,fun i x k v h=>by simp at h,fun i x k v h=>by simp at h,fun i x h=>by simp at h,fun i x k v h=>by simp at h⟩
theorem playd_c {lb:Nat} {pl:Nat->Plug} {m bc sn scp:Nat} {bo:Nat->List OpD} {sc:Nat->Int} {ba sa:Option Addr} {aa:Nat->Option Addr} {cc:Nat->Nat} (w0:World) (hBo:BodsAt w0 ba m bo aa cc) (hSc:ScAt w0 sa sn scp sc) (hm:m <= 1048576) (hsn:sn <= 1048576) :
  @C Try.prog (loneCtx lb pl) 14 #[.slice ba m bc,.slice sa sn scp] w0 fun v w=>∃ ea na za wa ec nc zc wc sb,v = .tuple #[.agg #[.slice ea (pd m bo sn sc).evs.length ec,.slice na (pd m bo sn sc).nts.length nc,.slice za (pd m bo sn sc).mm zc,.slice wa (pd m bo sn sc).mm wc,.bool (pd m bo sn sc).st,.int .i64 (pd m bo sn sc).us],.pointer (some ⟨sb,0,none⟩),.int .i64 (pd m bo sn sc).e] /\
   RunD w ea na za wa (pd m bo sn sc)/\Lo w0.heap.size ea na za wa (pd m bo sn sc)/\Own w w0.heap.size 45 4 ea (pd m bo sn sc).evs.length ec ((pd m bo sn sc).evs.flatMap evC)/\Own w w0.heap.size 47 4 na (pd m bo sn sc).nts.length nc ((pd m bo sn sc).nts.flatMap ntC)/\Below w0.heap.size w0 w /\
   w0.heap.size <= sb/\Off sb ea na za wa (pd m bo sn sc)/\∃ ov,BlkF w sb #[.int .i64 (if 16 < m\/262144 < sn then 0 else (PB m bo sc sn).s 0),.int .i64 (if 16 < m\/262144 < sn then 0 else (PB m bo sc sn).s 1),.int .i64 (if 16 < m\/262144 < sn then 0 else (PB m bo sc sn).s 2),.int .i64 (if 16 < m\/262144 < sn then 0 else (PB m bo sc sn).s 3),.bool false,.bool ov] 39 (0,0):=by
 by_cases h1:16 < m
 ·have hp:pd m bo sn sc = ⟨90,0,[],[],[],[],false,0⟩:=if_pos h1
  rw [hp]
  refine @Calls.mono _ (loneCtx lb pl) _ _ _ _ _ (play_big_c w0 hBo hSc (by omega) (by omega) h1) fun e w he=>?_
  cases e with
  | panicked ch=>exact he.elim
  | outgrown=>exact he.elim
  | returned v =>
   obtain ⟨sb,rfl,hS,hle,hb⟩:=he
   refine ⟨none,none,none,none,0,0,0,0,sb,rfl,runAt_nil w,⟨fun z=>absurd rfl z,fun z=>absurd rfl z,fun z=>absurd z (Nat.not_lt_zero _),fun z=>absurd z (Nat.not_lt_zero _)⟩,Own.nil _ _ _ _,Own.nil _ _ _ _,hb,hle,⟨fun z=>absurd rfl z,fun z=>absurd rfl z,fun z=>absurd z (Nat.not_lt_zero _),fun z=>absurd z (Nat.not_lt_zero _)⟩,true,?_⟩
   rw [if_pos (.inl h1),if_pos (.inl h1),if_pos (.inl h1),if_pos (.inl h1)]; exact hS
 by_cases h2:262144 < sn
 ·have hp:pd m bo sn sc = ⟨1,0,[],[],[],[],false,0⟩:=(if_neg h1).trans (if_pos h2)
  rw [hp]
  refine @Calls.mono _ (loneCtx lb pl) _ _ _ _ _ (play_long_c w0 hBo hSc (by omega) (by omega) h2) fun e w he=>?_
  cases e with
  | panicked ch=>exact he.elim
  | outgrown=>exact he.elim
  | returned v =>
   obtain ⟨sb,rfl,hS,hle,hb⟩:=he
   refine ⟨none,none,none,none,0,0,0,0,sb,rfl,runAt_nil w,⟨fun z=>absurd rfl z,fun z=>absurd rfl z,fun z=>absurd z (Nat.not_lt_zero _),fun z=>absurd z (Nat.not_lt_zero _)⟩,Own.nil _ _ _ _,Own.nil _ _ _ _,hb,hle,⟨fun z=>absurd rfl z,fun z=>absurd rfl z,fun z=>absurd z (Nat.not_lt_zero _),fun z=>absurd z (Nat.not_lt_zero _)⟩,true,?_⟩
   rw [if_pos (.inr h2),if_pos (.inr h2),if_pos (.inr h2),if_pos (.inr h2)]; exact hS
 have hno:¬ (16 < m\/262144 < sn):=fun z=>z.elim h1 h2
 have hp:pd m bo sn sc = ⟨0,m,(PB m bo sc sn).evs,(PB m bo sc sn).nts,(List.range m).map fun j=>endOf (PB m bo sc sn).ft[j]?,(List.range m).map fun j=>wtOf (pSys m bo) j (PB m bo sc sn).ft[j]?,(PB m bo sc sn).ft.any (·.isLeft) && ((pSys m bo).rds (PB m bo sc sn)).isEmpty,((PB m bo sc sn).used:Int)⟩:=(if_neg h1).trans (if_neg h2)
 rw [hp,if_neg hno,if_neg hno,if_neg hno,if_neg hno]
 refine @Calls.mono _ (loneCtx lb pl) _ _ _ _ _ (play_c w0 hBo hSc (by omega) (by omega)) fun e w he=>?_
 cases e with
 | panicked ch=>exact he.elim
 | outgrown=>exact he.elim
 | returned v =>
  obtain ⟨R,sb,rfl,hP,hns,hS,hle,hb⟩:=he
  obtain ⟨l1,l2⟩:=hP.lists
  have hr:=hP.mem.runAt
  rw [l1,l2,hP.evs,hP.nts,hP.hm] at hr
  have hE:=hP.mem.evs
  have hN:=hP.mem.nts
  rw [hP.evs] at hE
  rw [hP.nts] at hN
  have fE:(PB m bo sc sn).evs ≠ []->R.fp (ab R.ea):=fun z=>by
   have:=hE.some_of (List.length_pos_iff.2 z)
   exact .inr (.inr (.inr (.inr (.inl ⟨this,rfl⟩))))
  have fN:(PB m bo sc sn).nts ≠ []->R.fp (ab R.na):=fun z=>by
   have:=hN.some_of (List.length_pos_iff.2 z)
   exact .inr (.inr (.inr (.inr (.inr (.inl ⟨this,rfl⟩)))))
  refine ⟨R.ea,R.na,some ⟨R.eb,0,none⟩,some ⟨R.wb,0,none⟩,R.ec,R.nc,m,m,sb,?_,hr,⟨fun z=>hP.fp _ (fE z),fun z=>hP.fp _ (fN z),fun _=>hP.fp _ (.inr (.inl rfl)),fun _=>hP.fp _ (.inr (.inr (.inl rfl)))⟩,hE,hN,hb,hle,
   ⟨fun z e=>hns (e ▸ fE z),fun z e=>hns (e ▸ fN z),fun _ e=>hns (e ▸ (.inr (.inl rfl):R.fp R.eb)),fun _ e=>hns (e ▸ (.inr (.inr (.inl rfl)):R.fp R.wb))⟩,true,hS⟩
  show Value.tuple #[.agg #[.slice R.ea R.evs.length R.ec,.slice R.na R.nts.length R.nc,.slice (some ⟨R.eb,0,none⟩) R.m R.m,.slice (some ⟨R.wb,0,none⟩) R.m R.m,.bool R.stuck,.int .i64 (R.used:Int)],.pointer (some ⟨sb,0,none⟩),.int .i64 0] = _
  rw [hP.hm,hP.evs,hP.nts,hP.stuck,hP.used]
end Go.Vy.Sc
end
/- Laws of plays under one script, and under several. -/
section
namespace Go.Vy.Sc
open Go Go.Conc Go.Yc Go.RowKit Go.Proofs Go.Proofs.Ytfmoeemolgjodaa
open Go.Vc Go.Wg
theorem evs_len16 (m:Nat) (bo:Nat->List OpD) (sc:Nat->Int) (n:Nat):(PB m bo sc n).evs.length <= n:=(Sys.evs_pn (Y:=pSys m bo) sc n).1
theorem pd_len {m sn:Nat} {bo:Nat->List OpD} (hl:∀ i,i < m->(bo i).length <= 1048576) (hm:m <= 1048576) (hsn:sn <= 1048576) (sc:Nat->Int):(pd m bo sn sc).evs.length <= 1000000000000/\(pd m bo sn sc).nts.length <= 1000000000000/\(pd m bo sn sc).mm <= 1000000000000:=by
 unfold pd
 split
 ·exact ⟨Nat.zero_le _,Nat.zero_le _,Nat.zero_le _⟩
 split
 ·exact ⟨Nat.zero_le _,Nat.zero_le _,Nat.zero_le _⟩
 ·have h1:=evs_len16 m bo sc sn
  have h2:=nts_len (m:=m) (bo:=bo) (by omega) hl sc sn
  exact ⟨Nat.le_trans h1 (by omega),Nat.le_trans h2 (by omega),by show m <= _; omega⟩
end Go.Vy.Sc
end
/- A beginning of a script. -/
section
namespace Go.Vy.Sc
open Go Go.Conc Go.Yc Go.RowKit Go.Proofs Go.Proofs.Ytfmoeemolgjodaa
open Go.Vc Go.Wg
section
variable {Y:Sys}
theorem Sys.mem_rdy {p:PR Y} {i:Nat} (h:i ∈ Y.rds p):∃ l,p.ft[i]? = some (.inl l):=by
 unfold Sys.rds at h
 rw [List.mem_filter] at h
 have hr:=h.2
 unfold Sys.isRdy at hr
 cases hf:p.ft[i]? with
 | none=>rw [hf] at hr; cases hr
 | some f =>
  cases f with
  | inl l=>exact ⟨l,rfl⟩
  | inr x=>rw [hf] at hr; cases hr
theorem Sys.step_some {p:PR Y} {e:Int} (h:Y.rds p ≠ []):∃ i l,p.ft[i]? = some (.inl l)/\(Y.rds p)[pickIx e (Y.rds p).length]? = some i/\Y.step p e = Y.turn p i:=by
 have hl:pickIx e (Y.rds p).length < (Y.rds p).length:=pickIx_lt e (List.length_pos_iff.2 h)
 obtain ⟨i,hi⟩:∃ i,(Y.rds p)[pickIx e (Y.rds p).length]? = some i:=⟨_,List.getElem?_eq_getElem hl⟩
 obtain ⟨l,hf⟩:=Sys.mem_rdy (List.mem_of_getElem? hi)
 refine ⟨i,l,hf,hi,?_⟩
 unfold Sys.step; rw [hi]
theorem Sys.evs_begs:∀ n,(Y.begs n).evs = []/\(Y.begs n).used = 0
 | 0=>⟨rfl,rfl⟩
 | n + 1=>by
  show (Y.bgn (Y.begs n)).evs = []/\(Y.bgn (Y.begs n)).used = 0
  unfold Sys.bgn
  split <;> exact Sys.evs_begs n
end
section
variable {m sn k:Nat} {bo:Nat->List OpD} {sc:Nat->Int}
end
end Go.Vy.Sc
end
/- The document's machine: what it holds in memory. -/
section
namespace Go.Vy.Sc
open Go Go.Conc Go.Yc Go.RowKit Go.Proofs Go.Proofs.Ytfmoeemolgjodaa
open Go.Vc Go.Wg
structure Mc where
 pb:Nat
 jb:Nat
 eb:Nat
 wb:Nat
 pls:List Nat
 jms:List Nat
 c:Cells
 ea:Option Addr
 ec:Nat
 evs:List (Nat × Stp)
 na:Option Addr
 nc:Nat
 nts:List (Nat × Nat × Nte)
 ends:List Int
 wts:List Stp
 stuck:Bool
 used:Nat
def Mc.cells (m:Nat) (ba:Option Addr) (bc:Nat) (M:Mc):Array Value:=#[.slice ba m bc,.slice (some ⟨M.pb,0,none⟩) m m,.slice (some ⟨M.jb,0,none⟩) m m,.int .i64 (M.c 0),.int .i64 (M.c 1),.int .i64 (M.c 2),.int .i64 (M.c 3),.slice M.ea M.evs.length M.ec,.slice M.na M.nts.length M.nc,.slice (some ⟨M.eb,0,none⟩) m m,.slice (some ⟨M.wb,0,none⟩) m m,.bool M.stuck,.int .i64 (M.used:Int)]
def plV (k:Nat):Value:=.int .i64 (k:Int)
def KT (T:TypeId):Prop:=T = 68\/T = 3\/T = 43\/T = 45\/T = 47
instance (T:TypeId):Decidable (KT T):=by unfold KT; infer_instance
def KeepT (w w':World):Prop:=∀ q cs T f,BlkF w q cs T f->¬ KT T->BlkF w' q cs T f
theorem KeepT.refl (w:World):KeepT w w:=fun _ _ _ _ h _=>h
theorem KeepT.trans {w w' w2:World} (h:KeepT w w') (h2:KeepT w' w2):KeepT w w2:=fun q cs T f hB hT=>h2 q cs T f (h q cs T f hB hT) hT
theorem KeepT.below {wS w w':World} (h:KeepT wS w) (hb:Below w.heap.size w w'):KeepT wS w':=fun q cs T f hB hT=>(h q cs T f hB hT).keep hb
theorem KeepT.grown {wS w w1:World} {row:Option Nat} (h:KeepT wS w) (hg:w.grownBy w1 row) (hr:∀ r,row = some r->∃ cs T f,BlkF w r cs T f/\KT T):KeepT wS w1:=fun q cs T f hB hT=>(h q cs T f hB hT).grown hg fun e=>by
 obtain ⟨cs',T',f',h',hk⟩:=hr q e.symm
 by_cases hTT:T = T'
 ·exact hT (hTT ▸ hk)
 ·exact BlkF.ne (h q cs T f hB hT) h' hTT rfl
theorem KeepT.one {wS w w1:World} {b:Nat} {cs:Array Value} {T:TypeId} {f:Nat × Nat} (h:KeepT wS w) (hg:w.grownBy w1 (some b)) (hB:BlkF w b cs T f) (hk:KT T):KeepT wS w1:=h.grown hg fun r e=>by cases e; exact ⟨_,_,_,hB,hk⟩
theorem KeepT.own {wS w w1:World} {B:Nat} {E:TypeId} {s n c:Nat} {a:Option Addr} {xs:List Value} (h:KeepT wS w) (hO:Own w B E s a n c xs) (hg:w.grownBy w1 (Value.ownBlock (.slice a n c))) (hk:KT E):KeepT wS w1:=h.grown hg fun r e=>by
 obtain ⟨ha,rfl⟩:=ownB_eq e
 obtain ⟨cur,hB,_⟩:=hO.row ha
 exact ⟨_,_,_,(hB:BlkF w (ab a) cur E (0,0)),hk⟩
structure Rf (w0 wS:World) (b m:Nat) (ba:Option Addr) (bc:Nat) (w:World) (M:Mc):Prop where
 run:BlkF w b (M.cells m ba bc) 68 (0,0)
 evs:Own w w0.heap.size 45 4 M.ea M.evs.length M.ec (M.evs.flatMap evC)
 nts:Own w w0.heap.size 47 4 M.na M.nts.length M.nc (M.nts.flatMap ntC)
 pls:BlkF w M.pb (M.pls.map plV).toArray 3 (0,0)
 jms:BlkF w M.jb (M.jms.map plV).toArray 3 (0,0)
 ends:BlkF w M.eb (M.ends.map (Value.int .i64)).toArray 3 (0,0)
 wts:BlkF w M.wb (M.wts.flatMap spC).toArray 43 (0,0)
 lp:M.pls.length = m
 lj:M.jms.length = m
 le:M.ends.length = m
 lw:M.wts.length = m
 pj:M.pb ≠ M.jb
 pe:M.pb ≠ M.eb
 je:M.jb ≠ M.eb
 bb:w0.heap.size <= b
 bp:w0.heap.size <= M.pb
 bj:w0.heap.size <= M.jb
 be:w0.heap.size <= M.eb
 bw:w0.heap.size <= M.wb
 hb:Below w0.heap.size w0 w
 kp:KeepT wS w
theorem low_grown {w0 w w1:World} {row:Option Nat} (hb:Below w0.heap.size w0 w) (hg:w.grownBy w1 row) (hle:∀ r,row = some r->w0.heap.size <= r):Below w0.heap.size w0 w1 :=
 hb.trans ⟨hg.os,hg.tape,hg.output,hg.size,fun k hk=>hg.block k (Nat.lt_of_lt_of_le hk hb.size) fun e=>by have:=hle k e.symm; omega⟩
theorem low_one {w0 w w1:World} {b:Nat} (hb:Below w0.heap.size w0 w) (hg:w.grownBy w1 (some b)) (hle:w0.heap.size <= b):Below w0.heap.size w0 w1:=low_grown hb hg fun r e=>by cases e; exact hle
theorem low_own {w0 w w1:World} {E:TypeId} {s n c:Nat} {a:Option Addr} {xs:List Value} (hb:Below w0.heap.size w0 w) (h:Own w w0.heap.size E s a n c xs) (hg:w.grownBy w1 (Value.ownBlock (.slice a n c))):Below w0.heap.size w0 w1:=low_grown hb hg fun r e=>by
 obtain ⟨ha,rfl⟩:=ownB_eq e
 obtain ⟨cur,_,hle,_⟩:=h.row ha
 exact hle
section
variable {w0 wS w w':World} {b m bc:Nat} {ba:Option Addr} {M:Mc}
theorem Rf.keep (h:Rf w0 wS b m ba bc w M) (hb:Below w.heap.size w w'):Rf w0 wS b m ba bc w' M :=
 ⟨h.run.keep hb,Own.congr h.evs fun ha=>hb.block _ (h.evs.lt ha),Own.congr h.nts fun ha=>hb.block _ (h.nts.lt ha),h.pls.keep hb,h.jms.keep hb,h.ends.keep hb,h.wts.keep hb,h.lp,h.lj,h.le,h.lw,h.pj,h.pe,h.je,h.bb,h.bp,h.bj,h.be,h.bw,
  h.hb.trans ⟨hb.os,hb.tape,hb.output,hb.size,fun k hk=>hb.block k (Nat.lt_of_lt_of_le hk h.hb.size)⟩,h.kp.below hb⟩
theorem Rf.base (h:Rf w0 wS b m ba bc w M):Rf w0 w b m ba bc w M:={ h with kp:=KeepT.refl w }
theorem Rf.over {wT:World} (h:Rf w0 wS b m ba bc w M) (hk:KeepT wT wS):Rf w0 wT b m ba bc w M:={ h with kp:=hk.trans h.kp }
theorem Rf.setM (h:Rf w0 wS b m ba bc w M) (c:Cells) (st:Bool) (us:Nat):Rf w0 wS b m ba bc (setBlkF w b (Mc.cells m ba bc { M with c:=c,stuck:=st,used:=us }) 68 (0,0)) { M with c:=c,stuck:=st,used:=us }:=by
 have hg:=setBlkF_grown w b (Mc.cells m ba bc { M with c:=c,stuck:=st,used:=us }) 68 (0,0)
 have hr:∀ T:TypeId,T ≠ 68->∀ r,some b = some r->∃ cs' T' f',BlkF w r cs' T' f'/\T ≠ T':=fun T hT r e=>by cases e; exact ⟨_,_,_,h.run,hT⟩
 exact ⟨setBlkF_self h.run _ _ _,apartO h.evs hg (hr _ (by decide)),apartO h.nts hg (hr _ (by decide)),apartF h.pls hg (hr _ (by decide)),apartF h.jms hg (hr _ (by decide)),apartF h.ends hg (hr _ (by decide)),apartF h.wts hg (hr _ (by decide)),h.lp,h.lj,h.le,h.lw,h.pj,h.pe,h.je,h.bb,h.bp,h.bj,h.be,h.bw,low_one h.hb hg h.bb,h.kp.one hg h.run (by decide)⟩
theorem Rf.addEv (h:Rf w0 wS b m ba bc w M) {w1:World} {a':Option Addr} {c':Nat} (x:Nat × Stp) (hg:w.grownBy w1 (Value.ownBlock (.slice M.ea M.evs.length M.ec))) (hO:Own w1 w0.heap.size 45 4 a' (M.evs.length + 1) c' (M.evs.flatMap evC ++ evC x)) :
  Rf w0 wS b m ba bc (setBlkF w1 b (Mc.cells m ba bc { M with ea:=a',ec:=c',evs:=M.evs ++ [x] }) 68 (0,0)) { M with ea:=a',ec:=c',evs:=M.evs ++ [x] }:=by
 have hrun:=apartF h.run hg (row_ne h.evs (by decide))
 have hg2:=setBlkF_grown w1 b (Mc.cells m ba bc { M with ea:=a',ec:=c',evs:=M.evs ++ [x] }) 68 (0,0)
 have hr:∀ T:TypeId,T ≠ 68->∀ r,some b = some r->∃ cs' T' f',BlkF w1 r cs' T' f'/\T ≠ T':=fun T hT r e=>by cases e; exact ⟨_,_,_,hrun,hT⟩
 refine ⟨setBlkF_self hrun _ _ _,?_,apartO (apartO h.nts hg (row_ne h.evs (by decide))) hg2 (hr _ (by decide)),apartF (apartF h.pls hg (row_ne h.evs (by decide))) hg2 (hr _ (by decide)),apartF (apartF h.jms hg (row_ne h.evs (by decide))) hg2 (hr _ (by decide)),apartF (apartF h.ends hg (row_ne h.evs (by decide))) hg2 (hr _ (by decide)),apartF (apartF h.wts hg (row_ne h.evs (by decide))) hg2 (hr _ (by decide)),h.lp,h.lj,h.le,h.lw,h.pj,h.pe,h.je,h.bb,h.bp,h.bj,h.be,h.bw,low_one (low_own h.hb h.evs hg) hg2 h.bb,(h.kp.own h.evs hg (by decide)).one hg2 hrun (by decide)⟩
 have:=apartO hO hg2 (hr _ (by decide))
 simpa using this
theorem Rf.addNt (h:Rf w0 wS b m ba bc w M) {w1:World} {a':Option Addr} {c':Nat} (x:Nat × Nat × Nte) (hg:w.grownBy w1 (Value.ownBlock (.slice M.na M.nts.length M.nc))) (hO:Own w1 w0.heap.size 47 4 a' (M.nts.length + 1) c' (M.nts.flatMap ntC ++ ntC x)) :
  Rf w0 wS b m ba bc (setBlkF w1 b (Mc.cells m ba bc { M with na:=a',nc:=c',nts:=M.nts ++ [x] }) 68 (0,0)) { M with na:=a',nc:=c',nts:=M.nts ++ [x] }:=by
 have hrun:=apartF h.run hg (row_ne h.nts (by decide))
 have hg2:=setBlkF_grown w1 b (Mc.cells m ba bc { M with na:=a',nc:=c',nts:=M.nts ++ [x] }) 68 (0,0)
 have hr:∀ T:TypeId,T ≠ 68->∀ r,some b = some r->∃ cs' T' f',BlkF w1 r cs' T' f'/\T ≠ T':=fun T hT r e=>by cases e; exact ⟨_,_,_,hrun,hT⟩
 refine ⟨setBlkF_self hrun _ _ _,apartO (apartO h.evs hg (row_ne h.nts (by decide))) hg2 (hr _ (by decide)),?_,apartF (apartF h.pls hg (row_ne h.nts (by decide))) hg2 (hr _ (by decide)),apartF (apartF h.jms hg (row_ne h.nts (by decide))) hg2 (hr _ (by decide)),apartF (apartF h.ends hg (row_ne h.nts (by decide))) hg2 (hr _ (by decide)),apartF (apartF h.wts hg (row_ne h.nts (by decide))) hg2 (hr _ (by decide)),h.lp,h.lj,h.le,h.lw,h.pj,h.pe,h.je,h.bb,h.bp,h.bj,h.be,h.bw,low_one (low_own h.hb h.nts hg) hg2 h.bb,(h.kp.own h.nts hg (by decide)).one hg2 hrun (by decide)⟩
 have:=apartO hO hg2 (hr _ (by decide))
 simpa using this
theorem Rf.setP (h:Rf w0 wS b m ba bc w M) (i v:Nat):Rf w0 wS b m ba bc (setBlkF w M.pb ((M.pls.set i v).map plV).toArray 3 (0,0)) { M with pls:=M.pls.set i v }:=by
 have hg:=setBlkF_grown w M.pb ((M.pls.set i v).map plV).toArray 3 (0,0)
 have hr:∀ T:TypeId,T ≠ 3->∀ r,some M.pb = some r->∃ cs' T' f',BlkF w r cs' T' f'/\T ≠ T':=fun T hT r e=>by cases e; exact ⟨_,_,_,h.pls,hT⟩
 exact ⟨apartF h.run hg (hr _ (by decide)),apartO h.evs hg (hr _ (by decide)),apartO h.nts hg (hr _ (by decide)),setBlkF_self h.pls _ _ _,h.jms.other hg h.pj.symm,h.ends.other hg h.pe.symm,apartF h.wts hg (hr _ (by decide)),by simpa using h.lp,h.lj,h.le,h.lw,h.pj,h.pe,h.je,h.bb,h.bp,h.bj,h.be,h.bw,low_one h.hb hg h.bp,h.kp.one hg h.pls (by decide)⟩
theorem Rf.setJ (h:Rf w0 wS b m ba bc w M) (i v:Nat):Rf w0 wS b m ba bc (setBlkF w M.jb ((M.jms.set i v).map plV).toArray 3 (0,0)) { M with jms:=M.jms.set i v }:=by
 have hg:=setBlkF_grown w M.jb ((M.jms.set i v).map plV).toArray 3 (0,0)
 have hr:∀ T:TypeId,T ≠ 3->∀ r,some M.jb = some r->∃ cs' T' f',BlkF w r cs' T' f'/\T ≠ T':=fun T hT r e=>by cases e; exact ⟨_,_,_,h.jms,hT⟩
 exact ⟨apartF h.run hg (hr _ (by decide)),apartO h.evs hg (hr _ (by decide)),apartO h.nts hg (hr _ (by decide)),h.pls.other hg h.pj,setBlkF_self h.jms _ _ _,h.ends.other hg h.je.symm,apartF h.wts hg (hr _ (by decide)),h.lp,by simpa using h.lj,h.le,h.lw,h.pj,h.pe,h.je,h.bb,h.bp,h.bj,h.be,h.bw,low_one h.hb hg h.bj,h.kp.one hg h.jms (by decide)⟩
theorem Rf.setE (h:Rf w0 wS b m ba bc w M) (i:Nat) (v:Int):Rf w0 wS b m ba bc (setBlkF w M.eb ((M.ends.set i v).map (Value.int .i64)).toArray 3 (0,0)) { M with ends:=M.ends.set i v }:=by
 have hg:=setBlkF_grown w M.eb ((M.ends.set i v).map (Value.int .i64)).toArray 3 (0,0)
 have hr:∀ T:TypeId,T ≠ 3->∀ r,some M.eb = some r->∃ cs' T' f',BlkF w r cs' T' f'/\T ≠ T':=fun T hT r e=>by cases e; exact ⟨_,_,_,h.ends,hT⟩
 exact ⟨apartF h.run hg (hr _ (by decide)),apartO h.evs hg (hr _ (by decide)),apartO h.nts hg (hr _ (by decide)),h.pls.other hg h.pe,h.jms.other hg h.je,setBlkF_self h.ends _ _ _,apartF h.wts hg (hr _ (by decide)),h.lp,h.lj,by simpa using h.le,h.lw,h.pj,h.pe,h.je,h.bb,h.bp,h.bj,h.be,h.bw,low_one h.hb hg h.be,h.kp.one hg h.ends (by decide)⟩
theorem Rf.setW (h:Rf w0 wS b m ba bc w M) (i:Nat) (v:Stp):Rf w0 wS b m ba bc (setBlkF w M.wb ((M.wts.set i v).flatMap spC).toArray 43 (0,0)) { M with wts:=M.wts.set i v }:=by
 have hg:=setBlkF_grown w M.wb ((M.wts.set i v).flatMap spC).toArray 43 (0,0)
 have hr:∀ T:TypeId,T ≠ 43->∀ r,some M.wb = some r->∃ cs' T' f',BlkF w r cs' T' f'/\T ≠ T':=fun T hT r e=>by cases e; exact ⟨_,_,_,h.wts,hT⟩
 exact ⟨apartF h.run hg (hr _ (by decide)),apartO h.evs hg (hr _ (by decide)),apartO h.nts hg (hr _ (by decide)),apartF h.pls hg (hr _ (by decide)),apartF h.jms hg (hr _ (by decide)),apartF h.ends hg (hr _ (by decide)),setBlkF_self h.wts _ _ _,h.lp,h.lj,h.le,by simpa using h.lw,h.pj,h.pe,h.je,h.bb,h.bp,h.bj,h.be,h.bw,low_one h.hb hg h.bw,h.kp.one hg h.wts (by decide)⟩
theorem Rf.pl_at (h:Rf w0 wS b m ba bc w M) {k i:Nat} (hk:M.pls[k]? = some i):w.cell? ⟨M.pb,0 + k * 1,none⟩ = some (.int .i64 (i:Int)):=by
 rw [Nat.zero_add,Nat.mul_one]
 exact h.pls.cellAt k (by simp [hk,plV])
theorem Rf.jm_at (h:Rf w0 wS b m ba bc w M) {k i:Nat} (hk:M.jms[k]? = some i):w.cell? ⟨M.jb,0 + k * 1,none⟩ = some (.int .i64 (i:Int)):=by
 rw [Nat.zero_add,Nat.mul_one]
 exact h.jms.cellAt k (by simp [hk,plV])
theorem Rf.en_at (h:Rf w0 wS b m ba bc w M) {k:Nat} {z:Int} (hk:M.ends[k]? = some z):w.cell? ⟨M.eb,0 + k * 1,none⟩ = some (.int .i64 z):=by
 rw [Nat.zero_add,Nat.mul_one]
 exact h.ends.cellAt k (by simp [hk])
theorem mc_at {m bc:Nat} {ba:Option Addr} {M:Mc} (hB:BlkF w b (M.cells m ba bc) 68 (0,0)) {k:Nat} (hk:k < 4):w.cell? ⟨b,3 + k * 1,none⟩ = some (.int .i64 (M.c k)):=by
 refine hB.cellAt (3 + k * 1) ?_
 match k,hk with
 | 0,_=>rfl
 | 1,_=>rfl
 | 2,_=>rfl
 | 3,_=>rfl
theorem mc_add {m bc:Nat} {ba:Option Addr} {M:Mc} {k:Nat} (h:k < 4) (x:Int):setRow (M.cells m ba bc) (3 + k * 1) [.int .i64 (IntKind.i64.wrap (M.c k + x))] = Mc.cells m ba bc { M with c:=addC M.c k x }:=by
 match k,h with
 | 0,_=>simp [setRow,Mc.cells,addC]
 | 1,_=>simp [setRow,Mc.cells,addC]
 | 2,_=>simp [setRow,Mc.cells,addC]
 | 3,_=>simp [setRow,Mc.cells,addC]
end
section
variable [Ctx Try.prog] {n:Nat} {Q:Exit->Env->World->Prop} {e:Env} {ops:Array Oper} {rest:List Oper} {ty:TypeId} {ps:String} {af:Array Edge} {T:TypeId} {x y:Operand}
variable {w0 wS w:World} {b m bc:Nat} {ba:Option Addr} {M:Mc}
theorem L.rM {o s:Nat} {v:Value} {vs:List Value} (h:Rf w0 wS b m ba bc w M) (c:Cells) (st:Bool) (us:Nat) (hx:ev e x = .pointer (some ⟨b,o,none⟩)) (hy:ev e y = v) (hvs:v.cells.toList = vs) (hs:(Try.prog.info? T).map (·.size) = some s) (hl:vs.length = s) (h1:vs.all Value.oneCell' = true) (ho:o + s <= 13) (hcs:setRow (M.cells m ba bc) o vs = Mc.cells m ba bc { M with c:=c,stuck:=st,used:=us })
  (k:∀ w1,Rf w0 wS b m ba bc w1 { M with c:=c,stuck:=st,used:=us }->w.grownBy w1 (some b)->L Try.prog n ops Q rest e w1):L Try.prog n ops Q (⟨none,.store T x y,ty,ps,af,none⟩ :: rest) e w :=
 L.putF _ hx hy hvs hs hl h1 h.run ho (.inr (Nat.zero_le _)) hcs (k _ (h.setM c st us) (setBlkF_grown _ _ _ _ _))
theorem L.rEv {w1:World} {a':Option Addr} {c':Nat} (h:Rf w0 wS b m ba bc w M) (x':Nat × Stp) (hgr:w.grownBy w1 (Value.ownBlock (.slice M.ea M.evs.length M.ec))) (hO:Own w1 w0.heap.size 45 4 a' (M.evs.length + 1) c' (M.evs.flatMap evC ++ evC x'))
  (hx:ev e x = .pointer (some ⟨b,7,none⟩)) (hy:ev e y = .slice a' (M.evs.length + 1) c') (hs:(Try.prog.info? T).map (·.size) = some 1)
  (k:∀ w2,Rf w0 wS b m ba bc w2 { M with ea:=a',ec:=c',evs:=M.evs ++ [x'] }->w1.grownBy w2 (some b)->L Try.prog n ops Q rest e w2):L Try.prog n ops Q (⟨none,.store T x y,ty,ps,af,none⟩ :: rest) e w1 :=
 L.putF (Mc.cells m ba bc { M with ea:=a',ec:=c',evs:=M.evs ++ [x'] }) hx hy rfl hs rfl rfl (apartF h.run hgr (row_ne h.evs (by decide))) (show 7 + 1 <= 13 by omega) (.inr (Nat.zero_le _)) (by simp [Mc.cells,setRow,Value.cells]) (k _ (h.addEv x' hgr hO) (setBlkF_grown _ _ _ _ _))
theorem L.rNt {w1:World} {a':Option Addr} {c':Nat} (h:Rf w0 wS b m ba bc w M) (x':Nat × Nat × Nte) (hgr:w.grownBy w1 (Value.ownBlock (.slice M.na M.nts.length M.nc))) (hO:Own w1 w0.heap.size 47 4 a' (M.nts.length + 1) c' (M.nts.flatMap ntC ++ ntC x'))
  (hx:ev e x = .pointer (some ⟨b,8,none⟩)) (hy:ev e y = .slice a' (M.nts.length + 1) c') (hs:(Try.prog.info? T).map (·.size) = some 1)
  (k:∀ w2,Rf w0 wS b m ba bc w2 { M with na:=a',nc:=c',nts:=M.nts ++ [x'] }->w1.grownBy w2 (some b)->L Try.prog n ops Q rest e w2):L Try.prog n ops Q (⟨none,.store T x y,ty,ps,af,none⟩ :: rest) e w1 :=
 L.putF (Mc.cells m ba bc { M with na:=a',nc:=c',nts:=M.nts ++ [x'] }) hx hy rfl hs rfl rfl (apartF h.run hgr (row_ne h.nts (by decide))) (show 8 + 1 <= 13 by omega) (.inr (Nat.zero_le _)) (by simp [Mc.cells,setRow,Value.cells]) (k _ (h.addNt x' hgr hO) (setBlkF_grown _ _ _ _ _))
theorem L.rP {i z:Nat} (h:Rf w0 wS b m ba bc w M) (hi:i < m) (hx:ev e x = .pointer (some ⟨M.pb,0 + i * 1,none⟩)) (hy:ev e y = .int .i64 (z:Int)) (hs:(Try.prog.info? T).map (·.size) = some 1)
  (k:∀ w1,Rf w0 wS b m ba bc w1 { M with pls:=M.pls.set i z }->w.grownBy w1 (some M.pb)->L Try.prog n ops Q rest e w1):L Try.prog n ops Q (⟨none,.store T x y,ty,ps,af,none⟩ :: rest) e w:=by
 refine L.putF _ hx hy rfl hs rfl rfl h.pls (by rw [Nat.zero_add,Nat.mul_one]; simp [h.lp]; omega) (.inr (by simp)) ?_ (k _ (h.setP i z) (setBlkF_grown _ _ _ _ _))
 rw [Nat.zero_add,Nat.mul_one]
 apply Array.toList_inj.1
 simp [setRow,Value.cells,List.map_set,plV]
theorem L.rJ {i z:Nat} (h:Rf w0 wS b m ba bc w M) (hi:i < m) (hx:ev e x = .pointer (some ⟨M.jb,0 + i * 1,none⟩)) (hy:ev e y = .int .i64 (z:Int)) (hs:(Try.prog.info? T).map (·.size) = some 1)
  (k:∀ w1,Rf w0 wS b m ba bc w1 { M with jms:=M.jms.set i z }->w.grownBy w1 (some M.jb)->L Try.prog n ops Q rest e w1):L Try.prog n ops Q (⟨none,.store T x y,ty,ps,af,none⟩ :: rest) e w:=by
 refine L.putF _ hx hy rfl hs rfl rfl h.jms (by rw [Nat.zero_add,Nat.mul_one]; simp [h.lj]; omega) (.inr (by simp)) ?_ (k _ (h.setJ i z) (setBlkF_grown _ _ _ _ _))
 rw [Nat.zero_add,Nat.mul_one]
 apply Array.toList_inj.1
 simp [setRow,Value.cells,List.map_set,plV]
theorem L.rE {i:Nat} {z:Int} (h:Rf w0 wS b m ba bc w M) (hi:i < m) (hx:ev e x = .pointer (some ⟨M.eb,0 + i * 1,none⟩)) (hy:ev e y = .int .i64 z) (hs:(Try.prog.info? T).map (·.size) = some 1)
  (k:∀ w1,Rf w0 wS b m ba bc w1 { M with ends:=M.ends.set i z }->w.grownBy w1 (some M.eb)->L Try.prog n ops Q rest e w1):L Try.prog n ops Q (⟨none,.store T x y,ty,ps,af,none⟩ :: rest) e w:=by
 refine L.putF _ hx hy rfl hs rfl rfl h.ends (by rw [Nat.zero_add,Nat.mul_one]; simp [h.le]; omega) (.inr (by simp)) ?_ (k _ (h.setE i z) (setBlkF_grown _ _ _ _ _))
 rw [Nat.zero_add,Nat.mul_one]
 apply Array.toList_inj.1
 simp [setRow,Value.cells,List.map_set]
theorem L.rW {i:Nat} {z:Stp} (h:Rf w0 wS b m ba bc w M) (hi:i < m) (hx:ev e x = .pointer (some ⟨M.wb,0 + i * 3,none⟩)) (hy:ev e y = stepV z) (hs:(Try.prog.info? T).map (·.size) = some 3)
  (k:∀ w1,Rf w0 wS b m ba bc w1 { M with wts:=M.wts.set i z }->w.grownBy w1 (some M.wb)->L Try.prog n ops Q rest e w1):L Try.prog n ops Q (⟨none,.store T x y,ty,ps,af,none⟩ :: rest) e w:=by
 have hln:(M.wts.flatMap spC).length = m * 3:=by
  rw [<- h.lw]
  generalize M.wts = l
  induction l with
  | nil=>rfl
  | cons a l ih=>simp only [List.flatMap_cons,List.length_append,ih,List.length_cons]; simp [spC]; omega
 refine L.putF (vs:=spC z) _ hx hy rfl hs rfl rfl h.wts (by simp only [List.size_toArray,hln]; omega) (.inr (by simp)) ?_ (k _ (h.setW i z) (setBlkF_grown _ _ _ _ _))
 rw [Nat.zero_add]
 exact stC_cells M.wts i z (by rw [h.lw]; exact hi)
end
def nxt (ops:List OpD) (o:OpD) (i j:Nat) (c:Cells):Nat × Nat:=if jumps ops o j c = true then (o.cell.toNat,j + 1) else (i + 1,j)
structure Gs (bo:Nat->List OpD) (M0:Mc) (k:Nat) (o:Out' Cells (Nat × Nat)) (M:Mc) (i j:Nat):Prop where
 stuck:M.stuck = M0.stuck
 used:M.used = M0.used
 evs:M.evs = M0.evs
 ends:M.ends = M0.ends
 wts:M.wts = M0.wts
 pls:∀ q,q ≠ k->M.pls[q]? = M0.pls[q]?
 jms:∀ q,q ≠ k->M.jms[q]? = M0.jms[q]?
 pk:M.pls[k]? = some i
 jk:M.jms[k]? = some j
 fate:o.fate = (opsGo (bo k) i j M.c).fate
 s:o.s = (opsGo (bo k) i j M.c).s
 nts:M0.nts ++ tell k M0.evs.length o.nts = M.nts ++ tell k M0.evs.length (opsGo (bo k) i j M.c).nts
structure Went (bo:Nat->List OpD) (M0:Mc) (k:Nat) (o:Out' Cells (Nat × Nat)) (M:Mc):Prop where
 stuck:M.stuck = M0.stuck
 used:M.used = M0.used
 evs:M.evs = M0.evs
 c:M.c = o.s
 nts:M.nts = M0.nts ++ tell k M0.evs.length o.nts
 ends:∀ q,q ≠ k->M.ends[q]? = M0.ends[q]?
 ek:M.ends[k]? = some (endOf (some o.fate))
 wts:∀ q,q ≠ k->M.wts[q]? = M0.wts[q]?
 wk:M.wts[k]? = some (wtOf (pSys (k + 1) bo) k (some o.fate))
 pls:∀ q,q ≠ k->M.pls[q]? = M0.pls[q]?
 jms:∀ q,q ≠ k->M.jms[q]? = M0.jms[q]?
 pk:∀ l,o.fate = .inl l->M.pls[k]? = some l.1/\M.jms[k]? = some l.2/\l.1 < (bo k).length
section
variable {bo:Nat->List OpD} {M0 M:Mc} {k i j:Nat} {o:Out' Cells (Nat × Nat)} {x:OpD}
theorem Gs.start (h1:M0.pls[k]? = some i) (h2:M0.jms[k]? = some j):Gs bo M0 k (opsGo (bo k) i j M0.c) M0 i j:=⟨rfl,rfl,rfl,rfl,rfl,fun _ _=>rfl,fun _ _=>rfl,h1,h2,rfl,rfl,rfl⟩
theorem set_same {α:Type} {l:List α} {k:Nat} {a:α} (v:α) (h:l[k]? = some a):(l.set k v)[k]? = some v:=by
 obtain ⟨h1,_⟩:=List.getElem?_eq_some_iff.1 h
 rw [List.getElem?_set_self h1]
theorem set_ne {α:Type} {l:List α} {k q:Nat} (v:α) (h:q ≠ k):(l.set k v)[q]? = l[q]?:=List.getElem?_set_ne (Ne.symm h)
theorem Gs.on (h:Gs bo M0 k o M i j) {c':Cells} {i' j':Nat} {nn:List Nte} (a:Option Addr) (n:Nat) {l:List (Nat × Nat × Nte)} (hl:l = M.nts ++ tell k M.evs.length nn)
  (hf:(opsGo (bo k) i j M.c).fate = (opsGo (bo k) i' j' c').fate) (hs:(opsGo (bo k) i j M.c).s = (opsGo (bo k) i' j' c').s) (hn:(opsGo (bo k) i j M.c).nts = nn ++ (opsGo (bo k) i' j' c').nts) :
  Gs bo M0 k o { M with c:=c',na:=a,nc:=n,nts:=l,jms:=M.jms.set k j',pls:=M.pls.set k i' } i' j':=by
 refine ⟨h.stuck,h.used,h.evs,h.ends,h.wts,fun q hq=>(set_ne _ hq).trans (h.pls q hq),fun q hq=>(set_ne _ hq).trans (h.jms q hq),set_same _ h.pk,set_same _ h.jk,h.fate.trans hf,h.s.trans hs,?_⟩
 rw [h.nts,hn,hl,h.evs]
 simp [tell]
theorem nxt_no (hk:x.kind ≠ 6) (ops:List OpD) (c:Cells):nxt ops x i j c = (i + 1,j):=by
 unfold nxt
 rw [if_neg (by simp [jumps,hk])]
theorem Gs.note (h:Gs bo M0 k o M i j) (hx:(bo k)[i]? = some x) (hk:x.kind = 2) (a:Option Addr) (n:Nat):Gs bo M0 k o { M with na:=a,nc:=n,nts:=M.nts ++ [(M.evs.length,k,⟨x.step.kind,x.text ++ digB (M.c (at4 x.cell))⟩)],jms:=M.jms.set k (nxt (bo k) x i j M.c).2,pls:=M.pls.set k (nxt (bo k) x i j M.c).1 } (nxt (bo k) x i j M.c).1 (nxt (bo k) x i j M.c).2:=by
 rw [nxt_no (by omega)]
 have he:=opsGo_at (j:=j) (c:=M.c) hx
 rw [if_neg (by omega),if_pos hk] at he
 exact h.on (nn:=[⟨x.step.kind,x.text ++ digB (M.c (at4 x.cell))⟩]) a n rfl (by rw [he]; rfl) (by rw [he]; rfl) (by rw [he]; rfl)
theorem Gs.add (h:Gs bo M0 k o M i j) (hx:(bo k)[i]? = some x) (hk:x.kind = 3):Gs bo M0 k o { M with c:=addC M.c (at4 x.to) x.by_,jms:=M.jms.set k (nxt (bo k) x i j (addC M.c (at4 x.to) x.by_)).2,pls:=M.pls.set k (nxt (bo k) x i j (addC M.c (at4 x.to) x.by_)).1 } (nxt (bo k) x i j (addC M.c (at4 x.to) x.by_)).1 (nxt (bo k) x i j (addC M.c (at4 x.to) x.by_)).2:=by
 rw [nxt_no (by omega)]
 have he:=opsGo_at (j:=j) (c:=M.c) hx
 rw [if_neg (by omega),if_neg (by omega),if_pos hk] at he
 exact h.on (nn:=[]) M.na M.nc (by simp [tell]) (by rw [he]) (by rw [he]) (by rw [he]; rfl)
theorem Gs.next (h:Gs bo M0 k o M i j) (hx:(bo k)[i]? = some x) (h1:x.kind ≠ 1) (h2:x.kind ≠ 2) (h3:x.kind ≠ 3) (h4:x.kind ≠ 4) (h5:x.kind ≠ 5):Gs bo M0 k o { M with jms:=M.jms.set k (nxt (bo k) x i j M.c).2,pls:=M.pls.set k (nxt (bo k) x i j M.c).1 } (nxt (bo k) x i j M.c).1 (nxt (bo k) x i j M.c).2:=by
 have he:=opsGo_at (j:=j) (c:=M.c) hx
 rw [if_neg h1,if_neg h2,if_neg h3,if_neg h4,if_neg h5] at he
 unfold nxt
 by_cases hj:jumps (bo k) x j M.c = true
 ·rw [if_pos hj] at he ⊢
  exact h.on (nn:=[]) M.na M.nc (by simp [tell]) (by rw [he]) (by rw [he]) (by rw [he]; rfl)
 ·rw [if_neg hj] at he ⊢
  exact h.on (nn:=[]) M.na M.nc (by simp [tell]) (by rw [he]) (by rw [he]) (by rw [he]; rfl)
theorem nxt_lt (hx:(bo k)[i]? = some x) (c:Cells) (hj:j <= 50):meas (bo k) (nxt (bo k) x i j c).1 (nxt (bo k) x i j c).2 < meas (bo k) i j/\(nxt (bo k) x i j c).2 <= 50/\(nxt (bo k) x i j c).1 <= (bo k).length:=by
 have hi:=(List.getElem?_eq_some_iff.1 hx).1
 unfold nxt
 split
 ·rename_i h
  have h':((((x.kind = 6/\c (at4 x.to) < x.least)/\j < 50)/\0 <= x.cell)/\x.cell < (bo k).length):=by simpa [jumps] using h
  obtain ⟨⟨⟨⟨_,_⟩,h3⟩,h4⟩,h5⟩:=h'
  exact ⟨meas_jump h3,by show j + 1 <= 50; omega,by show x.cell.toNat <= _; omega⟩
 ·exact ⟨meas_next hi,hj,hi⟩
theorem Gs.done (h:Gs bo M0 k o M i j) (he0:M0.ends[k]? = some 0) (hw0:M0.wts[k]? = some sp0) {z:Nat} (hz:opsGo (bo k) i j M.c = ⟨M.c,[],.inr z⟩):Went bo M0 k o { M with ends:=M.ends.set k (z:Int) }:=by
 have hf:=h.fate; have hs:=h.s; have hn:=h.nts
 rw [hz] at hf hs hn
 refine ⟨h.stuck,h.used,h.evs,hs.symm,?_,fun q hq=>?_,?_,fun q hq=>by rw [h.wts],?_,h.pls,h.jms,fun l hl=>by rw [hf] at hl; cases hl⟩
 ·rw [hn]; simp [tell]
 ·rw [h.ends]; exact set_ne _ hq
 ·rw [hf]
  have:M.ends[k]? = some 0:=by rw [h.ends]; exact he0
  exact set_same _ this
 ·rw [hf]
  show M.wts[k]? = _
  rw [h.wts]; exact hw0
theorem Gs.wait (h:Gs bo M0 k o M i j) (he0:M0.ends[k]? = some 0) (hw0:M0.wts[k]? = some sp0) (hx:(bo k)[i]? = some x) (hk:x.kind = 1):Went bo M0 k o { M with wts:=M.wts.set k x.step }:=by
 have hz:=opsGo_at (j:=j) (c:=M.c) hx
 rw [if_pos hk] at hz
 have hf:=h.fate; have hs:=h.s; have hn:=h.nts
 rw [hz] at hf hs hn
 refine ⟨h.stuck,h.used,h.evs,hs.symm,?_,fun q hq=>by rw [h.ends],?_,fun q hq=>?_,?_,h.pls,h.jms,fun l hl=>?_⟩
 ·rw [hn]; simp [tell]
 ·rw [hf]
  show M.ends[k]? = _
  rw [h.ends]; exact he0
 ·rw [h.wts]; exact set_ne _ hq
 ·rw [hf]
  have:M.wts[k]? = some sp0:=by rw [h.wts]; exact hw0
  show (M.wts.set k x.step)[k]? = some ((((bo k)[i]?).map (·.step)).getD sp0)
  rw [set_same _ this,hx]; rfl
 ·rw [hf] at hl
  cases hl
  exact ⟨h.pk,h.jk,(List.getElem?_eq_some_iff.1 hx).1⟩
theorem Gs.room (h:Gs bo M0 k o M i j) {B:Nat} (hB:(M0.nts ++ tell k M0.evs.length o.nts).length <= B):M.nts.length + (opsGo (bo k) i j M.c).nts.length <= B:=by
 rw [h.nts] at hB
 simpa [tell] using hB
end
end Go.Vy.Sc
end
