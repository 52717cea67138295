/- What the claim leans on, part 4. Goroutine 0 lets a client take its step. -/
import Derived.Test.YtfmoeemolgjodaaK3
import Derived.Conc.SmallLaws
set_option linter.unusedVariables false
section
namespace Go.Vy.Sc
open Go Go.Conc Go.Yc Go.RowKit Go.Proofs Go.Proofs.Ytfmoeemolgjodaa
open Go.Vc Go.Wg
attribute [local irreducible] KK
def PickMe (cs:List Frame) (me:Goroutine):Prop:=∀ Z,@Ctx.Zs Try.prog (baseCtx Try.prog true) Z->∀ (u:World) (v:Value),(∀ fr,fr.fn = 37->Leaves Try.prog fr u (.returned (.tuple #[]))->Z (G fr cs) u)->Z (Go.Conc.served me v) u
theorem buV_0 (x0:Int) (x1:Int) (x2:Int) (x3:Int):Try.prog.built 45 [(0,.int .i64 x0),(1,.agg #[.int .i64 x1,.int .i64 x2,.int .i64 x3])] = some #[.int .i64 x0,.int .i64 x1,.int .i64 x2,.int .i64 x3]:=by kernel_rfl
set_option maxRecDepth 20000 in
theorem pick_fin {Post:Value->World->Prop} {X:Gh} {g:Nat} {S:Nat->Prop} {B:Nat} {w0:World} {Bs:Nat} {R:Rn} {w:World} {i:Nat} {c:CB} {cs:List Frame} {z1:Value} {me1:Goroutine}
  (hg:Rg S B w0 w Bs R) (hBs:Bs <= w.heap.size) (hc:R.cl[i]? = some c) (hrm:R.evs.length <= 1000000) (hpm:c.picks <= 1000000) (hum:R.used <= 1000000)
  (hg0:g ≠ 0) (hX0:X.seat g = some ⟨c.rc,z1,me1⟩) (hdn:X.dn = 0) (hst:X.stay 0 = [(⟨R.rb,7,none⟩,.chan (some R.yb))]) (hsh:X.chs R.yb/\∀ i s2,i ≠ g->X.seat i = some s2->s2.ch ≠ R.yb)
  (hcl:∀ w' a n me0,Rg S B w0 w' Bs { R with ea:=a,ec:=n,evs:=R.evs ++ [(i,c.sp)],used:=R.used + 1,cl:=R.cl.set i { c with picks:=c.picks + 1,wt:=false } }->PickMe cs me0->Fin Try.prog Post (X.pass 0 g (some ⟨R.yb,.int .i64 0,me0⟩)) g (Go.Conc.served me1 (.bool true)) w') :
  Fin Try.prog Post X 0 (G (Frame.enter Try.prog 37 #[.pointer (some ⟨R.rb,0,none⟩),.pointer (some ⟨c.cb,0,none⟩)] .normal) cs) w:=by
 letI:Ctx Try.prog:=baseCtx Try.prog true
 rw [enter_at _ Try.func37 rfl]
 refine (?_:ZA (Fin Try.prog Post X 0) 52 (base 37) cs (Vc.argE #[.pointer (some ⟨R.rb,0,none⟩),.pointer (some ⟨c.cb,0,none⟩)]) [.code (Try.f37.body.getD .skip)] w) _ (rep_args _ _ rfl)
 have hZ:Ctx.Zs Try.prog (Fin Try.prog Post X 0):=fin_zs
 have hb:=bkn 37
 refine ZA.seq hZ ?_
 refine ZA.W hZ hb ?_
 have hR:=hg.m.run
 have hC:=(hg.m.blk i c hc)
 refine W.fl 17 [15,16] [0,1,2,3,4,5,6,7,8,9,10,11,12,13,14,15,16] (fun w'=>BlkF w' R.rb #[.slice (R.ca) (R.cl.length) (R.cc),.slice (R.ea) (R.evs.length) (R.ec),.slice (R.na) (R.nts.length) (R.nc),.slice (some ⟨R.eb,0,none⟩) (R.m) (R.m),.slice (some ⟨R.wb,0,none⟩) (R.m) (R.m),.bool (R.stuck),.int .i64 (R.used:Int),.chan (some R.yb)] 91 (7,8)/\BlkF w' c.cb #[.int .i64 (i:Int),.pointer (some ⟨R.rb,0,none⟩),.chan (some c.rc),.int .i64 (c.sp.kind),.int .i64 (c.sp.obj),.int .i64 (c.sp.num),c.rf,c.df,.int .i64 (c.picks:Int),.bool (c.wt),.bool (c.st)] 76 (0,3)) (by kernel_rfl) (by kernel_rfl) (by kernel_rfl) (by kernel_rfl) (by kernel_rfl) (⟨hR.keep (Below.refl w.heap.size w).drew,hC.keep (Below.refl w.heap.size w).drew⟩) ?_
 have hdr:Below w.heap.size w w.drew:=(Below.refl w.heap.size w).drew
 have hBs:=Nat.le_trans hBs hdr.size
 have hg:=hg.keep hdr
 have hR:=hR.keep hdr
 have hC:=hC.keep hdr
 clear hdr
 generalize w.drew = w at *
 refine F.va rfl rfl (fun w' hw'=>(x_mvP rfl)) ?_
 refine F.va rfl rfl (fun w' hw'=>(x_mvP rfl)) ?_
 refine F.va rfl rfl (fun w' hw'=>(x_nilCheck rfl)) ?_
 refine F.va rfl rfl (fun w' hw'=>(x_field rfl Try.underlying91 rfl sz31 (by decide))) ?_
 refine F.va rfl rfl (fun w' hw'=>(x_field rfl Try.underlying31 rfl sz27 (by decide))) ?_
 refine F.va rfl rfl (fun w' hw'=>(x_load rfl Try.underlying27 rfl (hw'.1.cellAt 1 (v:=.slice (R.ea) (R.evs.length) (R.ec)) rfl))) ?_
 refine F.va rfl rfl (fun w' hw'=>(x_mvP rfl)) ?_
 refine F.va rfl rfl (fun w' hw'=>(x_nilCheck rfl)) ?_
 refine F.va rfl rfl (fun w' hw'=>(x_field rfl Try.underlying76 rfl sz3 (by decide))) ?_
 refine F.va rfl rfl (fun w' hw'=>(x_load rfl Try.underlying3 rfl (hw'.2.cellAt 0 (v:=.int .i64 (i:Int)) rfl))) ?_
 refine F.va rfl rfl (fun w' hw'=>(x_mvP rfl)) ?_
 refine F.va rfl rfl (fun w' hw'=>(x_nilCheck rfl)) ?_
 refine F.va rfl rfl (fun w' hw'=>(x_field rfl Try.underlying76 rfl sz43 (by decide))) ?_
 refine F.va rfl rfl (fun w' hw'=>(x_loadAgg (cs:=[.int .i64 (c.sp.kind),.int .i64 (c.sp.obj),.int .i64 (c.sp.num)]) rfl Try.underlying43 rfl sz43 rfl (hw'.2.aggAt rfl))) ?_
 refine F.va rfl rfl (fun w' hw'=>(x_build (parts:=[(0,.tmp 13),(1,.tmp 17)]) rfl (buV_0 (i:Int) (c.sp.kind) (c.sp.obj) (c.sp.num)))) ?_
 refine F.doo rfl rfl ?_
 refine L.build1 (cs:=#[.int .i64 (i:Int),.int .i64 (c.sp.kind),.int .i64 (c.sp.obj),.int .i64 (c.sp.num)]) rfl rfl Try.underlying27 sz45 rfl ⟨_,zr45⟩ (by decide) (fun w b19 F19=>?_)
 have hBs:=Nat.le_trans hBs F19.below.size
 have hg:=hg.keep F19.below
 have hR:=hR.keep F19.below
 have hC:=hC.keep F19.below
 have hB19:=F19.blk
 refine L.nil ⟨rfl,⟨hR,hC⟩,?_⟩
 refine F.doo rfl rfl ?_
 refine L.appendW (B:=Bs) (m:=1) rfl rfl Try.underlying27 in45 rfl (by decide) hg.m.evs (news:=[.int .i64 (i:Int),.int .i64 (c.sp.kind),.int .i64 (c.sp.obj),.int .i64 (c.sp.num)]) rfl (fun j u hj=>by
  rw [Addr.add_lit]
  match j,hj with
  | 0,hj=>cases hj; exact hB19.cellAt 0 rfl
  | 1,hj=>cases hj; exact hB19.cellAt 1 rfl
  | 2,hj=>cases hj; exact hB19.cellAt 2 rfl
  | 3,hj=>cases hj; exact hB19.cellAt 3 rfl) (fun u hu=>by simp only [List.mem_cons,List.not_mem_nil,or_false] at hu; rcases hu with rfl | rfl | rfl | rfl <;> rfl) (by omega) (by omega) hBs (fun a20 c20 w2 hO hgr hli=>?_)
 have hR:=apartF hR hgr (row_ne hg.m.evs (by decide))
 have hC:=apartF hC hgr (row_ne hg.m.evs (by decide))
 refine L.nil ⟨rfl,⟨hR,hC⟩,?_⟩
 refine F.nil ?_
 show L _ _ _ _ _ _ _
 refine L.va (x_nilCheck rfl) ?_
 refine L.va (x_field rfl Try.underlying91 rfl sz31 (by decide)) ?_
 refine L.va (x_field rfl Try.underlying31 rfl sz27 (by decide)) ?_
 refine L.stEv (o:=0) (v:=undef) hg (i,c.sp) hgr hO hli rfl rfl sz27 (fun w hg=>?_)
 try clear hgr
 refine L.nil ?_
 try clear hR
 try clear hC
 refine T.nrm ?_
 show ZA _ _ _ _ _ _ _
 refine ZA.seq hZ ?_
 refine ZA.W hZ hb ?_
 refine W.region rfl ?_
 refine L.va (x_mvP rfl) ?_
 refine L.va (x_nilCheck rfl) ?_
 refine L.va (x_field rfl Try.underlying91 rfl sz31 (by decide)) ?_
 refine L.va (x_field rfl Try.underlying31 rfl sz3 (by decide)) ?_
 refine L.va (x_load rfl Try.underlying3 rfl (hg.m.run.cellAt 6 (v:=.int .i64 (R.used:Int)) rfl)) ?_
 refine L.va (x_inc rfl rfl (by omega)) ?_
 refine L.va (x_nilCheck rfl) ?_
 refine L.va (x_field rfl Try.underlying91 rfl sz31 (by decide)) ?_
 refine L.va (x_field rfl Try.underlying31 rfl sz3 (by decide)) ?_
 refine L.stR (o:=6) (vs:=[.int .i64 ((R.used + 1:Nat):Int)]) hg R.stuck (R.used + 1) rfl rfl rfl sz3 rfl rfl (by decide) rfl (fun w hg hgr=>?_)
 try clear hgr
 refine L.nil ?_
 refine T.nrm ?_
 show ZA _ _ _ _ _ _ _
 refine ZA.seq hZ ?_
 refine ZA.W hZ hb ?_
 refine W.region rfl ?_
 refine L.va (x_mvP rfl) ?_
 refine L.va (x_nilCheck rfl) ?_
 refine L.va (x_field rfl Try.underlying76 rfl sz3 (by decide)) ?_
 refine L.va (x_load rfl Try.underlying3 rfl ((hg.m.blk i c hc).cellAt 8 (v:=.int .i64 (c.picks:Int)) rfl)) ?_
 refine L.va (x_inc rfl rfl (by omega)) ?_
 refine L.va (x_nilCheck rfl) ?_
 refine L.va (x_field rfl Try.underlying76 rfl sz3 (by decide)) ?_
 refine L.stC (i:=i) (o:=8) (vs:=[.int .i64 ((c.picks + 1:Nat):Int)]) hg { c with picks:=c.picks + 1 } hc rfl rfl rfl rfl sz3 rfl rfl (by decide) rfl (fun w hg hgr=>?_)
 try clear hgr
 refine L.nil ?_
 refine T.nrm ?_
 show ZA _ _ _ _ _ _ _
 refine ZA.seq hZ ?_
 refine ZA.W hZ hb ?_
 refine W.region rfl ?_
 refine L.va (x_mvP rfl) ?_
 refine L.va (x_nilCheck rfl) ?_
 refine L.va (x_field rfl Try.underlying76 rfl sz4 (by decide)) ?_
 refine L.stC (i:=i) (o:=9) (vs:=[.bool false]) hg { { c with picks:=c.picks + 1 } with wt:=false } (set_at hc) rfl rfl rfl rfl sz4 rfl rfl (by decide) rfl (fun w hg hgr=>?_)
 try clear hgr
 refine L.nil ?_
 refine T.nrm ?_
 show ZA _ _ _ _ _ _ _
 refine ZA.seq hZ ?_
 refine ZA.upto hZ hb 4 rfl rfl (R:=fun e' w'=>ZA _ _ _ _ e' _ w') ?_ (fun _ _ h=>h)
 show L _ _ _ _ _ _ _
 refine L.va (x_mvP rfl) ?_
 refine L.va (x_nilCheck rfl) ?_
 refine L.va (x_field rfl Try.underlying76 rfl sz74 (by decide)) ?_
 refine L.va (x_load rfl Try.underlying74 rfl ((hg.m.blk i _ (set_at (set_at hc))).cellAt 2 (v:=.chan (some c.rc)) rfl)) ?_
 refine L.nil ?_
 refine T.nrm ?_
 show ZA _ _ _ _ _ _ _
 refine ZA.give (i:=4) (rest:=[]) (s:=⟨c.rc,z1,me1⟩) (j:=g) (st:=[(⟨R.rb,7,none⟩,.chan (some R.yb))]) (K:=fun s=>s.ch = R.yb/\s.z = .int .i64 0/\PickMe cs s.me) (ft:=60) hb rfl rfl rfl hX0 hg0 hdn hst ?_ ?_ ?_
 ·have hY:=hf_way (P:=Try.prog) (main:=true) (l:=[((⟨R.rb,7,none⟩:Addr),Value.chan (some R.yb))]) (K:=fun s=>s.ch = R.yb/\s.z = .int .i64 0/\PickMe cs s.me)
  refine At.endRegion hY ?_
  refine At.region hY ?_
  refine AtL.val hY hb rfl (v:=.pointer (some ⟨R.rb,0,none⟩)) (pu_move rfl) ?_
  refine AtL.val hY hb rfl (pu_nilCheck rfl) ?_
  refine AtL.val hY hb rfl (pu_field rfl Try.underlying91 rfl sz80 (by decide)) ?_
  refine AtL.stay (v:=.chan (some R.yb)) hb rfl (by simp) rfl Try.underlying80 rfl ?_
  refine AtL.seat (E:=3) (z:=.int .i64 0) hb Try.underlying80 zr3 rfl (fun me hs=>⟨rfl,rfl,?_⟩) rfl
  intro Z hZ w v hK
  refine hs.go ?_
  letI:Ctx Try.prog:=baseCtx Try.prog true
  refine ZA.endRegion hZ ?_
  refine ZA.done hZ ?_
  exact ZA.leaves (fn:=Try.f37) (f:=37) rfl Try.func37 rfl (fun fr h8 h9=>hK fr h8 h9)
 ·rintro s2 ⟨h1,_,_⟩; rw [h1]; exact hsh
 ·rintro ⟨ch,z,me⟩ ⟨h1,h2,h3⟩; cases h1; cases h2; exact hcl _ _ _ me (by simpa using hg) h3
end Go.Vy.Sc
end
/- Goroutine 0 stops those that still wait, and waits for all. -/
section
namespace Go.Vy.Sc
open Go Go.Conc Go.Yc Go.RowKit Go.Proofs Go.Proofs.Ytfmoeemolgjodaa
open Go.Vc Go.Wg
attribute [local irreducible] KK
noncomputable def endLoop:Code:=match Try.f39.body with | some (.seq (.seq _ (.block _ (.loop c))) _)=>c | _=>.skip
noncomputable def endTail:Code:=match Try.f39.body with | some (.seq _ c)=>c | _=>.skip
structure EndJ (rb0 m:Nat) (ca:Option Addr) (cc:Nat) (Bs:Nat) (Post:Value->World->Prop) (cs:List Frame) (J:Nat->Gh->Rn->World->Prop):Prop where
 mem:∀ i X R w,J i X R w->RunM w Bs R/\R.rb = rb0/\R.cl.length = m/\R.ca = ca/\R.cc = cc
 skip:∀ i X R w c,J i X R w->R.cl[i]? = some c->c.wt = false->J (i + 1) X R w
 stop:∀ i X R w c,J i X R w->R.cl[i]? = some c->c.wt = true->∃ g z1 me1,g ≠ 0/\X.seat g = some ⟨c.rc,z1,me1⟩/\X.dn = 0/\X.stay 0 = [(⟨R.rb,7,none⟩,.chan (some R.yb))]/\(X.chs R.yb/\∀ i s2,i ≠ g->X.seat i = some s2->s2.ch ≠ R.yb) /\
  ∀ w' me0,Rg R.fp w.heap.size w w' Bs { R with wts:=R.wts.set i c.sp }->(∀ X' R' u v,J (i + 1) X' R' u->Fin Try.prog Post X' 0 (Go.Conc.served me0 v) u)->Fin Try.prog Post (X.pass 0 g (some ⟨R.yb,.int .i64 0,me0⟩)) g (Go.Conc.served me1 (.bool false)) w'
 fin:∀ X R w,J m X R w->(∀ i,X.seat i = none)/\X.grp = some ⟨rb0,8⟩/\X.pend = 0/\X.dn = 0/\X.cap < 2147483648/\∀ fr,fr.fn = 39->Leaves Try.prog fr w (.returned (.tuple #[]))->Fin Try.prog Post { X with pend:=0,cap:=0,dn:=0 } 0 (G fr cs) w
set_option maxRecDepth 20000 in
theorem end_tail {rb0 m:Nat} {ca:Option Addr} {cc:Nat} {Bs:Nat} {Post:Value->World->Prop} {cs:List Frame} {J:Nat->Gh->Rn->World->Prop} (hE:EndJ rb0 m ca cc Bs Post cs J) {X:Gh} {R:Rn} {w:World} (hJ:J m X R w) {e:Env} (s0:e 0 = .pointer (some ⟨rb0,0,none⟩)):ZA (Fin Try.prog Post X 0) 43 (base 39) cs e [.code endTail] w:=by
 obtain ⟨hM,hrb,hm,hca,hcc⟩:=hE.mem _ _ _ _ hJ
 obtain ⟨hno,hgr,hp,hdn,hcap,hK⟩:=hE.fin _ _ _ hJ
 letI:Ctx Try.prog:=baseCtx Try.prog true
 have hZ:Ctx.Zs Try.prog (Fin Try.prog Post X 0):=fin_zs
 have hb:=bkn 39
 rw [<- hrb] at s0
 rw [upd_id s0]
 clear s0
 refine ZA.upto hZ hb 3 rfl rfl (R:=fun e' w'=>ZA _ _ _ _ e' _ w') ?_ (fun _ _ h=>h)
 show L _ _ _ _ _ _ _
 refine L.va (x_mvP rfl) ?_
 refine L.va (x_nilCheck rfl) ?_
 refine L.va (x_field rfl Try.underlying91 rfl sz89 (by decide)) ?_
 refine L.nil ?_
 refine T.nrm ?_
 show ZA _ _ _ _ _ _ _
 refine ZA.call (i:=3) (rest:=[]) hZ hb (f:=46) (args:=#[.pointer (some ⟨R.rb,8,none⟩)]) rfl rfl (x_call1 rfl Try.func46 rfl nm46 rfl) (fun a ha=>?_)
 rw [hrb]
 refine Fin.wait (G:=⟨rb0,8⟩) (K:=fun g'=>g' = _) hgr hno hp hdn (wait_w ⟨rb0,8⟩ (fun g'=>g' = _) rfl X.cap hcap) (fun g' hg'=>?_)
 subst hg'
 refine ZA.home (i:=3) rfl rfl ha ?_
 have hZ':Ctx.Zs Try.prog (Fin Try.prog Post { X with pend:=0,cap:=0,dn:=0 } 0):=fin_zs
 refine ZA.endRegion hZ' ?_
 refine ZA.done hZ' ?_
 exact ZA.leaves (fn:=Try.f39) (f:=39) rfl Try.func39 rfl hK
set_option maxRecDepth 20000 in
theorem end_loop {rb0 m:Nat} {ca:Option Addr} {cc:Nat} {Bs:Nat} {Post:Value->World->Prop} {cs:List Frame} {J:Nat->Gh->Rn->World->Prop} (hE:EndJ rb0 m ca cc Bs Post cs J) (hm1:m <= 1000):∀ (k i:Nat),i + k = m->∀ X R w,J i X R w->∀ e:Env,e 0 = .pointer (some ⟨rb0,0,none⟩)->e 7 = .slice ca m cc->e 8 = .int .i64 (m:Int)->e 9 = .int .i64 (i:Int)->ZA (Fin Try.prog Post X 0) 43 (base 39) cs e [.code endLoop,.inLoop endLoop,.inBlock 0,.code endTail] w:=by
 intro k
 induction k with
 | zero =>
  intro i hk X R w hJ e s0 s7 s8 s9
  obtain ⟨hM,hrb,hm,hca,hcc⟩:=hE.mem _ _ _ _ hJ
  letI:Ctx Try.prog:=baseCtx Try.prog true
  have hZ:Ctx.Zs Try.prog (Fin Try.prog Post X 0):=fin_zs
  have hb:=bkn 39
  rw [<- hrb] at s0
  rw [<- hca,<- hm,<- hcc] at s7
  rw [<- hm] at s8
  rw [upd_id s0,upd_id s7,upd_id s8,upd_id s9]
  clear s0 s7 s8 s9
  refine ZA.seq hZ ?_
  obtain rfl:i = R.cl.length:=by omega
  refine ZA.W hZ hb ?_
  refine W.region rfl ?_
  refine L.va (x_lss rfl rfl) ?_
  refine L.nil ?_
  refine T.nrm ?_
  show ZA _ _ _ _ _ _ _
  refine ZA.seq hZ ?_
  refine ZA.condF hZ (rb (decide_eq_false (by omega))) ?_
  refine ZA.exit hZ rfl ?_
  exact end_tail hE (by rw [<- hm]; exact hJ) (by rw [<- hrb]; rfl)
 | succ k ih =>
  intro i hk X R w hJ e s0 s7 s8 s9
  obtain ⟨hM,hrb,hm,hca,hcc⟩:=hE.mem _ _ _ _ hJ
  letI:Ctx Try.prog:=baseCtx Try.prog true
  have hZ:Ctx.Zs Try.prog (Fin Try.prog Post X 0):=fin_zs
  have hb:=bkn 39
  rw [<- hrb] at s0
  rw [<- hca,<- hm,<- hcc] at s7
  rw [<- hm] at s8
  rw [upd_id s0,upd_id s7,upd_id s8,upd_id s9]
  clear s0 s7 s8 s9
  have hlt:i < R.cl.length:=by omega
  obtain ⟨c,hc⟩:∃ c,R.cl[i]? = some c:=⟨_,List.getElem?_eq_getElem hlt⟩
  refine ZA.seq hZ ?_
  refine ZA.W hZ hb ?_
  refine W.region rfl ?_
  refine L.va (x_lss rfl rfl) ?_
  refine L.nil ?_
  refine T.nrm ?_
  show ZA _ _ _ _ _ _ _
  refine ZA.seq hZ ?_
  refine ZA.condT hZ (rb (decide_eq_true (by omega))) ?_
  refine ZA.skip hZ ?_
  refine ZA.seq hZ ?_
  refine ZA.block hZ ?_
  refine ZA.seq hZ ?_
  refine ZA.W hZ hb ?_
  refine W.region rfl ?_
  refine L.va (x_mvI rfl) ?_
  refine L.va (x_idx (i:=i) rfl rfl Try.underlying79 sz50 hM.cls.sl hlt) ?_
  refine L.va (x_load (v:=.pointer (some ⟨c.cb,0,none⟩)) rfl Try.underlying50 rfl (cls_at hM hc)) ?_
  refine L.va (x_asI rfl) ?_
  refine L.va (x_asP rfl) ?_
  refine L.nil ?_
  refine T.nrm ?_
  show ZA _ _ _ _ _ _ _
  refine ZA.seq hZ ?_
  refine ZA.W hZ hb ?_
  refine W.region rfl ?_
  refine L.va (x_mvP rfl) ?_
  refine L.va (x_nilCheck rfl) ?_
  refine L.va (x_field rfl Try.underlying76 rfl sz4 (by decide)) ?_
  refine L.va (x_load rfl Try.underlying4 rfl ((hM.blk i c hc).cellAt 9 (v:=.bool (c.wt)) rfl)) ?_
  refine L.nil ?_
  refine T.nrm ?_
  show ZA _ _ _ _ _ _ _
  by_cases hwt:c.wt = false
  ·refine ZA.condF hZ (rb hwt) ?_
   refine ZA.skip hZ ?_
   refine ZA.inBlock hZ ?_
   refine ZA.W hZ hb ?_
   refine W.region rfl ?_
   refine L.va (x_inc rfl rfl (by omega)) ?_
   refine L.va (x_mvI rfl) ?_
   refine L.nil ?_
   refine T.nrm ?_
   show ZA _ _ _ _ _ _ _
   refine ZA.inLoop hZ ?_
   exact ih (i + 1) (by omega) X R w (hE.skip i X R w c hJ hc hwt) _ (by rw [<- hrb]; rfl) (by rw [<- hca,<- hm,<- hcc]; rfl) (by rw [<- hm]; rfl) rfl
  ·have hwt:c.wt = true:=by simpa using hwt
   refine ZA.condT hZ (rb hwt) ?_
   obtain ⟨g,z1,me1,hg0,hX0,hdn,hst,hsh,hcl⟩:=hE.stop i X R w c hJ hc hwt
   have hg:=hM.rg
   refine ZA.seq hZ ?_
   refine ZA.W hZ hb ?_
   have hR:=hg.m.run
   have hC:=(hg.m.blk i c hc)
   refine W.lastL 11 (fun w'=>Below w.heap.size w w') (by kernel_rfl) (by kernel_rfl) (by kernel_rfl) (by kernel_rfl) ((Below.refl w.heap.size w).drew) ?_
   refine D.va (fun w' hw'=>(x_mvP rfl)) ?_
   refine D.va (fun w' hw'=>(x_nilCheck rfl)) ?_
   refine D.va (fun w' hw'=>(x_field rfl Try.underlying91 rfl sz31 (by decide))) ?_
   refine D.va (fun w' hw'=>(x_field rfl Try.underlying31 rfl sz29 (by decide))) ?_
   refine D.va (fun w' hw'=>(x_load rfl Try.underlying29 rfl ((hR.keep hw').cellAt 4 (v:=.slice (some ⟨R.wb,0,none⟩) (R.m) (R.m)) rfl))) ?_
   refine D.va (fun w' hw'=>(x_mvI rfl)) ?_
   refine D.va (fun w' hw'=>(x_mvP rfl)) ?_
   refine D.va (fun w' hw'=>(x_nilCheck rfl)) ?_
   refine D.va (fun w' hw'=>(x_field rfl Try.underlying76 rfl sz43 (by decide))) ?_
   refine D.va (fun w' hw'=>(x_loadAgg (cs:=[.int .i64 (c.sp.kind),.int .i64 (c.sp.obj),.int .i64 (c.sp.num)]) rfl Try.underlying43 rfl sz43 rfl ((hC.keep hw').aggAt rfl))) ?_
   refine D.va (fun w' hw'=>x_index (i:=i) rfl rfl Try.underlying29 sz43 (Nat.lt_of_lt_of_le hlt hM.lcl)) ?_
   refine D.nil (fun w hbw=>?_)
   have hg:=hg.keep hbw
   have hR:=hR.keep hbw
   have hC:=hC.keep hbw
   clear hbw
   refine L.stW (i:=i) (z:=c.sp) hg (Nat.lt_of_lt_of_le hlt hM.lcl) rfl rfl sz43 (fun w hg hgr=>?_)
   clear hgr
   refine L.nil ?_
   try clear hR
   try clear hC
   refine T.nrm ?_
   show ZA _ _ _ _ _ _ _
   refine ZA.seq hZ ?_
   refine ZA.upto hZ hb 4 rfl rfl (R:=fun e' w'=>ZA _ _ _ _ e' _ w') ?_ (fun _ _ h=>h)
   show L _ _ _ _ _ _ _
   refine L.va (x_mvP rfl) ?_
   refine L.va (x_nilCheck rfl) ?_
   refine L.va (x_field rfl Try.underlying76 rfl sz74 (by decide)) ?_
   refine L.va (x_load rfl Try.underlying74 rfl ((hg.m.blk i c hc).cellAt 2 (v:=.chan (some c.rc)) rfl)) ?_
   refine L.nil ?_
   refine T.nrm ?_
   show ZA _ _ _ _ _ _ _
   refine ZA.give (i:=4) (rest:=[]) (s:=⟨c.rc,z1,me1⟩) (j:=g) (st:=[(⟨R.rb,7,none⟩,.chan (some R.yb))]) (K:=fun s=>s.ch = R.yb/\s.z = .int .i64 0/\∀ X' R' u v,J (i + 1) X' R' u->Fin Try.prog Post X' 0 (Go.Conc.served s.me v) u) (ft:=60) hb rfl rfl rfl hX0 hg0 hdn hst ?_ ?_ ?_
   ·have hY:=hf_way (P:=Try.prog) (main:=true) (l:=[((⟨R.rb,7,none⟩:Addr),Value.chan (some R.yb))]) (K:=fun s=>s.ch = R.yb/\s.z = .int .i64 0/\∀ X' R' u v,J (i + 1) X' R' u->Fin Try.prog Post X' 0 (Go.Conc.served s.me v) u)
    refine At.endRegion hY ?_
    refine At.region hY ?_
    refine AtL.val hY hb rfl (v:=.pointer (some ⟨R.rb,0,none⟩)) (pu_move rfl) ?_
    refine AtL.val hY hb rfl (pu_nilCheck rfl) ?_
    refine AtL.val hY hb rfl (pu_field rfl Try.underlying91 rfl sz80 (by decide)) ?_
    refine AtL.stay (v:=.chan (some R.yb)) hb rfl (by simp) rfl Try.underlying80 rfl ?_
    refine AtL.seat (E:=3) (z:=.int .i64 0) hb Try.underlying80 zr3 rfl (fun me hs=>⟨rfl,rfl,?_⟩) rfl
    intro X R' w v hJ'
    refine hs.go ?_
    have hZ:Ctx.Zs Try.prog (Fin Try.prog Post X 0):=fin_zs
    refine ZA.endRegion hZ ?_
    refine ZA.inBlock hZ ?_
    refine ZA.W hZ hb ?_
    refine W.region rfl ?_
    refine L.va (x_inc rfl rfl (by omega)) ?_
    refine L.va (x_mvI rfl) ?_
    refine L.nil ?_
    refine T.nrm ?_
    show ZA _ _ _ _ _ _ _
    refine ZA.inLoop hZ ?_
    exact ih (i + 1) (by omega) X R' w hJ' _ (by rw [<- hrb]; rfl) (by rw [<- hca,<- hm,<- hcc]; rfl) (by rw [<- hm]; rfl) rfl
   ·rintro s2 ⟨h1,_,_⟩; rw [h1]; exact hsh
   ·rintro ⟨ch,z,me⟩ ⟨h1,h2,h3⟩; cases h1; cases h2; exact hcl _ me hg h3
set_option maxRecDepth 20000 in
theorem end_fin {rb0 m:Nat} {ca:Option Addr} {cc:Nat} {Bs:Nat} {Post:Value->World->Prop} {cs:List Frame} {J:Nat->Gh->Rn->World->Prop} (hE:EndJ rb0 m ca cc Bs Post cs J) (hm1:m <= 1000) {X:Gh} {R:Rn} {w:World} (hJ:J 0 X R w):Fin Try.prog Post X 0 (G (Frame.enter Try.prog 39 #[.pointer (some ⟨rb0,0,none⟩)] .normal) cs) w:=by
 obtain ⟨hM,hrb,hm,hca,hcc⟩:=hE.mem _ _ _ _ hJ
 letI:Ctx Try.prog:=baseCtx Try.prog true
 have hZ:Ctx.Zs Try.prog (Fin Try.prog Post X 0):=fin_zs
 have hb:=bkn 39
 rw [enter_at _ Try.func39 rfl]
 rw [<- hrb]
 refine (?_:ZA (Fin Try.prog Post X 0) 43 (base 39) cs (Vc.argE #[.pointer (some ⟨R.rb,0,none⟩)]) [.code (Try.f39.body.getD .skip)] w) _ (rep_args _ _ rfl)
 refine ZA.seq hZ ?_
 refine ZA.seq hZ ?_
 refine ZA.W hZ hb ?_
 refine W.region rfl ?_
 refine L.va (x_mvP rfl) ?_
 refine L.va (x_nilCheck rfl) ?_
 refine L.va (x_field rfl Try.underlying91 rfl sz79 (by decide)) ?_
 refine L.va (x_load rfl Try.underlying79 rfl (hM.run.cellAt 0 (v:=.slice (R.ca) (R.cl.length) (R.cc)) rfl)) ?_
 refine L.va (x_len rfl Try.underlying79 rfl) ?_
 refine L.va (x_mvI rfl) ?_
 refine L.nil ?_
 refine T.nrm ?_
 show ZA _ _ _ _ _ _ _
 refine ZA.block hZ ?_
 refine ZA.loop hZ ?_
 exact end_loop hE hm1 m 0 (by omega) X R w hJ _ (by rw [<- hrb]; rfl) (by rw [<- hca,<- hm,<- hcc]; rfl) (by rw [<- hm]; rfl) rfl
end Go.Vy.Sc
end
/- A channel is made; a new block's cells are frozen. Nothing here speaks of a program. -/
section
namespace Go.Vy
open Go Go.Conc Go.Yc Go.RowKit
open Go.Vc Go.Wg
def ChanAt (w:World) (b:Nat):Prop:=w.heap[b]? = some (.chan 0 #[] false 0 0 false)
section
variable {w w':World} {b:Nat}
theorem ChanAt.lt (h:ChanAt w b):b < w.heap.size:=(Array.getElem?_eq_some_iff.1 h).1
theorem ChanAt.keep (h:ChanAt w b) (hb:Below w.heap.size w w'):ChanAt w' b:=(hb.block b h.lt).trans h
theorem ChanAt.grown {row:Option Nat} (h:ChanAt w b) (hg:w.grownBy w' row) (hr:∀ r,row = some r->∃ cs T f,BlkF w r cs T f):ChanAt w' b :=
 (hg.block b h.lt fun e=>by
  obtain ⟨cs,T,f,h'⟩:=hr b e.symm
  unfold ChanAt at h; unfold BlkF at h'; rw [h] at h'; cases h').trans h
end
theorem L.makeChan {P:Program} [Ctx P] {n:Nat} {Q:Exit->Env->World->Prop} {e:Env} {w:World} {ops:Array Oper} {rest:List Oper} {d:Nat} {ty:TypeId} {ps:String} {af:Array Edge} {T E:TypeId} {x:Operand} {dd:ChanDir} (hx:ev e x = .int .i64 0) (hT:P.underlying T = some (.chan dd E)) (hi:∃ z,(P.info? E).map (·.size) = some z)
  (k:∀ w1,Below w.heap.size w w1->ChanAt w1 w.heap.size->w1.heap.size = w.heap.size + 1->L P n ops Q rest (upd e d (.chan (some w.heap.size))) w1):L P n ops Q (⟨some d,.makeChan T x,ty,ps,af,none⟩ :: rest) e w:=by
 obtain ⟨z,hz⟩:=hi
 obtain ⟨i,hi,_⟩:=Option.map_eq_some_iff.1 hz
 refine L.va (v:=.chan (some w.heap.size)) (w':=w.alloc (.chan 0 #[] false 0 0 false)) (.of_tame (tame_ok rfl _) rfl rfl fun τ d'=>?_) (k _ ((Below.refl _ _).alloc (Nat.le_refl _) _) (by unfold ChanAt; show (w.heap.push _)[_]? = _; simp) (by show (w.heap.push _).size = _; simp))
 have:=run_makeChan (P:=P) (w:=onT w τ d') hT hi .i64 0 (by decide) (by simp)
 show _ = Result.ok (Next.value (.chan (some (onT w τ d').heap.size))) ((onT w τ d').alloc (.chan 0 #[] false 0 0 false))
 simp only [execOp,hx]
 have h2:((0:Nat):Int) = 0:=rfl
 rw [h2] at this
 simp [this]
section
variable {P:Program} {Post:Value->World->Prop} {X:Gh} {h n:Nat} {b:Frame} {cs:List Frame} {e:Env} {k:List Item} {w:World}
theorem ZA.freeze {bb:Nat} {cells:Array Value} {T:TypeId} {f:Nat × Nat} (hl:Loosed X bb) (hB:BlkF w bb cells T (0,0)) (hz:ZA (Fin P Post (X.lower bb) h) n b cs e k (setBlkF w bb cells T f)):ZA (Fin P Post X h) n b cs e k w :=
 fun a ha=>Fin.freeze (f:=(0,0)) (f':=f) hl hB (fun i hi=>by unfold inR at hi; omega) (hz a ha)
def startX (X:Gh) (rb yb off:Nat):Gh:=⟨X.seat,Go.ConcN.upd X.stay 0 [(⟨rb,off - 1,none⟩,.chan (some yb))],some ⟨rb,off⟩,X.grp.toList ++ X.old,X.hid,fun c=>X.chs c\/c = yb,fun k=>(X.low k\/k = yb)\/k = rb,X.plug,X.cap,X.pend,X.dn,X.n⟩
theorem ZA.begin {rb yb:Nat} {c8:Array Value} {T:TypeId} (hcap:X.cap = 0) (hU:X.Under rb) (hUy:X.Under yb) (hpr:X.plug rb = .all) (hpy:X.plug yb = .all) (hch:ChanAt w yb) (hB:Blk w rb (c8 ++ #[.int .u64 0,.int .u32 0]) T) (h0:0 < c8.size) (hy:c8[c8.size - 1]? = some (.chan (some yb)))
  (hz:ZA (Fin P Post (startX X rb yb c8.size) 0) n b cs e k (setBlkF (putObj' w yb nothing) rb c8 T (c8.size - 1,c8.size))):ZA (Fin P Post X 0) n b cs e k w:=by
 have hne:yb ≠ rb:=by
  intro e; subst e
  unfold ChanAt at hch; unfold Blk at hB; rw [hch] at hB; cases hB
 intro a ha
 refine Fin.chan (b:=yb) (k:=0) (hUy.loosed (Nat.le_refl _)) (fun hl=>absurd (hUy.low _ hl) (Nat.lt_irrefl _)) hpy hch ?_
 have hB1:(putObj' w yb nothing).heap[rb]? = some (.cells (c8 ++ #[.int .u64 0,.int .u32 0]) T (0,0)):=by rw [putObj'_ne _ _ hne]; exact hB
 refine Fin.groupF (f':=(c8.size - 1,c8.size)) (b:=rb) hcap ?_ ?_ hpr hB1 h0 ?_
 ·have hl:=hU.loosed (Nat.le_refl rb)
  exact ⟨hl.stay,hl.hid,fun h=>h.elim hl.chs fun h=>hne h.symm,hl.grp⟩
 ·intro h
  rcases h with h | h
  ·exact absurd (hU.low _ h) (Nat.lt_irrefl _)
  ·exact hne h.symm
 have hB2:(putObj' (putObj' w yb nothing) rb (.cells c8 T (c8.size - 1,c8.size))).heap[rb]? = some (.cells c8 T (c8.size - 1,c8.size)):=putObj'_same _ hB1
 refine Fin.stay (l:=[(⟨rb,c8.size - 1,none⟩,.chan (some yb))]) (fun p hp=>?_) (hz a ha)
 obtain rfl:p = (⟨rb,c8.size - 1,none⟩,.chan (some yb)):=by simpa using hp
 exact ⟨BlkF.cell (f:=(c8.size - 1,c8.size)) hB2 hy,by rw [BlkF.frozen (f:=(c8.size - 1,c8.size)) hB2]; simp; omega⟩
end
end Go.Vy
end
/- Goroutine 0 lets all clients begin. -/
section
namespace Go.Vy.Sc
open Go Go.Conc Go.Yc Go.RowKit Go.Proofs Go.Proofs.Ytfmoeemolgjodaa
open Go.Vc Go.Wg
attribute [local irreducible] KK
noncomputable def begLoop:Code:=match Try.f35.body with | some (.seq _ (.block _ (.loop c)))=>c | _=>.skip
def sp0:Stp:=⟨0,0,0⟩
abbrev newC (cb rc:Nat):CB:=⟨cb,rc,sp0,.nilFunc,.nilFunc,0,false,false⟩
structure BegJ (rb0 m:Nat) (ba:Option Addr) (fv:Nat->Value) (Bs:Nat) (Post:Value->World->Prop) (cs:List Frame) (J:Nat->Gh->Rn->World->Prop):Prop where
 sl:SL ba m
 fn:∀ i,i < m->fv i = .nilFunc\/∃ f fn caps,fv i = .func (.func f) #[] caps/\Try.prog.funcs[f]? = some fn/\fn.body.isSome = true/\(fn.name == "runtime.NumGoroutine") = false
 mem:∀ i X R w,J i X R w->RunM w Bs R/\R.rb = rb0/\R.cl.length = i/\R.m = m/\Bs <= w.heap.size/\X.Under w.heap.size/\∀ j,j < m->w.cell? ⟨ab ba,ao ba + j * 1,none⟩ = some (fv j)
 nil:∀ i X R w w' a n cb rc,i < m->J i X R w->fv i = .nilFunc->w.heap.size <= cb->w.heap.size <= rc->Rg R.fp w.heap.size w w' Bs { R with ca:=a,cc:=n,cl:=R.cl ++ [newC cb rc],ends:=R.ends.set i 1 }->J (i + 1) (X.lower cb) { R with ca:=a,cc:=n,cl:=R.cl ++ [newC cb rc],ends:=R.ends.set i 1 } w'
 go:∀ i X R w w' a n cb rc,i < m->J i X R w->fv i ≠ .nilFunc->w.heap.size <= cb->w.heap.size <= rc->cb ≠ rc->ChanAt w' rc->Rg R.fp w.heap.size w w' Bs { R with ca:=a,cc:=n,cl:=R.cl ++ [newC cb rc] } ->
  X.grp = some ⟨rb0,8⟩/\X.pend = 0/\X.cap < 65536/\X.dn = 0/\X.stay 0 = [(⟨R.rb,7,none⟩,.chan (some R.yb))]/\(X.chs R.yb/\∀ i s2,X.seat i = some s2->s2.ch ≠ R.yb) /\
  ∀ me0,(∀ X' R' u v,J (i + 1) X' R' u->Fin Try.prog Post X' 0 (Go.Conc.served me0 v) u)->Fin Try.prog Post (Gh.hire { X.lower cb with pend:=1,cap:=X.cap + 1,dn:=0 } ⟨R.yb,.int .i64 0,me0⟩) X.n (born Try.prog (dcall 45 #[.pointer (some ⟨cb,0,none⟩),fv i])) w'
 fin:∀ X R w,J m X R w->∀ fr,fr.fn = 35->Leaves Try.prog fr w (.returned (.tuple #[]))->Fin Try.prog Post X 0 (G fr cs) w
theorem buX_0 (x0:Int) (x1:Option Addr) (x2:Option Nat):Try.prog.built 76 [(0,.int .i64 x0),(1,.pointer x1),(2,.chan x2)] = some #[.int .i64 x0,.pointer x1,.chan x2,.int .i64 0,.int .i64 0,.int .i64 0,.nilFunc,.nilFunc,.int .i64 0,.bool false,.bool false]:=by kernel_rfl
set_option maxRecDepth 20000 in
theorem beg_loop {rb0 m:Nat} {ba:Option Addr} {fv:Nat->Value} {Bs:Nat} {Post:Value->World->Prop} {cs:List Frame} {J:Nat->Gh->Rn->World->Prop} (hE:BegJ rb0 m ba fv Bs Post cs J) (hm1:m <= 1000) {bc:Nat}:∀ (k i:Nat),i + k = m->∀ X R w1,J i X R w1->∀ e:Env,e 0 = .pointer (some ⟨rb0,0,none⟩)->e 7 = .slice ba m bc->e 8 = .int .i64 (m:Int)->e 9 = .int .i64 (i:Int)->ZA (Fin Try.prog Post X 0) 50 (base 35) cs e [.code begLoop,.inLoop begLoop,.inBlock 0] w1:=by
 intro k
 induction k with
 | zero =>
  intro i hk X R w1 hJ e s0 s7 s8 s9
  obtain ⟨hM,hrb,hlen,hRm,hBs,hU,hcell⟩:=hE.mem _ _ _ _ hJ
  letI:Ctx Try.prog:=baseCtx Try.prog true
  have hZ:Ctx.Zs Try.prog (Fin Try.prog Post X 0):=fin_zs
  have hb:=bkn 35
  rw [<- hrb] at s0
  rw [upd_id s0,upd_id s7,upd_id s8,upd_id s9]
  clear s0 s7 s8 s9
  have hg:=hM.rg
  refine ZA.seq hZ ?_
  refine ZA.W hZ hb ?_
  refine W.region rfl ?_
  refine L.va (x_lss rfl rfl) ?_
  refine L.nil ?_
  refine T.nrm ?_
  show ZA _ _ _ _ _ _ _
  refine ZA.seq hZ ?_
  refine ZA.condF hZ (rb (decide_eq_false (by omega))) ?_
  refine ZA.exit hZ rfl ?_
  refine ZA.done hZ ?_
  obtain rfl:i = m:=by omega
  exact ZA.leaves (fn:=Try.f35) (f:=35) rfl Try.func35 rfl (hE.fin X R w1 hJ)
 | succ k ih =>
  intro i hk X R w1 hJ e s0 s7 s8 s9
  obtain ⟨hM,hrb,hlen,hRm,hBs,hU,hcell⟩:=hE.mem _ _ _ _ hJ
  letI:Ctx Try.prog:=baseCtx Try.prog true
  have hZ:Ctx.Zs Try.prog (Fin Try.prog Post X 0):=fin_zs
  have hb:=bkn 35
  rw [<- hrb] at s0
  rw [upd_id s0,upd_id s7,upd_id s8,upd_id s9]
  clear s0 s7 s8 s9
  have hg:=hM.rg
  have hlt:i < m:=by omega
  refine ZA.seq hZ ?_
  refine ZA.W hZ hb ?_
  refine W.region rfl ?_
  refine L.va (x_lss rfl rfl) ?_
  refine L.nil ?_
  refine T.nrm ?_
  show ZA _ _ _ _ _ _ _
  refine ZA.seq hZ ?_
  refine ZA.condT hZ (rb (decide_eq_true (by omega))) ?_
  refine ZA.skip hZ ?_
  refine ZA.seq hZ ?_
  refine ZA.block hZ ?_
  refine ZA.seq hZ ?_
  refine ZA.W hZ hb ?_
  refine W.region rfl ?_
  refine L.va (x_mvI rfl) ?_
  refine L.va (x_idx (i:=i) rfl rfl Try.underlying49 sz52 hE.sl hlt) ?_
  refine L.va (x_load (v:=fv i) rfl Try.underlying52 rfl (hcell i hlt)) ?_
  refine L.va (x_asI rfl) ?_
  refine L.va x_assign ?_
  refine L.nil ?_
  refine T.nrm ?_
  show ZA _ _ _ _ _ _ _
  refine ZA.seq hZ ?_
  refine ZA.W hZ hb ?_
  refine W.region rfl ?_
  refine L.va (x_mvI rfl) ?_
  refine L.va (x_mvP rfl) ?_
  refine L.makeChan rfl Try.underlying74 ⟨_,sz4⟩ (fun w2 hbw hch hsz2=>?_)
  obtain ⟨rc,hrc⟩:∃ rc,rc = w1.heap.size:=⟨_,rfl⟩
  have lrc:w1.heap.size <= rc:=Nat.le_of_eq hrc.symm
  rw [<- hrc] at hch ⊢
  have hg:=hg.keep hbw
  refine L.va (x_build (parts:=[(0,.tmp 14),(1,.tmp 15),(2,.tmp 16)]) rfl (buX_0 (i:Int) ((some ⟨R.rb,0,none⟩)) (some rc))) ?_
  refine L.box (cs:=(newC 0 rc).cells R.rb i) rfl rfl (fun w3 cb F=>?_)
  have lcb:w1.heap.size <= cb:=by have:=F.here; have:=hbw.size; omega
  have hne:cb ≠ rc:=by have:=F.here; omega
  have hg:=hg.keep F.below
  have hch:=hch.keep F.below
  have hX:=blkF_of F.blk
  have hBs:=Nat.le_trans hBs (Nat.le_trans hbw.size F.below.size)
  clear F hbw
  refine L.va (x_asP rfl) ?_
  refine L.nil ?_
  refine T.nrm ?_
  show ZA _ _ _ _ _ _ _
  have hfb:∀ k,R.fp k->k ≠ cb:=fun k hk e=>by have:=hM.lt hk; omega
  refine ZA.freeze (f:=(0,3)) (hU.loosed lcb) hX ?_
  have hg:=hg.fresh ((newC 0 rc).cells R.rb i) 76 (0,3) hfb lcb
  have hch:ChanAt (setBlkF w3 cb ((newC 0 rc).cells R.rb i) 76 (0,3)) rc:=hch.grown (setBlkF_grown _ _ _ _ _) (fun r e=>by cases e; exact ⟨_,_,_,hX⟩)
  have hX:BlkF (setBlkF w3 cb ((newC 0 rc).cells R.rb i) 76 (0,3)) cb ((newC cb rc).cells R.rb R.cl.length) 76 (0,3):=by rw [hlen]; exact setBlkF_self hX _ _ _
  rw [<- setBlkF_size (w:=w3) (b:=cb) (cs:=(newC 0 rc).cells R.rb i) (T:=76) (f:=(0,3))] at hBs
  generalize setBlkF w3 cb ((newC 0 rc).cells R.rb i) 76 (0,3) = w at *
  have hZ:Ctx.Zs Try.prog (Fin Try.prog Post (X.lower cb) 0):=fin_zs
  refine ZA.seq hZ ?_
  refine ZA.W hZ hb ?_
  refine W.region rfl ?_
  refine L.va (x_mvP rfl) ?_
  refine L.va (x_mvP rfl) ?_
  refine L.va (x_nilCheck rfl) ?_
  refine L.va (x_field rfl Try.underlying91 rfl sz79 (by decide)) ?_
  refine L.va (x_load rfl Try.underlying79 rfl (hg.m.run.cellAt 0 (v:=.slice (R.ca) (R.cl.length) (R.cc)) rfl)) ?_
  refine L.va (x_mvP rfl) ?_
  refine L.build1 (cs:=#[.pointer (some ⟨cb,0,none⟩)]) rfl rfl Try.underlying79 sz50 rfl ⟨_,zr50⟩ (by decide) (fun w b25 F25=>?_)
  have hBs:=Nat.le_trans hBs F25.below.size
  have hg:=hg.keep F25.below
  have hch:=hch.keep F25.below
  have hX:=hX.keep F25.below
  have hB25:=F25.blk
  have hX0:=hX
  have hR:=hg.m.run
  refine L.appendW (B:=Bs) (m:=1) rfl rfl Try.underlying79 in50 rfl (by decide) hg.m.cls (news:=[.pointer (some ⟨cb,0,none⟩)]) rfl (fun j u hj=>by
   rw [Addr.add_lit]
   match j,hj with
   | 0,hj=>cases hj; exact hB25.cellAt 0 rfl) (fun u hu=>by simp only [List.mem_cons,List.not_mem_nil,or_false] at hu; subst hu; rfl) (by omega) (by omega) hBs (fun a26 c26 w2 hO hgr hli=>?_)
  have hch:=hch.grown hgr (row_blk hg.m.cls)
  have hX:=True.intro
  have hR:=apartF hR hgr (row_ne hg.m.cls (by decide))
  refine L.va (x_nilCheck rfl) ?_
  refine L.va (x_field rfl Try.underlying91 rfl sz79 (by decide)) ?_
  refine L.stCl hg (newC cb rc) hX0 (.inr lcb) (by rw [hlen,hRm]; exact hlt) hgr hO hli rfl rfl sz79 (fun w hg hgr2=>?_)
  have hch:=hch.grown hgr2 (fun r e=>by cases e; exact ⟨_,_,_,hR⟩)
  clear hgr2 hgr hO hli
  refine L.nil ?_
  refine T.nrm ?_
  show ZA _ _ _ _ _ _ _
  refine ZA.seq hZ ?_
  refine ZA.seq hZ ?_
  by_cases hnil:fv i = .nilFunc
  ·refine ZA.W hZ hb ?_
   refine W.region rfl ?_
   refine L.va x_move ?_
   refine L.va (x_eqFnNil (v:=fv i) (b:=true) rfl (.inl ⟨hnil,rfl⟩) rfl Try.underlying52 ⟨_,_,_,rfl⟩) ?_
   refine L.nil ?_
   refine T.nrm ?_
   show ZA _ _ _ _ _ _ _
   refine ZA.condT hZ rfl ?_
   refine ZA.seq hZ ?_
   refine ZA.W hZ hb ?_
   refine W.region rfl ?_
   refine L.va (x_mvP rfl) ?_
   refine L.va (x_nilCheck rfl) ?_
   refine L.va (x_field rfl Try.underlying91 rfl sz31 (by decide)) ?_
   refine L.va (x_field rfl Try.underlying31 rfl sz26 (by decide)) ?_
   refine L.va (x_load rfl Try.underlying26 rfl (hg.m.run.cellAt 3 (v:=.slice (some ⟨R.eb,0,none⟩) (R.m) (R.m)) rfl)) ?_
   refine L.va (x_mvI rfl) ?_
   refine L.va (x_index (i:=i) rfl rfl Try.underlying26 sz3 (by rw [hRm]; exact hlt)) ?_
   refine L.stE (i:=i) hg (by show i < R.m; rw [hRm]; exact hlt) rfl rfl sz3 (fun w hg hgr=>?_)
   clear hgr
   refine L.nil ?_
   refine T.nrm ?_
   show ZA _ _ _ _ _ _ _
   refine ZA.exit hZ rfl ?_
   refine ZA.W hZ hb ?_
   refine W.region rfl ?_
   refine L.va (x_inc rfl rfl (by omega)) ?_
   refine L.va (x_mvI rfl) ?_
   refine L.nil ?_
   refine T.nrm ?_
   show ZA _ _ _ _ _ _ _
   refine ZA.inLoop hZ ?_
   exact ih (i + 1) (by omega) _ _ w (hE.nil i X R w1 w _ _ cb rc hlt hJ hnil lcb lrc hg) _ (by rw [<- hrb]; rfl) rfl rfl rfl
  ·refine ZA.W hZ hb ?_
   refine W.region rfl ?_
   refine L.va x_move ?_
   obtain ⟨f,fn,caps,hfv,hff,hbd,hnm⟩:=(hE.fn i hlt).resolve_left hnil
   refine L.va (x_eqFnNil (v:=fv i) (b:=false) rfl (.inr ⟨_,_,_,hfv,rfl⟩) rfl Try.underlying52 ⟨_,_,_,rfl⟩) ?_
   refine L.nil ?_
   refine T.nrm ?_
   show ZA _ _ _ _ _ _ _
   refine ZA.condF hZ rfl ?_
   refine ZA.skip hZ ?_
   refine ZA.seq hZ ?_
   obtain ⟨hgrp,hpend,hcap,hdn,hst,hsh,hgo⟩:=hE.go i X R w1 w _ _ cb rc hlt hJ hnil lcb lrc hne hch hg
   refine ZA.upto hZ hb 3 rfl rfl (R:=fun e' w'=>ZA _ _ _ _ e' _ w') ?_ (fun _ _ h=>h)
   show L _ _ _ _ _ _ _
   refine L.va (x_mvP rfl) ?_
   refine L.va (x_nilCheck rfl) ?_
   refine L.va (x_field rfl Try.underlying91 rfl sz89 (by decide)) ?_
   refine L.nil ?_
   refine T.nrm ?_
   show ZA _ _ _ _ _ _ _
   refine ZA.call (i:=3) (rest:=[]) hZ hb (f:=44) (args:=#[.pointer (some ⟨R.rb,8,none⟩),.int .i64 1]) rfl rfl (x_call2 rfl rfl Try.func44 rfl nm44 rfl) (fun a ha=>?_)
   have hXe:X.lower cb = { X.lower cb with dn:=0 }:=by show X.lower cb = { X.lower cb with dn:=0 }; cases X; simp only [Gh.lower] at hdn ⊢; subst hdn; rfl
   rw [hXe,hrb]
   refine Fin.addA (G:=⟨rb0,8⟩) (X:=X.lower cb) (K:=fun g'=>g' = _) hgrp hpend hcap (fun g' hg'=>?_) _ _ _ (add_a ⟨rb0,8⟩ (fun g'=>g' = _) rfl)
   subst hg'
   refine ZA.home (i:=3) rfl rfl ha ?_
   have hZ:Ctx.Zs Try.prog (Fin Try.prog Post { X.lower cb with pend:=1,cap:=(X.lower cb).cap + 1,dn:=0 } 0):=fin_zs
   refine ZA.endRegion hZ ?_
   refine ZA.seq hZ ?_
   refine ZA.upto hZ hb 2 rfl rfl (R:=fun e' w'=>ZA _ _ _ _ e' _ w') ?_ (fun _ _ h=>h)
   show L _ _ _ _ _ _ _
   refine L.va (x_mvP rfl) ?_
   refine L.va x_move ?_
   refine L.nil ?_
   refine T.nrm ?_
   show ZA _ _ _ _ _ _ _
   refine ZA.spawn (i:=2) (rest:=[]) (gr:=⟨rb0,8⟩) (vs:=#[.pointer (some ⟨cb,0,none⟩),fv i]) (st:=[(⟨R.rb,7,none⟩,.chan (some R.yb))]) (K:=fun s=>s.ch = R.yb/\s.z = .int .i64 0/\∀ X' R' u v,J (i + 1) X' R' u->Fin Try.prog Post X' 0 (Go.Conc.served s.me v) u) (ft:=60) hb rfl (Wg.map_list (vl:=[.pointer (some ⟨cb,0,none⟩),fv i]) rfl) rfl rfl hgrp hst ?_ ?_ ?_
   ·have hY:=hf_way (P:=Try.prog) (main:=true) (l:=[((⟨R.rb,7,none⟩:Addr),Value.chan (some R.yb))]) (K:=fun s=>s.ch = R.yb/\s.z = .int .i64 0/\∀ X' R' u v,J (i + 1) X' R' u->Fin Try.prog Post X' 0 (Go.Conc.served s.me v) u)
    refine At.endRegion hY ?_
    refine At.region hY ?_
    refine AtL.val hY hb rfl (v:=.pointer (some ⟨R.rb,0,none⟩)) (pu_move rfl) ?_
    refine AtL.val hY hb rfl (pu_nilCheck rfl) ?_
    refine AtL.val hY hb rfl (pu_field rfl Try.underlying91 rfl sz80 (by decide)) ?_
    refine AtL.stay (v:=.chan (some R.yb)) hb rfl (by simp) rfl Try.underlying80 rfl ?_
    refine AtL.seat (E:=3) (z:=.int .i64 0) hb Try.underlying80 zr3 rfl (fun me hs=>⟨rfl,rfl,?_⟩) rfl
    intro X' R' w v hJ'
    refine hs.go ?_
    have hZ:Ctx.Zs Try.prog (Fin Try.prog Post X' 0):=fin_zs
    refine ZA.endRegion hZ ?_
    refine ZA.inBlock hZ ?_
    refine ZA.W hZ hb ?_
    refine W.region rfl ?_
    refine L.va (x_inc rfl rfl (by omega)) ?_
    refine L.va (x_mvI rfl) ?_
    refine L.nil ?_
    refine T.nrm ?_
    show ZA _ _ _ _ _ _ _
    refine ZA.inLoop hZ ?_
    exact ih (i + 1) (by omega) X' R' w hJ' _ (by rw [<- hrb]; rfl) rfl rfl rfl
   ·rintro s2 ⟨h1,_,_⟩; rw [h1]; exact hsh
   ·rintro ⟨ch,z,me⟩ ⟨h1,h2,h3⟩; cases h1; cases h2; exact hgo me h3
set_option maxRecDepth 20000 in
theorem beg_fin {rb0 m:Nat} {ba:Option Addr} {fv:Nat->Value} {Bs:Nat} {Post:Value->World->Prop} {cs:List Frame} {J:Nat->Gh->Rn->World->Prop} (hE:BegJ rb0 m ba fv Bs Post cs J) (hm1:m <= 1000) {bc:Nat} {X:Gh} {R:Rn} {w:World} (hJ:J 0 X R w):Fin Try.prog Post X 0 (G (Frame.enter Try.prog 35 #[.pointer (some ⟨rb0,0,none⟩),.slice ba m bc] .normal) cs) w:=by
 obtain ⟨hM,hrb,hlen,hRm,hBs,hU,hcell⟩:=hE.mem _ _ _ _ hJ
 letI:Ctx Try.prog:=baseCtx Try.prog true
 have hZ:Ctx.Zs Try.prog (Fin Try.prog Post X 0):=fin_zs
 have hb:=bkn 35
 rw [enter_at _ Try.func35 rfl]
 rw [<- hrb]
 have hg:=hM.rg
 refine (?_:ZA (Fin Try.prog Post X 0) 50 (base 35) cs (Vc.argE #[.pointer (some ⟨R.rb,0,none⟩),.slice ba m bc]) [.code (Try.f35.body.getD .skip)] w) _ (rep_args _ _ rfl)
 refine ZA.seq hZ ?_
 refine ZA.W hZ hb ?_
 refine W.region rfl ?_
 refine L.va (x_mvS rfl) ?_
 refine L.va (x_len rfl Try.underlying49 rfl) ?_
 refine L.va (x_mvI rfl) ?_
 refine L.nil ?_
 refine T.nrm ?_
 show ZA _ _ _ _ _ _ _
 refine ZA.block hZ ?_
 refine ZA.loop hZ ?_
 exact beg_loop hE hm1 m 0 (by omega) X R w hJ _ (by rw [<- hrb]; rfl) rfl rfl rfl
end Go.Vy.Sc
end
/- sched.Run, as goroutine 0 goes through it. -/
section
namespace Go.Vy.Sc
open Go Go.Conc Go.Yc Go.RowKit Go.Proofs Go.Proofs.Ytfmoeemolgjodaa
open Go.Vc Go.Wg
attribute [local irreducible] KK
noncomputable def runLoop:Code:=match Try.f19.body with | some (.seq _ (.seq _ (.seq _ (.seq _ (.seq _ (.seq _ (.seq _ (.seq (.seq _ (.block _ (.loop c))) _))))))))=>c | _=>.skip
noncomputable def runTail:Code:=match Try.f19.body with | some (.seq _ (.seq _ (.seq _ (.seq _ (.seq _ (.seq _ (.seq _ (.seq _ c))))))))=>c | _=>.skip
def rn0 (rb yb eb wb m:Nat):Rn:=⟨rb,yb,eb,wb,m,none,0,[],none,0,[],none,0,[],List.replicate m 0,List.replicate m sp0,false,0⟩
def pickIx (e:Int) (n:Nat):Nat:=(e % (n:Int)).toNat
theorem pickIx_lt (e:Int) {n:Nat} (hn:0 < n):pickIx e n < n:=by
 have h1:=Int.emod_nonneg e (b:=(n:Int)) (by omega)
 have h2:=Int.emod_lt_of_pos e (b:=(n:Int)) (by omega)
 unfold pickIx; omega
theorem mod2 (e:Int) {n:Nat} (hn:0 < n):(e.tmod (n:Int) + (n:Int)).tmod (n:Int) = ((pickIx e n:Nat):Int):=by
 have h1:=Int.emod_nonneg e (b:=(n:Int)) (by omega)
 have h2:=Int.emod_lt_of_pos e (b:=(n:Int)) (by omega)
 have h3:-(n:Int) < e.tmod (n:Int):=by
  have:=Int.lt_tmod_of_pos e (b:=(n:Int)) (by omega)
  omega
 have h4:((pickIx e n:Nat):Int) = e % (n:Int):=by unfold pickIx; omega
 rw [h4,Int.tmod_eq_emod_of_nonneg (by omega),Int.add_emod_right]
 rw [Int.tmod_eq_emod]
 split
 ·simp
 ·rw [Int.sub_emod,Int.emod_emod]
  have:(((n:Int).natAbs:Int)) % (n:Int) = 0:=by simp
  rw [this,Int.sub_zero,Int.emod_emod]
theorem tmod_bd (e:Int) {n:Nat} (hn:0 < n) (h:n <= 1000):-1000 <= e.tmod (n:Int)/\e.tmod (n:Int) <= 1000:=by
 have h1:=Int.lt_tmod_of_pos e (b:=(n:Int)) (by omega)
 have h2:=Int.tmod_lt_of_pos e (b:=(n:Int)) (by omega)
 omega
structure RunR (rb0 m sn tb:Nat) (ba sa:Option Addr) (fv:Nat->Value) (sc:Nat->Int) (Bs:Nat) (Post:Value->World->Prop) (JB J2 JE:Nat->Gh->Rn->World->Prop) (rr:Nat->Nat->Bool):Prop where
 beg:∀ cs,(∀ X R w,JB m X R w->∀ fr,fr.fn = 35->Leaves Try.prog fr w (.returned (.tuple #[]))->Fin Try.prog Post X 0 (G fr cs) w)->BegJ rb0 m ba fv Bs Post cs JB
 b2s:∀ X R w,JB m X R w->J2 0 X R w
 ssl:SL sa sn
 mem:∀ n X R w,J2 n X R w->RunM w Bs R/\R.rb = rb0/\R.cl.length = m/\Bs <= w.heap.size/\R.evs.length <= 1000000/\R.used <= 1000000/\(∀ (i:Nat) (c:CB),R.cl[i]? = some c->c.picks <= 1000000)/\∀ j,j < sn->w.cell? ⟨ab sa,ao sa + j * 1,none⟩ = some (.int .i64 (sc j))
 keep:∀ n X R w w',J2 n X R w->Below w.heap.size w w'->J2 n X R w'
 rdy:∀ n X R w,J2 n X R w->∀ (i:Nat) (c:CB),R.cl[i]? = some c->c.wt = true->@ReadyAt (baseCtx Try.prog true) w c.rf (rr n i)
 pick:∀ n X R w i c,J2 n X R w->n < sn->(rdl R.cl (rr n) m)[pickIx (sc n) (rdl R.cl (rr n) m).length]? = some i->R.cl[i]? = some c->∃ g z1 me1,g ≠ 0/\X.seat g = some ⟨c.rc,z1,me1⟩/\X.dn = 0/\X.stay 0 = [(⟨R.rb,7,none⟩,.chan (some R.yb))]/\(X.chs R.yb/\∀ i s2,i ≠ g->X.seat i = some s2->s2.ch ≠ R.yb) /\
  ∀ w' a nn me0,Rg R.fp w.heap.size w w' Bs { R with ea:=a,ec:=nn,evs:=R.evs ++ [(i,c.sp)],used:=R.used + 1,cl:=R.cl.set i { c with picks:=c.picks + 1,wt:=false } }->(∀ X' R' u v,J2 (n + 1) X' R' u->Fin Try.prog Post X' 0 (Go.Conc.served me0 v) u)->Fin Try.prog Post (X.pass 0 g (some ⟨R.yb,.int .i64 0,me0⟩)) g (Go.Conc.served me1 (.bool true)) w'
 toE:∀ n X R w w' b,J2 n X R w->(n = sn\/rdl R.cl (rr n) m = [])->b = (R.cl.any (·.wt) && (rdl R.cl (rr n) m).isEmpty)->Rg R.fp w.heap.size w w' Bs { R with stuck:=b }->JE 0 X { R with stuck:=b } w'
 en:∀ ca cc cs,(∀ X R w,JE m X R w->R.ca = ca->R.cc = cc->∀ fr,fr.fn = 39->Leaves Try.prog fr w (.returned (.tuple #[]))->Fin Try.prog Post { X with pend:=0,cap:=0,dn:=0 } 0 (G fr cs) w)->EndJ rb0 m ca cc Bs Post cs (fun i X R w=>JE i X R w/\R.ca = ca/\R.cc = cc)
 memE:∀ X R w,JE m X R w->RunM w Bs R/\R.rb = rb0/\BlkF w tb #[.slice none 0 0,.slice none 0 0,.slice none 0 0,.slice none 0 0,.bool false,.int .i64 0] 31 (0,0)
abbrev outV (R:Rn):Value:=.agg #[.slice R.ea R.evs.length R.ec,.slice R.na R.nts.length R.nc,.slice (some ⟨R.eb,0,none⟩) R.m R.m,.slice (some ⟨R.wb,0,none⟩) R.m R.m,.bool R.stuck,.int .i64 (R.used:Int)]
structure RetJ (m tb:Nat) (Post:Value->World->Prop) (cs:List Frame) (JE:Nat->Gh->Rn->World->Prop):Prop where
 ret:∀ X R w w' fr,JE m X R w->w.grownBy w' (some tb)->fr.fn = 19->Leaves Try.prog fr w' (.returned (.tuple #[outV R,.int .i64 0]))->Fin Try.prog Post { X with pend:=0,cap:=0,dn:=0 } 0 (G fr cs) w'
theorem leaves_cellTmp {Z:Goroutine->World->Prop} {n:Nat} {cs:List Frame} {e:Env} {w:World} {t u b:Nat} {T E:TypeId} {fn:Func} {f:FuncId} {cells:Array Value} {d:TypeDesc} {v:Value} (hf:Try.prog.funcs[f]? = some fn) (hr:fn.results = #[.cell t T,.tmp u]) (he:e t = .pointer (some ⟨b,0,none⟩)) (hu0:e u = v) (hT:Try.prog.underlying T = some d) (hu:flatB d = false) (hB:Blk w b cells E) (hs:(Try.prog.info? T).map (·.size) = some cells.size)
  (h:∀ fr,fr.fn = f->Leaves Try.prog fr w (.returned (.tuple #[.agg cells,v]))->Z (G fr cs) w):ZR Z n (base f) cs e w:=by
 intro todo a ha
 letI:Ctx Try.prog:=baseCtx Try.prog true
 have h1:ends Try.prog fn (fun v' w'=>v' = .tuple #[.agg cells,v]/\w' = w) .ret e w:=ends.cellTmp (.inr rfl) hr he hT hu hs hB ⟨by rw [hu0],rfl⟩
 obtain ⟨_,v',h2,h3,h4⟩:=h1
 subst h3
 refine h _ rfl ⟨rfl,ha.defers,rfl,fn,hf,?_⟩
 exact h2 _ ha.get
noncomputable def runLast:Code:=match runTail with | .seq _ (.seq _ c)=>c | _=>.skip
theorem stuck_eq {l:List Nat} (n:Nat) (h:l.length = n:=by rfl):decide (((n:Nat):Int) = 0) = l.isEmpty:=by
 subst h
 cases l <;> simp
 omega
theorem rdl_cl {cl:List CB} {r:Nat->Bool} {m j i:Nat} (h:(rdl cl r m)[j]? = some i):∃ c,cl[i]? = some c:=by
 have:=List.mem_of_getElem? h
 simp only [rdl,List.mem_filter,Bool.and_eq_true] at this
 cases hc:cl[i]? with
 | none=>rw [hc] at this; simp at this
 | some c=>exact ⟨c,rfl⟩
theorem rdl_cell {cl:List CB} {r:Nat->Bool} {m j i:Nat} {c:CB} (h:(rdl cl r m)[j]? = some i) (hc:cl[i]? = some c):((rdl cl r m).map (cbOf cl))[j]? = some (.pointer (some ⟨c.cb,0,none⟩)):=by
 rw [List.getElem?_map,h]
 simp [cbOf,hc]
set_option maxRecDepth 20000 in
theorem run_end {rb0 m sn tb:Nat} {ba sa:Option Addr} {fv:Nat->Value} {sc:Nat->Int} {Bs:Nat} {Post:Value->World->Prop} {cs:List Frame} {JB J2 JE:Nat->Gh->Rn->World->Prop} {rr:Nat->Nat->Bool} (hE:RunR rb0 m sn tb ba sa fv sc Bs Post JB J2 JE rr) (hT:RetJ m tb Post cs JE) {X:Gh} {R:Rn} {w:World} (hJ:JE m X R w) {e:Env} {ops:Array Oper} (s6:e 6 = .pointer (some ⟨rb0,0,none⟩)) (s4:e 4 = .pointer (some ⟨tb,0,none⟩)):ZA (Fin Try.prog Post { X with pend:=0,cap:=0,dn:=0 } 0) 83 (base 19) cs e [.inRegion ops [],.code runLast] w:=by
 obtain ⟨hM,hrb,hT0⟩:=hE.memE _ _ _ hJ
 letI:Ctx Try.prog:=baseCtx Try.prog true
 have hZ:Ctx.Zs Try.prog (Fin Try.prog Post { X with pend:=0,cap:=0,dn:=0 } 0):=fin_zs
 have hb:=bkn 19
 rw [<- hrb] at s6
 rw [upd_id s6,upd_id s4]
 clear s6 s4
 refine ZA.endRegion hZ ?_
 refine ZA.seq hZ ?_
 refine ZA.W hZ hb ?_
 refine W.region rfl ?_
 refine L.va (x_mvP rfl) ?_
 refine L.va (x_nilCheck rfl) ?_
 refine L.va (x_field rfl Try.underlying91 rfl sz31 (by decide)) ?_
 refine L.va (x_loadAgg (cs:=[.slice (R.ea) (R.evs.length) (R.ec),.slice (R.na) (R.nts.length) (R.nc),.slice (some ⟨R.eb,0,none⟩) (R.m) (R.m),.slice (some ⟨R.wb,0,none⟩) (R.m) (R.m),.bool (R.stuck),.int .i64 (R.used:Int)]) rfl Try.underlying31 rfl sz31 rfl (hM.run.aggAt rfl)) ?_
 refine L.put (b:=tb) (o:=0) (s:=6) (vs:=[.slice R.ea R.evs.length R.ec,.slice R.na R.nts.length R.nc,.slice (some ⟨R.eb,0,none⟩) R.m R.m,.slice (some ⟨R.wb,0,none⟩) R.m R.m,.bool R.stuck,.int .i64 (R.used:Int)]) #[.slice R.ea R.evs.length R.ec,.slice R.na R.nts.length R.nc,.slice (some ⟨R.eb,0,none⟩) R.m R.m,.slice (some ⟨R.wb,0,none⟩) R.m R.m,.bool R.stuck,.int .i64 (R.used:Int)] rfl rfl rfl sz31 rfl rfl hT0 (Nat.le_of_ble_eq_true rfl) rfl (fun w2 hB hgr hsz=>?_)
 refine L.va (x_asI rfl) ?_
 refine L.nil ?_
 refine T.nrm ?_
 show ZA _ _ _ _ _ _ _
 refine ZA.ret hZ ?_
 exact leaves_cellTmp (u:=5) (v:=.int .i64 0) Try.func19 rfl rfl rfl Try.underlying31 rfl hB sz31 (fun fr h8 h9=>hT.ret X R w w2 fr hJ hgr h8 h9)
set_option maxRecDepth 20000 in
theorem run_tail {rb0 m sn tb:Nat} {ba sa:Option Addr} {fv:Nat->Value} {sc:Nat->Int} {Bs:Nat} {Post:Value->World->Prop} {cs:List Frame} {JB J2 JE:Nat->Gh->Rn->World->Prop} {rr:Nat->Nat->Bool} (hE:RunR rb0 m sn tb ba sa fv sc Bs Post JB J2 JE rr) (hT:RetJ m tb Post cs JE) (hm1:m <= 16) (_hs1:sn <= 1000000) {n:Nat} {X:Gh} {R:Rn} {w:World} (hJ:J2 n X R w) (hn:n = sn\/rdl R.cl (rr n) m = []) {e:Env} (s6:e 6 = .pointer (some ⟨rb0,0,none⟩)) (s4:e 4 = .pointer (some ⟨tb,0,none⟩)):ZA (Fin Try.prog Post X 0) 83 (base 19) cs e [.code runTail] w:=by
 obtain ⟨hM,hrb,hlen,hBs,hev,hus,hpk,hcell⟩:=hE.mem _ _ _ _ hJ
 letI:Ctx Try.prog:=baseCtx Try.prog true
 have hZ:Ctx.Zs Try.prog (Fin Try.prog Post X 0):=fin_zs
 have hb:=bkn 19
 rw [<- hrb] at s6
 rw [upd_id s6,upd_id s4]
 clear s6 s4
 have hg:=hM.rg
 refine ZA.seq hZ ?_
 refine ZA.W hZ hb ?_
 refine W.region rfl ?_
 refine L.va (x_mvP rfl) ?_
 refine L.va (x_mvP rfl) ?_
 refine L.call (x_call1 rfl Try.func38 rfl nm38 rfl) (anyWaits_c R Bs w hM (by omega)) ?_
 rintro _ w1 ⟨rfl,hw⟩
 rw [hw]
 clear hw w1
 by_cases hany:R.cl.any (·.wt) = true
 ·rw [hany]
  refine L.va (x_mvB rfl) ?_
  refine L.on rfl ?_
  refine L.va (x_mvP rfl) ?_
  refine L.on rfl ?_
  refine L.call (x_call1 rfl Try.func36 rfl nm36 rfl) (readies_c R Bs w hM (by omega) (rr n) (hE.rdy n X R w hJ)) ?_
  rintro _ w2 ⟨la,lc,rfl,hO,hbw⟩
  rw [hlen]
  have hg:=hg.keep hbw
  refine L.on rfl ?_
  refine L.va (x_len rfl Try.underlying79 rfl) ?_
  refine L.on rfl ?_
  refine L.va (x_eql rfl rfl) ?_
  refine L.va (x_pickT rfl) ?_
  refine L.va (x_nilCheck rfl) ?_
  refine L.va (x_field rfl Try.underlying91 rfl sz31 (by decide)) ?_
  refine L.va (x_field rfl Try.underlying31 rfl sz4 (by decide)) ?_
  refine L.stR (o:=5) (vs:=[.bool (decide ((((rdl R.cl (rr n) m).length:Nat):Int) = 0))]) hg (decide ((((rdl R.cl (rr n) m).length:Nat):Int) = 0)) R.used rfl rfl rfl sz4 rfl rfl (by decide) rfl (fun w hg hgr=>?_)
  clear hgr
  refine L.nil ?_
  refine T.nrm ?_
  show ZA _ _ _ _ _ _ _
  have hJE:=hE.toE n X R _ w _ hJ hn (by rw [hany,Bool.true_and]; exact stuck_eq _) hg
  refine ZA.seq hZ ?_
  refine ZA.upto hZ hb 1 rfl rfl (R:=fun e' w'=>ZA _ _ _ _ e' _ w') ?_ (fun _ _ h=>h)
  show L _ _ _ _ _ _ _
  refine L.va (x_mvP rfl) ?_
  refine L.nil ?_
  refine T.nrm ?_
  show ZA _ _ _ _ _ _ _
  refine ZA.call (i:=1) (rest:=[]) hZ hb (f:=39) (args:=#[.pointer (some ⟨R.rb,0,none⟩)]) rfl rfl (x_call1 rfl Try.func39 rfl nm39 rfl) (fun a ha=>?_)
  rw [hrb]
  refine end_fin (hE.en R.ca R.cc _ (fun X' R' u hJ' hca hcc fr h8 h9=>?_)) (by omega) ⟨hJE,rfl,rfl⟩
  have hZ':Ctx.Zs Try.prog (Fin Try.prog Post { X' with pend:=0,cap:=0,dn:=0 } 0):=fin_zs
  refine ZA.back (fin_cl Try.prog Post { X' with pend:=0,cap:=0,dn:=0 } 0) (i:=1) rfl rfl ha h9 ?_
  exact run_end hE hT hJ' (by rw [<- hrb]; rfl) rfl
 ·rw [show R.cl.any (·.wt) = false by simpa using hany]
  refine L.va (x_mvB rfl) ?_
  refine L.off rfl ?_
  refine L.off rfl ?_
  refine L.off rfl ?_
  refine L.off rfl ?_
  refine L.va (x_pickF rfl) ?_
  refine L.va (x_nilCheck rfl) ?_
  refine L.va (x_field rfl Try.underlying91 rfl sz31 (by decide)) ?_
  refine L.va (x_field rfl Try.underlying31 rfl sz4 (by decide)) ?_
  refine L.stR (o:=5) (vs:=[.bool false]) hg false R.used rfl rfl rfl sz4 rfl rfl (by decide) rfl (fun w hg hgr=>?_)
  clear hgr
  refine L.nil ?_
  refine T.nrm ?_
  show ZA _ _ _ _ _ _ _
  have hJE:=hE.toE n X R _ w _ hJ hn (by rw [show R.cl.any (·.wt) = false by simpa using hany]; rfl) hg
  refine ZA.seq hZ ?_
  refine ZA.upto hZ hb 1 rfl rfl (R:=fun e' w'=>ZA _ _ _ _ e' _ w') ?_ (fun _ _ h=>h)
  show L _ _ _ _ _ _ _
  refine L.va (x_mvP rfl) ?_
  refine L.nil ?_
  refine T.nrm ?_
  show ZA _ _ _ _ _ _ _
  refine ZA.call (i:=1) (rest:=[]) hZ hb (f:=39) (args:=#[.pointer (some ⟨R.rb,0,none⟩)]) rfl rfl (x_call1 rfl Try.func39 rfl nm39 rfl) (fun a ha=>?_)
  rw [hrb]
  refine end_fin (hE.en R.ca R.cc _ (fun X' R' u hJ' hca hcc fr h8 h9=>?_)) (by omega) ⟨hJE,rfl,rfl⟩
  have hZ':Ctx.Zs Try.prog (Fin Try.prog Post { X' with pend:=0,cap:=0,dn:=0 } 0):=fin_zs
  refine ZA.back (fin_cl Try.prog Post { X' with pend:=0,cap:=0,dn:=0 } 0) (i:=1) rfl rfl ha h9 ?_
  exact run_end hE hT hJ' (by rw [<- hrb]; rfl) rfl
set_option maxRecDepth 20000 in
theorem run_loop {rb0 m sn tb:Nat} {ba sa:Option Addr} {fv:Nat->Value} {sc:Nat->Int} {Bs:Nat} {Post:Value->World->Prop} {cs:List Frame} {JB J2 JE:Nat->Gh->Rn->World->Prop} {rr:Nat->Nat->Bool} (hE:RunR rb0 m sn tb ba sa fv sc Bs Post JB J2 JE rr) (hT:RetJ m tb Post cs JE) (hm1:m <= 16) (hs1:sn <= 1000000) {scp:Nat}:∀ (k n:Nat),n + k = sn->∀ X R w,J2 n X R w->∀ e:Env,e 6 = .pointer (some ⟨rb0,0,none⟩)->e 39 = .slice sa sn scp->e 40 = .int .i64 (sn:Int)->e 41 = .int .i64 (n:Int)->e 4 = .pointer (some ⟨tb,0,none⟩)->e 1 = .slice sa sn scp->ZA (Fin Try.prog Post X 0) 83 (base 19) cs e [.code runLoop,.inLoop runLoop,.inBlock 0,.code runTail] w:=by
 intro k
 induction k with
 | zero =>
  intro n hk X R w hJ e s6 s39 s40 s41 s4 s1
  obtain ⟨hM,hrb,hlen,hBs,hev,hus,hpk,hcell⟩:=hE.mem _ _ _ _ hJ
  letI:Ctx Try.prog:=baseCtx Try.prog true
  have hZ:Ctx.Zs Try.prog (Fin Try.prog Post X 0):=fin_zs
  have hb:=bkn 19
  rw [<- hrb] at s6
  rw [upd_id s6,upd_id s39,upd_id s40,upd_id s41,upd_id s4,upd_id s1]
  clear s6 s39 s40 s41 s4 s1
  refine ZA.seq hZ ?_
  refine ZA.W hZ hb ?_
  refine W.region rfl ?_
  refine L.va (x_lss rfl rfl) ?_
  refine L.nil ?_
  refine T.nrm ?_
  show ZA _ _ _ _ _ _ _
  refine ZA.seq hZ ?_
  refine ZA.condF hZ (rb (decide_eq_false (by omega))) ?_
  refine ZA.exit hZ rfl ?_
  obtain rfl:n = sn:=by omega
  exact run_tail hE hT hm1 hs1 hJ (.inl rfl) (by rw [<- hrb]; rfl) rfl
 | succ k ih =>
  intro n hk X R w hJ e s6 s39 s40 s41 s4 s1
  obtain ⟨hM,hrb,hlen,hBs,hev,hus,hpk,hcell⟩:=hE.mem _ _ _ _ hJ
  letI:Ctx Try.prog:=baseCtx Try.prog true
  have hZ:Ctx.Zs Try.prog (Fin Try.prog Post X 0):=fin_zs
  have hb:=bkn 19
  rw [<- hrb] at s6
  rw [upd_id s6,upd_id s39,upd_id s40,upd_id s41,upd_id s4,upd_id s1]
  clear s6 s39 s40 s41 s4 s1
  have hlt:n < sn:=by omega
  refine ZA.seq hZ ?_
  refine ZA.W hZ hb ?_
  refine W.region rfl ?_
  refine L.va (x_lss rfl rfl) ?_
  refine L.nil ?_
  refine T.nrm ?_
  show ZA _ _ _ _ _ _ _
  refine ZA.seq hZ ?_
  refine ZA.condT hZ (rb (decide_eq_true (by omega))) ?_
  refine ZA.skip hZ ?_
  refine ZA.seq hZ ?_
  refine ZA.block hZ ?_
  refine ZA.seq hZ ?_
  refine ZA.W hZ hb ?_
  refine W.region rfl ?_
  refine L.va (x_idx (i:=n) rfl rfl Try.underlying26 sz3 hE.ssl hlt) ?_
  refine L.va (x_load (v:=.int .i64 (sc n)) rfl Try.underlying3 rfl (hcell n hlt)) ?_
  refine L.va (x_asI rfl) ?_
  refine L.nil ?_
  refine T.nrm ?_
  show ZA _ _ _ _ _ _ _
  refine ZA.seq hZ ?_
  refine ZA.W hZ hb ?_
  refine W.region rfl ?_
  refine L.va (x_mvP rfl) ?_
  refine L.call (x_call1 rfl Try.func36 rfl nm36 rfl) (readies_c R Bs w hM (by omega) (rr n) (hE.rdy n X R w hJ)) ?_
  rintro _ w2 ⟨la,lc,rfl,hO,hbw⟩
  rw [hlen] at hO ⊢
  have hJ:=hE.keep n X R w w2 hJ hbw
  clear hM hBs hcell hbw
  clear hev hus hpk
  obtain ⟨hM,_,_,hBs,hev,hus,hpk,hcell⟩:=hE.mem _ _ _ _ hJ
  refine L.va (x_asS rfl) ?_
  refine L.nil ?_
  refine T.nrm ?_
  show ZA _ _ _ _ _ _ _
  refine ZA.seq hZ ?_
  refine ZA.seq hZ ?_
  refine ZA.W hZ hb ?_
  refine W.region rfl ?_
  refine L.va (x_mvS rfl) ?_
  refine L.va (x_len rfl Try.underlying79 rfl) ?_
  refine L.va (x_eql rfl rfl) ?_
  refine L.nil ?_
  refine T.nrm ?_
  show ZA _ _ _ _ _ _ _
  by_cases hnl:(rdl R.cl (rr n) m).length = 0
  ·refine ZA.condT hZ (rb (decide_eq_true (by omega))) ?_
   refine ZA.exit hZ rfl ?_
   exact run_tail hE hT hm1 hs1 hJ (.inr (List.eq_nil_of_length_eq_zero hnl)) (by rw [<- hrb]; rfl) rfl
  ·refine ZA.condF hZ (rb (decide_eq_false (by omega))) ?_
   refine ZA.skip hZ ?_
   refine ZA.seq hZ ?_
   refine ZA.W hZ hb ?_
   refine W.region rfl ?_
   refine L.va (x_mvS rfl) ?_
   refine L.va (x_len rfl Try.underlying79 rfl) ?_
   refine L.va (x_asI rfl) ?_
   refine L.nil ?_
   refine T.nrm ?_
   show ZA _ _ _ _ _ _ _
   have hln:(rdl R.cl (rr n) m).length <= 16:=Nat.le_trans (rdl_le m) hm1
   have htb:=tmod_bd (sc n) (n:=(rdl R.cl (rr n) m).length) (by omega) (by omega)
   have hpl:=pickIx_lt (sc n) (n:=(rdl R.cl (rr n) m).length) (by omega)
   obtain ⟨i,hi⟩:∃ i,(rdl R.cl (rr n) m)[pickIx (sc n) (rdl R.cl (rr n) m).length]? = some i:=⟨_,List.getElem?_eq_getElem hpl⟩
   obtain ⟨c,hc⟩:=rdl_cl hi
   refine ZA.upto hZ hb 11 rfl rfl (R:=fun e' w'=>ZA _ _ _ _ e' _ w') ?_ (fun _ _ h=>h)
   show L _ _ _ _ _ _ _
   refine L.va (x_mvP rfl) ?_
   refine L.va (x_mvS rfl) ?_
   refine L.va (x_mvI rfl) ?_
   refine L.va (x_mvI rfl) ?_
   refine L.va (x_rem rfl rfl (by omega)) ?_
   refine L.va (x_mvI rfl) ?_
   refine L.va (x_addI rfl rfl (by omega)) ?_
   refine L.va (x_mvI rfl) ?_
   refine L.va (v:=.int .i64 ((pickIx (sc n) (rdl R.cl (rr n) m).length:Nat):Int)) (by rw [<- mod2 (sc n) (n:=(rdl R.cl (rr n) m).length) (by omega)]; exact x_rem rfl rfl (by omega)) ?_
   refine L.va (x_idx (i:=pickIx (sc n) (rdl R.cl (rr n) m).length) rfl rfl Try.underlying79 sz50 hO.sl hpl) ?_
   refine L.va (x_load (v:=.pointer (some ⟨c.cb,0,none⟩)) rfl Try.underlying50 rfl (by rw [hO.off,Nat.zero_add,Nat.mul_one]; exact hO.cell (rdl_cell hi hc))) ?_
   refine L.nil ?_
   refine T.nrm ?_
   show ZA _ _ _ _ _ _ _
   obtain ⟨g,z1,me1,hg0,hX0,hdn,hst,hsh,hcl⟩:=hE.pick n X R w2 i c hJ hlt hi hc
   refine ZA.call (i:=11) (rest:=[]) hZ hb (f:=37) (args:=#[.pointer (some ⟨R.rb,0,none⟩),.pointer (some ⟨c.cb,0,none⟩)]) rfl rfl (x_call2 rfl rfl Try.func37 rfl nm37 rfl) (fun a ha=>?_)
   refine pick_fin hM.rg hBs hc hev (hpk i c hc) hus hg0 hX0 hdn hst hsh (fun w' a' nn me0 hg hme=>hcl w' a' nn me0 hg (fun X' R' u v hJ'=>hme _ fin_zs u v fun fr h8 h9=>?_))
   refine ZA.back (fin_cl Try.prog Post X' 0) (i:=11) rfl rfl ha h9 ?_
   have hZ:Ctx.Zs Try.prog (Fin Try.prog Post X' 0):=fin_zs
   refine ZA.endRegion hZ ?_
   refine ZA.inBlock hZ ?_
   refine ZA.W hZ hb ?_
   refine W.region rfl ?_
   refine L.va (x_inc rfl rfl (by omega)) ?_
   refine L.va (x_mvI rfl) ?_
   refine L.nil ?_
   refine T.nrm ?_
   show ZA _ _ _ _ _ _ _
   refine ZA.inLoop hZ ?_
   exact ih (n + 1) (by omega) X' R' u hJ' _ (by rw [<- hrb]; rfl) rfl rfl rfl rfl rfl
end Go.Vy.Sc
end
/- sched.Run, from its call to its return. -/
section
namespace Go.Vy.Sc
open Go Go.Conc Go.Yc Go.RowKit Go.Proofs Go.Proofs.Ytfmoeemolgjodaa
open Go.Vc Go.Wg
attribute [local irreducible] KK
theorem rep_ints (m:Nat):(Array.replicate (m * 1) (Value.int .i64 0)) = ((List.replicate m (0:Int)).map (Value.int .i64)).toArray:=by
 rw [Nat.mul_one]
 apply Array.toList_inj.1
 simp
theorem rep_stps (m:Nat):(Array.replicate (m * 3) (Value.int .i64 0)) = ((List.replicate m sp0).flatMap spC).toArray:=by
 apply Array.toList_inj.1
 simp only [Array.toList_replicate]
 induction m with
 | zero=>rfl
 | succ m ih =>
  rw [List.replicate_succ,List.flatMap_cons,<- ih,Nat.succ_mul,Nat.add_comm (m * 3) 3,<- List.replicate_append_replicate]
  rfl
structure Begun (w0 w:World) (rb yb eb wb tb m:Nat):Prop where
 mem:RunM w w0.heap.size (rn0 rb yb eb wb m)
 low:Below w0.heap.size w0 w
 le:w0.heap.size <= rb/\w0.heap.size <= yb/\w0.heap.size <= eb/\w0.heap.size <= wb/\w0.heap.size <= tb
 yb:w.heap[yb]? = some nothing
 tb:BlkF w tb #[.slice none 0 0,.slice none 0 0,.slice none 0 0,.slice none 0 0,.bool false,.int .i64 0] 31 (0,0)
theorem buZ_0 (x0:Option Nat):Try.prog.built 91 [(2,.chan x0)] = some #[.slice none 0 0,.slice none 0 0,.slice none 0 0,.slice none 0 0,.slice none 0 0,.bool false,.int .i64 0,.chan x0,.int .u64 0,.int .u32 0]:=by kernel_rfl
set_option maxRecDepth 20000 in
theorem run_fin {ba sa:Option Addr} {m bc sn scp:Nat} {fv:Nat->Value} {sc:Nat->Int} {Post:Value->World->Prop} {cs:List Frame} {X:Gh} {w0:World} (hm1:m <= 16) (hs1:sn <= 262144) (hU:X.Under w0.heap.size) (hpl:∀ b,w0.heap.size <= b->X.plug b = .all) (hcap:X.cap = 0)
  (hring:∀ w4 rb yb eb wb tb,Begun w0 w4 rb yb eb wb tb m->∃ JB J2 JE rr,RunR rb m sn tb ba sa fv sc w0.heap.size Post JB J2 JE rr/\RetJ m tb Post cs JE/\JB 0 (startX X rb yb 8) (rn0 rb yb eb wb m) w4) :
  Fin Try.prog Post X 0 (G (Frame.enter Try.prog 19 #[.slice ba m bc,.slice sa sn scp] .normal) cs) w0:=by
 letI:Ctx Try.prog:=baseCtx Try.prog true
 have hZ:Ctx.Zs Try.prog (Fin Try.prog Post X 0):=fin_zs
 have hb:=bkn 19
 rw [enter_at _ Try.func19 rfl]
 refine (?_:ZA (Fin Try.prog Post X 0) 83 (base 19) cs (Vc.argE #[.slice ba m bc,.slice sa sn scp]) [.code (Try.f19.body.getD .skip)] w0) _ (rep_args _ _ rfl)
 have hb0:Below w0.heap.size w0 w0:=Below.refl _ _
 refine ZA.seq hZ ?_
 refine ZA.W hZ hb ?_
 refine W.region rfl ?_
 refine L.alloc (cs:=#[.slice none 0 0,.slice none 0 0,.slice none 0 0,.slice none 0 0,.bool false,.int .i64 0]) zr31 rfl (fun w b4 F4=>?_)
 have lt4:w0.heap.size <= b4:=by have h9:=F4.here; have h8:=hb0.size; omega
 have hb0:=cl_step hb0 F4.below
 have hB4:=F4.blk
 refine L.va (x_asI rfl) ?_
 refine L.nil ?_
 refine T.nrm ?_
 show ZA _ _ _ _ _ _ _
 refine ZA.seq hZ ?_
 refine ZA.seq hZ ?_
 refine ZA.W hZ hb ?_
 refine W.region rfl ?_
 refine L.va (x_mvS rfl) ?_
 refine L.va (x_len rfl Try.underlying49 rfl) ?_
 refine L.va (x_gtr rfl rfl) ?_
 refine L.nil ?_
 refine T.nrm ?_
 show ZA _ _ _ _ _ _ _
 refine ZA.condF hZ (rb (decide_eq_false (by omega))) ?_
 refine ZA.skip hZ ?_
 refine ZA.seq hZ ?_
 refine ZA.seq hZ ?_
 refine ZA.W hZ hb ?_
 refine W.region rfl ?_
 refine L.va (x_mvS rfl) ?_
 refine L.va (x_len rfl Try.underlying26 rfl) ?_
 refine L.va (x_gtr rfl rfl) ?_
 refine L.nil ?_
 refine T.nrm ?_
 show ZA _ _ _ _ _ _ _
 refine ZA.condF hZ (rb (decide_eq_false (by omega))) ?_
 refine ZA.skip hZ ?_
 refine ZA.seq hZ ?_
 refine ZA.W hZ hb ?_
 refine W.region rfl ?_
 refine L.makeChan rfl Try.underlying80 ⟨_,sz3⟩ (fun w1 hbw hch hsz1=>?_)
 obtain ⟨yb,hyb⟩:∃ yb,yb = w.heap.size:=⟨_,rfl⟩
 have ltyb:w0.heap.size <= yb:=by rw [hyb]; exact hb0.size
 rw [<- hyb] at hch ⊢
 have hb0:=cl_step hb0 hbw
 have hB4:=hB4.keep hbw
 clear hbw hsz1 hyb
 rename World=>w
 refine L.va (x_build (parts:=[(2,.tmp 19)]) rfl (buZ_0 (some yb))) ?_
 refine L.box (cs:=#[.slice none 0 0,.slice none 0 0,.slice none 0 0,.slice none 0 0,.slice none 0 0,.bool false,.int .i64 0,.chan (some yb),.int .u64 0,.int .u32 0]) rfl rfl (fun w b21 F21=>?_)
 have lt21:w0.heap.size <= b21:=by have h9:=F21.here; have h8:=hb0.size; omega
 have hb0:=cl_step hb0 F21.below
 have hB4:=hB4.keep F21.below
 have hch:=hch.keep F21.below
 have hB21:=F21.blk
 refine L.va (x_asP rfl) ?_
 refine L.nil ?_
 refine T.nrm ?_
 show ZA _ _ _ _ _ _ _
 refine ZA.seq hZ ?_
 refine ZA.W hZ hb ?_
 refine W.region rfl ?_
 refine L.va (x_mvP rfl) ?_
 refine L.va (x_mvS rfl) ?_
 refine L.va (x_len rfl Try.underlying49 rfl) ?_
 refine L.make (m:=m) rfl rfl Try.underlying26 in3 (z0:=.int .i64 0) rfl (by decide) (by omega) (by omega) (fun w b25 F25=>?_)
 have lt25:w0.heap.size <= b25:=by have h9:=F25.here; have h8:=hb0.size; omega
 have hb0:=cl_step hb0 F25.below
 have hB4:=hB4.keep F25.below
 have hch:=hch.keep F25.below
 have hB21:=hB21.keep F25.below
 have hB25:=F25.blk
 have hB25:Blk w b25 (Array.replicate (m * 1) (.int .i64 0)) 3:=hB25
 refine L.va (x_nilCheck rfl) ?_
 refine L.va (x_field rfl Try.underlying91 rfl sz31 (by decide)) ?_
 refine L.va (x_field rfl Try.underlying31 rfl sz26 (by decide)) ?_
 refine L.put (b:=b21) (o:=3) (vs:=[.slice (some ⟨b25,0,none⟩) m m]) #[.slice none 0 0,.slice none 0 0,.slice none 0 0,.slice (some ⟨b25,0,none⟩) m m,.slice none 0 0,.bool false,.int .i64 0,.chan (some yb),.int .u64 0,.int .u32 0] rfl rfl rfl sz26 rfl rfl hB21 (Nat.le_of_ble_eq_true rfl) rfl (fun w hnew hg hsz=>?_)
 have hB4:=hB4.other hg (Blk.ne hB4 hB21 (by decide))
 have hch:=hch.grown hg (fun r e=>by cases e; exact ⟨_,_,_,blkF_of hB21⟩)
 have hB25:=hB25.other hg (Blk.ne hB25 hB21 (by decide))
 have hb0:=below_gr hb0 hb0.size hg lt21
 have hm0:=True.intro
 have hB21:=hnew
 clear hm0
 refine L.nil ?_
 refine T.nrm ?_
 show ZA _ _ _ _ _ _ _
 refine ZA.seq hZ ?_
 refine ZA.W hZ hb ?_
 refine W.region rfl ?_
 refine L.va (x_mvP rfl) ?_
 refine L.va (x_mvS rfl) ?_
 refine L.va (x_len rfl Try.underlying49 rfl) ?_
 refine L.make (m:=m) rfl rfl Try.underlying29 in43 (z0:=.int .i64 0) rfl (by decide) (by omega) (by omega) (fun w b32 F32=>?_)
 have lt32:w0.heap.size <= b32:=by have h9:=F32.here; have h8:=hb0.size; omega
 have hb0:=cl_step hb0 F32.below
 have hB4:=hB4.keep F32.below
 have hch:=hch.keep F32.below
 have hB21:=hB21.keep F32.below
 have hB25:=hB25.keep F32.below
 have hB32:=F32.blk
 have hB32:Blk w b32 (Array.replicate (m * 3) (.int .i64 0)) 43:=hB32
 refine L.va (x_nilCheck rfl) ?_
 refine L.va (x_field rfl Try.underlying91 rfl sz31 (by decide)) ?_
 refine L.va (x_field rfl Try.underlying31 rfl sz29 (by decide)) ?_
 refine L.put (b:=b21) (o:=4) (vs:=[.slice (some ⟨b32,0,none⟩) m m]) #[.slice none 0 0,.slice none 0 0,.slice none 0 0,.slice (some ⟨b25,0,none⟩) m m,.slice (some ⟨b32,0,none⟩) m m,.bool false,.int .i64 0,.chan (some yb),.int .u64 0,.int .u32 0] rfl rfl rfl sz29 rfl rfl hB21 (Nat.le_of_ble_eq_true rfl) rfl (fun w hnew hg hsz=>?_)
 have hB4:=hB4.other hg (Blk.ne hB4 hB21 (by decide))
 have hch:=hch.grown hg (fun r e=>by cases e; exact ⟨_,_,_,blkF_of hB21⟩)
 have hB25:=hB25.other hg (Blk.ne hB25 hB21 (by decide))
 have hB32:=hB32.other hg (Blk.ne hB32 hB21 (by decide))
 have hb0:=below_gr hb0 hb0.size hg lt21
 have hm0:=True.intro
 have hB21:=hnew
 clear hm0
 refine L.nil ?_
 refine T.nrm ?_
 show ZA _ _ _ _ _ _ _
 have hB21:Blk w b21 (#[.slice none 0 0,.slice none 0 0,.slice none 0 0,.slice (some ⟨b25,0,none⟩) m m,.slice (some ⟨b32,0,none⟩) m m,.bool false,.int .i64 0,.chan (some yb)] ++ #[.int .u64 0,.int .u32 0]) 91:=hB21
 have hne:yb ≠ b21:=fun e=>by subst e; unfold ChanAt at hch; unfold Blk at hB21; rw [hch] at hB21; cases hB21
 refine ZA.begin hcap (hU.mono lt21) (hU.mono ltyb) (hpl _ lt21) (hpl _ ltyb) hch hB21 (Nat.zero_lt_succ _) rfl ?_
 show ZA (Fin Try.prog Post (startX X b21 yb 8) 0) _ _ _ _ _ (setBlkF (putObj' w yb nothing) b21 _ _ (7,8))
 have hX:X.Under w0.heap.size:=hU
 have hap:∀ (b:Nat) (cs:Array Value) (T:TypeId),Blk w b cs T->T ≠ 91->BlkF (setBlkF (putObj' w yb nothing) b21 #[.slice none 0 0,.slice none 0 0,.slice none 0 0,.slice (some ⟨b25,0,none⟩) m m,.slice (some ⟨b32,0,none⟩) m m,.bool false,.int .i64 0,.chan (some yb)] 91 (7,8)) b cs T (0,0):=fun b cs T h hT=>by
  have h1:b ≠ b21:=Blk.ne h hB21 hT
  have h2:yb ≠ b:=fun e=>by subst e; unfold ChanAt at hch; unfold Blk at h; rw [hch] at h; cases h
  unfold BlkF
  rw [setBlkF_other h1,putObj'_ne _ _ h2]
  exact h
 have hbeg:Begun w0 (setBlkF (putObj' w yb nothing) b21 #[.slice none 0 0,.slice none 0 0,.slice none 0 0,.slice (some ⟨b25,0,none⟩) m m,.slice (some ⟨b32,0,none⟩) m m,.bool false,.int .i64 0,.chan (some yb)] 91 (7,8)) b21 yb b25 b32 b4 m:=by
  have hsz:b21 < (putObj' w yb nothing).heap.size:=by have:=hB21.lt; simpa [putObj'] using this
  refine ⟨⟨?_,Own.nil _ _ _ _,Own.nil _ _ _ _,Own.nil _ _ _ _,?_,?_,by simp [rn0],by simp [rn0],Nat.zero_le _,fun i c hc=>by simp [rn0] at hc⟩,⟨hb0.os,hb0.tape,hb0.output,by rw [setBlkF_size]; simpa [putObj'] using hb0.size,fun k hk=>?_⟩,⟨lt21,ltyb,lt25,lt32,lt4⟩,?_,hap _ _ _ hB4 (by decide)⟩
  ·simp [BlkF,setBlkF,hsz,rn0,Rn.cells]
  ·have:=hap _ _ _ hB25 (by decide); rw [rep_ints] at this; exact this
  ·have:=hap _ _ _ hB32 (by decide); rw [rep_stps] at this; exact this
  ·rw [setBlkF_other (by omega),putObj'_ne _ _ (by omega)]; exact hb0.block k hk
  ·rw [setBlkF_other hne]; exact putObj'_same w hch
 obtain ⟨JB,J2,JE,rr,hE,hT,hJ0⟩:=hring _ _ _ _ _ _ hbeg
 generalize setBlkF (putObj' w yb nothing) b21 #[.slice none 0 0,.slice none 0 0,.slice none 0 0,.slice (some ⟨b25,0,none⟩) m m,.slice (some ⟨b32,0,none⟩) m m,.bool false,.int .i64 0,.chan (some yb)] 91 (7,8) = w4 at *
 have hZ:Ctx.Zs Try.prog (Fin Try.prog Post (startX X b21 yb 8) 0):=fin_zs
 refine ZA.seq hZ ?_
 refine ZA.upto hZ hb 2 rfl rfl (R:=fun e' w'=>ZA _ _ _ _ e' _ w') ?_ (fun _ _ h=>h)
 show L _ _ _ _ _ _ _
 refine L.va (x_mvP rfl) ?_
 refine L.va (x_mvS rfl) ?_
 refine L.nil ?_
 refine T.nrm ?_
 show ZA _ _ _ _ _ _ _
 refine ZA.call (i:=2) (rest:=[]) hZ hb (f:=35) (args:=#[.pointer (some ⟨b21,0,none⟩),.slice ba m bc]) rfl rfl (x_call2 rfl rfl Try.func35 rfl nm35 rfl) (fun a ha=>?_)
 refine beg_fin (hE.beg _ (fun X' R' u hJ' fr h8 h9=>?_)) (by omega) hJ0
 have hZ:Ctx.Zs Try.prog (Fin Try.prog Post X' 0):=fin_zs
 refine ZA.back (fin_cl Try.prog Post X' 0) (i:=2) rfl rfl ha h9 ?_
 refine ZA.endRegion hZ ?_
 refine ZA.seq hZ ?_
 refine ZA.seq hZ ?_
 refine ZA.W hZ hb ?_
 refine W.region rfl ?_
 refine L.va (x_mvS rfl) ?_
 refine L.va (x_len rfl Try.underlying26 rfl) ?_
 refine L.va (x_mvI rfl) ?_
 refine L.nil ?_
 refine T.nrm ?_
 show ZA _ _ _ _ _ _ _
 refine ZA.block hZ ?_
 refine ZA.loop hZ ?_
 exact run_loop hE hT hm1 (by omega) sn 0 (by omega) X' R' u (hE.b2s _ _ _ hJ') _ rfl rfl rfl rfl rfl rfl
end Go.Vy.Sc
end
/- A run of clients, told without a program; the clients' places among the goroutines. -/
section
namespace Go.Vy.Sc
open Go Go.Conc Go.Yc Go.RowKit Go.Proofs Go.Proofs.Ytfmoeemolgjodaa
open Go.Vc Go.Wg
attribute [local irreducible] KK
structure Sys where
 S:Type
 L:Type
 m:Nat
 s0:S
 nil:Nat->Bool
 stp:Nat->L->Stp
 rdy:Nat->L->S->Bool
 beg:Nat->S->Out' S L
 go:Nat->L->S->Out' S L
 Inv:S->World->(Nat->Prop)->Prop
 lb:Nat
 pl:Nat->Plug
structure PR (Y:Sys) where
 s:Y.S
 ft:List (Y.L ⊕ Nat)
 evs:List (Nat × Stp)
 nts:List (Nat × Nat × Nte)
 outs:List (Out' Y.S Y.L)
 who:List (Option Nat)
 used:Nat
def tell (i n:Nat) (l:List Nte):List (Nat × Nat × Nte):=l.map fun k=>(n,i,k)
namespace Sys
section
variable (Y:Sys)
def p0:PR Y:=⟨Y.s0,[],[],[],[],[],0⟩
def bgn (p:PR Y):PR Y:=if Y.nil p.ft.length then { p with ft:=p.ft ++ [.inr 1] } else
 { p with s:=(Y.beg p.ft.length p.s).s,ft:=p.ft ++ [(Y.beg p.ft.length p.s).fate],nts:=p.nts ++ tell p.ft.length p.evs.length (Y.beg p.ft.length p.s).nts,outs:=p.outs ++ [Y.beg p.ft.length p.s],who:=p.who ++ [none] }
def begs:Nat->PR Y
 | 0=>Y.p0
 | n + 1=>Y.bgn (begs n)
def turn (p:PR Y) (i:Nat):PR Y:=match p.ft[i]? with
 | some (.inl l)=>{ p with s:=(Y.go i l p.s).s,ft:=p.ft.set i (Y.go i l p.s).fate,evs:=p.evs ++ [(i,Y.stp i l)],nts:=p.nts ++ tell i (p.evs.length + 1) (Y.go i l p.s).nts,outs:=p.outs ++ [Y.go i l p.s],who:=p.who ++ [some i],used:=p.used + 1 }
 | _=>p
def isRdy (p:PR Y) (i:Nat):Bool:=match p.ft[i]? with
 | some (.inl l)=>Y.rdy i l p.s
 | _=>false
def rds (p:PR Y):List Nat:=(List.range Y.m).filter (Y.isRdy p)
def step (p:PR Y) (e:Int):PR Y:=match (Y.rds p)[pickIx e (Y.rds p).length]? with
 | some i=>Y.turn p i
 | none=>p
def pn (sc:Nat->Int):Nat->PR Y
 | 0=>Y.begs Y.m
 | n + 1=>Y.step (pn sc n) (sc n)
def o0:Out' Y.S Y.L:=⟨Y.s0,[],.inr 0⟩
def outAt (q:PR Y) (t:Nat):Out' Y.S Y.L:=(q.outs[t]?).getD Y.o0
def sAt (q:PR Y):Nat->Y.S
 | 0=>Y.s0
 | t + 1=>(Y.outAt q t).s
def picks (q:PR Y) (i t:Nat):Nat:=(q.who.take (t + 1)).count (some i)
structure Le (p q:PR Y):Prop where
 outs:p.outs <+: q.outs
 who:p.who <+: q.who
theorem Le.refl (p:PR Y):Y.Le p p:=⟨List.prefix_refl _,List.prefix_refl _⟩
variable {Y}
theorem Le.trans {p q r:PR Y} (h:Y.Le p q) (h':Y.Le q r):Y.Le p r:=⟨h.outs.trans h'.outs,h.who.trans h'.who⟩
theorem le_bgn (p:PR Y):Y.Le p (Y.bgn p):=by
 unfold bgn
 split
 ·exact ⟨List.prefix_refl _,List.prefix_refl _⟩
 ·exact ⟨List.prefix_append _ _,List.prefix_append _ _⟩
theorem le_turn (p:PR Y) (i:Nat):Y.Le p (Y.turn p i):=by
 unfold turn
 split
 ·exact ⟨List.prefix_append _ _,List.prefix_append _ _⟩
 ·exact Le.refl Y p
theorem le_step (p:PR Y) (e:Int):Y.Le p (Y.step p e):=by
 unfold step
 split
 ·exact le_turn p _
 ·exact Le.refl Y p
theorem le_begs {n k:Nat}:Y.Le (Y.begs n) (Y.begs (n + k)):=by
 induction k with
 | zero=>exact Le.refl Y _
 | succ k ih=>exact ih.trans (le_bgn _)
theorem le_pn {sc:Nat->Int} {n k:Nat}:Y.Le (Y.pn sc n) (Y.pn sc (n + k)):=by
 induction k with
 | zero=>exact Le.refl Y _
 | succ k ih=>exact ih.trans (le_step _ _)
structure Ok (p:PR Y):Prop where
 s:p.s = Y.sAt p p.outs.length
 who:p.who.length = p.outs.length
 used:p.evs.length = p.used
theorem sAt_le {p q:PR Y} (h:Y.Le p q) {t:Nat} (ht:t <= p.outs.length):Y.sAt q t = Y.sAt p t:=by
 cases t with
 | zero=>rfl
 | succ t =>
  obtain ⟨l,hl⟩:=h.outs
  show (Y.outAt q t).s = (Y.outAt p t).s
  unfold outAt
  rw [<- hl,List.getElem?_append_left (by omega)]
theorem ok_p0:Ok (Y.p0):=⟨rfl,rfl,rfl⟩
theorem sAt_app (p:PR Y) (o:Out' Y.S Y.L) {q:PR Y} (hq:q.outs = p.outs ++ [o]):Y.sAt q (p.outs.length + 1) = o.s:=by
 show (Y.outAt q p.outs.length).s = o.s
 unfold outAt
 rw [hq]; simp
theorem Ok.bgn {p:PR Y} (h:Ok p):Ok (Y.bgn p):=by
 unfold Sys.bgn
 split
 ·exact ⟨h.s,h.who,h.used⟩
 ·refine ⟨?_,by simp [h.who],h.used⟩
  simp only [List.length_append,List.length_cons,List.length_nil,Nat.zero_add]
  exact (sAt_app p _ rfl).symm
theorem Ok.turn {p:PR Y} (h:Ok p) (i:Nat):Ok (Y.turn p i):=by
 unfold Sys.turn
 split
 ·refine ⟨?_,by simp [h.who],by simp [h.used]⟩
  simp only [List.length_append,List.length_cons,List.length_nil,Nat.zero_add]
  exact (sAt_app p _ rfl).symm
 ·exact h
theorem Ok.step {p:PR Y} (h:Ok p) (e:Int):Ok (Y.step p e):=by
 unfold Sys.step
 split
 ·exact h.turn _
 ·exact h
theorem ok_begs:∀ n,Ok (Y.begs n)
 | 0=>ok_p0
 | n + 1=>(ok_begs n).bgn
theorem ok_pn (sc:Nat->Int):∀ n,Ok (Y.pn sc n)
 | 0=>ok_begs _
 | n + 1=>(ok_pn sc n).step _
theorem s_at {p q:PR Y} (h:Ok p) (hl:Y.Le p q):Y.sAt q p.outs.length = p.s:=by rw [sAt_le hl (Nat.le_refl _),h.s]
theorem out_at {p q:PR Y} {o:Out' Y.S Y.L} {p':PR Y} (hp:p'.outs = p.outs ++ [o]) (hl:Y.Le p' q):Y.outAt q p.outs.length = o:=by
 obtain ⟨l,hl⟩:=hl.outs
 unfold outAt
 rw [<- hl,hp,List.append_assoc,List.getElem?_append_right (Nat.le_refl _)]; simp
theorem len_begs:∀ n,(Y.begs n).ft.length = n
 | 0=>rfl
 | n + 1=>by
  show (Y.bgn (Y.begs n)).ft.length = n + 1
  unfold bgn
  split <;> simp [len_begs n]
theorem len_turn (p:PR Y) (i:Nat):(Y.turn p i).ft.length = p.ft.length:=by
 unfold turn
 split <;> simp
theorem len_step (p:PR Y) (e:Int):(Y.step p e).ft.length = p.ft.length:=by
 unfold step
 split
 ·exact len_turn p _
 ·rfl
theorem len_pn (sc:Nat->Int):∀ n,(Y.pn sc n).ft.length = Y.m
 | 0=>len_begs _
 | n + 1=>(len_step _ _).trans (len_pn sc n)
end
end Sys
noncomputable def Sys.cfg (Y:Sys) (fb:Nat->FuncId) (q:PR Y) (w0:World) (i cb:Nat) (top:List Frame):Cfg Try.prog where
 S:=Y.S
 L:=Y.L
 stp:=Y.stp i
 rdy:=Y.rdy i
 go:=Y.go i
 out:=Y.outAt q
 sOf:=Y.sAt q
 picks:=Y.picks q i
 Inv:=Y.Inv
 num:=i
 ptr:=cb
 base:=w0
 fStep:=18
 fNote:=29
 fNumber:=24
 fPicks:=25
 fBody:=fb i
 top:=top
structure Geo where
 gi:Nat->Nat
 ab:Nat->Nat
 eb:Nat->Nat
 top:Nat->List Frame
 pv:Nat->Nat->Prop
section
variable (Y:Sys) (fb:Nat->FuncId) (q:PR Y) (w0:World) (Γ:Geo) (X:Gh) (R:Rn) (w:World)
structure Wt (j:Nat) (c:CB) (l:Y.L):Prop where
 wt:c.wt = true
 st:c.st = false
 sp:c.sp = Y.stp j l
 he:BlkF w (Γ.eb j) #[.bool false] 4 (0,0)
 node:∃ (me:Goroutine) (cs:List Frame) (wn:World) (Fn:Nat->Prop) (Rdo:World->World->Prop),X.seat (Γ.gi j) = some ⟨c.rc,.bool false,me⟩/\StepMe cs c.cb c.df me/\(Y.cfg fb q w0 j c.cb (Γ.top j)).ReadyOk wn Fn c.rf l/\FnV Try.prog c.df /\
  (∀ b,Γ.pv j b ↔ b < wn.heap.size/\wn.heap[b]? ≠ some nothing/\¬ Fn b)/\(∀ b,Γ.pv j b->w.heap[b]? = wn.heap[b]?)/\wn.os = w0.os/\wn.output = w0.output/\wn.heap.size <= w.heap.size /\
  (∀ u F',(Y.cfg fb q w0 j c.cb (Γ.top j)).Goes wn Fn l u F'->DoOk Try.prog (Y.cfg fb q w0 j c.cb (Γ.top j)).numCtx c.df u (Rdo u)) /\
  (∀ u F' u2,(Y.cfg fb q w0 j c.cb (Γ.top j)).Goes wn Fn l u F'->Rdo u u2->u2.tape = u.tape->∀ fr,fr.fn = 18->Leaves Try.prog fr u2 (.returned (.tuple #[]))->Proc (Y.cfg fb q w0 j c.cb (Γ.top j)) (G fr cs) u2) /\
  (∀ u F',(Y.cfg fb q w0 j c.cb (Γ.top j)).Later wn Fn u F'->gh u 2 = 1->∀ fr ch,fr.fn = 18->Raised ch->Leaves Try.prog fr u (.panicked ch)->Proc (Y.cfg fb q w0 j c.cb (Γ.top j)) (G fr cs) u)
structure Ck (j:Nat) (c:CB):Prop where
 top:TopOk (Γ.top j) (Γ.ab j) (Γ.eb j) R.rb c.cb
 ha:BlkF w (Γ.ab j) #[.pointer (some ⟨c.cb,0,none⟩)] 50 (0,0)
 he:∃ en,BlkF w (Γ.eb j) #[.bool en] 4 (0,0)
 gpos:0 < Γ.gi j/\Γ.gi j < X.n
 stay:X.stay (Γ.gi j) = [(⟨c.cb,2,none⟩,.chan (some c.rc))]
 ch:X.chs c.rc
def Cl1 (j:Nat) (c:CB) (f:Y.L ⊕ Nat):Prop :=
 (Y.nil j = true/\f = .inr 1/\c.wt = false/\R.ends[j]? = some 1)\/(Y.nil j = false/\match f with
  | .inl l=>Wt Y fb q w0 Γ X w j c l
  | .inr x=>c.wt = false/\R.ends[j]? = some (x:Int)/\X.seat (Γ.gi j) = none)
variable (Mn:Nat->Option Obj)
structure BaseOk:Prop where
 le:Y.lb <= w0.heap.size
 low:∀ b,X.low b->Y.lb <= b
 pl:X.plug = Y.pl
structure Fix (hold:Option Nat) (ft:Nat->Option (Y.L ⊕ Nat)):Prop where
 mem:RunM w w0.heap.size R
 m:R.m = Y.m
 cl:∀ j c,R.cl[j]? = some c->some j ≠ hold->∃ f,ft j = some f/\Cl1 Y fb q w0 Γ X R w j c f
 ck:∀ j c,R.cl[j]? = some c->Y.nil j = false->Ck Γ X R w j c
 fpB:∀ b,R.fp b->w0.heap.size <= b
 side:∀ j,j < R.cl.length->Y.nil j = false->w0.heap.size <= Γ.ab j/\w0.heap.size <= Γ.eb j/\¬ R.fp (Γ.ab j)/\¬ R.fp (Γ.eb j)
 pv:∀ j b,Γ.pv j b->b < w.heap.size/\¬ R.fp b/\¬ Mn b ≠ none/\(∀ k,k < R.cl.length->Y.nil k = false->b ≠ Γ.ab k/\b ≠ Γ.eb k)/\∀ k,k ≠ j->¬ Γ.pv k b
 mn:∀ b,Mn b ≠ none->w.heap[b]? = Mn b/\¬ R.fp b/\∀ k,k < R.cl.length->Y.nil k = false->b ≠ Γ.ab k/\b ≠ Γ.eb k
 npos:0 < X.n
 os:hold = none->w.os = w0.os
 output:hold = none->w.output = w0.output
 size:w0.heap.size <= w.heap.size
 grp:X.grp = some ⟨R.rb,8⟩
 stay0:X.stay 0 = [(⟨R.rb,7,none⟩,.chan (some R.yb))]
 chy:X.chs R.yb
 seats:∀ g s,g ≠ 0->X.seat g = some s->∃ j c,R.cl[j]? = some c/\Y.nil j = false/\g = Γ.gi j/\s.ch = c.rc/\some j ≠ hold
 ginj:∀ j k,j < R.cl.length->k < R.cl.length->Y.nil j = false->Y.nil k = false->Γ.gi j = Γ.gi k->j = k
 ebinj:∀ j k,j < R.cl.length->k < R.cl.length->Y.nil j = false->Y.nil k = false->Γ.eb j = Γ.eb k->j = k
 rinj:∀ j k c d,R.cl[j]? = some c->R.cl[k]? = some d->Y.nil j = false->Y.nil k = false->c.rc = d.rc->j = k
 ry:∀ j c,R.cl[j]? = some c->Y.nil j = false->c.rc ≠ R.yb
 dn:X.dn = 0
 pend:X.pend = 0
 cap:X.cap <= R.cl.length
 under:X.Under w.heap.size
 plug:∀ b,w.heap.size <= b->X.plug b = .all
 seat0:hold = none->X.seat 0 = none
 base:BaseOk Y w0 X
end
section
variable {Y:Sys} {fb:Nat->FuncId} {q:PR Y} {Γ Γ':Geo} {X X':Gh} {R R':Rn} {w w':World} {Mn:Nat->Option Obj} {w0:World} {hold hold':Option Nat} {ft ft':Nat->Option (Y.L ⊕ Nat)}
def Kept (Y:Sys) (Γ:Geo) (R:Rn) (Mn:Nat->Option Obj) (b:Nat):Prop:=Mn b ≠ none\/(∃ k,k < R.cl.length/\Y.nil k = false/\(b = Γ.ab k\/b = Γ.eb k))\/∃ j,Γ.pv j b
theorem Wt.turn {j:Nat} {c:CB} {l:Y.L} (h:Wt Y fb q w0 Γ X w j c l) (hb:∀ b,Γ.pv j b->w'.heap[b]? = w.heap[b]?) (hsz:w.heap.size <= w'.heap.size) (hs:X'.seat (Γ.gi j) = X.seat (Γ.gi j)) (he:w'.heap[Γ.eb j]? = w.heap[Γ.eb j]?) (hge:Γ'.eb j = Γ.eb j) (hg:Γ'.gi j = Γ.gi j) (ht:Γ'.top j = Γ.top j) (hp:Γ'.pv j = Γ.pv j):Wt Y fb q w0 Γ' X' w' j c l:=by
 obtain ⟨h1,h2,h3,h4,me,cs,wn,Fn,Rdo,a1,a2,a3,a4,a5,a6,a7,a8,a9,a10,a11,a12⟩:=h
 refine ⟨h1,h2,h3,by rw [hge]; exact he.trans h4,me,cs,wn,Fn,Rdo,?_⟩
 rw [hg,ht,hp,hs]
 exact ⟨a1,a2,a3,a4,a5,fun b hb'=>(hb b hb').trans (a6 b hb'),a7,a8,Nat.le_trans a9 hsz,a10,a11,a12⟩
theorem Cl1.turn {j:Nat} {c:CB} {f:Y.L ⊕ Nat} (h:Cl1 Y fb q w0 Γ X R w j c f) (hb:∀ b,Γ.pv j b->w'.heap[b]? = w.heap[b]?) (hsz:w.heap.size <= w'.heap.size) (hs:Y.nil j = false->X'.seat (Γ.gi j) = X.seat (Γ.gi j)) (heb:Y.nil j = false->w'.heap[Γ.eb j]? = w.heap[Γ.eb j]?) (hge:Γ'.eb j = Γ.eb j) (hg:Γ'.gi j = Γ.gi j) (ht:Γ'.top j = Γ.top j) (hp:Γ'.pv j = Γ.pv j) (he:R'.ends[j]? = R.ends[j]?):Cl1 Y fb q w0 Γ' X' R' w' j c f:=by
 rcases h with ⟨h1,h2,h3,h4⟩ | ⟨h1,h2⟩
 ·exact .inl ⟨h1,h2,h3,by rw [he]; exact h4⟩
 ·refine .inr ⟨h1,?_⟩
  cases f with
  | inl l=>exact Wt.turn h2 hb hsz (hs h1) (heb h1) hge hg ht hp
  | inr x=>exact ⟨h2.1,by rw [he]; exact h2.2.1,by rw [hg,hs h1]; exact h2.2.2⟩
theorem Fix.turn (h:Fix Y fb q w0 Γ X R w Mn hold ft) (hM:RunM w' w0.heap.size R') (hrb:R'.rb = R.rb) (hyb:R'.yb = R.yb) (hm:R'.m = R.m) (hfp:∀ b,R'.fp b->R.fp b\/w.heap.size <= b) (hlen:R'.cl.length = R.cl.length)
  (hcl:∀ j c',R'.cl[j]? = some c'->∃ c,R.cl[j]? = some c/\c'.cb = c.cb/\c'.rc = c.rc/\(some j ≠ hold->c' = c/\R'.ends[j]? = R.ends[j]?)) (hsz:w.heap.size <= w'.heap.size) (hkeep:∀ b,b < w.heap.size->¬ R.fp b->Kept Y Γ R Mn b->w'.heap[b]? = w.heap[b]?\/∃ i en,hold = some i/\i < R.cl.length/\Y.nil i = false/\b = Γ.eb i/\BlkF w' b #[.bool en] 4 (0,0)) (hos:hold = none->w'.os = w.os/\w'.output = w.output) :
  Fix Y fb q w0 Γ X R' w' Mn hold ft:=by
 have lt:∀ j c',R'.cl[j]? = some c'->j < R.cl.length:=fun j c' hc=>by rw [<- hlen]; exact (List.getElem?_eq_some_iff.1 hc).1
 have hpv:∀ j b,Γ.pv j b->w'.heap[b]? = w.heap[b]?:=fun j b hb=>by
  have hp:=h.pv j b hb
  rcases hkeep b hp.1 hp.2.1 (.inr (.inr ⟨j,hb⟩)) with z | ⟨i,en,_,z1,z2,z3,_⟩
  ·exact z
  ·exact absurd z3 (hp.2.2.2.1 i z1 z2).2
 have heb:∀ j,j < R.cl.length->Y.nil j = false->w'.heap[Γ.eb j]? = w.heap[Γ.eb j]?\/(hold = some j/\∃ en,BlkF w' (Γ.eb j) #[.bool en] 4 (0,0)):=fun j hj hn=>by
  obtain ⟨en,he⟩:=(h.ck j _ (List.getElem?_eq_getElem hj) hn).he
  rcases hkeep _ he.lt (h.side j hj hn).2.2.2 (.inr (.inl ⟨j,hj,hn,.inr rfl⟩)) with z | ⟨i,en,z0,z1,z2,z3,z4⟩
  ·exact .inl z
  ·obtain rfl:=h.ebinj j i hj z1 hn z2 z3
   exact .inr ⟨z0,en,z4⟩
 have hebo:∀ j,j < R.cl.length->Y.nil j = false->some j ≠ hold->w'.heap[Γ.eb j]? = w.heap[Γ.eb j]?:=fun j hj hn hh=>by
  rcases heb j hj hn with z | ⟨z,_⟩
  ·exact z
  ·exact absurd z.symm hh
 refine ⟨hM,hm.trans h.m,fun j c' hc hj=>?_,fun j c' hc hn=>?_,fun b hb=>?_,fun j hj hn=>?_,fun j b hb=>?_,fun b hb=>?_,h.npos,fun z=>(hos z).1.trans (h.os z),fun z=>(hos z).2.trans (h.output z),Nat.le_trans h.size hsz,by rw [hrb]; exact h.grp,by rw [hrb,hyb]; exact h.stay0,by rw [hyb]; exact h.chy,fun g s hg hs=>?_,by rw [hlen]; exact h.ginj,by rw [hlen]; exact h.ebinj,fun j k c d hc hd hn hk e=>?_,fun j c' hc hn=>?_,h.dn,h.pend,by rw [hlen]; exact h.cap,h.under.mono hsz,fun b hb=>h.plug b (Nat.le_trans hsz hb),h.seat0,h.base⟩
 ·obtain ⟨c,hc0,_,_,h4⟩:=hcl j c' hc
  obtain ⟨rfl,h5⟩:=h4 hj
  obtain ⟨f,hf,h6⟩:=h.cl j c' hc0 hj
  exact ⟨f,hf,h6.turn (fun b hb=>hpv j b hb) hsz (fun _=>rfl) (fun hn=>hebo j (lt j c' hc) hn hj) rfl rfl rfl rfl h5⟩
 ·obtain ⟨c,hc0,hcb,hrc,_⟩:=hcl j c' hc
  have hk:=h.ck j c hc0 hn
  have hs:=h.side j (lt j c' hc) hn
  refine ⟨by rw [hrb,hcb]; exact hk.top,?_,?_,hk.gpos,by rw [hcb,hrc]; exact hk.stay,by rw [hrc]; exact hk.ch⟩
  ·rw [hcb]
   rcases hkeep _ hk.ha.lt hs.2.2.1 (.inr (.inl ⟨j,lt j c' hc,hn,.inl rfl⟩)) with z | ⟨i,en,_,z1,z2,z3,_⟩
   ·exact z.trans hk.ha
   ·obtain ⟨en',he'⟩:=(h.ck i _ (List.getElem?_eq_getElem z1) z2).he
    exact absurd z3 (BlkF.ne hk.ha he' (by decide))
  ·rcases heb j (lt j c' hc) hn with z | ⟨_,z⟩
   ·obtain ⟨en',he'⟩:=hk.he
    exact ⟨en',z.trans he'⟩
   ·exact z
 ·rcases hfp b hb with z | z
  ·exact h.fpB b z
  ·exact Nat.le_trans h.size z
 ·rw [hlen] at hj
  have hs:=h.side j hj hn
  obtain ⟨c,hc⟩:∃ c,R.cl[j]? = some c:=⟨_,List.getElem?_eq_getElem hj⟩
  have hk:=h.ck j c hc hn
  exact ⟨hs.1,hs.2.1,fun z=>by rcases hfp _ z with y | y; exact hs.2.2.1 y; have:=hk.ha.lt; omega,fun z=>by rcases hfp _ z with y | y; exact hs.2.2.2 y; have:=hk.he.choose_spec.lt; omega⟩
 ·have hp:=h.pv j b hb
  exact ⟨Nat.lt_of_lt_of_le hp.1 hsz,fun z=>by rcases hfp _ z with y | y; exact hp.2.1 y; have:=hp.1; omega,hp.2.2.1,by rw [hlen]; exact hp.2.2.2.1,hp.2.2.2.2⟩
 ·have hm':=h.mn b hb
  have hlt:b < w.heap.size:=by
   rcases Nat.lt_or_ge b w.heap.size with z | z
   ·exact z
   ·exact absurd (hm'.1.symm.trans (Array.getElem?_eq_none z)) hb
  refine ⟨?_,fun z=>by rcases hfp b z with y | y; exact hm'.2.1 y; omega,by rw [hlen]; exact hm'.2.2⟩
  rcases hkeep b hlt hm'.2.1 (.inl hb) with z | ⟨i,en,_,z1,z2,z3,_⟩
  ·exact z.trans hm'.1
  ·exact absurd z3 (hm'.2.2 i z1 z2).2
 ·obtain ⟨j,c,h1,h2,h3,h4,h5⟩:=h.seats g s hg hs
  have hj:j < R'.cl.length:=by rw [hlen]; exact (List.getElem?_eq_some_iff.1 h1).1
  obtain ⟨c',hc'⟩:∃ c',R'.cl[j]? = some c':=⟨_,List.getElem?_eq_getElem hj⟩
  obtain ⟨c2,e1,_,e3,_⟩:=hcl j c' hc'
  rw [h1] at e1
  obtain rfl:=Option.some.inj e1
  exact ⟨j,c',hc',h2,h3,by rw [e3]; exact h4,h5⟩
 ·obtain ⟨c2,e1,_,e3,_⟩:=hcl j c hc
  obtain ⟨d2,f1,_,f3,_⟩:=hcl k d hd
  exact h.rinj j k c2 d2 e1 f1 hn hk (by rw [<- e3,<- f3]; exact e)
 ·obtain ⟨c2,e1,_,e3,_⟩:=hcl j c' hc
  rw [e3,hyb]; exact h.ry j c2 e1 hn
end
end Go.Vy.Sc
end
/- A client that runs: from its being let go to its next stop. -/
section
namespace Go.Vy.Sc
open Go Go.Conc Go.Yc Go.RowKit Go.Proofs Go.Proofs.Ytfmoeemolgjodaa
open Go.Vc Go.Wg
attribute [local irreducible] KK
structure SysOk (Y:Sys):Prop where
 loc:∀ s (w w':World) F,Y.Inv s w F->(∀ b,F b->w'.heap[b]? = w.heap[b]?)->Y.Inv s w' F
 vis:∀ s (w:World) F,Y.Inv s w F->∀ b,F b->b < w.heap.size/\w.heap[b]? ≠ some nothing
section
variable {Y:Sys} {fb:Nat->FuncId} {q:PR Y} {Γ:Geo} {X:Gh} {R:Rn} {w:World} {Mn:Nat->Option Obj} {w0:World} {ft:Nat->Option (Y.L ⊕ Nat)} {i:Nat}
theorem pass_seat {h j:Nat} {sh:Option Seat1} {g:Nat} (h1:g ≠ h) (h2:g ≠ j):(X.pass h j sh).seat g = X.seat g:=by
 show Go.ConcN.upd (Go.ConcN.upd X.seat j none) h sh g = _
 rw [Go.ConcN.upd_ne _ _ h1,Go.ConcN.upd_ne _ _ h2]
theorem pass_seat_h {h j:Nat} {sh:Option Seat1}:(X.pass h j sh).seat h = sh:=Go.ConcN.upd_same _ _ _
theorem pass_seat_j {h j:Nat} {sh:Option Seat1} (hj:j ≠ h):(X.pass h j sh).seat j = none:=by
 show Go.ConcN.upd (Go.ConcN.upd X.seat j none) h sh j = _
 rw [Go.ConcN.upd_ne _ _ hj,Go.ConcN.upd_same]
def Geo.put (Γ:Geo) (i:Nat) (N:Nat->Prop):Geo:={ Γ with pv:=fun j b=>if j = i then N b else Γ.pv j b }
theorem put_ne {N:Nat->Prop} {j:Nat} (h:j ≠ i):(Γ.put i N).pv j = Γ.pv j:=by funext b; simp [Geo.put,h]
theorem Fix.back (h:Fix Y fb q w0 Γ X R w Mn (some i) ft) (hn:Y.nil i = false) {c:CB} (hc:R.cl[i]? = some c) {N:Nat->Prop} (hN:∀ b,N b->b < w.heap.size/\¬ R.fp b/\¬ Kept Y Γ R Mn b) {sh:Option Seat1} (hsh:∀ s,sh = some s->s.ch = c.rc) {f:Y.L ⊕ Nat}
  (hf:Cl1 Y fb q w0 (Γ.put i N) (X.pass (Γ.gi i) 0 sh) R w i c f) (hos:w.os = w0.os/\w.output = w0.output):Fix Y fb q w0 (Γ.put i N) (X.pass (Γ.gi i) 0 sh) R w Mn none (fun j=>if j = i then some f else ft j):=by
 have hi:=(List.getElem?_eq_some_iff.1 hc).1
 have hg:=(h.ck i c hc hn).gpos
 have hg0:Γ.gi i ≠ 0:=by omega
 refine ⟨h.mem,h.m,fun j c' hc' _=>?_,fun j c' hc' hn'=>?_,h.fpB,h.side,fun j b hb=>?_,h.mn,h.npos,fun _=>hos.1,fun _=>hos.2,h.size,h.grp,h.stay0,h.chy,fun g s hg' hs=>?_,h.ginj,h.ebinj,h.rinj,h.ry,h.dn,h.pend,h.cap,⟨h.under.stay,h.under.hid,h.under.chs,h.under.grp,h.under.low⟩,h.plug,fun _=>pass_seat_j hg0.symm,⟨h.base.le,h.base.low,h.base.pl⟩⟩
 ·by_cases hj:j = i
  ·subst hj
   rw [hc] at hc'; obtain rfl:=Option.some.inj hc'
   exact ⟨f,by simp,hf⟩
  ·obtain ⟨f',h1,h2⟩:=h.cl j c' hc' (by simpa using hj)
   have hjl:=(List.getElem?_eq_some_iff.1 hc').1
   refine ⟨f',by simp [hj,h1],h2.turn (fun _ _=>rfl) (Nat.le_refl _) (fun hnj=>pass_seat (fun e=>hj (h.ginj j i hjl hi hnj hn e)) ?_) (fun _=>rfl) rfl rfl rfl (put_ne hj) rfl⟩
   have:=(h.ck j c' hc' hnj).gpos; omega
 ·have:=h.ck j c' hc' hn'
  exact ⟨this.top,this.ha,this.he,this.gpos,this.stay,this.ch⟩
 ·by_cases hj:j = i
  ·subst hj
   have hb':N b:=by simpa [Geo.put] using hb
   obtain ⟨h1,h2,h3⟩:=hN b hb'
   refine ⟨h1,h2,fun z=>h3 (.inl z),fun k hk hnk=>⟨fun e=>h3 (.inr (.inl ⟨k,hk,hnk,.inl e⟩)),fun e=>h3 (.inr (.inl ⟨k,hk,hnk,.inr e⟩))⟩,fun k hk hp=>?_⟩
   rw [put_ne hk] at hp
   exact h3 (.inr (.inr ⟨k,hp⟩))
  ·rw [put_ne hj] at hb
   obtain ⟨h1,h2,h3,h4,h5⟩:=h.pv j b hb
   refine ⟨h1,h2,h3,h4,fun k hk hp=>?_⟩
   by_cases hki:k = i
   ·subst hki
    have hb':N b:=by simpa [Geo.put] using hp
    exact (hN b hb').2.2 (.inr (.inr ⟨j,hb⟩))
   ·rw [put_ne hki] at hp
    exact h5 k hk hp
 ·by_cases hgi:g = Γ.gi i
  ·subst hgi
   rw [pass_seat_h] at hs
   exact ⟨i,c,hc,hn,rfl,hsh s hs,by simp⟩
  ·rw [pass_seat hgi hg'] at hs
   obtain ⟨j,c',h1,h2,h3,h4,_⟩:=h.seats g s hg' hs
   exact ⟨j,c',h1,h2,h3,h4,by simp⟩
theorem Fix.away (h:Fix Y fb q w0 Γ X R w Mn none ft) (hn:Y.nil i = false) {c:CB} (hc:R.cl[i]? = some c) {s0:Seat1}:Fix Y fb q w0 (Γ.put i fun _=>False) (X.pass 0 (Γ.gi i) (some s0)) R w Mn (some i) ft:=by
 have hi:=(List.getElem?_eq_some_iff.1 hc).1
 have hg:=(h.ck i c hc hn).gpos
 have hg0:Γ.gi i ≠ 0:=by omega
 refine ⟨h.mem,h.m,fun j c' hc' hj'=>?_,fun j c' hc' hn'=>?_,h.fpB,h.side,fun j b hb=>?_,h.mn,h.npos,fun z=>by simp at z,fun z=>by simp at z,h.size,h.grp,h.stay0,h.chy,fun g s hg' hs=>?_,h.ginj,h.ebinj,h.rinj,h.ry,h.dn,h.pend,h.cap,⟨h.under.stay,h.under.hid,h.under.chs,h.under.grp,h.under.low⟩,h.plug,(fun z=>by simp at z),⟨h.base.le,h.base.low,h.base.pl⟩⟩
 ·have hj:j ≠ i:=by simpa using hj'
  obtain ⟨f',h1,h2⟩:=h.cl j c' hc' (by simp)
  have hjl:=(List.getElem?_eq_some_iff.1 hc').1
  refine ⟨f',h1,h2.turn (fun _ _=>rfl) (Nat.le_refl _) (fun hnj=>pass_seat ?_ (fun e=>hj (h.ginj j i hjl hi hnj hn e))) (fun _=>rfl) rfl rfl rfl (put_ne hj) rfl⟩
  have:=(h.ck j c' hc' hnj).gpos; omega
 ·have:=h.ck j c' hc' hn'
  exact ⟨this.top,this.ha,this.he,this.gpos,this.stay,this.ch⟩
 ·by_cases hj:j = i
  ·subst hj
   simp [Geo.put] at hb
  ·rw [put_ne hj] at hb
   obtain ⟨h1,h2,h3,h4,h5⟩:=h.pv j b hb
   refine ⟨h1,h2,h3,h4,fun k hk hp=>?_⟩
   by_cases hki:k = i
   ·subst hki
    simp [Geo.put] at hp
   ·rw [put_ne hki] at hp
    exact h5 k hk hp
 ·by_cases hgi:g = Γ.gi i
  ·subst hgi
   rw [pass_seat_j hg0] at hs
   cases hs
  ·rw [pass_seat hg' hgi] at hs
   obtain ⟨j,c',h1,h2,h3,h4,_⟩:=h.seats g s hg' hs
   refine ⟨j,c',h1,h2,h3,h4,?_⟩
   intro e
   obtain rfl:j = i:=by simpa using e
   exact hgi h3
structure Main (Y:Sys) (fb:Nat->FuncId) (q:PR Y) (w0:World) (Γ:Geo) (X:Gh) (R:Rn) (w:World) (Mn:Nat->Option Obj) (ft:Nat->Option (Y.L ⊕ Nat)) (s:Y.S):Prop where
 fix:Fix Y fb q w0 Γ X R w Mn none ft
 inv:∃ F,Y.Inv s w F/\∀ b,F b->¬ R.fp b/\¬ Kept Y Γ R Mn b
def endsOf {L:Type} (e:List Int) (i:Nat):L ⊕ Nat->List Int
 | .inl _=>e
 | .inr x=>e.set i (x:Int)
def Rel (R0 R':Rn) (i:Nat) (nts:List (Nat × Nat × Nte)) (ends:List Int):Prop:=∃ na nc c c',R0.cl[i]? = some c/\c'.picks = c.picks/\R' = { R0 with na:=na,nc:=nc,nts:=nts,cl:=R0.cl.set i c',ends:=ends }
structure Run1 (Y:Sys) (fb:Nat->FuncId) (q:PR Y) (w0:World) (Γ:Geo) (X:Gh) (Mn:Nat->Option Obj) (ft:Nat->Option (Y.L ⊕ Nat)) (i t at_ cb:Nat) (n0:List (Nat × Nat × Nte)) (R0 R:Rn) (H:Hid) (v:World):Prop where
 fix:Fix Y fb q w0 Γ X R (over H v) Mn (some i) ft
 hid:HidOk H v
 no:∀ b o,H b = some o->v.heap[b]? = some nothing
 all:∀ b,(R.fp b\/Kept Y Γ R Mn b)->H b ≠ none
 tq:gh v 0 = t
 atq:R.evs.length = at_
 cl:∃ c,R.cl[i]? = some c/\c.cb = cb/\((gh v 2 = 0/\c.st = false/\R.nts = n0 ++ tell i at_ ((Y.outAt q t).nts.take (gh v 1))/\c.picks = Y.picks q i t)\/(gh v 2 = 1/\c.st = true/\R.nts = n0))
 rel:∃ na nc nts,R = { R0 with na:=na,nc:=nc,nts:=nts }
 nil:Y.nil i = false
 he:BlkF (over H v) (Γ.eb i) #[.bool false] 4 (0,0)
theorem Run1.il {Y:Sys} {fb:Nat->FuncId} {q:PR Y} {w0:World} {Γ:Geo} {X:Gh} {Mn:Nat->Option Obj} {ft:Nat->Option (Y.L ⊕ Nat)} {i t at_ cb:Nat} {n0:List (Nat × Nat × Nte)} {R0 R:Rn} {H:Hid} {v:World} (h:Run1 Y fb q w0 Γ X Mn ft i t at_ cb n0 R0 R H v):i < R.cl.length:=by
 obtain ⟨c,hc,_⟩:=h.cl
 exact (List.getElem?_eq_some_iff.1 hc).1
theorem over_eq {H:Hid} {v:World} {b:Nat} {o:Obj} (hid:HidOk H v) (h:H b = some o):(over H v).heap[b]? = some o:=over_hit h (hid.gone b o h).lt
theorem evo_nothing {v v':World} (he:Evo v v') {b:Nat} (h:v.heap[b]? = some nothing):v'.heap[b]? = some nothing:=by
 obtain ⟨y,hy,hk⟩:=he.obj _ _ h
 obtain ⟨c,rfl,h1,_⟩:=keeps_cells hk
 have:c = #[]:=by simpa using h1
 subst this
 exact hy
theorem Run1.evo {Y:Sys} {fb:Nat->FuncId} {q:PR Y} {w0:World} {Γ:Geo} {X:Gh} {Mn:Nat->Option Obj} {ft:Nat->Option (Y.L ⊕ Nat)} {i t at_ cb:Nat} {n0:List (Nat × Nat × Nte)} {R0 R:Rn} {H:Hid} {v v':World} (h:Run1 Y fb q w0 Γ X Mn ft i t at_ cb n0 R0 R H v) (he:Evo v v') (ht:v'.tape = v.tape):Run1 Y fb q w0 Γ X Mn ft i t at_ cb n0 R0 R H v':=by
 have hid':=h.hid.evo he
 have hk:∀ b,(R.fp b\/Kept Y Γ R Mn b)->(over H v').heap[b]? = (over H v).heap[b]?:=fun b hb=>by
  cases hh:H b with
  | none=>exact absurd hh (h.all b hb)
  | some o=>rw [over_eq hid' hh,over_eq h.hid hh]
 refine ⟨h.fix.turn (h.fix.mem.congr fun b hb=>hk b (.inl hb)) rfl rfl rfl (fun b hb=>.inl hb) rfl (fun j c hc=>⟨c,hc,rfl,rfl,fun _=>⟨rfl,rfl⟩⟩) (by rw [over_size,over_size]; exact he.size) (fun b _ _ hb=>.inl (hk b (.inr hb))) (fun z=>by cases z),hid',fun b o hb=>evo_nothing he (h.no b o hb),h.all,by rw [gh_tape ht]; exact h.tq,h.atq,?_,h.rel,h.nil,(hk _ (.inr (.inr (.inl ⟨i,h.il,h.nil,.inr rfl⟩)))).trans h.he⟩
 rw [gh_tape ht,gh_tape ht]
 exact h.cl
end
end Go.Vy.Sc
end
/- A client that runs comes to its next stop, and goroutine 0 goes on. -/
section
namespace Go.Vy.Sc
open Go Go.Conc Go.Yc Go.RowKit Go.Proofs Go.Proofs.Ytfmoeemolgjodaa
open Go.Vc Go.Wg
attribute [local irreducible] KK
theorem Fix.onT {Y:Sys} {fb:Nat->FuncId} {q:PR Y} {Γ:Geo} {X:Gh} {R:Rn} {w:World} {Mn:Nat->Option Obj} {w0:World} {ft:Nat->Option (Y.L ⊕ Nat)} {hold:Option Nat} (h:Fix Y fb q w0 Γ X R w Mn hold ft) (τ:Tape) (d:Nat):Fix Y fb q w0 Γ X R (Yc.onT w τ d) Mn hold ft :=
 h.turn (h.mem.congr fun _ _=>rfl) rfl rfl rfl (fun _b hb=>.inl hb) rfl (fun _j c hc=>⟨c,hc,rfl,rfl,fun _=>⟨rfl,rfl⟩⟩) (Nat.le_refl _) (fun _ _ _ _=>.inl rfl) (fun _=>⟨rfl,rfl⟩)
theorem fnV_cells {v:Value} (h:FnV Try.prog v):v.cells = #[v]/\v.oneCell' = true:=by
 rcases h with rfl | ⟨f,caps,rfl,_⟩ <;> exact ⟨rfl,rfl⟩
theorem Cfg.ReadyOk.fnV {K:Cfg Try.prog} {w:World} {F:Nat->Prop} {rf:Value} {l:K.L} (h:K.ReadyOk w F rf l):FnV Try.prog rf:=by
 rcases h with ⟨h,_⟩ | ⟨f,caps,h,_⟩
 ·exact .inl h
 ·exact .inr ⟨f,caps,h⟩
theorem leaves_move {fr:Frame} {w w':World} {v:Value} {fn:Func} (hf:Try.prog.funcs[fr.fn]? = some fn) (hr:fn.results = #[]\/∃ t,fn.results = #[.tmp t]) (hv:fn.results = #[]->v = .tuple #[]) (h:Leaves Try.prog fr w (.returned v)) (hnv:NoView w):Leaves Try.prog fr w' (.returned v):=by
 obtain ⟨h1,h2,h3,fn',h4,h5⟩:=h
 rw [hf] at h4
 obtain rfl:=Option.some.inj h4
 refine ⟨h1,h2,h3,fn,hf,?_⟩
 rcases hr with hr | ⟨t,hr⟩
 ·rw [hv hr]
  exact resDoes_pure (fun w=>results_none hr _ _ w) (fun w=>events_results_none hr _ _)
 ·obtain ⟨x',es,h6,_⟩:=h5 w.tape w.drawn _ w hnv.sim
  have h7:=results_tmp hr fr.tmps Try.prog w
  rw [Sem.runT_eq] at h6
  have h8:=(Prod.mk.inj h6).1
  rw [h7] at h8
  injection h8 with h9 h10
  rw [<- h9]
  exact resDoes_pure (fun w=>results_tmp hr _ _ w) (fun w=>events_results_tmp hr _ _)
section
variable {Y:Sys} {fb:Nat->FuncId} {q:PR Y} {Γ:Geo} {X:Gh} {R R0:Rn} {w:World} {Mn:Nat->Option Obj} {w0:World} {ft:Nat->Option (Y.L ⊕ Nat)} {i t at_ cb:Nat} {n0:List (Nat × Nat × Nte)}
theorem Fix.kept_lt (h:Fix Y fb q w0 Γ X R w Mn (some i) ft) {b:Nat} (hb:R.fp b\/Kept Y Γ R Mn b):b < w.heap.size:=by
 rcases hb with hb | hb | ⟨k,hk,hn,hb⟩ | ⟨j,hb⟩
 ·exact h.mem.lt hb
 ·rcases Nat.lt_or_ge b w.heap.size with z | z
  ·exact z
  ·exact absurd ((h.mn b hb).1.symm.trans (Array.getElem?_eq_none z)) hb
 ·have:=h.ck k _ (List.getElem?_eq_getElem hk) hn
  rcases hb with rfl | rfl
  ·exact this.ha.lt
  ·exact this.he.choose_spec.lt
 ·exact (h.pv j b hb).1
theorem Run1.enter (V:Nat->Prop) [DecidablePred V] {τ:Tape} {d:Nat} (fix:Fix Y fb q w0 Γ X R w Mn (some i) ft) (hV:∀ b,(R.fp b\/Kept Y Γ R Mn b)->¬ V b) (nv:NoView w) (h1:gh (Yc.onT (seeOf V w) τ d) 0 = t) (h2:R.evs.length = at_)
  (h3:∃ c,R.cl[i]? = some c/\c.cb = cb/\((gh (Yc.onT (seeOf V w) τ d) 2 = 0/\c.st = false/\R.nts = n0 ++ tell i at_ ((Y.outAt q t).nts.take (gh (Yc.onT (seeOf V w) τ d) 1))/\c.picks = Y.picks q i t)\/(gh (Yc.onT (seeOf V w) τ d) 2 = 1/\c.st = true/\R.nts = n0)))
  (h4:∃ na nc nts,R = { R0 with na:=na,nc:=nc,nts:=nts }) (hn:Y.nil i = false) (he:BlkF w (Γ.eb i) #[.bool false] 4 (0,0)):Run1 Y fb q w0 Γ X Mn ft i t at_ cb n0 R0 R (hidOf V w) (Yc.onT (seeOf V w) τ d):=by
 refine ⟨?_,(hidOf_ok nv).onT τ d,fun b o hb=>?_,fun b hb=>?_,h1,h2,h3,h4,hn,?_⟩
 ·rw [over_onT,over_see]; exact fix.onT τ d
 ·by_cases hv:V b
  ·simp [hidOf,hv] at hb
  ·simp only [hidOf,hv,if_false] at hb
   exact seeOf_miss hv (Array.getElem?_eq_some_iff.1 hb).1
 ·have hv:=hV b hb
  have hlt:=fix.kept_lt hb
  simp only [hidOf,hv,if_false]
  rw [Array.getElem?_eq_getElem hlt]; simp
 ·rw [over_onT,over_see]; exact he
def After (Y:Sys) (fb:Nat->FuncId) (q:PR Y) (w0:World) (Mn:Nat->Option Obj) (ft:Nat->Option (Y.L ⊕ Nat)) (i t:Nat) (n0:List (Nat × Nat × Nte)) (R0:Rn) (st:Bool) (Γ':Geo) (X':Gh) (R':Rn) (w':World):Prop :=
 (st = false/\Main Y fb q w0 Γ' X' R' w' Mn (fun j=>if j = i then some (Y.outAt q t).fate else ft j) (Y.outAt q t).s/\Rel R0 R' i (n0 ++ tell i R0.evs.length (Y.outAt q t).nts) (endsOf R0.ends i (Y.outAt q t).fate)) \/
 (st = true/\Main Y fb q w0 Γ' X' R' w' Mn (fun j=>if j = i then some (.inr 0) else ft j) (Y.sAt q t)/\Rel R0 R' i n0 (R0.ends.set i 0))
theorem Run1.sees {H:Hid} {v:World} (h:Run1 Y fb q w0 Γ X Mn ft i t at_ cb n0 R0 R H v) {b:Nat} (hb:v.heap[b]? ≠ some nothing):H b = none/\¬ R.fp b/\¬ Kept Y Γ R Mn b:=by
 have hn:H b = none:=by
  cases hh:H b with
  | none=>rfl
  | some o=>exact absurd (h.no b o hh) hb
 exact ⟨hn,fun z=>h.all b (.inl z) hn,fun z=>h.all b (.inr z) hn⟩
theorem Run1.chs {H:Hid} {v:World} (h:Run1 Y fb q w0 Γ X Mn ft i t at_ cb n0 R0 R H v) (hn:Y.nil i = false) {c:CB} (hc:R.cl[i]? = some c):∀ g s2,g ≠ 0->X.seat g = some s2->s2.ch ≠ c.rc:=by
 intro g s2 hg hs e
 obtain ⟨j,d,h1,h2,h3,h4,h5⟩:=h.fix.seats g s2 hg hs
 have:=h.fix.rinj j i d c h1 hc h2 hn (h4.symm.trans e)
 subst this
 exact h5 rfl
theorem Run1.home (hY:SysOk Y) {H:Hid} {v w':World} (h:Run1 Y fb q w0 Γ X Mn ft i t at_ cb n0 R0 R H v) (hn:Y.nil i = false) {c c':CB} {ends:List Int} {S:Nat->Prop} {B:Nat} (hc:R.cl[i]? = some c) (hc'b:c'.cb = c.cb) (hc'r:c'.rc = c.rc) (_hc'p:c'.picks = c.picks) (hg:Rg S B (over H v) w' w0.heap.size { R with cl:=R.cl.set i c',ends:=ends }) (hB:B = (over H v).heap.size) (hS:∀ k,S k->R.fp k\/(k = Γ.eb i)) (hheb:∃ en,BlkF w' (Γ.eb i) #[.bool en] 4 (0,0)) (hends:∀ j,j ≠ i->ends[j]? = R.ends[j]?)
  (F:Nat->Prop) {s:Y.S} (hinv:Y.Inv s v F) (hos:v.os = w0.os/\v.output = w0.output) {sh:Option Seat1} (hsh:∀ s,sh = some s->s.ch = c'.rc) {f:Y.L ⊕ Nat} {N:Nat->Prop} (hN:∀ b,N b->v.heap[b]? ≠ some nothing/\b < v.heap.size/\¬ F b) (hf:(∀ b,v.heap[b]? ≠ some nothing->b < v.heap.size->w'.heap[b]? = v.heap[b]?)->Cl1 Y fb q w0 (Γ.put i N) (X.pass (Γ.gi i) 0 sh) { R with cl:=R.cl.set i c',ends:=ends } w' i c' f) :
  Main Y fb q w0 (Γ.put i N) (X.pass (Γ.gi i) 0 sh) { R with cl:=R.cl.set i c',ends:=ends } w' Mn (fun j=>if j = i then some f else ft j) s/\(∃ na nc,{ R with cl:=R.cl.set i c',ends:=ends } = { R0 with na:=na,nc:=nc,nts:=R.nts,cl:=R0.cl.set i c',ends:=ends }):=by
 subst hB
 have hil:=(List.getElem?_eq_some_iff.1 hc).1
 have hsame:∀ b,b < (over H v).heap.size->¬ R.fp b->b ≠ Γ.eb i->w'.heap[b]? = (over H v).heap[b]?:=fun b hb hf he=>hg.md.block b hb fun hs=>(hS b hs).elim hf he
 have hvis:∀ b,v.heap[b]? ≠ some nothing->b < v.heap.size->w'.heap[b]? = v.heap[b]?:=fun b hb hlt=>by
  obtain ⟨h1,h2,h3⟩:=h.sees hb
  rw [hsame b (by rw [over_size]; exact hlt) h2 (fun e=>h3 (.inr (.inl ⟨i,hil,hn,.inr e⟩))),over_miss v h1]
 have hfp:∀ b,Rn.fp { R with cl:=R.cl.set i c',ends:=ends } b->R.fp b:=fun b hb=>Rn.fp_setC (R:=R) hc hc'b hb
 have hK:∀ b,Kept Y Γ { R with cl:=R.cl.set i c',ends:=ends } Mn b ↔ Kept Y Γ R Mn b:=fun b=>by simp [Kept]
 have hturn:=h.fix.turn (R':={ R with cl:=R.cl.set i c',ends:=ends }) (w':=w') hg.m rfl rfl rfl (fun b hb=>.inl (hfp b hb)) (by simp) (fun j d hd=>by
  have hd':(R.cl.set i c')[j]? = some d:=hd
  rw [List.getElem?_set] at hd'
  by_cases hj:i = j
  ·subst hj
   rw [if_pos rfl,if_pos hil] at hd'
   obtain rfl:=Option.some.inj hd'
   exact ⟨c,hc,hc'b,hc'r,fun z=>absurd rfl z⟩
  ·rw [if_neg hj] at hd'
   exact ⟨d,hd',rfl,rfl,fun _=>⟨rfl,hends j (Ne.symm hj)⟩⟩) hg.md.size (fun b hb hf _=>by
   by_cases he:b = Γ.eb i
   ·subst he
    obtain ⟨en,he⟩:=hheb
    exact .inr ⟨i,en,rfl,hil,hn,rfl,he⟩
   ·exact .inl (hsame b hb hf he)) (fun z=>by cases z)
 have hc':Rn.cl { R with cl:=R.cl.set i c',ends:=ends } = R.cl.set i c':=rfl
 have hci:(Rn.cl { R with cl:=R.cl.set i c',ends:=ends })[i]? = some c':=by rw [hc']; simp [hil]
 have hback:=hturn.back hn hci (N:=N) (fun b hb=>by
  obtain ⟨h1,h2,h3⟩:=hN b hb
  obtain ⟨h4,h5,h6⟩:=h.sees h1
  refine ⟨Nat.lt_of_lt_of_le h2 (by have:=hg.md.size; rw [over_size] at this; exact this),fun z=>h5 (hfp b z),fun z=>h6 ((hK b).1 z)⟩) hsh (hf hvis) ⟨hg.md.os.trans hos.1,hg.md.output.trans hos.2⟩
 refine ⟨⟨hback,F,hY.loc _ v w' F hinv fun b hb=>?_,fun b hb=>?_⟩,?_⟩
 ·have:=hY.vis _ v F hinv b hb
  exact hvis b this.2 this.1
 ·have hv:=hY.vis _ v F hinv b hb
  obtain ⟨h4,h5,h6⟩:=h.sees hv.2
  refine ⟨fun z=>h5 (hfp b z),fun z=>?_⟩
  rcases z with z | z | ⟨j,z⟩
  ·exact h6 (.inl z)
  ·exact h6 ((hK b).1 (.inr (.inl z)))
  ·by_cases hj:j = i
   ·subst hj
    have:N b:=by simpa [Geo.put] using z
    exact (hN b this).2.2 hb
   ·rw [put_ne hj] at z
    exact h6 (.inr (.inr ⟨j,z⟩))
 ·obtain ⟨na,nc,nts,rfl⟩:=h.rel
  exact ⟨na,nc,rfl⟩
end
end Go.Vy.Sc
end
/- A client that runs, whole: it comes to its next stop, and goroutine 0 goes on. -/
section
namespace Go.Vy.Sc
open Go Go.Conc Go.Yc Go.RowKit Go.Proofs Go.Proofs.Ytfmoeemolgjodaa
open Go.Vc Go.Wg
attribute [local irreducible] KK
section
variable {Y:Sys} {fb:Nat->FuncId} {q:PR Y} {Γ:Geo} {X:Gh} {R R0:Rn} {w:World} {Mn:Nat->Option Obj} {w0:World} {ft:Nat->Option (Y.L ⊕ Nat)} {i t at_ cb:Nat} {n0:List (Nat × Nat × Nte)} {H:Hid} {v:World}
theorem Run1.gpos (h:Run1 Y fb q w0 Γ X Mn ft i t at_ cb n0 R0 R H v):0 < Γ.gi i:=(h.fix.ck i _ (List.getElem?_eq_getElem h.il) h.nil).gpos.1
theorem Run1.notfp (h:Run1 Y fb q w0 Γ X Mn ft i t at_ cb n0 R0 R H v) {b:Nat} (hb:H b = none):¬ R.fp b/\¬ Kept Y Γ R Mn b:=⟨fun z=>h.all b (.inl z) hb,fun z=>h.all b (.inr z) hb⟩
theorem Run1.again (h:Run1 Y fb q w0 Γ X Mn ft i t at_ cb n0 R0 R H v) {w':World} {R':Rn} {τ:Tape} {d:Nat} (hg:Rg R.fp (over H v).heap.size (over H v) w' w0.heap.size R') (V:Nat->Prop) [DecidablePred V] (hV:∀ b,V b ↔ (H b = none/\¬ R'.fp b)) (nv:NoView w') (hR:∃ na nc nts,R' = { R with na:=na,nc:=nc,nts:=nts })
  (h1:gh (Yc.onT (seeOf V w') τ d) 0 = t) (h3:∃ c,R'.cl[i]? = some c/\c.cb = cb/\((gh (Yc.onT (seeOf V w') τ d) 2 = 0/\c.st = false/\R'.nts = n0 ++ tell i at_ ((Y.outAt q t).nts.take (gh (Yc.onT (seeOf V w') τ d) 1))/\c.picks = Y.picks q i t)\/(gh (Yc.onT (seeOf V w') τ d) 2 = 1/\c.st = true/\R'.nts = n0))) :
  Run1 Y fb q w0 Γ X Mn ft i t at_ cb n0 R0 R' (hidOf V w') (Yc.onT (seeOf V w') τ d)/\Grow v (Yc.onT (seeOf V w') τ d):=by
 obtain ⟨na,nc,nts,rfl⟩:=hR
 have hkb:∀ b,b < (over H v).heap.size->¬ R.fp b->w'.heap[b]? = (over H v).heap[b]?:=fun b hb hf=>hg.md.block b hb hf
 have hfix:=h.fix.turn (R':={ R with na:=na,nc:=nc,nts:=nts }) (w':=w') hg.m rfl rfl rfl hg.fp rfl (fun j c hc=>⟨c,hc,rfl,rfl,fun _=>⟨rfl,rfl⟩⟩) hg.md.size (fun b hb hf _=>.inl (hkb b hb hf)) (fun z=>by cases z)
 have heL:=h.he.lt
 have heF:¬ R.fp (Γ.eb i):=(h.fix.side i h.il h.nil).2.2.2
 refine ⟨Run1.enter V hfix (fun b hb hv=>?_) nv h1 h.atq h3 ?_ h.nil ((hkb _ heL heF).trans h.he),⟨?_,?_,?_,fun b hb=>?_⟩⟩
 ·obtain ⟨h4,h5⟩:=(hV b).1 hv
  rcases hb with hb | hb
  ·exact h5 hb
  ·exact h.all b (.inr hb) h4
 ·obtain ⟨a,c,n,e⟩:=h.rel
  exact ⟨na,nc,nts,by rw [e]⟩
 ·exact hg.md.os
 ·exact hg.md.output
 ·show v.heap.size <= (seeOf V w').heap.size
  rw [seeOf_size,<- over_size H v]; exact hg.md.size
 ·show (seeOf V w').heap[b]? = v.heap[b]?
  have hb':b < (over H v).heap.size:=by rw [over_size]; exact hb
  cases hh:H b with
  | none =>
   have hf:=h.notfp hh
   have hf':¬ Rn.fp { R with na:=na,nc:=nc,nts:=nts } b:=fun z=>(hg.fp b z).elim hf.1 (Nat.not_le_of_lt hb')
   rw [seeOf_hit _ ((hV b).2 ⟨hh,hf'⟩),hkb b hb' hf.1,over_miss v hh]
  | some o =>
   rw [seeOf_miss (fun z=>by rw [((hV b).1 z).1] at hh; cases hh) (Nat.lt_of_lt_of_le hb' hg.md.size),h.no b o hh]
theorem Run1.number {Post:Value->World->Prop} {cs:List Frame} (h:Run1 Y fb q w0 Γ X Mn ft i t at_ cb n0 R0 R H v) (k:∀ fr,fr.fn = 24->Leaves Try.prog fr v (.returned (.int .i64 (i:Nat)))->FinH Try.prog Post X (Γ.gi i) H (G fr cs) v) :
  FinH Try.prog Post X (Γ.gi i) H (G (Frame.enter Try.prog 24 #[.pointer (some ⟨cb,0,none⟩)] .normal) cs) v:=by
 intro hH
 obtain ⟨c,hc,hcb,_⟩:=h.cl
 have hB:=h.fix.mem.blk i c hc
 refine fin_ign _ _ fun nv=>?_
 subst hcb
 refine @number_c (baseCtx Try.prog (Γ.gi i == 0)) R.rb i c (over H v) hB _ fin_zs cs fun e w' fr he hf hl=>?_
 cases e with
 | returned x =>
  obtain ⟨rfl,rfl⟩:=he
  exact k fr hf (leaves_move (by rw [hf]; exact Try.func24) (.inr ⟨_,rfl⟩) (fun z=>by cases z) hl nv) hH
 | panicked ch=>exact he.elim
 | outgrown=>exact he.elim
theorem client_fin {Post:Value->World->Prop} {z0:Value} {me0:Goroutine} {st:Bool} (hY:SysOk Y) (hX0:X.seat 0 = some ⟨R0.yb,z0,me0⟩) (hnt:n0.length + (Y.outAt q t).nts.length <= 1000000000)
  (hmain:∀ Γ' X' R' w',After Y fb q w0 Mn ft i t n0 R0 st Γ' X' R' w'->Fin Try.prog Post X' 0 (Go.Conc.served me0 (.int .i64 (i:Int))) w') {g:Goroutine} {v:World} (hp:Proc (Y.cfg fb q w0 i cb (Γ.top i)) g v) :
  ∀ H R,Run1 Y fb q w0 Γ X Mn ft i t at_ cb n0 R0 R H v->(∀ c,R.cl[i]? = some c->c.st = st)->FinH Try.prog Post X (Γ.gi i) H g v:=by
 induction hp with
 | own hr g' u' d' hf hk ih =>
  intro H R h hst
  have hg0:(Γ.gi i == 0) = false:=by have:=h.gpos; simp; omega
  refine finH_own hr fun τ d=>⟨g' τ d,u' τ d,by rw [hg0]; exact hf τ d,fun he=>finH_onT (ih τ d H R (h.evo ⟨he.size,he.obj⟩ rfl) hst)⟩
 | ign h0 ih =>
  intro H R h hst
  exact finH_zs.2 _ _ fun hv=>ih hv H R h hst
 | @number cs v k ih =>
  intro H R h hst
  exact h.number fun fr hf hl=>ih fr hf hl H R h hst
 | @picks cs v h2 k ih =>
  intro H R h hst hH
  obtain ⟨c,hc,hcb,hcl⟩:=h.cl
  have hB:=h.fix.mem.blk i c hc
  have hpk:c.picks = Y.picks q i t:=by
   rcases hcl with hcl | hcl
   ·exact hcl.2.2.2
   ·have:=hcl.1; omega
  have htq:=h.tq
  refine fin_ign _ _ fun nv=>?_
  subst hcb
  refine @picks_c (baseCtx Try.prog (Γ.gi i == 0)) R.rb i c (over H v) hB _ fin_zs cs fun e w' fr he hf hl=>?_
  cases e with
  | returned x =>
   obtain ⟨rfl,rfl⟩:=he
   refine ih fr hf (leaves_move (by rw [hf]; exact Try.func25) (.inr ⟨_,rfl⟩) (fun z=>by cases z) ?_ nv) H R h hst hH
   have:(Y.cfg fb q w0 i c.cb (Γ.top i)).picks (gh v 0) = c.picks:=by rw [htq,hpk]; rfl
   rw [this]; exact hl
  | panicked ch=>exact he.elim
  | outgrown=>exact he.elim
 | @again cs v s rf df h2 hs k ih =>
  intro H R h hst hH
  obtain ⟨c,hc,hcb,hcl⟩:=h.cl
  have hB:=h.fix.mem.blk i c hc
  have hst':c.st = true/\R.nts = n0:=by
   rcases hcl with hcl | hcl
   ·have:=hcl.1; omega
   ·exact hcl.2
  have hg0:(Γ.gi i == 0) = false:=by have:=h.gpos; simp; omega
  obtain ⟨s0,rfl⟩:=hs
  subst hcb
  refine step_again (Z:=Fin Try.prog Post X (Γ.gi i)) (by have:=@fin_zs Try.prog Post X (Γ.gi i); rw [hg0] at this; exact this) hB hst'.1 fun w' fr ch hb hf hr hl=>?_
  refine fin_ign _ _ fun nv=>?_
  haveI:DecidablePred fun b=>H b = none/\¬ R.fp b:=fun _=>Classical.propDecidable _
  have hg:Rg R.fp (over H v).heap.size (over H v) w' w0.heap.size R:=h.fix.mem.rg.keep hb
  have htp:w'.tape = v.tape:=hb.tape
  obtain ⟨h5,h6⟩:=h.again (τ:=w'.tape) (d:=w'.drawn) hg (fun b=>H b = none/\¬ R.fp b) (fun _=>Iff.rfl) nv ⟨R.na,R.nc,R.nts,rfl⟩ ((gh_tape htp 0).trans h.tq) ⟨c,hc,rfl,.inr ⟨(gh_tape htp 2).trans h2,hst'⟩⟩
  exact fin_see (fun b=>H b = none/\¬ R.fp b) (ih _ fr ch h6 htp hf hr hl _ R h5 hst)
 | @note cs v kind text h2 hx k ih =>
  intro H R h hst hH
  obtain ⟨c,hc,hcb,hcl⟩:=h.cl
  have htq:=h.tq
  have hcl':c.st = false/\R.nts = n0 ++ tell i at_ ((Y.outAt q t).nts.take (gh v 1))/\c.picks = Y.picks q i t:=by
   rcases hcl with hcl | hcl
   ·exact hcl.2
   ·have:=hcl.1; omega
  have hx':(Y.outAt q t).nts[gh v 1]? = some ⟨kind,text⟩:=by rw [<- htq]; exact hx
  have hlt:=(List.getElem?_eq_some_iff.1 hx').1
  have hle:w0.heap.size <= (over H v).heap.size:=h.fix.size
  subst hcb
  refine @note_c (baseCtx Try.prog (Γ.gi i == 0)) R.fp (over H v).heap.size (over H v) w0.heap.size R (over H v) h.fix.mem.rg hle i c hc hcl'.1 (by
   rw [hcl'.2.1]; simp [tell]; omega) kind text _ fin_zs cs fun e w' fr he hf hl=>?_
  cases e with
  | returned x =>
   obtain ⟨rfl,a,n,hg⟩:=he
   refine fin_ign _ _ fun nv=>?_
   haveI:DecidablePred fun b=>H b = none/\¬ Rn.fp { R with na:=a,nc:=n,nts:=R.nts ++ [(R.evs.length,i,⟨kind,text⟩)] } b:=fun _=>Classical.propDecidable _
   have htp:w'.tape = v.tape:=hg.md.tape
   have hg1:∀ U:World,gh (Yc.onT U (setGh w' 1 (gh v 1 + 1)).tape w'.drawn) 1 = gh v 1 + 1:=fun U=>gh_set w' 1 _
   have hgn:∀ (U:World) (j:Nat),j ≠ 1->gh (Yc.onT U (setGh w' 1 (gh v 1 + 1)).tape w'.drawn) j = gh v j:=fun U j hj=>(gh_set_ne w' _ hj).trans (gh_tape htp j)
   obtain ⟨h5,h6⟩:=h.again (τ:=(setGh w' 1 (gh v 1 + 1)).tape) (d:=w'.drawn) hg (fun b=>H b = none/\¬ Rn.fp { R with na:=a,nc:=n,nts:=R.nts ++ [(R.evs.length,i,⟨kind,text⟩)] } b) (fun _=>Iff.rfl) nv ⟨a,n,_,rfl⟩ ((hgn _ 0 (by decide)).trans h.tq)
    ⟨c,hc,rfl,.inl ⟨(hgn _ 2 (by decide)).trans h2,hcl'.1,by
     rw [hg1,hcl'.2.1,h.atq,List.take_add_one,hx']; simp [tell],hcl'.2.2⟩⟩
   refine fin_see (fun b=>H b = none/\¬ Rn.fp { R with na:=a,nc:=n,nts:=R.nts ++ [(R.evs.length,i,⟨kind,text⟩)] } b) (finH_onT (ih _ fr h6 (hgn _ 0 (by decide)) (hg1 _) ((hgn _ 2 (by decide)).trans h2) hf (leaves_move (by rw [hf]; exact Try.func29) (.inl rfl) (fun _=>rfl) hl nv) _ _ h5 hst))
  | panicked ch=>exact he.elim
  | outgrown=>exact he.elim
 | @step cs v s rf df l F ht hs hr hdf Rdo hdo go stop ihg ihs =>
  intro H R h hst hH
  obtain ⟨c,hc,hcb,hcl⟩:=h.cl
  have htq:=h.tq
  have hn:=h.nil
  have h2:gh v 2 = 0:=ht.on
  have hcl':c.st = false/\R.nts = n0 ++ tell i at_ ((Y.outAt q t).nts.take (gh v 1))/\c.picks = Y.picks q i t:=by
   rcases hcl with hcl | hcl
   ·exact hcl.2
   ·have:=hcl.1; omega
  have hfate:(Y.outAt q t).fate = .inl l:=by rw [<- htq]; exact ht.fate
  have hnts:gh v 1 = (Y.outAt q t).nts.length:=by rw [<- htq]; exact ht.nts
  have hinv:Y.Inv (Y.outAt q t).s v F:=by rw [<- htq]; exact ht.inv
  have hck:=h.fix.ck i c hc hn
  have hil:=h.il
  obtain ⟨na,nc,nts,hrel⟩:=h.rel
  have hyb:R.yb = R0.yb:=by rw [hrel]
  have hR0:R0.cl = R.cl:=by rw [hrel]
  have hev0:R0.evs = R.evs:=by rw [hrel]
  subst hcb hs
  refine step_fin (Bs:=w0.heap.size) h.fix.mem.rg hc hcl'.1 (fnV_cells (Cfg.ReadyOk.fnV hr)) (fnV_cells hdf) (by have:=h.gpos; omega) (by rw [hyb]; exact hX0) h.fix.dn hck.stay ⟨hck.ch,h.chs hn hc⟩ fun w' me hg hme=>?_
  have hef:=(h.fix.side i hil hn).2.2.2
  have heb:BlkF w' (Γ.eb i) #[.bool false] 4 (0,0):=(hg.md.block _ h.he.lt hef).trans h.he
  obtain ⟨h7,h8⟩:=h.home hY hn (c':={ c with sp:=Y.stp i l,rf:=rf,df:=df,wt:=true }) (ends:=R.ends) hc rfl rfl rfl hg rfl (fun k hk=>.inl hk) ⟨_,heb⟩ (fun _ _=>rfl) F hinv ⟨ht.os,ht.output⟩ (sh:=some ⟨c.rc,.bool false,me⟩) (fun s e=>by cases e; rfl) (f:=.inl l)
   (N:=fun b=>b < v.heap.size/\v.heap[b]? ≠ some nothing/\¬ F b) (fun b hb=>⟨hb.2.1,hb.1,hb.2.2⟩) (fun hvis=>.inr ⟨hn,rfl,hcl'.1,rfl,heb,me,cs,v,F,Rdo,pass_seat_h,hme,hr,hdf,fun b=>by simp [Geo.put],fun b hb=>by
    have hb':b < v.heap.size/\v.heap[b]? ≠ some nothing/\¬ F b:=by simpa [Geo.put] using hb
    exact hvis b hb'.2.1 hb'.1,ht.os,ht.output,by have:=hg.md.size; rw [over_size] at this; exact this,hdo,go,stop⟩)
  rw [<- hfate] at h7
  obtain ⟨a,b,e⟩:=h8
  refine hmain _ _ _ _ (.inl ⟨(hst c hc).symm.trans hcl'.1,h7,a,b,c,{ c with sp:=Y.stp i l,rf:=rf,df:=df,wt:=true },by rw [hR0]; exact hc,rfl,e.trans ?_⟩)
  ·rw [hfate,show endsOf R0.ends i (Sum.inl l:Y.L ⊕ Nat) = R.ends from by rw [hrel]; rfl,hcl'.2.1,hnts,List.take_length,hev0,h.atq]
 | @done fr v e F hf hl hd =>
  intro H R h hst hH
  obtain ⟨c,hc,hcb,hcl⟩:=h.cl
  have htq:=h.tq
  have hn:=h.nil
  have hck:=h.fix.ck i c hc hn
  have hil:=h.il
  obtain ⟨na,nc,nts,hrel⟩:=h.rel
  have hyb:R.yb = R0.yb:=by rw [hrel]
  have hR0:R0.cl = R.cl:=by rw [hrel]
  have hev0:R0.evs = R.evs:=by rw [hrel]
  have hsd:=h.fix.side i hil hn
  have hlen:R.ends.length = R.m:=h.fix.mem.lend
  have him:i < R.ends.length:=by have:=h.fix.mem.lcl; omega
  have key:∀ x:Nat,EndX c (x:Int) e->((st = false/\(Y.outAt q t).fate = .inr x/\gh v 1 = (Y.outAt q t).nts.length/\Y.Inv (Y.outAt q t).s v F)\/(st = true/\x = 0/\Y.Inv (Y.sAt q t) v F))->v.os = w0.os->v.output = w0.output->Fin Try.prog Post X (Γ.gi i) (G fr (Γ.top i)) (over H v):=by
   intro x hx hk hos hout
   have hg:Rg (fun b=>R.fp b\/b = Γ.eb i) (over H v).heap.size (over H v) (over H v) w0.heap.size R:=⟨h.fix.mem,ModS.refl _ _ _,fun k hk=>.inl (.inl hk),Nat.le_refl _⟩
   refine hck.top.leave (x:Int) hg rfl hc rfl hck.ha h.he (.inl (.inr rfl)) hx h.gpos (by rw [hyb]; exact hX0) h.fix.dn h.fix.grp (fun w' hg' heb=>?_) (leaves_over hH hl)
   have hends:∀ j,j ≠ i->(R.ends.set i (x:Int))[j]? = R.ends[j]?:=fun j hj=>by rw [List.getElem?_set_ne (Ne.symm hj)]
   have hmk:∀ s,Y.Inv s v F->_:=fun s hs=>h.home hY hn (c':={ c with wt:=false }) (ends:=R.ends.set i (x:Int)) hc rfl rfl rfl hg' rfl (fun k hk=>hk) heb hends F hs ⟨hos,hout⟩ (sh:=none) (fun s e=>by cases e) (f:=.inr x) (N:=fun _=>False) (fun b hb=>hb.elim) (fun hvis=>.inr ⟨hn,rfl,by simp [him],pass_seat_h⟩)
   rcases hk with ⟨h1,h2,h3,h4⟩ | ⟨h1,h2,h3⟩
   ·have hst':c.st = false:=(hst c hc).trans h1
    have hcl':R.nts = n0 ++ tell i at_ ((Y.outAt q t).nts.take (gh v 1)):=by
     rcases hcl with hcl | hcl
     ·exact hcl.2.2.1
     ·rw [hst'] at hcl; exact absurd hcl.2.1 (by decide)
    obtain ⟨h7,a,b,e'⟩:=hmk _ h4
    rw [<- h2] at h7
    refine hmain _ _ _ _ (.inl ⟨h1,h7,a,b,c,{ c with wt:=false },by rw [hR0]; exact hc,rfl,e'.trans ?_⟩)
    ·rw [h2,show endsOf R0.ends i (Sum.inr x:Y.L ⊕ Nat) = R.ends.set i (x:Int) from by rw [hrel]; rfl,hcl',h3,List.take_length,hev0,h.atq]
   ·have hst':c.st = true:=(hst c hc).trans h1
    have hcl':R.nts = n0:=by
     rcases hcl with hcl | hcl
     ·rw [hst'] at hcl; exact absurd hcl.2.1 (by decide)
     ·exact hcl.2.2
    obtain ⟨h7,a,b,e'⟩:=hmk _ h3
    subst h2
    refine hmain _ _ _ _ (.inr ⟨h1,h7,a,b,c,{ c with wt:=false },by rw [hR0]; exact hc,rfl,e'.trans ?_⟩)
    ·rw [show R0.ends.set i 0 = R.ends.set i ((0:Nat):Int) from by rw [hrel]; rfl,hcl']
  have hst1:gh v 2 = 0->c.st = false:=fun z=>by rcases hcl with hcl | hcl; exact hcl.2.1; have:=hcl.1; omega
  have hst2:gh v 2 = 1->c.st = true:=fun z=>by rcases hcl with hcl | hcl; have:=hcl.1; omega; exact hcl.2.1
  have told:∀ x:Nat,(Y.cfg fb q w0 i cb (Γ.top i)).Told v F (.inr x)->(st = false/\(Y.outAt q t).fate = .inr x/\gh v 1 = (Y.outAt q t).nts.length/\Y.Inv (Y.outAt q t).s v F):=fun x ht =>
   ⟨(hst c hc).symm.trans (hst1 ht.on),by rw [<- htq]; exact ht.fate,by rw [<- htq]; exact ht.nts,by rw [<- htq]; exact ht.inv⟩
  cases e with
  | outgrown=>exact hd.elim
  | returned x =>
   rcases hd with ht | ⟨h2,h3,h4,h5⟩
   ·exact key 1 (.inr ⟨hst1 ht.on,rfl⟩) (.inl (told 1 ht)) ht.os ht.output
   ·exact key 0 (.inl ⟨hst2 h2,rfl⟩) (.inr ⟨(hst c hc).symm.trans (hst2 h2),rfl,by rw [<- htq]; exact h3⟩) h4 h5
  | panicked ch =>
   obtain ⟨hra,ht | ⟨h2,h3,h4,h5⟩⟩:=hd
   ·exact key 2 ⟨hra,.inr ⟨hst1 ht.on,rfl⟩⟩ (.inl (told 2 ht)) ht.os ht.output
   ·exact key 0 ⟨hra,.inl ⟨hst2 h2,rfl⟩⟩ (.inr ⟨(hst c hc).symm.trans (hst2 h2),rfl,by rw [<- htq]; exact h3⟩) h4 h5
end
end Go.Vy.Sc
end
/- A client more: goroutine 0 lets it begin. -/
section
namespace Go.Vy.Sc
open Go Go.Conc Go.Yc Go.RowKit Go.Proofs Go.Proofs.Ytfmoeemolgjodaa
open Go.Vc Go.Wg
attribute [local irreducible] KK
def upN {α:Type} (f:Nat->α) (i:Nat) (x:α):Nat->α:=fun j=>if j = i then x else f j
theorem upN_ne {α:Type} {f:Nat->α} {i:Nat} {x:α} {j:Nat} (h:j ≠ i):upN f i x j = f j:=by simp [upN,h]
theorem upN_eq {α:Type} {f:Nat->α} {i:Nat} {x:α}:upN f i x i = x:=by simp [upN]
def Geo.add (Γ:Geo) (i g a e:Nat) (top:List Frame):Geo:=⟨upN Γ.gi i g,upN Γ.ab i a,upN Γ.eb i e,upN Γ.top i top,upN Γ.pv i fun _=>False⟩
def hireX (X:Gh) (cb rc:Nat) (s:Seat1):Gh :=
 { ((Gh.hire { X.lower cb with pend:=1,cap:=X.cap + 1,dn:=0 } s).lower rc) with chs:=fun c=>X.chs c\/c = rc,stay:=Go.ConcN.upd X.stay X.n [(⟨cb,2,none⟩,.chan (some rc))] }
section
variable {Y:Sys} {fb:Nat->FuncId} {q:PR Y} {Γ:Geo} {X:Gh} {R R':Rn} {w w1:World} {Mn:Nat->Option Obj} {w0:World} {ft:Nat->Option (Y.L ⊕ Nat)} {i:Nat}
theorem app_some {α:Type} {l:List α} {x y:α} {j:Nat} (h:(l ++ [x])[j]? = some y):l[j]? = some y\/(j = l.length/\x = y):=by
 rcases Nat.lt_trichotomy j l.length with z | z | z
 ·rw [List.getElem?_append_left z] at h; exact .inl h
 ·subst z; simp at h; exact .inr ⟨rfl,h⟩
 ·rw [List.getElem?_eq_none (by simp; omega)] at h; cases h
theorem Fix.addNil (h:Fix Y fb q w0 Γ X R w Mn none ft) (hn:Y.nil i = true) (hi:R.cl.length = i) {cb rc:Nat} {a:Option Addr} {n:Nat} (him:i < R.m) (hcb:w.heap.size <= cb) (hg:Rg R.fp w.heap.size w w1 w0.heap.size { R with ca:=a,cc:=n,cl:=R.cl ++ [newC cb rc],ends:=R.ends.set i 1 }) (hft:ft i = none) :
  Fix Y fb q w0 Γ (X.lower cb) { R with ca:=a,cc:=n,cl:=R.cl ++ [newC cb rc],ends:=R.ends.set i 1 } w1 Mn none (fun j=>if j = i then some (.inr 1) else ft j):=by
 have hlt:∀ b,b < w.heap.size->¬ R.fp b->w1.heap[b]? = w.heap[b]?:=hg.md.block
 have hle:∀ j,j < (R.cl ++ [newC cb rc]).length->Y.nil j = false->j < R.cl.length:=fun j hj hnj=>by
  rw [List.length_append,List.length_singleton] at hj
  rcases Nat.lt_or_ge j R.cl.length with z | z
  ·exact z
  ·have:j = i:=by omega
   rw [this,hn] at hnj; cases hnj
 have hold:∀ j c,(R.cl ++ [newC cb rc])[j]? = some c->Y.nil j = false->R.cl[j]? = some c:=fun j c hc hnj=>by
  rcases app_some hc with z | ⟨z,_⟩
  ·exact z
  ·rw [z,hi,hn] at hnj; cases hnj
 have hne:R.ends.length = R.m:=h.mem.lend
 have hfp:∀ b,Rn.fp { R with ca:=a,cc:=n,cl:=R.cl ++ [newC cb rc],ends:=R.ends.set i 1 } b->R.fp b\/w.heap.size <= b:=hg.fp
 have hnf:∀ b,b < w.heap.size->¬ R.fp b->¬ Rn.fp { R with ca:=a,cc:=n,cl:=R.cl ++ [newC cb rc],ends:=R.ends.set i 1 } b:=fun b hb hf z=>(hfp b z).elim hf (Nat.not_le_of_lt hb)
 refine ⟨hg.m,h.m,fun j c hc _=>?_,fun j c hc hnj=>?_,fun b hb=>?_,fun j hj hnj=>?_,fun j b hb=>?_,fun b hb=>?_,h.npos,fun z=>hg.md.os.trans (h.os z),fun z=>hg.md.output.trans (h.output z),Nat.le_trans h.size hg.md.size,h.grp,h.stay0,h.chy,fun g s hg' hs=>?_,fun j k hj hk hnj hnk=>h.ginj j k (hle j hj hnj) (hle k hk hnk) hnj hnk,fun j k hj hk hnj hnk=>h.ebinj j k (hle j hj hnj) (hle k hk hnk) hnj hnk,fun j k c d hc hd hnj hnk=>h.rinj j k c d (hold j c hc hnj) (hold k d hd hnk) hnj hnk,fun j c hc hnj=>h.ry j c (hold j c hc hnj) hnj,h.dn,h.pend,?_,?_,fun b hb=>h.plug b (Nat.le_trans hg.md.size hb),h.seat0,⟨h.base.le,fun b hb=>hb.elim (h.base.low b) fun e=>by have:=h.base.le; have:=h.size; omega,h.base.pl⟩⟩
 ·rcases app_some hc with z | ⟨z,rfl⟩
  ·have hjl:=(List.getElem?_eq_some_iff.1 z).1
   obtain ⟨f,h1,h2⟩:=h.cl j c z (by simp)
   have hji:j ≠ i:=by omega
   refine ⟨f,by simp [hji,h1],h2.turn (fun b hb=>hlt b (h.pv j b hb).1 (h.pv j b hb).2.1) hg.md.size (fun _=>rfl) (fun hnj=>?_) rfl rfl rfl rfl (by show (R.ends.set i 1)[j]? = _; rw [List.getElem?_set_ne (Ne.symm hji)])⟩
   exact hlt _ (h.ck j c z hnj).he.choose_spec.lt (h.side j hjl hnj).2.2.2
  ·rw [hi] at z
   subst z
   refine ⟨.inr 1,by simp,.inl ⟨hn,rfl,rfl,?_⟩⟩
   show (R.ends.set j 1)[j]? = some 1
   simp [hne,him]
 ·have hc':=hold j c hc hnj
  have hk:=h.ck j c hc' hnj
  have hjl:=(List.getElem?_eq_some_iff.1 hc').1
  have hs:=h.side j hjl hnj
  refine ⟨hk.top,(hlt _ hk.ha.lt hs.2.2.1).trans hk.ha,?_,hk.gpos,hk.stay,hk.ch⟩
  obtain ⟨en,he⟩:=hk.he
  exact ⟨en,(hlt _ he.lt hs.2.2.2).trans he⟩
 ·rcases hfp b hb with z | z
  ·exact h.fpB b z
  ·exact Nat.le_trans h.size z
 ·have hjl:=hle j hj hnj
  have hs:=h.side j hjl hnj
  have hk:=h.ck j _ (List.getElem?_eq_getElem hjl) hnj
  exact ⟨hs.1,hs.2.1,hnf _ hk.ha.lt hs.2.2.1,hnf _ hk.he.choose_spec.lt hs.2.2.2⟩
 ·have hp:=h.pv j b hb
  exact ⟨Nat.lt_of_lt_of_le hp.1 hg.md.size,hnf b hp.1 hp.2.1,hp.2.2.1,fun k hk hnk=>hp.2.2.2.1 k (hle k hk hnk) hnk,hp.2.2.2.2⟩
 ·have hm:=h.mn b hb
  have hb':b < w.heap.size:=by
   rcases Nat.lt_or_ge b w.heap.size with z | z
   ·exact z
   ·exact absurd (hm.1.symm.trans (Array.getElem?_eq_none z)) hb
  exact ⟨(hlt b hb' hm.2.1).trans hm.1,hnf b hb' hm.2.1,fun k hk hnk=>hm.2.2 k (hle k hk hnk) hnk⟩
 ·obtain ⟨j,c,h1,h2⟩:=h.seats g s hg' hs
  have hjl:=(List.getElem?_eq_some_iff.1 h1).1
  exact ⟨j,c,by show (R.cl ++ [newC cb rc])[j]? = some c; rw [List.getElem?_append_left hjl]; exact h1,h2⟩
 ·show X.cap <= (R.cl ++ [newC cb rc]).length
  have:=h.cap
  simp; omega
 ·have hu:=h.under.mono hg.md.size
  have hcl:cb < w1.heap.size:=(hg.m.blk i (newC cb rc) (by show (R.cl ++ [newC cb rc])[i]? = _; rw [<- hi]; simp)).lt
  exact ⟨hu.stay,hu.hid,hu.chs,hu.grp,fun b hb=>by
   rcases hb with z | rfl
   ·exact hu.low b z
   ·exact hcl⟩
theorem Fix.hire (h:Fix Y fb q w0 Γ X R w Mn none ft) (hn:Y.nil i = false) (hi:R.cl.length = i) {cb rc ab0 eb0:Nat} {a:Option Addr} {n:Nat} {top:List Frame} {s:Seat1} (hs:s.ch = R.yb) (hM:RunM w1 w0.heap.size { R with ca:=a,cc:=n,cl:=R.cl ++ [newC cb rc] }) (hsz:w.heap.size <= w1.heap.size) (_hos:w1.os = w.os/\w1.output = w.output)
  (hlt:∀ b,b < w.heap.size->¬ R.fp b->w1.heap[b]? = w.heap[b]?) (hfp:∀ b,Rn.fp { R with ca:=a,cc:=n,cl:=R.cl ++ [newC cb rc] } b->R.fp b\/w.heap.size <= b) (hcb:w.heap.size <= cb) (hrc:w.heap.size <= rc/\rc < w1.heap.size) (hab:w.heap.size <= ab0) (heb:w.heap.size <= eb0) (hA:BlkF w1 ab0 #[.pointer (some ⟨cb,0,none⟩)] 50 (0,0)) (hE:BlkF w1 eb0 #[.bool false] 4 (0,0))
  (hnA:¬ Rn.fp { R with ca:=a,cc:=n,cl:=R.cl ++ [newC cb rc] } ab0) (hnE:¬ Rn.fp { R with ca:=a,cc:=n,cl:=R.cl ++ [newC cb rc] } eb0) (hT:TopOk top ab0 eb0 R.rb cb) :
  Fix Y fb q w0 (Γ.add i X.n ab0 eb0 top) (hireX X cb rc s) { R with ca:=a,cc:=n,cl:=R.cl ++ [newC cb rc] } w1 Mn (some i) ft:=by
 have hle:∀ j,j < (R.cl ++ [newC cb rc]).length->j ≠ i->j < R.cl.length:=fun j hj hji=>by
  rw [List.length_append,List.length_singleton] at hj; omega
 have hold:∀ j c,(R.cl ++ [newC cb rc])[j]? = some c->j ≠ i->R.cl[j]? = some c:=fun j c hc hji=>by
  rcases app_some hc with z | ⟨z,_⟩
  ·exact z
  ·exact absurd (z.trans hi) hji
 have hnew:∀ c,(R.cl ++ [newC cb rc])[i]? = some c->c = newC cb rc:=fun c hc=>by
  rw [<- hi] at hc; simp at hc; exact hc.symm
 have hnf:∀ b,b < w.heap.size->¬ R.fp b->¬ Rn.fp { R with ca:=a,cc:=n,cl:=R.cl ++ [newC cb rc] } b:=fun b hb hf z=>(hfp b z).elim hf (Nat.not_le_of_lt hb)
 have hgi:∀ {j},j ≠ i->(Γ.add i X.n ab0 eb0 top).gi j = Γ.gi j:=fun hj=>upN_ne hj
 have hgii:(Γ.add i X.n ab0 eb0 top).gi i = X.n:=upN_eq
 have habn:∀ {j},j ≠ i->(Γ.add i X.n ab0 eb0 top).ab j = Γ.ab j:=fun hj=>upN_ne hj
 have habi:(Γ.add i X.n ab0 eb0 top).ab i = ab0:=upN_eq
 have hebn:∀ {j},j ≠ i->(Γ.add i X.n ab0 eb0 top).eb j = Γ.eb j:=fun hj=>upN_ne hj
 have hebi:(Γ.add i X.n ab0 eb0 top).eb i = eb0:=upN_eq
 have htn:∀ {j},j ≠ i->(Γ.add i X.n ab0 eb0 top).top j = Γ.top j:=fun hj=>upN_ne hj
 have hti:(Γ.add i X.n ab0 eb0 top).top i = top:=upN_eq
 have hpn:∀ {j},j ≠ i->(Γ.add i X.n ab0 eb0 top).pv j = Γ.pv j:=fun hj=>upN_ne hj
 have hpi:(Γ.add i X.n ab0 eb0 top).pv i = fun _=>False:=upN_eq
 have hgn:∀ j,j < R.cl.length->Y.nil j = false->Γ.gi j ≠ X.n:=fun j hj hnj e=>by
  have:=(h.ck j _ (List.getElem?_eq_getElem hj) hnj).gpos; omega
 have hseat:∀ g,g ≠ 0->(hireX X cb rc s).seat g = X.seat g:=fun g hg=>Go.ConcN.upd_ne _ _ hg
 have hstay:∀ g,g ≠ X.n->(hireX X cb rc s).stay g = X.stay g:=fun g hg=>Go.ConcN.upd_ne _ _ hg
 have hsides:∀ b,b < w.heap.size->(∀ k,k < R.cl.length->Y.nil k = false->b ≠ Γ.ab k/\b ≠ Γ.eb k)->∀ k,k < (R.cl ++ [newC cb rc]).length->Y.nil k = false->b ≠ (Γ.add i X.n ab0 eb0 top).ab k/\b ≠ (Γ.add i X.n ab0 eb0 top).eb k:=fun b hb hk k hkl hnk=>by
  by_cases hki:k = i
  ·rw [hki,habi,hebi]; constructor <;> omega
  ·rw [habn hki,hebn hki]; exact hk k (hle k hkl hki) hnk
 refine ⟨hM,h.m,fun j c hc hj=>?_,fun j c hc hnj=>?_,fun b hb=>?_,fun j hj hnj=>?_,fun j b hb=>?_,fun b hb=>?_,Nat.succ_pos _,(fun z=>by cases z),(fun z=>by cases z),Nat.le_trans h.size hsz,h.grp,?_,.inl h.chy,fun g s' hg' hs'=>?_,fun j k hj hk hnj hnk=>?_,fun j k hj hk hnj hnk=>?_,fun j k c d hc hd hnj hnk=>?_,fun j c hc hnj=>?_,rfl,rfl,?_,?_,fun b hb=>h.plug b (Nat.le_trans hsz hb),(fun z=>by cases z),⟨h.base.le,fun b hb=>?_,h.base.pl⟩⟩
 ·have hji:j ≠ i:=fun e=>hj (by rw [e])
  have z:=hold j c hc hji
  have hjl:=(List.getElem?_eq_some_iff.1 z).1
  obtain ⟨f,h1,h2⟩:=h.cl j c z (by simp)
  refine ⟨f,h1,h2.turn (fun b hb=>hlt b (h.pv j b hb).1 (h.pv j b hb).2.1) hsz (fun hnj=>?_) (fun hnj=>?_) (hebn hji) (hgi hji) (htn hji) (hpn hji) rfl⟩
  ·have:=(h.ck j c z hnj).gpos
   exact hseat _ (by omega)
  ·exact hlt _ (h.ck j c z hnj).he.choose_spec.lt (h.side j hjl hnj).2.2.2
 ·by_cases hji:j = i
  ·subst hji
   obtain rfl:=hnew c hc
   refine ⟨by rw [hti,habi,hebi]; exact hT,by rw [habi]; exact hA,⟨false,by rw [hebi]; exact hE⟩,⟨by rw [hgii]; exact h.npos,by rw [hgii]; exact Nat.lt_succ_self _⟩,by rw [hgii]; exact Go.ConcN.upd_same _ _ _,.inr rfl⟩
  ·have z:=hold j c hc hji
   have hk:=h.ck j c z hnj
   have hjl:=(List.getElem?_eq_some_iff.1 z).1
   have hs:=h.side j hjl hnj
   refine ⟨by rw [htn hji,habn hji,hebn hji]; exact hk.top,by rw [habn hji]; exact (hlt _ hk.ha.lt hs.2.2.1).trans hk.ha,?_,⟨by rw [hgi hji]; exact hk.gpos.1,by rw [hgi hji]; exact Nat.lt_succ_of_lt hk.gpos.2⟩,by rw [hgi hji,hstay _ (hgn j hjl hnj)]; exact hk.stay,.inl hk.ch⟩
   obtain ⟨en,he⟩:=hk.he
   exact ⟨en,by rw [hebn hji]; exact (hlt _ he.lt hs.2.2.2).trans he⟩
 ·rcases hfp b hb with z | z
  ·exact h.fpB b z
  ·exact Nat.le_trans h.size z
 ·by_cases hji:j = i
  ·subst hji
   rw [habi,hebi]
   exact ⟨Nat.le_trans h.size hab,Nat.le_trans h.size heb,hnA,hnE⟩
  ·have hjl:=hle j hj hji
   have hs:=h.side j hjl hnj
   have hk:=h.ck j _ (List.getElem?_eq_getElem hjl) hnj
   rw [habn hji,hebn hji]
   exact ⟨hs.1,hs.2.1,hnf _ hk.ha.lt hs.2.2.1,hnf _ hk.he.choose_spec.lt hs.2.2.2⟩
 ·by_cases hji:j = i
  ·subst hji; rw [hpi] at hb; exact hb.elim
  ·rw [hpn hji] at hb
   have hp:=h.pv j b hb
   refine ⟨Nat.lt_of_lt_of_le hp.1 hsz,hnf b hp.1 hp.2.1,hp.2.2.1,hsides b hp.1 hp.2.2.2.1,fun k hk hkp=>?_⟩
   by_cases hki:k = i
   ·subst hki; rw [hpi] at hkp; exact hkp
   ·rw [hpn hki] at hkp; exact hp.2.2.2.2 k hk hkp
 ·have hm:=h.mn b hb
  have hb':b < w.heap.size:=by
   rcases Nat.lt_or_ge b w.heap.size with z | z
   ·exact z
   ·exact absurd (hm.1.symm.trans (Array.getElem?_eq_none z)) hb
  exact ⟨(hlt b hb' hm.2.1).trans hm.1,hnf b hb' hm.2.1,hsides b hb' hm.2.2⟩
 ·rw [hstay 0 (by have:=h.npos; omega)]; exact h.stay0
 ·rw [hseat g hg'] at hs'
  obtain ⟨j,c,h1,h2,h3,h4,_⟩:=h.seats g s' hg' hs'
  have hjl:=(List.getElem?_eq_some_iff.1 h1).1
  have hji:j ≠ i:=by omega
  exact ⟨j,c,by show (R.cl ++ [newC cb rc])[j]? = some c; rw [List.getElem?_append_left hjl]; exact h1,h2,by rw [hgi hji]; exact h3,h4,fun e=>hji (Option.some.inj e)⟩
 ·intro e
  by_cases hji:j = i <;> by_cases hki:k = i
  ·rw [hji,hki]
  ·rw [hji,hgii,hgi hki] at e; exact absurd e.symm (hgn k (hle k hk hki) hnk)
  ·rw [hki,hgii,hgi hji] at e; exact absurd e (hgn j (hle j hj hji) hnj)
  ·rw [hgi hji,hgi hki] at e; exact h.ginj j k (hle j hj hji) (hle k hk hki) hnj hnk e
 ·have hlo:∀ j,j < R.cl.length->Y.nil j = false->Γ.eb j < w.heap.size:=fun j hj hnj=>(h.ck j _ (List.getElem?_eq_getElem hj) hnj).he.choose_spec.lt
  intro e
  by_cases hji:j = i <;> by_cases hki:k = i
  ·rw [hji,hki]
  ·rw [hji,hebi,hebn hki] at e; have:=hlo k (hle k hk hki) hnk; omega
  ·rw [hki,hebi,hebn hji] at e; have:=hlo j (hle j hj hji) hnj; omega
  ·rw [hebn hji,hebn hki] at e; exact h.ebinj j k (hle j hj hji) (hle k hk hki) hnj hnk e
 ·have hlo:∀ j c,R.cl[j]? = some c->Y.nil j = false->c.rc < w.heap.size:=fun j c hc hnj=>h.under.chs _ (h.ck j c hc hnj).ch
  intro e
  by_cases hji:j = i <;> by_cases hki:k = i
  ·rw [hji,hki]
  ·subst hji
   obtain rfl:=hnew c hc
   have:=hlo k d (hold k d hd hki) hnk
   have e:rc = d.rc:=e
   omega
  ·subst hki
   obtain rfl:=hnew d hd
   have:=hlo j c (hold j c hc hji) hnj
   have e:c.rc = rc:=e
   omega
  ·exact h.rinj j k c d (hold j c hc hji) (hold k d hd hki) hnj hnk e
 ·by_cases hji:j = i
  ·subst hji
   obtain rfl:=hnew c hc
   have:=h.under.chs _ h.chy
   show rc ≠ R.yb
   omega
  ·exact h.ry j c (hold j c hc hji) hnj
 ·show X.cap + 1 <= (R.cl ++ [newC cb rc]).length
  have:=h.cap
  simp; omega
 ·have hu:=h.under.mono hsz
  have hcl:cb < w1.heap.size:=(hM.blk i (newC cb rc) (by show (R.cl ++ [newC cb rc])[i]? = _; rw [<- hi]; simp)).lt
  refine ⟨fun g p hp=>?_,hu.hid,fun b hb=>?_,hu.grp,fun b hb=>?_⟩
  ·by_cases hg:g = X.n
   ·subst hg
    have hp':p ∈ Go.ConcN.upd X.stay X.n [((⟨cb,2,none⟩:Addr),Value.chan (some rc))] X.n:=hp
    rw [Go.ConcN.upd_same] at hp'
    simp at hp'
    rw [hp']; exact hcl
   ·rw [hstay g hg] at hp; exact hu.stay g p hp
  ·rcases hb with z | rfl
   ·exact hu.chs b z
   ·exact hrc.2
  ·rcases hb with (z | rfl) | rfl
   ·exact hu.low b z
   ·exact hcl
   ·exact hrc.2
 ·have h1:=h.base.le
  have h2:=h.size
  rcases hb with (z | rfl) | rfl
  ·exact h.base.low b z
  ·omega
  ·omega
end
end Go.Vy.Sc
end
/- The run that is told, and the run that is gone through: clients begin, are picked, are stopped. -/
section
namespace Go.Vy.Sc
open Go Go.Conc Go.Yc Go.RowKit Go.Proofs Go.Proofs.Ytfmoeemolgjodaa
open Go.Vc Go.Wg
attribute [local irreducible] KK
def tpT (w:World) (t n s:Nat):Tape:=(setGh (setGh (setGh w 0 t) 1 n) 2 s).tape
theorem tp1 (U w:World) (t n s d:Nat):gh (Yc.onT U (tpT w t n s) d) 1 = n:=rfl
structure Starts {P:Program} (K:Cfg P) (beg:K.S->Out' K.S K.L) (u:World) (F:Nat->Prop):Prop where
 inv:K.Inv (K.sOf (gh u 0)) u F
 nts:gh u 1 = 0
 on:gh u 2 = 0
 out:K.out (gh u 0) = beg (K.sOf (gh u 0))
 os:u.os = K.base.os
 output:u.output = K.base.output
structure RunOk (Y:Sys) (fb:Nat->FuncId) (caps:Nat->Array Value) (fv:Nat->Value) (ba sa:Option Addr) (sn:Nat) (sc:Nat->Int):Prop where
 sys:SysOk Y
 m1:Y.m <= 16
 sn1:sn <= 262144
 bsl:SL ba Y.m
 ssl:SL sa sn
 fn:∀ i,i < Y.m->(Y.nil i = true/\fv i = .nilFunc)\/(Y.nil i = false/\fv i = .func (.func (fb i)) #[] (caps i)/\∃ fn,Try.prog.funcs[fb i]? = some fn/\fn.body.isSome = true/\(fn.name == "runtime.NumGoroutine") = false)
 nts:(Y.pn sc sn).nts.length <= 1000000000
 body:∀ (base:World) (i cb:Nat) (top:List Frame) (u:World) (F:Nat->Prop),i < Y.m->Y.nil i = false->Starts (Y.cfg fb (Y.pn sc sn) base i cb top) (Y.beg i) u F->Proc (Y.cfg fb (Y.pn sc sn) base i cb top) (G (Frame.enter Try.prog (fb i) (#[] ++ #[.pointer (some ⟨cb,0,none⟩)] ++ caps i) .normal) top) u
def endOf {L:Type}:Option (L ⊕ Nat)->Int
 | some (.inr x)=>x
 | _=>0
def wtOf (Y:Sys) (j:Nat):Option (Y.L ⊕ Nat)->Stp
 | some (.inl l)=>Y.stp j l
 | _=>sp0
def stopped {L:Type}:Option (L ⊕ Nat)->Option (L ⊕ Nat)
 | some (.inl _)=>some (.inr 0)
 | x=>x
structure Tie (Y:Sys) (rb0:Nat) (p:PR Y) (R:Rn):Prop where
 rb:R.rb = rb0
 evs:R.evs = p.evs
 nts:R.nts = p.nts
 used:R.used = p.used
 len:R.cl.length = p.ft.length
 picks:∀ j c,R.cl[j]? = some c->c.picks = p.who.count (some j)
 ends:∀ j,j < Y.m->R.ends[j]? = some (endOf p.ft[j]?)
namespace Sys
section
variable {Y:Sys}
theorem nts_bgn (p:PR Y):p.nts <+: (Y.bgn p).nts:=by
 unfold bgn
 split
 ·exact List.prefix_refl _
 ·exact List.prefix_append _ _
theorem nts_turn (p:PR Y) (i:Nat):p.nts <+: (Y.turn p i).nts:=by
 unfold turn
 split
 ·exact List.prefix_append _ _
 ·exact List.prefix_refl _
theorem nts_step (p:PR Y) (e:Int):p.nts <+: (Y.step p e).nts:=by
 unfold step
 split
 ·exact nts_turn _ _
 ·exact List.prefix_refl _
theorem nts_begs {n k:Nat}:(Y.begs n).nts <+: (Y.begs (n + k)).nts:=by
 induction k with
 | zero=>exact List.prefix_refl _
 | succ k ih=>exact ih.trans (nts_bgn _)
theorem nts_pn {sc:Nat->Int} {n k:Nat}:(Y.pn sc n).nts <+: (Y.pn sc (n + k)).nts:=by
 induction k with
 | zero=>exact List.prefix_refl _
 | succ k ih=>exact ih.trans (nts_step _ _)
theorem begs_who:∀ (n j:Nat),(Y.begs n).who.count (some j) = 0
 | 0,_=>rfl
 | n + 1,j=>by
  show (Y.bgn (Y.begs n)).who.count (some j) = 0
  unfold bgn
  split
  ·exact begs_who n j
  ·simp [begs_who n j]
theorem begs_evs:∀ n,(Y.begs n).evs = []/\(Y.begs n).used = 0
 | 0=>⟨rfl,rfl⟩
 | n + 1=>by
  show (Y.bgn (Y.begs n)).evs = []/\(Y.bgn (Y.begs n)).used = 0
  unfold bgn
  split <;> exact begs_evs n
theorem outs_begs:∀ n,(Y.begs n).outs.length <= n
 | 0=>Nat.le_refl _
 | n + 1=>by
  show (Y.bgn (Y.begs n)).outs.length <= n + 1
  have:=outs_begs n
  unfold bgn
  split <;> simp <;> omega
theorem evs_step (p:PR Y) (e:Int):(Y.step p e).evs.length <= p.evs.length + 1/\(Y.step p e).outs.length <= p.outs.length + 1:=by
 unfold step
 split
 ·unfold turn
  split <;> simp
 ·simp
theorem evs_pn (sc:Nat->Int):∀ n,(Y.pn sc n).evs.length <= n/\(Y.pn sc n).outs.length <= Y.m + n
 | 0=>by
  have h1:=(begs_evs (Y:=Y) Y.m).1
  have h2:=outs_begs (Y:=Y) Y.m
  show (Y.begs Y.m).evs.length <= 0/\_
  rw [h1]
  exact ⟨Nat.le_refl _,by simpa [pn] using h2⟩
 | n + 1=>by
  have h1:=evs_pn sc n
  have h2:=evs_step (Y:=Y) (Y.pn sc n) (sc n)
  show (Y.step (Y.pn sc n) (sc n)).evs.length <= _/\(Y.step (Y.pn sc n) (sc n)).outs.length <= _
  omega
theorem pn_stuck {sc:Nat->Int} {n:Nat} (h:Y.rds (Y.pn sc n) = []):∀ k,Y.pn sc (n + k) = Y.pn sc n
 | 0=>rfl
 | k + 1=>by
  show Y.step (Y.pn sc (n + k)) (sc (n + k)) = _
  rw [pn_stuck h k]
  unfold step
  rw [h]; rfl
theorem mem_rds {p:PR Y} {j i:Nat} (h:(Y.rds p)[j]? = some i):i < Y.m/\Y.isRdy p i = true:=by
 have:=List.mem_of_getElem? h
 simpa [rds] using this
end
end Sys
section
variable {Y:Sys} {fb:Nat->FuncId} {caps:Nat->Array Value} {fv:Nat->Value} {ba sa:Option Addr} {sn:Nat} {sc:Nat->Int} {Mn:Nat->Option Obj} {w0:World} {rb0:Nat}
variable (Y fb sn sc Mn w0 rb0) in
def JB (i:Nat) (X:Gh) (R:Rn) (w:World):Prop :=
 i <= Y.m/\(∃ Γ,Main Y fb (Y.pn sc sn) w0 Γ X R w Mn (fun j=>(Y.begs i).ft[j]?) (Y.begs i).s)/\Tie Y rb0 (Y.begs i) R/\R.wts = List.replicate Y.m sp0/\R.stuck = false
variable (Y fb sn sc Mn w0 rb0) in
def J2 (n:Nat) (X:Gh) (R:Rn) (w:World):Prop :=
 n <= sn/\(∃ Γ,Main Y fb (Y.pn sc sn) w0 Γ X R w Mn (fun j=>(Y.pn sc n).ft[j]?) (Y.pn sc n).s)/\Tie Y rb0 (Y.pn sc n) R/\R.wts = List.replicate Y.m sp0/\R.stuck = false
variable (Y fb sn sc Mn w0 rb0) in
def JE (i:Nat) (X:Gh) (R:Rn) (w:World):Prop :=
 i <= Y.m/\(∃ Γ,Main Y fb (Y.pn sc sn) w0 Γ X R w Mn (fun j=>if j < i then stopped ((Y.pn sc sn).ft[j]?) else (Y.pn sc sn).ft[j]?) (Y.pn sc sn).s)/\Tie Y rb0 (Y.pn sc sn) R /\
  (∀ j,j < Y.m->R.wts[j]? = some (if j < i then wtOf Y j ((Y.pn sc sn).ft[j]?) else sp0))/\R.stuck = ((Y.pn sc sn).ft.any (·.isLeft) && (Y.rds (Y.pn sc sn)).isEmpty)
theorem Main.get {Γ:Geo} {X:Gh} {R:Rn} {w:World} {q:PR Y} {ft:Nat->Option (Y.L ⊕ Nat)} {s:Y.S} (h:Main Y fb q w0 Γ X R w Mn ft s):∀ b,Mn b ≠ none->w.heap[b]? = Mn b:=fun b hb=>(h.fix.mn b hb).1
theorem le_begs_q {i:Nat} (hi:i <= Y.m):Y.Le (Y.begs i) (Y.pn sc sn):=by
 have h1:Y.Le (Y.begs i) (Y.begs Y.m):=by
  have:=Sys.le_begs (Y:=Y) (n:=i) (k:=Y.m - i)
  rwa [Nat.add_sub_cancel' hi] at this
 have h2:Y.Le (Y.pn sc 0) (Y.pn sc (0 + sn)):=Sys.le_pn
 rw [Nat.zero_add] at h2
 exact h1.trans h2
theorem le_pn_q {n:Nat} (hi:n <= sn):Y.Le (Y.pn sc n) (Y.pn sc sn):=by
 have:=Sys.le_pn (Y:=Y) (sc:=sc) (n:=n) (k:=sn - n)
 rwa [Nat.add_sub_cancel' hi] at this
theorem nts_begs_q {i:Nat} (hi:i <= Y.m):(Y.begs i).nts <+: (Y.pn sc sn).nts:=by
 have h1:(Y.begs i).nts <+: (Y.begs Y.m).nts:=by
  have:=Sys.nts_begs (Y:=Y) (n:=i) (k:=Y.m - i)
  rwa [Nat.add_sub_cancel' hi] at this
 have h2:(Y.pn sc 0).nts <+: (Y.pn sc (0 + sn)).nts:=Sys.nts_pn
 rw [Nat.zero_add] at h2
 exact h1.trans h2
theorem nts_pn_q {n:Nat} (hi:n <= sn):(Y.pn sc n).nts <+: (Y.pn sc sn).nts:=by
 have:=Sys.nts_pn (Y:=Y) (sc:=sc) (n:=n) (k:=sn - n)
 rwa [Nat.add_sub_cancel' hi] at this
theorem tie_app {p:PR Y} {i:Nat} (hi:p.ft.length = i) (x:Y.L ⊕ Nat):(fun j=>if j = i then some x else p.ft[j]?) = fun j=>(p.ft ++ [x])[j]?:=by
 funext j
 subst hi
 rcases Nat.lt_trichotomy j p.ft.length with h | h | h
 ·rw [if_neg (by omega),List.getElem?_append_left h]
 ·subst h; simp
 ·rw [if_neg (by omega),List.getElem?_eq_none (by omega),List.getElem?_eq_none (by simp; omega)]
theorem tie_set {p:PR Y} {i:Nat} (hi:i < p.ft.length) (x:Y.L ⊕ Nat):(fun j=>if j = i then some x else p.ft[j]?) = fun j=>(p.ft.set i x)[j]?:=by
 funext j
 by_cases h:j = i
 ·subst h; simp [hi]
 ·rw [if_neg h,List.getElem?_set_ne (Ne.symm h)]
theorem endsOf_at {e:List Int} {i:Nat} {f:Y.L ⊕ Nat} {g:Nat->Option (Y.L ⊕ Nat)} {m:Nat} (h:∀ j,j < m->e[j]? = some (endOf (g j))) (hl:e.length = m) (h0:endOf (g i) = 0) (j:Nat) (hj:j < m):(endsOf e i f)[j]? = some (endOf (if j = i then some f else g j)):=by
 cases f with
 | inl l =>
  show e[j]? = _
  by_cases hji:j = i
  ·subst hji; rw [h j hj,h0,if_pos rfl]; rfl
  ·rw [h j hj,if_neg hji]
 | inr x =>
  show (e.set i (x:Int))[j]? = _
  by_cases hji:j = i
  ·subst hji; rw [if_pos rfl]; simp [hl,hj]; rfl
  ·rw [List.getElem?_set_ne (Ne.symm hji),h j hj,if_neg hji]
set_option maxRecDepth 20000 in
theorem go_fin (hO:RunOk Y fb caps fv ba sa sn sc) {Post:Value->World->Prop} {i:Nat} {X:Gh} {R:Rn} {w w':World} {a:Option Addr} {n cb rc:Nat} (hi:i < Y.m) (hJ:JB Y fb sn sc Mn w0 rb0 i X R w) (hf:fv i ≠ .nilFunc) (hcb:w.heap.size <= cb) (hrc:w.heap.size <= rc) (hne:cb ≠ rc) (hch:ChanAt w' rc)
  (hg:Rg R.fp w.heap.size w w' w0.heap.size { R with ca:=a,cc:=n,cl:=R.cl ++ [newC cb rc] }) {me0:Goroutine} (hk:∀ X' R' u v,JB Y fb sn sc Mn w0 rb0 (i + 1) X' R' u->Fin Try.prog Post X' 0 (Go.Conc.served me0 v) u) :
  Fin Try.prog Post (Gh.hire { X.lower cb with pend:=1,cap:=X.cap + 1,dn:=0 } ⟨R.yb,.int .i64 0,me0⟩) X.n (born Try.prog (dcall 45 #[.pointer (some ⟨cb,0,none⟩),fv i])) w':=by
 obtain ⟨_,⟨Γ,hM⟩,hT,hwts,hstk⟩:=hJ
 obtain ⟨hn,hfv,fn,hfn,hbd,hnm⟩:Y.nil i = false/\fv i = .func (.func (fb i)) #[] (caps i)/\∃ fn,Try.prog.funcs[fb i]? = some fn/\fn.body.isSome = true/\(fn.name == "runtime.NumGoroutine") = false:=by
  rcases hO.fn i hi with h | h
  ·exact absurd h.2 hf
  ·exact h
 have hF:=hM.fix
 have hlen:R.cl.length = i:=hT.len.trans (Sys.len_begs i)
 have hok:=Sys.ok_begs (Y:=Y) i
 have hle:Y.Le (Y.begs (i + 1)) (Y.pn sc sn):=le_begs_q (by omega)
 have hbg:Y.begs (i + 1) = { Y.begs i with s:=(Y.beg i (Y.begs i).s).s,ft:=(Y.begs i).ft ++ [(Y.beg i (Y.begs i).s).fate],nts:=(Y.begs i).nts ++ tell i (Y.begs i).evs.length (Y.beg i (Y.begs i).s).nts,outs:=(Y.begs i).outs ++ [Y.beg i (Y.begs i).s],who:=(Y.begs i).who ++ [none] }:=by
  show Y.bgn (Y.begs i) = _
  unfold Sys.bgn
  rw [Sys.len_begs i,hn]; rfl
 generalize hp:Y.begs i = p at *
 have hs:Y.sAt (Y.pn sc sn) p.outs.length = p.s:=Sys.s_at hok (by rw [<- hp]; exact le_begs_q (by omega))
 have ho:Y.outAt (Y.pn sc sn) p.outs.length = Y.beg i p.s:=Sys.out_at (p':=Y.begs (i + 1)) (by rw [hbg]) hle
 obtain ⟨F,hinv,hFf⟩:=hM.inv
 have hvis:=hO.sys.vis _ _ _ hinv
 refine Fin.chan (b:=rc) (k:=0) ⟨fun j x hx=>?_,(hF.under.loosed hrc).hid,(hF.under.loosed hrc).chs,(hF.under.loosed hrc).grp⟩ (fun z=>?_) (hF.plug rc hrc) hch ?_
 ·exact (hF.under.loosed hrc).stay j x hx
 ·rcases z with z | z
  ·have:=hF.under.low rc z; omega
  ·exact hne z.symm
 have hrl:=hch.lt
 have hcbB:BlkF w' cb ((newC cb rc).cells R.rb i) 76 (0,3):=hg.m.blk i (newC cb rc) (by show (R.cl ++ [newC cb rc])[i]? = _; rw [<- hlen]; simp)
 have hput:∀ b,b ≠ rc->(putObj' w' rc nothing).heap[b]? = w'.heap[b]?:=fun b hb=>putObj'_ne _ _ (Ne.symm hb)
 have hcb2:BlkF (putObj' w' rc nothing) cb ((newC cb rc).cells R.rb i) 76 (0,3):=(hput cb hne).trans hcbB
 have hsz2:(putObj' w' rc nothing).heap.size = w'.heap.size:=by simp [putObj']
 have hrnf:¬ Rn.fp { R with ca:=a,cc:=n,cl:=R.cl ++ [newC cb rc] } rc:=fun z=>by
  have hx:=hch
  have own:∀ {E:TypeId} {s n c:Nat} {a:Option Addr} {xs:List Value},Own w' w0.heap.size E s a n c xs->a ≠ none->rc = ab a->False:=fun h ha e=>by
   obtain ⟨cur,hB,_⟩:=h.row ha
   unfold ChanAt at hx
   rw [e] at hx
   unfold Blk at hB
   rw [hx] at hB; cases hB
  have blk:∀ {b:Nat} {cs:Array Value} {T:TypeId} {f:Nat × Nat},BlkF w' b cs T f->rc = b->False:=fun h e=>by
   unfold ChanAt at hx
   rw [e] at hx
   unfold BlkF at h
   rw [hx] at h; cases h
  rcases z with e | e | e | ⟨ha,e⟩ | ⟨ha,e⟩ | ⟨ha,e⟩ | ⟨j,c,hc,e⟩
  ·exact blk hg.m.run e
  ·exact blk hg.m.ends e
  ·exact blk hg.m.wts e
  ·exact own hg.m.cls ha e
  ·exact own hg.m.evs ha e
  ·exact own hg.m.nts ha e
  ·exact blk (hg.m.blk j c hc) e
 have hM2:RunM (putObj' w' rc nothing) w0.heap.size { R with ca:=a,cc:=n,cl:=R.cl ++ [newC cb rc] }:=hg.m.congr fun b hb=>hput b fun e=>hrnf (e ▸ hb)
 refine Fin.stay (l:=[(⟨cb,2,none⟩,.chan (some rc))]) (fun x hx=>?_) ?_
 ·simp at hx
  subst hx
  exact ⟨hcb2.cellAt 2 rfl,by rw [hcb2.frozen]; rfl⟩
 show Fin Try.prog Post (hireX X cb rc ⟨R.yb,.int .i64 0,me0⟩) X.n _ _
 rw [hfv]
 refine body_fin (i:=i) (c:=newC cb rc) hfn hbd hnm hM2 (by show (R.cl ++ [newC cb rc])[i]? = _; rw [<- hlen]; simp) fun w1 top ab0 eb0 hb1 lA lE hA hE hTop=>?_
 have hsz1:w.heap.size <= w1.heap.size:=Nat.le_trans hg.md.size (by have:=hb1.size; omega)
 have hlt:∀ b,b < w.heap.size->¬ R.fp b->w1.heap[b]? = w.heap[b]?:=fun b hb hf=>by
  rw [hb1.block b (by have:=hg.md.size; omega),hput b (by omega)]
  exact hg.md.block b hb hf
 have hM1:=hM2.keep hb1
 have hfpl:∀ b,Rn.fp { R with ca:=a,cc:=n,cl:=R.cl ++ [newC cb rc] } b->b < (putObj' w' rc nothing).heap.size:=fun b hb=>hM2.lt hb
 have hsA:w.heap.size <= (putObj' w' rc nothing).heap.size:=by rw [hsz2]; exact hg.md.size
 have hfix:=hF.hire (s:=⟨R.yb,.int .i64 0,me0⟩) (top:=top) hn hlen rfl hM1 hsz1 ⟨hb1.os.trans hg.md.os,hb1.output.trans hg.md.output⟩ hlt hg.fp hcb ⟨hrc,by have:=hb1.size; omega⟩ (by omega) (by omega) hA hE (fun z=>by have:=hfpl _ z; omega) (fun z=>by have:=hfpl _ z; omega) hTop
 refine fin_ign _ _ fun nv=>?_
 haveI:DecidablePred F:=fun _=>Classical.propDecidable _
 refine fin_see F (finH_onT (τ:=tpT w1 p.outs.length 0 0) (d:=w1.drawn) ?_)
 have hkept:∀ b,(Rn.fp { R with ca:=a,cc:=n,cl:=R.cl ++ [newC cb rc] } b\/Kept Y (Γ.add i X.n ab0 eb0 top) { R with ca:=a,cc:=n,cl:=R.cl ++ [newC cb rc] } Mn b)->¬ F b:=fun b hb hFb=>by
  have hv:=hvis b hFb
  have hff:=hFf b hFb
  rcases hb with hb | hb | ⟨k,hk,hnk,hb⟩ | ⟨j,hb⟩
  ·rcases hg.fp b hb with z | z
   ·exact hff.1 z
   ·omega
  ·exact hff.2 (.inl hb)
  ·by_cases hki:k = i
   ·subst hki
    have h1:(Γ.add k X.n ab0 eb0 top).ab k = ab0:=upN_eq
    have h2:(Γ.add k X.n ab0 eb0 top).eb k = eb0:=upN_eq
    rw [h1,h2] at hb
    omega
   ·have h1:(Γ.add i X.n ab0 eb0 top).ab k = Γ.ab k:=upN_ne hki
    have h2:(Γ.add i X.n ab0 eb0 top).eb k = Γ.eb k:=upN_ne hki
    rw [h1,h2] at hb
    refine hff.2 (.inr (.inl ⟨k,?_,hnk,hb⟩))
    have hk':k < (R.cl ++ [newC cb rc]).length:=hk
    rw [List.length_append,List.length_singleton] at hk'; omega
  ·by_cases hji:j = i
   ·subst hji
    have h1:(Γ.add j X.n ab0 eb0 top).pv j = fun _=>False:=upN_eq
    rw [h1] at hb; exact hb
   ·have h1:(Γ.add i X.n ab0 eb0 top).pv j = Γ.pv j:=upN_ne hji
    rw [h1] at hb
    exact hff.2 (.inr (.inr ⟨j,hb⟩))
 have hgi:(Γ.add i X.n ab0 eb0 top).gi i = X.n:=upN_eq
 have hti:(Γ.add i X.n ab0 eb0 top).top i = top:=upN_eq
 have hebi:(Γ.add i X.n ab0 eb0 top).eb i = eb0:=upN_eq
 have hpk:Y.picks (Y.pn sc sn) i p.outs.length = 0:=by
  unfold Sys.picks
  obtain ⟨l,hl⟩:=hle.who
  have hw:=hok.who
  rw [<- hl,hbg]
  rw [List.take_append_of_le_length (by simp [hw]),List.take_of_length_le (by simp [hw])]
  have:=Sys.begs_who (Y:=Y) i i
  rw [hp] at this
  simp [this]
 have hrun:=Run1.enter (q:=Y.pn sc sn) (i:=i) (t:=p.outs.length) (at_:=p.evs.length) (cb:=cb) (n0:=p.nts) (R0:={ R with ca:=a,cc:=n,cl:=R.cl ++ [newC cb rc] }) (τ:=tpT w1 p.outs.length 0 0) (d:=w1.drawn) F hfix hkept nv rfl (congrArg List.length hT.evs) ⟨newC cb rc,by show (R.cl ++ [newC cb rc])[i]? = _; rw [<- hlen]; simp,rfl,.inl ⟨rfl,rfl,by
  show R.nts = _
  rw [tp1,hT.nts]; simp [tell],hpk.symm⟩⟩ ⟨R.na,R.nc,R.nts,rfl⟩ hn (by rw [hebi]; exact hE)
 have hst:Starts (Y.cfg fb (Y.pn sc sn) w0 i cb top) (Y.beg i) (Yc.onT (seeOf F w1) (tpT w1 p.outs.length 0 0) w1.drawn) F:=by
  refine ⟨?_,rfl,rfl,?_,?_,?_⟩
  ·show Y.Inv (Y.sAt (Y.pn sc sn) p.outs.length) _ _
   rw [hs]
   refine hO.sys.loc _ w _ F hinv fun b hb=>?_
   show (seeOf F w1).heap[b]? = _
   rw [seeOf_hit _ hb,hlt b (hvis b hb).1 (hFf b hb).1]
  ·show Y.outAt (Y.pn sc sn) p.outs.length = Y.beg i (Y.sAt (Y.pn sc sn) p.outs.length)
   rw [hs,ho]
  ·exact (hb1.os.trans hg.md.os).trans (hF.os rfl)
  ·exact (hb1.output.trans hg.md.output).trans (hF.output rfl)
 have hpr:=hO.body w0 i cb top _ F hi hn hst
 have key:=client_fin (Post:=Post) (z0:=.int .i64 0) (me0:=me0) (st:=false) (X:=hireX X cb rc ⟨R.yb,.int .i64 0,me0⟩) (Γ:=Γ.add i X.n ab0 eb0 top) (Mn:=Mn) (ft:=fun j=>p.ft[j]?) (t:=p.outs.length) (at_:=p.evs.length) (n0:=p.nts) (R0:={ R with ca:=a,cc:=n,cl:=R.cl ++ [newC cb rc] }) hO.sys (show Go.ConcN.upd X.seat 0 _ 0 = _ from Go.ConcN.upd_same _ _ _) (by
   have h1:=(nts_begs_q (Y:=Y) (sc:=sc) (sn:=sn) (i:=i + 1) (by omega)).length_le
   have h2:=hO.nts
   rw [hbg] at h1
   rw [ho]
   simp [tell] at h1
   omega) (fun Γ' X' R' w2 hA=>?_) (by rw [hti]; exact hpr) _ _ hrun (fun c hc=>by
    have hc':(R.cl ++ [newC cb rc])[i]? = some c:=hc
    rw [<- hlen] at hc'; simp at hc'; rw [<- hc'])
 ·rw [hgi] at key; exact key
 ·rcases hA with ⟨_,hM',na,nc,c,c',hc,hcp,hR⟩ | ⟨z,_⟩
  ·have hc:(R.cl ++ [newC cb rc])[i]? = some c:=hc
   have hc0:c = newC cb rc:=by rw [<- hlen] at hc; simp at hc; exact hc.symm
   rw [ho,tie_app (by rw [<- hp]; exact Sys.len_begs i)] at hM'
   refine hk X' R' w2 _ ?_
   subst hR
   refine ⟨by omega,⟨Γ',by rw [hbg]; exact hM'⟩,?_,hwts,hstk⟩
   rw [hbg]
   refine ⟨hT.rb,hT.evs,?_,hT.used,?_,fun j d hd=>?_,fun j hj=>?_⟩
   ·show p.nts ++ tell i R.evs.length (Y.outAt (Y.pn sc sn) p.outs.length).nts = _
    rw [hT.evs,ho]
   ·show ((R.cl ++ [newC cb rc]).set i c').length = _
    simp [hT.len]
   ·have hd':((R.cl ++ [newC cb rc]).set i c')[j]? = some d:=hd
    show d.picks = (p.who ++ [none]).count (some j)
    have hz:p.who.count (some j) = 0:=by rw [<- hp]; exact Sys.begs_who i j
    rw [List.getElem?_set] at hd'
    by_cases hji:i = j
    ·subst hji
     rw [if_pos rfl,if_pos (by simp [hlen])] at hd'
     obtain rfl:=Option.some.inj hd'
     rw [hcp,hc0]
     simp [hz]
    ·rw [if_neg hji] at hd'
     rcases app_some hd' with z | ⟨z,_⟩
     ·rw [hT.picks j d z]; simp
     ·omega
   ·show (endsOf R.ends i (Y.outAt (Y.pn sc sn) p.outs.length).fate)[j]? = some (endOf ((p.ft ++ [(Y.beg i p.s).fate])[j]?))
    have hpl:p.ft.length = i:=by rw [<- hp]; exact Sys.len_begs i
    have h0:=endsOf_at (Y:=Y) (f:=(Y.beg i p.s).fate) (g:=fun j=>p.ft[j]?) (i:=i) hT.ends (by rw [hF.mem.lend,hF.m]) (by show endOf p.ft[i]? = 0; rw [List.getElem?_eq_none (by omega)]; rfl) j hj
    rw [ho,h0]
    exact congrArg (fun f:Nat->Option (Y.L ⊕ Nat)=>some (endOf (f j))) (tie_app hpl (Y.beg i p.s).fate)
  ·cases z
end
end Go.Vy.Sc
end
/- The run that is gone through: picks and stops. -/
section
namespace Go.Vy.Sc
open Go Go.Conc Go.Yc Go.RowKit Go.Proofs Go.Proofs.Ytfmoeemolgjodaa
open Go.Vc Go.Wg
attribute [local irreducible] KK
theorem finH_do {Post:Value->World->Prop} {X:Gh} {h:Nat} {H:Hid} {cs:List Frame} {cb:Nat} {df:Value} {me:Goroutine} {u:World} {K:World->Prop} (h0:(h == 0) = false) {num:Nat} (hme:StepMe cs cb df me) (hd:DoOk Try.prog (numCtx Try.prog 24 cb num) df u K)
  (hnum:∀ cs2 u2,Evo u u2->u2.tape = u.tape->(∀ fr,fr.fn = 24->Leaves Try.prog fr u2 (.returned (.int .i64 num))->FinH Try.prog Post X h H (G fr cs2) u2)->FinH Try.prog Post X h H (G (Frame.enter Try.prog 24 #[.pointer (some ⟨cb,0,none⟩)] .normal) cs2) u2)
  (hk:∀ u2 fr,Evo u u2->u2.tape = u.tape->K u2->fr.fn = 18->Leaves Try.prog fr u2 (.returned (.tuple #[]))->FinH Try.prog Post X h H (G fr cs) u2):FinH Try.prog Post X h H (Go.Conc.served me (.bool true)) u:=by
 have hcl:Cl Try.prog false (fun g x=>Evo u x->x.tape = u.tape->FinH Try.prog Post X h H g x):=⟨fun g x hr hs he ht=>finH_own hr fun τ d=>by
  obtain ⟨g',u',d',hF,hz⟩:=hs τ d
  exact ⟨g',u',by rw [h0]; exact hF,fun he'=>finH_onT (hz (he.trans ⟨he'.size,he'.obj⟩) ht)⟩⟩
 exact hme.yes (numCtx Try.prog 24 cb num) (fun g x=>Evo u x->x.tape = u.tape->FinH Try.prog Post X h H g x) ⟨⟨hcl,fun g x hz he ht=>finH_zs.2 _ _ fun hv=>hz hv he ht⟩,fun cs2 u2 hz he ht=>hnum cs2 u2 he ht fun fr h3 h4=>hz fr h3 h4 he ht⟩ u K hd (fun u2 fr h1 h2 h3 he ht=>hk u2 fr he ht h1 h2 h3) (Evo.refl u) rfl
section
variable {Y:Sys} {fb:Nat->FuncId} {caps:Nat->Array Value} {fv:Nat->Value} {ba sa:Option Addr} {sn:Nat} {sc:Nat->Int} {Mn:Nat->Option Obj} {w0:World} {rb0:Nat}
theorem put_own {Γ:Geo} {i:Nat} {N:Nat->Prop}:(Γ.put i N).pv i = N:=by funext b; simp [Geo.put]
theorem seen_free {q:PR Y} {Γ:Geo} {X:Gh} {R R1:Rn} {w:World} {ft:Nat->Option (Y.L ⊕ Nat)} {i:Nat} (hF:Fix Y fb q w0 Γ X R w Mn none ft) (hfp:∀ b,R1.fp b->R.fp b\/w.heap.size <= b) (hlen:R1.cl.length = R.cl.length) {F:Nat->Prop} (hFf:∀ b,F b->¬ R.fp b/\¬ Kept Y Γ R Mn b) (hFs:∀ b,F b->b < w.heap.size) (b:Nat)
  (hb:R1.fp b\/Kept Y (Γ.put i fun _=>False) R1 Mn b):¬ (Γ.pv i b\/F b):=by
 intro hV
 have hl:b < w.heap.size/\¬ R.fp b:=by
  rcases hV with h | h
  ·exact ⟨(hF.pv i b h).1,(hF.pv i b h).2.1⟩
  ·exact ⟨hFs b h,(hFf b h).1⟩
 rcases hb with hb | hb | ⟨k,hk,hnk,hb⟩ | ⟨j,hb⟩
 ·rcases hfp b hb with z | z
  ·exact hl.2 z
  ·omega
 ·rcases hV with h | h
  ·exact (hF.pv i b h).2.2.1 hb
  ·exact (hFf b h).2 (.inl hb)
 ·rw [hlen] at hk
  rcases hV with h | h
  ·have:=(hF.pv i b h).2.2.2.1 k hk hnk
   rcases hb with hb | hb
   ·exact this.1 hb
   ·exact this.2 hb
  ·exact (hFf b h).2 (.inr (.inl ⟨k,hk,hnk,hb⟩))
 ·by_cases hji:j = i
  ·subst hji; rw [put_own] at hb; exact hb
  ·rw [put_ne hji] at hb
   rcases hV with h | h
   ·exact (hF.pv i b h).2.2.2.2 j hji hb
   ·exact (hFf b h).2 (.inr (.inr ⟨j,hb⟩))
theorem Fix.waits {q:PR Y} {Γ:Geo} {X:Gh} {R:Rn} {w:World} {ft:Nat->Option (Y.L ⊕ Nat)} (hF:Fix Y fb q w0 Γ X R w Mn none ft) {i:Nat} {c:CB} (hc:R.cl[i]? = some c):(c.wt = true/\Y.nil i = false/\∃ l,ft i = some (.inl l)/\Wt Y fb q w0 Γ X w i c l)\/(c.wt = false/\∃ x,ft i = some (.inr x)/\(Y.nil i = true\/X.seat (Γ.gi i) = none)):=by
 obtain ⟨f,h1,h2⟩:=hF.cl i c hc (by simp)
 rcases h2 with ⟨h3,h4,h5,h6⟩ | ⟨h3,h4⟩
 ·exact .inr ⟨h5,1,by rw [h1,h4],.inl h3⟩
 ·cases f with
  | inl l=>exact .inl ⟨h4.wt,h3,l,h1,h4⟩
  | inr x=>exact .inr ⟨h4.1,x,h1,.inr h4.2.2⟩
theorem Wt.later (hY:SysOk Y) {q:PR Y} {Γ:Geo} {X:Gh} {R:Rn} {w:World} {i:Nat} {c:CB} {l:Y.L} {F:Nat->Prop} {s:Y.S} {wn:World} {Fn:Nat->Prop} (hpv:∀ b,Γ.pv i b ↔ b < wn.heap.size/\wn.heap[b]? ≠ some nothing/\¬ Fn b) (hkeep:∀ b,Γ.pv i b->w.heap[b]? = wn.heap[b]?) (hos:wn.os = w0.os) (hout:wn.output = w0.output) (hsz:wn.heap.size <= w.heap.size)
  (hinv:Y.Inv s w F) (hFf:∀ b,F b->¬ Γ.pv i b) {u:World} (hu:∀ b,Γ.pv i b\/F b->u.heap[b]? = w.heap[b]?) (husz:w.heap.size <= u.heap.size) (huos:u.os = w0.os) (huout:u.output = w0.output) (hs:Y.sAt q (gh u 0) = s) {cb:Nat} {top:List Frame}:(Y.cfg fb q w0 i cb top).Later wn Fn u F:=by
 refine ⟨Nat.le_trans hsz husz,fun b hb h1 h2=>?_,?_,huos.trans hos.symm,huout.trans hout.symm⟩
 ·have hp:=(hpv b).2 ⟨hb,h1,h2⟩
  exact ⟨(hu b (.inl hp)).trans (hkeep b hp),fun z=>hFf b z hp⟩
 ·show Y.Inv (Y.sAt q (gh u 0)) u F
  rw [hs]
  exact hY.loc _ w u F hinv fun b hb=>hu b (.inr hb)
set_option maxRecDepth 20000 in
theorem pick_ok (hO:RunOk Y fb caps fv ba sa sn sc) {Post:Value->World->Prop} {n:Nat} {X:Gh} {R:Rn} {w:World} {i:Nat} {c:CB} (hJ:J2 Y fb sn sc Mn w0 rb0 n X R w) (hn:n < sn) (hpick:(Y.rds (Y.pn sc n))[pickIx (sc n) (Y.rds (Y.pn sc n)).length]? = some i) (hc:R.cl[i]? = some c) :
  ∃ g z1 me1,g ≠ 0/\X.seat g = some ⟨c.rc,z1,me1⟩/\X.dn = 0/\X.stay 0 = [(⟨R.rb,7,none⟩,.chan (some R.yb))]/\(X.chs R.yb/\∀ i s2,i ≠ g->X.seat i = some s2->s2.ch ≠ R.yb) /\
  ∀ w' a nn me0,Rg R.fp w.heap.size w w' w0.heap.size { R with ea:=a,ec:=nn,evs:=R.evs ++ [(i,c.sp)],used:=R.used + 1,cl:=R.cl.set i { c with picks:=c.picks + 1,wt:=false } }->(∀ X' R' u v,J2 Y fb sn sc Mn w0 rb0 (n + 1) X' R' u->Fin Try.prog Post X' 0 (Go.Conc.served me0 v) u)->Fin Try.prog Post (X.pass 0 g (some ⟨R.yb,.int .i64 0,me0⟩)) g (Go.Conc.served me1 (.bool true)) w':=by
 obtain ⟨_,⟨Γ,hM⟩,hT,hwts,hstk⟩:=hJ
 have hF:=hM.fix
 obtain ⟨him,hri⟩:=Sys.mem_rds hpick
 have hle:Y.Le (Y.pn sc (n + 1)) (Y.pn sc sn):=le_pn_q (by omega)
 have hle0:Y.Le (Y.pn sc n) (Y.pn sc sn):=le_pn_q (by omega)
 have hok:=Sys.ok_pn (Y:=Y) sc n
 have hlp:(Y.pn sc n).ft.length = Y.m:=Sys.len_pn sc n
 have hstep:Y.pn sc (n + 1) = Y.turn (Y.pn sc n) i:=by
  show Y.step (Y.pn sc n) (sc n) = _
  unfold Sys.step
  rw [hpick]
 have hpnts:=(nts_pn_q (Y:=Y) (sc:=sc) (sn:=sn) (n:=n + 1) (by omega)).length_le
 generalize hp:Y.pn sc n = p at *
 obtain ⟨l,hl,hrl⟩:∃ l,p.ft[i]? = some (.inl l)/\Y.rdy i l p.s = true:=by
  unfold Sys.isRdy at hri
  cases hx:p.ft[i]? with
  | none=>rw [hx] at hri; cases hri
  | some f =>
   cases f with
   | inl l=>rw [hx] at hri; exact ⟨l,rfl,hri⟩
   | inr x=>rw [hx] at hri; cases hri
 obtain ⟨hwt,hnl,l',hl',hW⟩:c.wt = true/\Y.nil i = false/\∃ l,p.ft[i]? = some (.inl l)/\Wt Y fb (Y.pn sc sn) w0 Γ X w i c l:=by
  rcases hF.waits hc with h | ⟨_,x,h,_⟩
  ·exact h
  ·have h:p.ft[i]? = some (.inr x):=h
   rw [hl] at h; cases h
 obtain rfl:l = l':=by rw [hl] at hl'; exact Sum.inl.inj (Option.some.inj hl')
 have htn:Y.turn p i = { p with s:=(Y.go i l p.s).s,ft:=p.ft.set i (Y.go i l p.s).fate,evs:=p.evs ++ [(i,Y.stp i l)],nts:=p.nts ++ tell i (p.evs.length + 1) (Y.go i l p.s).nts,outs:=p.outs ++ [Y.go i l p.s],who:=p.who ++ [some i],used:=p.used + 1 }:=by
  unfold Sys.turn
  rw [hl]
 have hs:Y.sAt (Y.pn sc sn) p.outs.length = p.s:=Sys.s_at hok hle0
 have ho:Y.outAt (Y.pn sc sn) p.outs.length = Y.go i l p.s:=Sys.out_at (p':=Y.pn sc (n + 1)) (by rw [hstep,htn]) hle
 obtain ⟨h1,hst,hsp,heb,me,cs,wn,Fn,Rdo,hseat,hme,hrf,hdf,hpv,hkeep,hos,hout,hsz,hdo,hgo,hstop⟩:=hW
 have hgp:=(hF.ck i c hc hnl).gpos
 have hg0:(Γ.gi i == 0) = false:=by simp; omega
 refine ⟨Γ.gi i,.bool false,me,by omega,hseat,hF.dn,hF.stay0,⟨hF.chy,fun j s2 hj hs2=>?_⟩,fun w' a nn me0 hg hk=>?_⟩
 ·by_cases hj0:j = 0
  ·subst hj0; rw [hF.seat0 rfl] at hs2; cases hs2
  ·obtain ⟨k,d,h2,h3,_,h4,_⟩:=hF.seats j s2 hj0 hs2
   rw [h4]; exact hF.ry k d h2 h3
 have hil:=(List.getElem?_eq_some_iff.1 hc).1
 obtain ⟨F,hinv,hFf⟩:=hM.inv
 have hvis:=hO.sys.vis _ _ _ hinv
 have hlt:∀ b,b < w.heap.size->¬ R.fp b->w'.heap[b]? = w.heap[b]?:=hg.md.block
 have hfix:=(hF.away hnl hc (s0:=⟨R.yb,.int .i64 0,me0⟩)).turn (w':=w') (R':={ R with ea:=a,ec:=nn,evs:=R.evs ++ [(i,c.sp)],used:=R.used + 1,cl:=R.cl.set i { c with picks:=c.picks + 1,wt:=false } }) hg.m rfl rfl rfl hg.fp (by simp) (fun j d hd=>by
  have hd':(R.cl.set i { c with picks:=c.picks + 1,wt:=false })[j]? = some d:=hd
  rw [List.getElem?_set] at hd'
  by_cases hj:i = j
  ·subst hj
   rw [if_pos rfl,if_pos hil] at hd'
   obtain rfl:=Option.some.inj hd'
   exact ⟨c,hc,rfl,rfl,fun z=>absurd rfl z⟩
  ·rw [if_neg hj] at hd'
   exact ⟨d,hd',rfl,rfl,fun _=>⟨rfl,rfl⟩⟩) hg.md.size (fun b hb hf _=>.inl (hlt b hb hf)) (fun z=>by cases z)
 refine fin_ign _ _ fun nv=>?_
 haveI:DecidablePred fun b=>Γ.pv i b\/F b:=fun _=>Classical.propDecidable _
 refine fin_see (fun b=>Γ.pv i b\/F b) (finH_onT (τ:=tpT w' p.outs.length 0 0) (d:=w'.drawn) ?_)
 have hhid:=seen_free (i:=i) (R1:={ R with ea:=a,ec:=nn,evs:=R.evs ++ [(i,c.sp)],used:=R.used + 1,cl:=R.cl.set i { c with picks:=c.picks + 1,wt:=false } }) hF hg.fp (by simp) hFf (fun b hb=>(hvis b hb).1)
 have hpk:Y.picks (Y.pn sc sn) i p.outs.length = c.picks + 1:=by
  unfold Sys.picks
  obtain ⟨l',hl'⟩:=hle.who
  have hw:=hok.who
  rw [<- hl',hstep,htn]
  rw [List.take_append_of_le_length (by simp [hw]),List.take_of_length_le (by simp [hw])]
  rw [hT.picks i c hc]
  simp
 have hrun:=Run1.enter (q:=Y.pn sc sn) (i:=i) (t:=p.outs.length) (at_:=p.evs.length + 1) (cb:=c.cb) (n0:=p.nts) (R0:={ R with ea:=a,ec:=nn,evs:=R.evs ++ [(i,c.sp)],used:=R.used + 1,cl:=R.cl.set i { c with picks:=c.picks + 1,wt:=false } }) (τ:=tpT w' p.outs.length 0 0) (d:=w'.drawn) (fun b=>Γ.pv i b\/F b) hfix hhid nv rfl (by show (R.evs ++ [(i,c.sp)]).length = _; rw [hT.evs]; simp)
  ⟨{ c with picks:=c.picks + 1,wt:=false },by show (R.cl.set i _)[i]? = _; simp [hil],rfl,.inl ⟨rfl,hst,by
   show R.nts = _
   rw [tp1,hT.nts]; simp [tell],hpk.symm⟩⟩ ⟨R.na,R.nc,R.nts,rfl⟩ hnl ((hlt _ heb.lt (hF.side i hil hnl).2.2.2).trans heb)
 have hpvlt:∀ b,Γ.pv i b\/F b->b < w.heap.size/\¬ R.fp b:=fun b hb=>by
  rcases hb with h | h
  ·exact ⟨(hF.pv i b h).1,(hF.pv i b h).2.1⟩
  ·exact ⟨(hvis b h).1,(hFf b h).1⟩
 have hgoes:(Y.cfg fb (Y.pn sc sn) w0 i c.cb (Γ.top i)).Goes wn Fn l (Yc.onT (seeOf (fun b=>Γ.pv i b\/F b) w') (tpT w' p.outs.length 0 0) w'.drawn) F:=by
  refine ⟨Wt.later (u:=Yc.onT (seeOf (fun b=>Γ.pv i b\/F b) w') (tpT w' p.outs.length 0 0) w'.drawn) (q:=Y.pn sc sn) (X:=X) (R:=R) (c:=c) (l:=l) hO.sys hpv hkeep hos hout hsz hinv (fun b hb z=>(hFf b hb).2 (.inr (.inr ⟨i,z⟩))) (fun b hb=>?_) ?_ (hg.md.os.trans (hF.os rfl)) (hg.md.output.trans (hF.output rfl)) hs,rfl,rfl,?_,?_⟩
  ·show (seeOf (fun b=>Γ.pv i b\/F b) w').heap[b]? = _
   rw [seeOf_hit (V:=fun b=>Γ.pv i b\/F b) w' hb,hlt b (hpvlt b hb).1 (hpvlt b hb).2]
  ·show w.heap.size <= (seeOf (fun b=>Γ.pv i b\/F b) w').heap.size
   rw [seeOf_size]; exact hg.md.size
  ·show Y.outAt (Y.pn sc sn) p.outs.length = Y.go i l (Y.sAt (Y.pn sc sn) p.outs.length)
   rw [hs,ho]
  ·show Y.rdy i l (Y.sAt (Y.pn sc sn) p.outs.length) = true
   rw [hs]; exact hrl
 refine finH_do hg0 hme (hdo _ F hgoes) (fun cs2 u2 he ht hz=>(hrun.evo he ht).number hz) fun u2 fr he ht hr hfn hlv=>?_
 refine client_fin (z0:=.int .i64 0) (me0:=me0) (st:=false) (cb:=c.cb) (Γ:=Γ.put i fun _=>False) (Mn:=Mn) (ft:=fun j=>p.ft[j]?) (t:=p.outs.length) (at_:=p.evs.length + 1) (n0:=p.nts) (R0:={ R with ea:=a,ec:=nn,evs:=R.evs ++ [(i,c.sp)],used:=R.used + 1,cl:=R.cl.set i { c with picks:=c.picks + 1,wt:=false } }) hO.sys pass_seat_h ?_ (fun Γ' X' R' w2 hA=>?_) (hgo _ F u2 hgoes hr ht fr hfn hlv) _ _ (hrun.evo he ht) (fun d hd=>?_)
 ·rw [hstep,htn] at hpnts
  have:=hO.nts
  rw [ho]
  simp [tell] at hpnts
  omega
 ·rcases hA with ⟨_,hM',na,nc,c0,c',hc0,hcp,hR⟩ | ⟨z,_⟩
  ·have hc0:(R.cl.set i { c with picks:=c.picks + 1,wt:=false })[i]? = some c0:=hc0
   have hc0':c0.picks = c.picks + 1:=by simp [hil] at hc0; rw [<- hc0]
   rw [ho,tie_set (by omega)] at hM'
   refine hk X' R' w2 _ ?_
   subst hR
   refine ⟨by omega,⟨Γ',by rw [hstep,htn]; exact hM'⟩,?_,hwts,hstk⟩
   rw [hstep,htn]
   refine ⟨hT.rb,?_,?_,?_,?_,fun j d hd=>?_,fun j hj=>?_⟩
   ·show R.evs ++ [(i,c.sp)] = p.evs ++ [(i,Y.stp i l)]
    rw [hT.evs,hsp]
   ·show p.nts ++ tell i (R.evs ++ [(i,c.sp)]).length (Y.outAt (Y.pn sc sn) p.outs.length).nts = p.nts ++ tell i (p.evs.length + 1) (Y.go i l p.s).nts
    rw [hT.evs,ho]; simp
   ·show R.used + 1 = p.used + 1
    rw [hT.used]
   ·show ((R.cl.set i { c with picks:=c.picks + 1,wt:=false }).set i c').length = (p.ft.set i _).length
    simp [hT.len]
   ·have hd':((R.cl.set i { c with picks:=c.picks + 1,wt:=false }).set i c')[j]? = some d:=hd
    show d.picks = (p.who ++ [some i]).count (some j)
    rw [List.getElem?_set] at hd'
    by_cases hji:i = j
    ·subst hji
     rw [if_pos rfl,if_pos (by simp [hil])] at hd'
     obtain rfl:=Option.some.inj hd'
     rw [hcp,hc0',hT.picks i c hc]
     simp
    ·rw [if_neg hji,List.getElem?_set_ne hji] at hd'
     rw [hT.picks j d hd']
     simp [hji]
   ·show (endsOf R.ends i (Y.outAt (Y.pn sc sn) p.outs.length).fate)[j]? = some (endOf ((p.ft.set i (Y.go i l p.s).fate)[j]?))
    have h0:=endsOf_at (Y:=Y) (f:=(Y.go i l p.s).fate) (g:=fun j=>p.ft[j]?) (i:=i) hT.ends (by rw [hF.mem.lend,hF.m]) (by show endOf p.ft[i]? = 0; rw [hl]; rfl) j hj
    rw [ho,h0]
    exact congrArg (fun f:Nat->Option (Y.L ⊕ Nat)=>some (endOf (f j))) (tie_set (by omega) (Y.go i l p.s).fate)
  ·cases z
 ·have hd':(R.cl.set i { c with picks:=c.picks + 1,wt:=false })[i]? = some d:=hd
  simp [hil] at hd'
  rw [<- hd']; exact hst
set_option maxRecDepth 20000 in
theorem stop_ok (hO:RunOk Y fb caps fv ba sa sn sc) {Post:Value->World->Prop} {X:Gh} {R:Rn} {w:World} {i:Nat} {c:CB} (hJ:JE Y fb sn sc Mn w0 rb0 i X R w) (hc:R.cl[i]? = some c) (hwt:c.wt = true) :
  ∃ g z1 me1,g ≠ 0/\X.seat g = some ⟨c.rc,z1,me1⟩/\X.dn = 0/\X.stay 0 = [(⟨R.rb,7,none⟩,.chan (some R.yb))]/\(X.chs R.yb/\∀ i s2,i ≠ g->X.seat i = some s2->s2.ch ≠ R.yb) /\
  ∀ w' me0,Rg R.fp w.heap.size w w' w0.heap.size { R with wts:=R.wts.set i c.sp }->(∀ X' R' u v,JE Y fb sn sc Mn w0 rb0 (i + 1) X' R' u/\R'.ca = R.ca/\R'.cc = R.cc->Fin Try.prog Post X' 0 (Go.Conc.served me0 v) u)->Fin Try.prog Post (X.pass 0 g (some ⟨R.yb,.int .i64 0,me0⟩)) g (Go.Conc.served me1 (.bool false)) w':=by
 obtain ⟨_,⟨Γ,hM⟩,hT,hwts,hstk⟩:=hJ
 have hF:=hM.fix
 have hil:=(List.getElem?_eq_some_iff.1 hc).1
 have hlp:(Y.pn sc sn).ft.length = Y.m:=Sys.len_pn sc sn
 have him:i < Y.m:=by have:=hT.len; omega
 have hok:=Sys.ok_pn (Y:=Y) sc sn
 have hs:Y.sAt (Y.pn sc sn) (Y.pn sc sn).outs.length = (Y.pn sc sn).s:=Sys.s_at hok (Sys.Le.refl Y _)
 obtain ⟨hnl,l,hl,hW⟩:Y.nil i = false/\∃ l,(Y.pn sc sn).ft[i]? = some (.inl l)/\Wt Y fb (Y.pn sc sn) w0 Γ X w i c l:=by
  rcases hF.waits hc with ⟨_,h1,l,h2,h3⟩ | ⟨h,_⟩
  ·exact ⟨h1,l,by simpa using h2,h3⟩
  ·rw [hwt] at h; cases h
 generalize hq:Y.pn sc sn = q at *
 obtain ⟨h1,hst,hsp,heb,me,cs,wn,Fn,Rdo,hseat,hme,hrf,hdf,hpv,hkeep,hos,hout,hsz,hdo,hgo,hstop⟩:=hW
 have hgp:=(hF.ck i c hc hnl).gpos
 have hg0:(Γ.gi i == 0) = false:=by simp; omega
 refine ⟨Γ.gi i,.bool false,me,by omega,hseat,hF.dn,hF.stay0,⟨hF.chy,fun j s2 hj hs2=>?_⟩,fun w' me0 hg hk=>?_⟩
 ·by_cases hj0:j = 0
  ·subst hj0; rw [hF.seat0 rfl] at hs2; cases hs2
  ·obtain ⟨k,d,h2,h3,_,h4,_⟩:=hF.seats j s2 hj0 hs2
   rw [h4]; exact hF.ry k d h2 h3
 obtain ⟨F,hinv,hFf⟩:=hM.inv
 have hvis:=hO.sys.vis _ _ _ hinv
 refine hme.no _ (by have:=@fin_zs Try.prog Post (X.pass 0 (Γ.gi i) (some ⟨R.yb,.int .i64 0,me0⟩)) (Γ.gi i); rw [hg0] at this; exact this) w' R.fp w.heap.size w w0.heap.size { R with wts:=R.wts.set i c.sp } i c hg hc rfl fun u2 fr ch hg2 hfn hra hlv=>?_
 have hlt:∀ b,b < w.heap.size->¬ R.fp b->u2.heap[b]? = w.heap[b]?:=hg2.md.block
 have hfix:=(hF.away hnl hc (s0:=⟨R.yb,.int .i64 0,me0⟩)).turn (w':=u2) (R':={ R with wts:=R.wts.set i c.sp,cl:=R.cl.set i { c with st:=true } }) hg2.m rfl rfl rfl hg2.fp (by simp) (fun j d hd=>by
  have hd':(R.cl.set i { c with st:=true })[j]? = some d:=hd
  rw [List.getElem?_set] at hd'
  by_cases hj:i = j
  ·subst hj
   rw [if_pos rfl,if_pos hil] at hd'
   obtain rfl:=Option.some.inj hd'
   exact ⟨c,hc,rfl,rfl,fun z=>absurd rfl z⟩
  ·rw [if_neg hj] at hd'
   exact ⟨d,hd',rfl,rfl,fun _=>⟨rfl,rfl⟩⟩) hg2.md.size (fun b hb hf _=>.inl (hlt b hb hf)) (fun z=>by cases z)
 refine fin_ign _ _ fun nv=>?_
 haveI:DecidablePred fun b=>Γ.pv i b\/F b:=fun _=>Classical.propDecidable _
 refine fin_see (fun b=>Γ.pv i b\/F b) (finH_onT (τ:=tpT u2 q.outs.length 0 1) (d:=u2.drawn) ?_)
 have hhid:=seen_free (i:=i) (R1:={ R with wts:=R.wts.set i c.sp,cl:=R.cl.set i { c with st:=true } }) hF hg2.fp (by simp) hFf (fun b hb=>(hvis b hb).1)
 have hrun:=Run1.enter (q:=q) (i:=i) (t:=q.outs.length) (at_:=R.evs.length) (cb:=c.cb) (n0:=q.nts) (R0:={ R with wts:=R.wts.set i c.sp,cl:=R.cl.set i { c with st:=true } }) (τ:=tpT u2 q.outs.length 0 1) (d:=u2.drawn) (fun b=>Γ.pv i b\/F b) hfix hhid nv rfl rfl
  ⟨{ c with st:=true },by show (R.cl.set i _)[i]? = _; simp [hil],rfl,.inr ⟨rfl,rfl,hT.nts⟩⟩ ⟨R.na,R.nc,R.nts,rfl⟩ hnl ((hlt _ heb.lt (hF.side i hil hnl).2.2.2).trans heb)
 have hpvlt:∀ b,Γ.pv i b\/F b->b < w.heap.size/\¬ R.fp b:=fun b hb=>by
  rcases hb with h | h
  ·exact ⟨(hF.pv i b h).1,(hF.pv i b h).2.1⟩
  ·exact ⟨(hvis b h).1,(hFf b h).1⟩
 have hlat:(Y.cfg fb q w0 i c.cb (Γ.top i)).Later wn Fn (Yc.onT (seeOf (fun b=>Γ.pv i b\/F b) u2) (tpT u2 q.outs.length 0 1) u2.drawn) F:=by
  refine Wt.later (u:=Yc.onT (seeOf (fun b=>Γ.pv i b\/F b) u2) (tpT u2 q.outs.length 0 1) u2.drawn) (q:=q) (X:=X) (R:=R) (c:=c) (l:=l) hO.sys hpv hkeep hos hout hsz hinv (fun b hb z=>(hFf b hb).2 (.inr (.inr ⟨i,z⟩))) (fun b hb=>?_) ?_ (hg2.md.os.trans (hF.os rfl)) (hg2.md.output.trans (hF.output rfl)) hs
  ·show (seeOf (fun b=>Γ.pv i b\/F b) u2).heap[b]? = _
   rw [seeOf_hit (V:=fun b=>Γ.pv i b\/F b) u2 hb,hlt b (hpvlt b hb).1 (hpvlt b hb).2]
  ·show w.heap.size <= (seeOf (fun b=>Γ.pv i b\/F b) u2).heap.size
   rw [seeOf_size]; exact hg2.md.size
 refine client_fin (z0:=.int .i64 0) (me0:=me0) (st:=true) (cb:=c.cb) (Γ:=Γ.put i fun _=>False) (Mn:=Mn) (ft:=fun j=>if j < i then stopped (q.ft[j]?) else q.ft[j]?) (t:=q.outs.length) (at_:=R.evs.length) (n0:=q.nts) (R0:={ R with wts:=R.wts.set i c.sp,cl:=R.cl.set i { c with st:=true } }) hO.sys pass_seat_h ?_ (fun Γ' X' R' w2 hA=>?_) (hstop _ F hlat rfl fr ch hfn hra hlv) _ _ hrun (fun d hd=>?_)
 ·have h2:=hO.nts
  rw [hq] at h2
  have h3:Y.outAt q q.outs.length = Y.o0:=by unfold Sys.outAt; rw [List.getElem?_eq_none (Nat.le_refl _)]; rfl
  rw [h3]
  show q.nts.length + 0 <= _
  omega
 ·rcases hA with ⟨z,_⟩ | ⟨_,hM',na,nc,c0,c',hc0,hcp,hR⟩
  ·cases z
  ·have hc0:(R.cl.set i { c with st:=true })[i]? = some c0:=hc0
   have hc0':c0.picks = c.picks:=by simp [hil] at hc0; rw [<- hc0]
   have hfte:(fun j=>if j = i then some (.inr 0) else if j < i then stopped (q.ft[j]?) else q.ft[j]?) = fun j=>if j < i + 1 then stopped (q.ft[j]?) else q.ft[j]?:=by
    funext j
    by_cases hji:j = i
    ·subst hji
     rw [if_pos rfl,if_pos (by omega),hl]; rfl
    ·rw [if_neg hji]
     by_cases h3:j < i
     ·rw [if_pos h3,if_pos (by omega)]
     ·rw [if_neg h3,if_neg (by omega)]
   have hM2:Main Y fb q w0 Γ' X' R' w2 Mn (fun j=>if j = i then some (.inr 0) else if j < i then stopped (q.ft[j]?) else q.ft[j]?) (Y.sAt q q.outs.length):=hM'
   rw [hfte,hs] at hM2
   refine hk X' R' w2 _ ?_
   subst hR
   refine ⟨⟨by omega,⟨Γ',by rw [hq]; exact hM2⟩,?_,fun j hj=>?_,by rw [hq]; exact hstk⟩,rfl,rfl⟩
   ·rw [hq]
    refine ⟨hT.rb,hT.evs,rfl,hT.used,?_,fun j d hd=>?_,fun j hj=>?_⟩
    ·show ((R.cl.set i { c with st:=true }).set i c').length = _
     simp [hT.len]
    ·have hd':((R.cl.set i { c with st:=true }).set i c')[j]? = some d:=hd
     rw [List.getElem?_set] at hd'
     by_cases hji:i = j
     ·subst hji
      rw [if_pos rfl,if_pos (by simp [hil])] at hd'
      obtain rfl:=Option.some.inj hd'
      rw [hcp,hc0']; exact hT.picks i c hc
     ·rw [if_neg hji,List.getElem?_set_ne hji] at hd'
      exact hT.picks j d hd'
    ·show (R.ends.set i 0)[j]? = _
     have hel:R.ends.length = Y.m:=by rw [hF.mem.lend,hF.m]
     by_cases hji:i = j
     ·subst hji
      rw [hl]; simp [hel,him]; rfl
     ·rw [List.getElem?_set_ne hji]; exact hT.ends j hj
   ·rw [hq]
    show (R.wts.set i c.sp)[j]? = _
    have hwl:R.wts.length = Y.m:=by rw [hF.mem.lwts,hF.m]
    by_cases hji:i = j
    ·subst hji
     rw [if_pos (by omega),hl]
     simp [hwl,him]
     exact hsp
    ·rw [List.getElem?_set_ne hji,hwts j hj]
     by_cases h3:j < i
     ·rw [if_pos h3,if_pos (by omega)]
     ·rw [if_neg h3,if_neg (by omega)]
 ·have hd':(R.cl.set i { c with st:=true })[i]? = some d:=hd
  simp [hil] at hd'
  rw [<- hd']
end
end Go.Vy.Sc
end
/- The run that is gone through, put together. -/
section
namespace Go.Vy
open Go Go.Conc Go.Yc Go.RowKit
section
variable {P:Program} {main:Bool} {f:FuncId} {args:Array Value} {R:Ending->World->Prop}
theorem leaves_onT {fr:Frame} {w:World} {e:Ending} {τ:Tape} {d:Nat} (h:Leaves P fr w e):Leaves P fr (Yc.onT w τ d) e:=by
 cases e with
 | returned v=>exact h
 | panicked ch=>exact h
 | outgrown=>exact h
theorem Calls.onT {u:World} {τ:Tape} {d:Nat} (h:@Calls P (baseCtx P main) f args (Yc.onT u τ d) R):@Calls P (baseCtx P main) f args u (fun e w'=>∃ w2 d2,w' = Yc.onT w2 u.tape d2/\R e w2):=by
 intro Z hZ cs hk
 obtain ⟨hc,hi⟩:=hZ
 have hcl:Cl P main (fun g x=>∀ d0,Z g (Yc.onT x u.tape d0)):=⟨fun g x hr hs d0=>by
  refine hc.own g _ hr fun τ' d'=>?_
  obtain ⟨g',u',d2,hF,hz⟩:=hs τ' d'
  exact ⟨g',u',0,hF,hz 0⟩⟩
 have:=h (fun g x=>∀ d0,Z g (Yc.onT x u.tape d0)) ⟨hcl,fun g x hz d0=>hi g _ fun hv=>hz hv d0⟩ cs (fun e w' fr he hf hl d0=>hk e _ fr ⟨w',d0,rfl,he⟩ hf (leaves_onT hl)) u.drawn
 exact this
end
end Go.Vy
namespace Go.Vy.Sc
open Go Go.Conc Go.Yc Go.RowKit Go.Proofs Go.Proofs.Ytfmoeemolgjodaa
open Go.Vc Go.Wg
attribute [local irreducible] KK
structure Lone (X:Gh) (w:World):Prop where
 seat:∀ i,X.seat i = none
 cap:X.cap = 0
 pend:X.pend = 0
 dn:X.dn = 0
 under:X.Under w.heap.size
 plug:∀ b,w.heap.size <= b->X.plug b = .all
 npos:0 < X.n
theorem Lone.mono {X:Gh} {w w':World} (h:Lone X w) (hs:w.heap.size <= w'.heap.size):Lone X w':=⟨h.seat,h.cap,h.pend,h.dn,h.under.mono hs,fun b hb=>h.plug b (Nat.le_trans hs hb),h.npos⟩
section
variable {Y:Sys} {fb:Nat->FuncId} {caps:Nat->Array Value} {fv:Nat->Value} {ba sa:Option Addr} {sn:Nat} {sc:Nat->Int} {Mn:Nat->Option Obj} {w0:World} {rb0:Nat}
theorem rdl_rds {q:PR Y} {Γ:Geo} {X:Gh} {R:Rn} {w:World} {p:PR Y} (hF:Fix Y fb q w0 Γ X R w Mn none (fun j=>p.ft[j]?)) (hlen:R.cl.length = Y.m):rdl R.cl (Y.isRdy p) Y.m = Y.rds p:=by
 unfold rdl Sys.rds
 apply List.filter_congr
 intro i hi
 have hi:i < Y.m:=by simpa using hi
 obtain ⟨c,hc⟩:∃ c,R.cl[i]? = some c:=⟨_,List.getElem?_eq_getElem (by omega)⟩
 rw [hc]
 rcases hF.waits hc with ⟨h1,_⟩ | ⟨h1,x,h2,_⟩
 ·simp [h1]
 ·have h2:p.ft[i]? = some (.inr x):=h2
  simp [h1,Sys.isRdy,h2]
theorem any_left {q:PR Y} {Γ:Geo} {X:Gh} {R:Rn} {w:World} {p:PR Y} (hF:Fix Y fb q w0 Γ X R w Mn none (fun j=>p.ft[j]?)) (hlen:R.cl.length = p.ft.length):R.cl.any (·.wt) = p.ft.any (·.isLeft):=by
 rw [Bool.eq_iff_iff,List.any_eq_true,List.any_eq_true]
 constructor
 ·rintro ⟨c,hc,hw⟩
  obtain ⟨i,hi⟩:=List.mem_iff_getElem?.1 hc
  rcases hF.waits hi with ⟨h1,_,l,h2,_⟩ | ⟨h1,_⟩
  ·exact ⟨.inl l,List.mem_iff_getElem?.2 ⟨i,h2⟩,rfl⟩
  ·rw [hw] at h1; cases h1
 ·rintro ⟨f,hf,hw⟩
  obtain ⟨i,hi⟩:=List.mem_iff_getElem?.1 hf
  have hil:=(List.getElem?_eq_some_iff.1 hi).1
  obtain ⟨c,hc⟩:∃ c,R.cl[i]? = some c:=⟨_,List.getElem?_eq_getElem (by omega)⟩
  rcases hF.waits hc with ⟨h1,_⟩ | ⟨h1,x,h2,_⟩
  ·exact ⟨c,List.mem_iff_getElem?.2 ⟨i,hc⟩,h1⟩
  ·have h2:p.ft[i]? = some (.inr x):=h2
   rw [hi] at h2; cases h2; cases hw
theorem Main.turn {q:PR Y} {Γ:Geo} {X:Gh} {R R':Rn} {w w':World} {ft:Nat->Option (Y.L ⊕ Nat)} {s:Y.S} (hY:SysOk Y) (h:Main Y fb q w0 Γ X R w Mn ft s) (hg:Rg R.fp w.heap.size w w' w0.heap.size R') (hrb:R'.rb = R.rb) (hyb:R'.yb = R.yb) (hm:R'.m = R.m) (hcl:R'.cl = R.cl) (he:R'.ends = R.ends):Main Y fb q w0 Γ X R' w' Mn ft s:=by
 obtain ⟨F,hinv,hFf⟩:=h.inv
 have hvis:=hY.vis _ _ _ hinv
 refine ⟨h.fix.turn hg.m hrb hyb hm hg.fp (by rw [hcl]) (fun j c hc=>⟨c,by rw [<- hcl]; exact hc,rfl,rfl,fun _=>⟨rfl,by rw [he]⟩⟩) hg.md.size (fun b hb hf _=>.inl (hg.md.block b hb hf)) (fun _=>⟨hg.md.os,hg.md.output⟩),F,hY.loc _ w w' F hinv fun b hb=>hg.md.block b (hvis b hb).1 (hFf b hb).1,fun b hb=>⟨fun z=>(hg.fp b z).elim (hFf b hb).1 (Nat.not_le_of_lt (hvis b hb).1),fun z=>(hFf b hb).2 ?_⟩⟩
 rcases z with z | ⟨k,hk,z⟩ | z
 ·exact .inl z
 ·exact .inr (.inl ⟨k,by rw [<- hcl]; exact hk,z⟩)
 ·exact .inr (.inr z)
theorem rdy_ok (hO:RunOk Y fb caps fv ba sa sn sc) {n:Nat} {X:Gh} {R:Rn} {w:World} (hJ:J2 Y fb sn sc Mn w0 rb0 n X R w) {i:Nat} {c:CB} (hc:R.cl[i]? = some c) (hwt:c.wt = true):@ReadyAt (baseCtx Try.prog true) w c.rf (Y.isRdy (Y.pn sc n) i):=by
 obtain ⟨hn,⟨Γ,hM⟩,hT,hwts,hstk⟩:=hJ
 have hF:=hM.fix
 have hle0:Y.Le (Y.pn sc n) (Y.pn sc sn):=le_pn_q hn
 have hok:=Sys.ok_pn (Y:=Y) sc n
 generalize hp:Y.pn sc n = p at *
 obtain ⟨hnl,l,hl,hW⟩:Y.nil i = false/\∃ l,p.ft[i]? = some (.inl l)/\Wt Y fb (Y.pn sc sn) w0 Γ X w i c l:=by
  rcases hF.waits hc with ⟨_,h1,l,h2,h3⟩ | ⟨h,_⟩
  ·exact ⟨h1,l,h2,h3⟩
  ·rw [hwt] at h; cases h
 have hs:Y.sAt (Y.pn sc sn) p.outs.length = p.s:=Sys.s_at hok hle0
 have hr:Y.isRdy p i = Y.rdy i l p.s:=by unfold Sys.isRdy; rw [hl]
 obtain ⟨h1,hst,hsp,heb,me,cs,wn,Fn,Rdo,hseat,hme,hrf,hdf,hpv,hkeep,hos,hout,hsz,hdo,hgo,hstop⟩:=hW
 obtain ⟨F,hinv,hFf⟩:=hM.inv
 have hvis:=hO.sys.vis _ _ _ hinv
 have hpvlt:∀ b,Γ.pv i b\/F b->b < w.heap.size:=fun b hb=>by
  rcases hb with h | h
  ·exact (hF.pv i b h).1
  ·exact (hvis b h).1
 rcases hrf with ⟨hrf,hall⟩ | ⟨f,cps,⟨hrf,fn,h2,h3,h4⟩,hcall⟩
 ·exact .inl ⟨hrf,by rw [hr]; exact hall _⟩
 ·refine .inr ⟨f,fn,cps,hrf,h2,h3,h4,fun u hb=>?_⟩
  haveI:DecidablePred fun b=>Γ.pv i b\/F b:=fun _=>Classical.propDecidable _
  have hlat:(Y.cfg fb (Y.pn sc sn) w0 i c.cb (Γ.top i)).Later wn Fn (Yc.onT (seeOf (fun b=>Γ.pv i b\/F b) u) (tpT u p.outs.length 0 0) u.drawn) F:=by
   refine Wt.later (u:=Yc.onT (seeOf (fun b=>Γ.pv i b\/F b) u) (tpT u p.outs.length 0 0) u.drawn) (q:=Y.pn sc sn) (X:=X) (R:=R) (c:=c) (l:=l) hO.sys hpv hkeep hos hout hsz hinv (fun b hb z=>(hFf b hb).2 (.inr (.inr ⟨i,z⟩))) (fun b hb'=>?_) ?_ (hb.os.trans (hF.os rfl)) (hb.output.trans (hF.output rfl)) hs
   ·show (seeOf (fun b=>Γ.pv i b\/F b) u).heap[b]? = _
    rw [seeOf_hit (V:=fun b=>Γ.pv i b\/F b) u hb',hb.block b (hpvlt b hb')]
   ·show w.heap.size <= (seeOf (fun b=>Γ.pv i b\/F b) u).heap.size
    rw [seeOf_size]; exact hb.size
  have h5:=Calls.seen (fun b=>Γ.pv i b\/F b) (Calls.onT (hcall _ F hlat))
  refine @Calls.mono _ (baseCtx Try.prog true) f cps u _ _ h5 fun e w' he=>?_
  obtain ⟨u',rfl,hH,w2,d2,rfl,he⟩:=he
  cases e with
  | panicked ch=>exact he.elim
  | outgrown=>exact he.elim
  | returned v =>
   obtain ⟨hv,hbel⟩:=he
   refine ⟨?_,⟨hbel.os,rfl,hbel.output,?_,fun b hb'=>?_⟩⟩
   ·rw [hv,hr]
    show Value.bool (Y.rdy i l (Y.sAt (Y.pn sc sn) p.outs.length)) = _
    rw [hs]
   ·rw [over_size]
    have:=hbel.size
    have h6:(seeOf (fun b=>Γ.pv i b\/F b) u).heap.size <= w2.heap.size:=this
    rw [seeOf_size] at h6
    exact h6
   ·have h6:b < (seeOf (fun b=>Γ.pv i b\/F b) u).heap.size:=by rw [seeOf_size]; exact hb'
    have h7:=hbel.block b h6
    by_cases hV:Γ.pv i b\/F b
    ·rw [over_miss (Yc.onT w2 _ d2) (by simp [hidOf,hV])]
     show w2.heap[b]? = _
     refine h7.trans ?_
     show (seeOf (fun b=>Γ.pv i b\/F b) u).heap[b]? = _
     rw [seeOf_hit (V:=fun b=>Γ.pv i b\/F b) u hV]
    ·have h8:hidOf (fun b=>Γ.pv i b\/F b) u b = some u.heap[b]:=by
      simp only [hidOf,hV,if_false]
      exact Array.getElem?_eq_getElem hb'
     rw [over_hit h8 (by
      show b < w2.heap.size
      have:=hbel.size
      have h9:(seeOf (fun b=>Γ.pv i b\/F b) u).heap.size <= w2.heap.size:=this
      omega),Array.getElem?_eq_getElem hb']
theorem ring (hO:RunOk Y fb caps fv ba sa sn sc) {tb:Nat} {Post:Value->World->Prop} (htb:Mn tb = some (.cells #[.slice none 0 0,.slice none 0 0,.slice none 0 0,.slice none 0 0,.bool false,.int .i64 0] 31 (0,0)))
  (hbc:∀ w:World,(∀ b,Mn b ≠ none->w.heap[b]? = Mn b)->∀ j,j < Y.m->w.cell? ⟨ab ba,ao ba + j * 1,none⟩ = some (fv j)) (hsc:∀ w:World,(∀ b,Mn b ≠ none->w.heap[b]? = Mn b)->∀ j,j < sn->w.cell? ⟨ab sa,ao sa + j * 1,none⟩ = some (.int .i64 (sc j))) :
  RunR rb0 Y.m sn tb ba sa fv sc w0.heap.size Post (JB Y fb sn sc Mn w0 rb0) (J2 Y fb sn sc Mn w0 rb0) (JE Y fb sn sc Mn w0 rb0) (fun n=>Y.isRdy (Y.pn sc n)):=by
 have hm1:=hO.m1
 have hsn:=hO.sn1
 refine ⟨fun cs hfin=>⟨hO.bsl,fun i hi=>?_,fun i X R w hJ=>?_,fun i X R w w' a n cb rc hi hJ hf hcb hrc hg=>?_,fun i X R w w' a n cb rc hi hJ hf hcb hrc hne hch hg=>?_,hfin⟩,fun X R w hJ=>?_,hO.ssl,fun n X R w hJ=>?_,fun n X R w w' hJ hb=>?_,fun n X R w hJ i c hc hwt=>rdy_ok hO hJ hc hwt,fun n X R w i c hJ hn hp hc=>?_,fun n X R w w' b hJ hn hb hg=>?_,fun ca cc cs hfin=>⟨fun i X R w hJ=>?_,fun i X R w c hJ hc hwt=>?_,fun i X R w c hJ hc hwt=>?_,fun X R w hJ=>?_⟩,fun X R w hJ=>?_⟩
 ·rcases hO.fn i hi with h | ⟨_,h,fn,h1,h2,h3⟩
  ·exact .inl h.2
  ·exact .inr ⟨fb i,fn,caps i,h,h1,h2,h3⟩
 ·obtain ⟨_,⟨Γ,hM⟩,hT,hwts,hstk⟩:=hJ
  exact ⟨hM.fix.mem,hT.rb,hT.len.trans (Sys.len_begs i),hM.fix.m,hM.fix.size,hM.fix.under,hbc w hM.get⟩
 ·obtain ⟨_,⟨Γ,hM⟩,hT,hwts,hstk⟩:=hJ
  have hnl:Y.nil i = true:=by
   rcases hO.fn i hi with h | h
   ·exact h.1
   ·rw [hf] at h; exact absurd h.2.1 (by simp)
  have hlen:R.cl.length = i:=hT.len.trans (Sys.len_begs i)
  have hbg:Y.begs (i + 1) = { Y.begs i with ft:=(Y.begs i).ft ++ [.inr 1] }:=by
   show Y.bgn (Y.begs i) = _
   unfold Sys.bgn
   rw [Sys.len_begs i,hnl]; rfl
  have hpl:=Sys.len_begs (Y:=Y) i
  generalize hp:Y.begs i = p at *
  have hfix:=hM.fix.addNil hnl hlen (by rw [hM.fix.m]; exact hi) hcb hg (by show p.ft[i]? = none; rw [List.getElem?_eq_none (by omega)])
  rw [tie_app hpl] at hfix
  obtain ⟨F,hinv,hFf⟩:=hM.inv
  have hvis:=hO.sys.vis _ _ _ hinv
  have hM':Main Y fb (Y.pn sc sn) w0 Γ (X.lower cb) { R with ca:=a,cc:=n,cl:=R.cl ++ [newC cb rc],ends:=R.ends.set i 1 } w' Mn (fun j=>(p.ft ++ [.inr 1])[j]?) p.s:=by
   refine ⟨hfix,F,hO.sys.loc _ w w' F hinv fun b hb=>hg.md.block b (hvis b hb).1 (hFf b hb).1,fun b hb=>⟨fun z=>(hg.fp b z).elim (hFf b hb).1 (Nat.not_le_of_lt (hvis b hb).1),fun z=>(hFf b hb).2 ?_⟩⟩
   rcases z with z | ⟨k,hk,hnk,z⟩ | z
   ·exact .inl z
   ·refine .inr (.inl ⟨k,?_,hnk,z⟩)
    have hk:k < (R.cl ++ [newC cb rc]).length:=hk
    rw [List.length_append,List.length_singleton] at hk
    rcases Nat.lt_or_ge k R.cl.length with y | y
    ·exact y
    ·have:k = i:=by omega
     rw [this,hnl] at hnk; cases hnk
   ·exact .inr (.inr z)
  refine ⟨by omega,⟨Γ,by rw [hbg]; exact hM'⟩,?_,hwts,hstk⟩
  ·rw [hbg]
   refine ⟨hT.rb,hT.evs,hT.nts,hT.used,by simp [hT.len],fun j d hd=>?_,fun j hj=>?_⟩
   ·rcases app_some hd with z | ⟨z,rfl⟩
    ·exact hT.picks j d z
    ·show 0 = p.who.count (some j)
     rw [<- hp]; exact (Sys.begs_who i j).symm
   ·have h0:=endsOf_at (Y:=Y) (f:=.inr 1) (g:=fun j=>p.ft[j]?) (i:=i) hT.ends (by rw [hM.fix.mem.lend,hM.fix.m]) (by show endOf p.ft[i]? = 0; rw [List.getElem?_eq_none (by omega)]; rfl) j hj
    exact h0.trans (congrArg (fun f:Nat->Option (Y.L ⊕ Nat)=>some (endOf (f j))) (tie_app hpl (.inr 1)))
 ·have hF:∃ Γ,Fix Y fb (Y.pn sc sn) w0 Γ X R w Mn none (fun j=>(Y.begs i).ft[j]?):=by obtain ⟨_,⟨Γ,hM⟩,_⟩:=hJ; exact ⟨Γ,hM.fix⟩
  obtain ⟨Γ,hF⟩:=hF
  have hT:Tie Y rb0 (Y.begs i) R:=hJ.2.2.1
  have hlen:R.cl.length = i:=hT.len.trans (Sys.len_begs i)
  refine ⟨by rw [<- hT.rb]; exact hF.grp,hF.pend,by have:=hF.cap; omega,hF.dn,hF.stay0,⟨hF.chy,fun j s2 hs2=>?_⟩,fun me0 hk=>go_fin hO hi hJ hf hcb hrc hne hch hg hk⟩
  by_cases hj0:j = 0
  ·subst hj0; rw [hF.seat0 rfl] at hs2; cases hs2
  ·obtain ⟨k,d,h2,h3,_,h4,_⟩:=hF.seats j s2 hj0 hs2
   rw [h4]; exact hF.ry k d h2 h3
 ·obtain ⟨_,hM,hT,hwts,hstk⟩:=hJ
  exact ⟨Nat.zero_le _,hM,hT,hwts,hstk⟩
 ·obtain ⟨hn,⟨Γ,hM⟩,hT,hwts,hstk⟩:=hJ
  have h1:=Sys.evs_pn (Y:=Y) sc n
  have h2:=Sys.ok_pn (Y:=Y) sc n
  refine ⟨hM.fix.mem,hT.rb,hT.len.trans (Sys.len_pn sc n),hM.fix.size,by rw [hT.evs]; omega,by rw [hT.used,<- h2.used]; omega,fun i c hc=>?_,hsc w hM.get⟩
  rw [hT.picks i c hc]
  have h3:=List.count_le_length (a:=some i) (l:=(Y.pn sc n).who)
  rw [h2.who] at h3
  omega
 ·obtain ⟨hn,⟨Γ,hM⟩,hT,hwts,hstk⟩:=hJ
  exact ⟨hn,⟨Γ,hM.turn hO.sys (hM.fix.mem.rg.keep hb) rfl rfl rfl rfl rfl⟩,hT,hwts,hstk⟩
 ·have hlen:R.cl.length = Y.m:=hJ.2.2.1.len.trans (Sys.len_pn sc n)
  obtain ⟨Γ,hM⟩:=hJ.2.1
  rw [rdl_rds hM.fix hlen] at hp
  exact pick_ok hO hJ hn hp hc
 ·obtain ⟨hn',⟨Γ,hM⟩,hT,hwts,hstk⟩:=hJ
  have hlen:R.cl.length = Y.m:=hT.len.trans (Sys.len_pn sc n)
  rw [rdl_rds hM.fix hlen] at hn hb
  have hq:Y.pn sc sn = Y.pn sc n:=by
   rcases hn with rfl | h
   ·rfl
   ·have:=Sys.pn_stuck h (sn - n)
    rwa [Nat.add_sub_cancel' hn'] at this
  rw [any_left hM.fix hT.len] at hb
  have hM':=hM.turn hO.sys hg rfl rfl rfl rfl rfl
  rw [<- hq] at hM' hT hb
  refine ⟨Nat.zero_le _,⟨Γ,?_⟩,⟨hT.rb,hT.evs,hT.nts,hT.used,hT.len,hT.picks,hT.ends⟩,fun j hj=>?_,hb⟩
  ·have:(fun j=>if j < 0 then stopped ((Y.pn sc sn).ft[j]?) else (Y.pn sc sn).ft[j]?) = fun j=>(Y.pn sc sn).ft[j]?:=by funext j; rw [if_neg (Nat.not_lt_zero j)]
   rw [this]; exact hM'
  ·show R.wts[j]? = _
   rw [hwts,if_neg (Nat.not_lt_zero j)]; simp [hj]
 ·obtain ⟨⟨hi,⟨Γ,hM⟩,hT,hwts,hstk⟩,h1,h2⟩:=hJ
  exact ⟨hM.fix.mem,hT.rb,hT.len.trans (Sys.len_pn sc sn),h1,h2⟩
 ·obtain ⟨⟨hi,⟨Γ,hM⟩,hT,hwts,hstk⟩,h1,h2⟩:=hJ
  have hil:=(List.getElem?_eq_some_iff.1 hc).1
  have hlen:R.cl.length = Y.m:=hT.len.trans (Sys.len_pn sc sn)
  obtain ⟨x,hx⟩:∃ x,(Y.pn sc sn).ft[i]? = some (.inr x):=by
   rcases hM.fix.waits hc with ⟨h,_⟩ | ⟨_,x,h,_⟩
   ·rw [hwt] at h; cases h
   ·exact ⟨x,by simpa using h⟩
  have hfte:(fun j=>if j < i then stopped ((Y.pn sc sn).ft[j]?) else (Y.pn sc sn).ft[j]?) = fun j=>if j < i + 1 then stopped ((Y.pn sc sn).ft[j]?) else (Y.pn sc sn).ft[j]?:=by
   funext j
   by_cases hji:j = i
   ·subst hji; rw [if_neg (by omega),if_pos (by omega),hx]; rfl
   ·by_cases h3:j < i
    ·rw [if_pos h3,if_pos (by omega)]
    ·rw [if_neg h3,if_neg (by omega)]
  rw [hfte] at hM
  refine ⟨⟨by omega,⟨Γ,hM⟩,hT,fun j hj=>?_,hstk⟩,h1,h2⟩
  rw [hwts j hj]
  by_cases hji:j = i
  ·subst hji; rw [if_neg (by omega),if_pos (by omega),hx]; rfl
  ·by_cases h3:j < i
   ·rw [if_pos h3,if_pos (by omega)]
   ·rw [if_neg h3,if_neg (by omega)]
 ·obtain ⟨hJ,h1,h2⟩:=hJ
  obtain ⟨g,z1,me1,h3,h4,h5,h6,h7,h8⟩:=stop_ok (Post:=Post) hO hJ hc hwt
  exact ⟨g,z1,me1,h3,h4,h5,h6,h7,fun w' me0 hg hk=>h8 w' me0 hg fun X' R' u v hJ'=>hk X' R' u v ⟨hJ'.1,hJ'.2.1.trans h1,hJ'.2.2.trans h2⟩⟩
 ·have hJ0:=hJ
  obtain ⟨⟨hi,⟨Γ,hM⟩,hT,hwts,hstk⟩,h1,h2⟩:=hJ
  have hF:=hM.fix
  have hlen:R.cl.length = Y.m:=hT.len.trans (Sys.len_pn sc sn)
  refine ⟨fun i=>?_,by rw [<- hT.rb]; exact hF.grp,hF.pend,hF.dn,by have:=hF.cap; omega,fun fr h3 h4=>hfin X R w hJ0.1 h1 h2 fr h3 h4⟩
  by_cases h0:i = 0
  ·subst h0; exact hF.seat0 rfl
  ·cases hs:X.seat i with
   | none=>rfl
   | some s =>
    obtain ⟨j,c,h5,h6,h7,_⟩:=hF.seats i s h0 hs
    have hjl:=(List.getElem?_eq_some_iff.1 h5).1
    rcases hF.waits h5 with ⟨_,_,l,h8,_⟩ | ⟨_,x,_,h8⟩
    ·have h8:(if j < Y.m then stopped ((Y.pn sc sn).ft[j]?) else (Y.pn sc sn).ft[j]?) = some (.inl l):=h8
     rw [if_pos (by omega)] at h8
     cases hx:(Y.pn sc sn).ft[j]? with
     | none=>rw [hx] at h8; cases h8
     | some f=>cases f <;> (rw [hx] at h8; cases h8)
    ·rcases h8 with h8 | h8
     ·rw [h6] at h8; cases h8
     ·rw [<- h7,hs] at h8; cases h8
 ·obtain ⟨hi,⟨Γ,hM⟩,hT,hwts,hstk⟩:=hJ
  exact ⟨hM.fix.mem,hT.rb,(hM.get tb (by rw [htb]; simp)).trans htb⟩
end
end Go.Vy.Sc
end
/- sched.Run's contract, where goroutine 0 is alone. -/
section
namespace Go.Vy.Sc
open Go Go.Conc Go.Yc Go.RowKit Go.Proofs Go.Proofs.Ytfmoeemolgjodaa
open Go.Vc Go.Wg
attribute [local irreducible] KK
def LoneZ (lb:Nat) (pl:Nat->Plug) (Post:Value->World->Prop) (g:Goroutine) (u:World):Prop:=∀ X,Lone X u->lb <= u.heap.size->(∀ b,X.low b->lb <= b)->X.plug = pl->Fin Try.prog Post X 0 g u
theorem loneZ_cl (lb:Nat) (pl:Nat->Plug) (Post:Value->World->Prop):Cl Try.prog true (LoneZ lb pl Post):=⟨fun g u hr hs X hX h1 h2 h3=>Fin.own' hr fun τ d=>by
 obtain ⟨g',u',d',hF,hz⟩:=hs τ d
 refine ⟨g',u',hF,fun ⟨ρ,w,hsim⟩=>?_⟩
 have he:=(hF.2 ρ w hsim).1
 have hX':Lone X (Yc.onT u' u.tape d'):=(hX.mono he.size:Lone X u')|> fun h=>⟨h.seat,h.cap,h.pend,h.dn,h.under,h.plug,h.npos⟩
 exact fin_onT (hz X hX' (Nat.le_trans h1 he.size) h2 h3)⟩
theorem loneZ_ign (lb:Nat) (pl:Nat->Plug) (Post:Value->World->Prop):Ign (LoneZ lb pl Post):=fun _g _u hz X hX h1 h2 h3=>fin_ign _ _ fun hv=>hz hv X hX h1 h2 h3
@[reducible] def loneCtx (lb:Nat) (pl:Nat->Plug):Ctx Try.prog:=⟨true,fun Z=>∃ Post,Z = LoneZ lb pl Post,fun Z h=>by obtain ⟨Post,rfl⟩:=h; exact loneZ_cl lb pl Post⟩
structure RunDone (Y:Sys) (q:PR Y) (Mn:Nat->Option Obj) (w0 w:World) (R:Rn):Prop where
 mem:RunM w w0.heap.size R
 m:R.m = Y.m
 evs:R.evs = q.evs
 nts:R.nts = q.nts
 used:R.used = q.used
 ends:∀ j,j < Y.m->R.ends[j]? = some (endOf q.ft[j]?)
 wts:∀ j,j < Y.m->R.wts[j]? = some (wtOf Y j (q.ft[j]?))
 stuck:R.stuck = (q.ft.any (·.isLeft) && (Y.rds q).isEmpty)
 inv:∃ F,Y.Inv q.s w F/\∀ b,F b->¬ R.fp b
 fp:∀ b,R.fp b->w0.heap.size <= b
 keep:∀ b,Mn b ≠ none->w.heap[b]? = Mn b
 size:w0.heap.size <= w.heap.size
 os:w.os = w0.os
 output:w.output = w0.output
 tape:w.tape = w0.tape
section
variable {Y:Sys} {fb:Nat->FuncId} {caps:Nat->Array Value} {fv:Nat->Value} {ba sa:Option Addr} {sn:Nat} {sc:Nat->Int} {Mn:Nat->Option Obj} {w0:World}
theorem run_c (hO:RunOk Y fb caps fv ba sa sn sc) (hmn:∀ b o,Mn b = some o->w0.heap[b]? = some o) {F:Nat->Prop} (hinv:Y.Inv Y.s0 w0 F) (hFm:∀ b,F b->Mn b = none)
  (hbc:∀ w:World,(∀ b,Mn b ≠ none->w.heap[b]? = Mn b)->∀ j,j < Y.m->w.cell? ⟨ab ba,ao ba + j * 1,none⟩ = some (fv j)) (hsc:∀ w:World,(∀ b,Mn b ≠ none->w.heap[b]? = Mn b)->∀ j,j < sn->w.cell? ⟨ab sa,ao sa + j * 1,none⟩ = some (.int .i64 (sc j))) {bc scp:Nat} :
  @C Try.prog (loneCtx Y.lb Y.pl) 19 #[.slice ba Y.m bc,.slice sa sn scp] w0 fun v w=>∃ R,v = .tuple #[outV R,.int .i64 0]/\RunDone Y (Y.pn sc sn) Mn w0 w R:=by
 intro Z hZ cs hk
 obtain ⟨Post,rfl⟩:=hZ
 intro X hX hb1 hb2 hb3
 refine run_fin (fv:=fv) (sc:=sc) hO.m1 hO.sn1 hX.under hX.plug hX.cap fun w4 rb yb eb wb tb hB=>?_
 have hvis:=hO.sys.vis _ _ _ hinv
 have hlow:=hB.low
 have htbn:Mn tb = none:=by
  cases h:Mn tb with
  | none=>rfl
  | some o =>
   have:=(Array.getElem?_eq_some_iff.1 (hmn tb o h)).1
   have:=hB.le.2.2.2.2
   omega
 have hlt:∀ b o,Mn b = some o->b < w0.heap.size:=fun b o h=>(Array.getElem?_eq_some_iff.1 (hmn b o h)).1
 let Mn':Nat->Option Obj:=fun b=>if b = tb then some (.cells #[.slice none 0 0,.slice none 0 0,.slice none 0 0,.slice none 0 0,.bool false,.int .i64 0] 31 (0,0)) else Mn b
 have hMn:∀ w:World,(∀ b,Mn' b ≠ none->w.heap[b]? = Mn' b)->∀ b,Mn b ≠ none->w.heap[b]? = Mn b:=fun w h b hb=>by
  have hne:b ≠ tb:=fun e=>hb (e ▸ htbn)
  have:=h b (by show (if b = tb then _ else Mn b) ≠ none; rw [if_neg hne]; exact hb)
  rw [this]
  show (if b = tb then _ else Mn b) = _
  rw [if_neg hne]
 refine ⟨_,_,_,_,ring (Mn:=Mn') (w0:=w0) (rb0:=rb) hO (if_pos rfl) (fun w h=>hbc w (hMn w h)) (fun w h=>hsc w (hMn w h)),⟨fun X' R w w' fr hJ hgr hfn hl=>?_⟩,?_⟩
 ·obtain ⟨_,⟨Γ,hM⟩,hT,hwts,hstk⟩:=hJ
  have hF:=hM.fix
  have hlen:R.cl.length = Y.m:=hT.len.trans (Sys.len_pn sc sn)
  have hget:=hMn w hM.get
  obtain ⟨Fq,hinvq,hFfq⟩:=hM.inv
  have htb:w.heap[tb]? = Mn' tb:=hM.get tb (by show (if tb = tb then _ else _) ≠ none; rw [if_pos rfl]; simp)
  have htl:tb < w.heap.size:=by
   have:Mn' tb = some (.cells #[.slice none 0 0,.slice none 0 0,.slice none 0 0,.slice none 0 0,.bool false,.int .i64 0] 31 (0,0)):=if_pos rfl
   rw [this] at htb
   exact (Array.getElem?_eq_some_iff.1 htb).1
  have hblk:∀ b,b < w.heap.size->b ≠ tb->w'.heap[b]? = w.heap[b]?:=fun b hb hne=>hgr.block b hb fun e=>hne (Option.some.inj e)
  have htk:Kept Y Γ R Mn' tb:=.inl (by show (if tb = tb then _ else _) ≠ none; rw [if_pos rfl]; simp)
  have hfp:∀ b,R.fp b->b ≠ tb:=fun b hb e=>(hF.mn tb (by show (if tb = tb then _ else _) ≠ none; rw [if_pos rfl]; simp)).2.1 (e ▸ hb)
  refine fin_onT (τ:=w0.tape) (d:=w0.drawn) (hk (.returned _) (Yc.onT w' w0.tape w0.drawn) fr ⟨R,rfl,?_⟩ hfn (leaves_onT hl) { X' with pend:=0,cap:=0,dn:=0 } ?_ (Nat.le_trans hb1 (Nat.le_trans hF.size hgr.size)) hF.base.low hF.base.pl)
  ·refine ⟨hF.mem.congr fun b hb=>hblk b (hF.mem.lt hb) (hfp b hb),hF.m,hT.evs,hT.nts,hT.used,hT.ends,fun j hj=>?_,hstk,⟨Fq,hO.sys.loc _ w _ Fq hinvq fun b hb=>hblk b (hO.sys.vis _ _ _ hinvq b hb).1 fun e=>(hFfq b hb).2 (e ▸ htk),fun b hb=>(hFfq b hb).1⟩,hF.fpB,fun b hb=>?_,Nat.le_trans hF.size hgr.size,hgr.os.trans (hF.os rfl),hgr.output.trans (hF.output rfl),rfl⟩
   ·rw [hwts j hj,if_pos hj]
   ·have h1:=hget b hb
    have hbl:b < w.heap.size:=by
     rcases Nat.lt_or_ge b w.heap.size with z | z
     ·exact z
     ·exact absurd (h1.symm.trans (Array.getElem?_eq_none z)) hb
    exact (hblk b hbl fun e=>hb (e ▸ htbn)).trans h1
  ·refine ⟨fun i=>?_,rfl,rfl,rfl,?_,fun b hb=>hF.plug b (Nat.le_trans hgr.size hb),hF.npos⟩
   ·show X'.seat i = none
    by_cases h0:i = 0
    ·subst h0; exact hF.seat0 rfl
    ·cases hs:X'.seat i with
     | none=>rfl
     | some s =>
      obtain ⟨j,c,h5,h6,h7,_⟩:=hF.seats i s h0 hs
      have hjl:=(List.getElem?_eq_some_iff.1 h5).1
      rcases hF.waits h5 with ⟨_,_,l,h8,_⟩ | ⟨_,x,_,h8⟩
      ·have h8:(if j < Y.m then stopped ((Y.pn sc sn).ft[j]?) else (Y.pn sc sn).ft[j]?) = some (.inl l):=h8
       rw [if_pos (by omega)] at h8
       cases hx:(Y.pn sc sn).ft[j]? with
       | none=>rw [hx] at h8; cases h8
       | some f=>cases f <;> (rw [hx] at h8; cases h8)
      ·rcases h8 with h8 | h8
       ·rw [h6] at h8; cases h8
       ·rw [<- h7,hs] at h8; cases h8
   ·have hu:=hF.under.mono hgr.size
    exact ⟨hu.stay,hu.hid,hu.chs,hu.grp,hu.low⟩
 ·have hle:=hB.le
  have hfp0:∀ b,(rn0 rb yb eb wb Y.m).fp b->w0.heap.size <= b:=fun b hb=>by
   rcases hb with rfl | rfl | rfl | ⟨h,_⟩ | ⟨h,_⟩ | ⟨h,_⟩ | ⟨j,c,h,_⟩
   ·exact hle.1
   ·exact hle.2.2.1
   ·exact hle.2.2.2.1
   ·exact absurd rfl h
   ·exact absurd rfl h
   ·exact absurd rfl h
   ·simp [rn0] at h
  have hybl:yb < w4.heap.size:=(Array.getElem?_eq_some_iff.1 hB.yb).1
  have htbf:¬ (rn0 rb yb eb wb Y.m).fp tb:=hB.mem.fp_ne hB.tb (by decide)
  have hu:=hX.under.mono hlow.size
  have hnl:∀ {j:Nat},¬ j < (rn0 rb yb eb wb Y.m).cl.length:=fun h=>Nat.not_lt_zero _ h
  have hnc:∀ {j:Nat} {c:CB},(rn0 rb yb eb wb Y.m).cl[j]? = some c->False:=fun h=>by simp [rn0] at h
  refine ⟨Nat.zero_le _,⟨⟨fun _=>0,fun _=>0,fun _=>0,fun _=>[],fun _ _=>False⟩,⟨⟨hB.mem,rfl,fun j c hc=>(hnc hc).elim,fun j c hc=>(hnc hc).elim,hfp0,fun j hj=>(hnl hj).elim,fun j b hb=>hb.elim,fun b hb=>?_,hX.npos,fun _=>hlow.os,fun _=>hlow.output,hlow.size,rfl,show Go.ConcN.upd X.stay 0 _ 0 = _ from Go.ConcN.upd_same _ _ _,.inr rfl,fun g s hg hs=>?_,fun j k hj=>(hnl hj).elim,fun j k hj=>(hnl hj).elim,fun j k c d hc=>(hnc hc).elim,fun j c hc=>(hnc hc).elim,hX.dn,hX.pend,?_,?_,fun b hb=>hX.plug b (Nat.le_trans hlow.size hb),fun _=>hX.seat 0,⟨hb1,fun b hb=>?_,hb3⟩⟩,F,?_,fun b hb=>⟨fun z=>?_,fun z=>?_⟩⟩⟩,⟨rfl,rfl,rfl,rfl,rfl,fun j c hc=>(hnc hc).elim,fun j hj=>?_⟩,rfl,rfl⟩
  ·by_cases hbt:b = tb
   ·subst hbt
    refine ⟨?_,htbf,fun k hk=>(hnl hk).elim⟩
    show _ = (if b = b then _ else _)
    rw [if_pos rfl]; exact hB.tb
   ·have hMb:Mn' b = Mn b:=if_neg hbt
    rw [hMb] at hb ⊢
    cases ho:Mn b with
    | none=>exact absurd ho hb
    | some o =>
     have hl:=hlt b o ho
     exact ⟨(hlow.block b hl).trans (hmn b o ho),fun z=>by have:=hfp0 b z; omega,fun k hk=>(hnl hk).elim⟩
  ·have:=hX.seat g
   have hs:X.seat g = some s:=hs
   rw [this] at hs; cases hs
  ·show X.cap <= 0
   rw [hX.cap]; exact Nat.le_refl _
  ·refine ⟨fun g p hp=>?_,hu.hid,fun b hb=>?_,fun G hG=>?_,fun b hb=>?_⟩
   ·by_cases hg:g = 0
    ·subst hg
     have hp':p ∈ Go.ConcN.upd X.stay 0 [((⟨rb,8 - 1,none⟩:Addr),Value.chan (some yb))] 0:=hp
     rw [Go.ConcN.upd_same] at hp'
     simp at hp'
     rw [hp']; exact hB.mem.run.lt
    ·have hp':p ∈ Go.ConcN.upd X.stay 0 [((⟨rb,8 - 1,none⟩:Addr),Value.chan (some yb))] g:=hp
     rw [Go.ConcN.upd_ne _ _ hg] at hp'
     exact hu.stay g p hp'
   ·rcases hb with z | rfl
    ·exact hu.chs b z
    ·exact hybl
   ·rcases hG with z | z
    ·have z:some (⟨rb,8⟩:Grp) = some G:=z
     cases z
     exact hB.mem.run.lt
    ·have z:G ∈ X.grp.toList ++ X.old:=z
     rw [List.mem_append] at z
     rcases z with z | z
     ·exact hu.grp G (.inl (by simpa using z))
     ·exact hu.grp G (.inr z)
   ·rcases hb with (z | rfl) | rfl
    ·exact hu.low b z
    ·exact hybl
    ·exact hB.mem.run.lt
  ·rcases hb with (z | rfl) | rfl
   ·exact hb2 b z
   ·have:=hle.2.1; omega
   ·have:=hle.1; omega
  ·exact hO.sys.loc _ w0 w4 F hinv fun b hb=>hlow.block b (hvis b hb).1
  ·have:=hfp0 b z
   have:=(hvis b hb).1
   omega
  ·rcases z with z | ⟨k,hk,_⟩ | ⟨j,z⟩
   ·by_cases hbt:b = tb
    ·have:=(hvis b hb).1
     have:=hle.2.2.2.2
     omega
    ·exact z ((if_neg hbt).trans (hFm b hb))
   ·exact (hnl hk).elim
   ·exact z
  ·show (List.replicate Y.m (0:Int))[j]? = _
   simp [hj]; rfl
end
end Go.Vy.Sc
end
/- Texts and numbers of other widths. Nothing here speaks of a program. -/
section
namespace Go.Vy
open Go Go.Conc Go.Yc Go.RowKit
open Go.Vc
section
variable {P:Program} [Ctx P] {ρ:Operand->Value} {w:World} {d:Option Nat} {ty:TypeId} {ps:String} {af:Array Edge} {g:Option (Nat × Bool)} {x y:Operand} {T T' S:TypeId}
end
section
variable {P:Program} {ρ:Operand->Value} {w:World} {d:Option Nat} {ty:TypeId} {ps:String} {af:Array Edge} {g:Option (Nat × Bool)} {x y:Operand} {T T' S:TypeId}
theorem x_addStr {a b:ByteArray} (hx:ρ x = .string a) (hy:ρ y = .string b) (h:a.size + b.size <= 9223372036854775807):Does P (execOp ρ ⟨d,.binOp .add T x y T',ty,ps,af,g⟩) w (.val (.string (a ++ b))) w:=by
 have hm:IntKind.i64.max = 9223372036854775807:=by decide
 have hn:¬ ((a.size + b.size:Nat):Int) > IntKind.i64.max:=by omega
 refine .of_tame (t_binStr hx hy) rfl rfl fun τ d=>?_
 have h1:binOp .add T (.string a) (.string b) = (pure (.string (a ++ b)):Sem Value):=by
  show Op.stringOp .add a b = _
  unfold Op.stringOp
  exact if_neg hn
 have h2:eqGuard .add T x y (.string a) (.string b) = (pure ():Sem Unit):=rfl
 show (do pure (.value (<- (do eqGuard .add T x y (ρ x) (ρ y); binOp .add T (ρ x) (ρ y)))):Sem Next).run P _ = _
 rw [hx,hy,h2,h1]; rfl
theorem x_convI {κ κ':IntKind} {m:Int} {u:TypeDesc} (hx:ρ x = .int κ m) (hS:P.underlying S = some u) (hT:P.underlying T = some (.int κ')):Does P (execOp ρ ⟨d,.convert S T x,ty,ps,af,g⟩) w (.val (.int κ' (κ'.wrap m))) w:=by
 have hc:∀ w':World,(convert S T (.int κ m)).run P w' = .ok (.int κ' (κ'.wrap m)) w':=fun w'=>by
  simp only [convert,Sem.run_bind,run_underlying hS,run_underlying hT,Result.andThen_ok]
  rfl
 have ht:tame P (convert S T (.int κ m)):=by
  unfold convert
  refine t_knownU hS ?_
  refine t_knownU hT ?_
  exact t_pure _
 refine .of_tame (t_cvt (t:=(do pure (.value (<- convert S T (ρ x))):Sem Next)) rfl (by rw [hx]; exact t_v ht)) rfl rfl fun τ d=>?_
 show (do pure (.value (<- convert S T (ρ x))):Sem Next).run P _ = _
 rw [hx]
 simp only [Sem.run_bind,hc,Result.andThen_ok]
 rfl
theorem t_forInL {α β:Type} {f:α->β->Sem (ForInStep β)} (hf:∀ a b,tame P (f a b)):∀ (l:List α) (b:β),tame P (forIn l b f)
 | [],b=>by rw [List.forIn_nil]; exact t_pure _
 | a :: l,b=>by
  rw [List.forIn_cons]
  refine t_bind (hf a b) fun r=>?_
  cases r with
  | done b=>exact t_pure _
  | yield b=>exact t_forInL hf l b
theorem t_forInA {α β:Type} {f:α->β->Sem (ForInStep β)} (hf:∀ a b,tame P (f a b)) (l:Array α) (b:β):tame P (forIn l b f):=by
 rw [<- Array.forIn_toList]
 exact t_forInL hf _ _
theorem x_strByte {E:TypeId} {ad:Addr} {c:Nat} {m:Int} (hx:ρ x = .slice (some ad) 1 c) (hS:P.underlying S = some (.slice E)) (hE:P.underlying E = some (.int .u8)) (hT:P.underlying T = some .string) (hc:w.cell? ad = some (.int .u8 m)) :
  Does P (execOp ρ ⟨d,.convert S T x,ty,ps,af,g⟩) w (.val (.string (ByteArray.empty.push (UInt8.ofNat m.toNat)))) w:=by
 have ht:tame P (convert S T (.slice (some ad) 1 c)):=by
  unfold convert
  refine t_knownU hS ?_
  refine t_knownU hT ?_
  refine t_knownU hE ?_
  show tame P (Conv.bytesToString _)
  unfold Conv.bytesToString
  refine t_bind (t_loadCells _ _) fun l=>?_
  refine t_bind (t_forInA (fun a b=>?_) _ _) fun r=>t_pure _
  split
  ·exact t_pure _
  ·exact t_bind (t_stuck _) fun _=>t_pure _
 have hl:∀ w':World,w'.heap = w.heap->(loadCells ad 1).run P w' = .ok #[.int .u8 m] w':=fun w' hw=>by
  have h1:w'.cell? ad = some (.int .u8 m):=by rw [<- hc]; unfold World.cell?; rw [hw]
  have:=run_loadCells_list (P:=P) (w:=w') ad [.int .u8 m] (fun j v hj=>by
   match j,hj with
   | 0,hj=>cases hj; simpa [Addr.add] using h1)
  simpa using this
 have hr:∀ w':World,w'.heap = w.heap->(convert S T (.slice (some ad) 1 c)).run P w' = .ok (.string (ByteArray.empty.push (UInt8.ofNat m.toNat))) w':=fun w' hw=>by
  simp only [convert,Sem.run_bind,run_underlying hS,run_underlying hT,run_underlying hE,Result.andThen_ok,Conv.bytesToString,hl w' hw]
  rfl
 refine .of_tame (t_cvt (t:=(do pure (.value (<- convert S T (ρ x))):Sem Next)) rfl (by rw [hx]; exact t_v ht)) rfl rfl fun τ d=>?_
 show (do pure (.value (<- convert S T (ρ x))):Sem Next).run P _ = _
 rw [hx]
 simp only [Sem.run_bind,hr _ (show (Yc.onT w τ d).heap = w.heap from rfl),Result.andThen_ok]
 rfl
end
section
variable {P:Program} [Ctx P] {ρ:Operand->Value} {w:World} {d:Option Nat} {ty:TypeId} {ps:String} {af:Array Edge} {g:Option (Nat × Bool)} {x y:Operand} {T T' S:TypeId}
end
section
variable {P:Program} [Ctx P] {n:Nat} {Q:Exit->Env->World->Prop} {e:Env} {w:World} {ops:Array Oper} {rest:List Oper} {d:Nat} {ty:TypeId} {ps:String} {af:Array Edge} {T E:TypeId}
theorem L.buildF {s m:Nat} {parts:List (Nat × Operand)} {vs:List (Nat × Value)} {zv:Value} {cs:Array Value} (hv:parts.map (fun (i,y)=>(i,ev e y)) = vs) (hT:P.underlying T = some (.slice E)) (hs:(P.info? E).map (·.size) = some s) (hz:(P.info? E).bind (·.zero) = some zv) (hlt:0 < m * s/\m * s <= 16777216)
  (hf:Instr.fill (fun i=>some (i * s,s)) ((Array.range (m * s)).map (fun i=>zv.cells[i % zv.cells.size]!)) vs = some cs)
  (k:∀ w1 b,Fresh w w1 b cs E->L P n ops Q rest (upd e d (.slice (some ⟨b,0,none⟩) m m)) w1) :
  L P n ops Q (⟨some d,.buildSlice T m parts.toArray,ty,ps,af,none⟩ :: rest) e w:=by
 refine L.va (w':=w.alloc (.cells cs E)) (.of_tame (tame_ok rfl _) rfl rfl fun τ d'=>?_) (k _ _ (fresh_alloc w _ E))
 show (execOp (ev e) ⟨some d,.buildSlice T m parts.toArray,ty,ps,af,none⟩).run P (Yc.onT w τ d') = .ok (.value (.slice (some ⟨(Yc.onT w τ d').heap.size,0,none⟩) m m)) ((Yc.onT w τ d').alloc (.cells cs E))
 generalize Yc.onT w τ d' = w
 have h1:¬ (m * s > 2 ^ 24):=by omega
 have h2:¬ (m * s = 0):=by omega
 simp only [execOp,Instr.buildSlice,List.map_toArray,hv,Go.Vc.run_underlying hT,Go.Vc.run_sizeOf hs,Sem.run_bind,Result.andThen_ok,h1,h2,if_false,Sem.run_pure,Go.Vc.run_zeroValue hz]
 rw [hf]
 simp [newRow]
end
def endsP (P:Program) (fn:Func) (R:Ending->World->Prop):Exit->Env->World->Prop:=fun x e w=>match x with
 | .panic ch=>R (.panicked ch) w
 | x=>ends P fn (fun v w=>R (.returned v) w) x e w
theorem Calls.enterP {P:Program} [Ctx P] {f:FuncId} {fn:Func} {c:Code} {args:Array Value} {w:World} {R:Ending->World->Prop} {n:Nat} (hf:P.funcs[f]? = some fn) (hb:fn.body = some c) (hn:args.size + (fn.ntmps - args.size) = n)
  (h:W P n c (endsP P fn R) (Vc.argE args) w):Calls P f args w R:=by
 refine calls_of_wp hf hb (wp_mono (h _ ⟨?_,rfl,?_⟩) ?_)
 ·simp [hn]
 ·intro t
  simp only [Vc.argE,Array.getD_eq_getD_getElem?,Array.getElem?_append]
  split
  ·rfl
  ·rename_i ht
   rw [Array.getElem?_eq_none (by omega:args.size <= t)]
   simp only [Array.getElem?_replicate]
   split <;> rfl
 ·rintro x a w' ⟨e',r,hx⟩
  cases x with
  | panic ch=>exact ⟨r.defers,hx⟩
  | normal=>obtain ⟨_,v,hv,hR⟩:=hx; exact ⟨r.defers,v,hv a.tmps r.get,hR⟩
  | ret=>obtain ⟨_,v,hv,hR⟩:=hx; exact ⟨r.defers,v,hv a.tmps r.get,hR⟩
  | exit id=>obtain ⟨hx,_⟩:=hx; rcases hx with hx | hx <;> cases hx
  | goto l=>obtain ⟨hx,_⟩:=hx; rcases hx with hx | hx <;> cases hx
  | outgrown=>obtain ⟨hx,_⟩:=hx; rcases hx with hx | hx <;> cases hx
end Go.Vy
end
/- Clients whose bodies are lists of operations, told without a program. -/
section
namespace Go.Vy.Sc
open Go Go.Conc Go.Yc Go.RowKit Go.Proofs Go.Proofs.Ytfmoeemolgjodaa
open Go.Vc Go.Wg
def byteB (n:Nat):ByteArray:=ByteArray.empty.push (UInt8.ofNat (48 + n % 10))
def natB (n:Nat):ByteArray:=if n < 10 then byteB n else natB (n / 10) ++ byteB n
termination_by n
decreasing_by omega
theorem natB_lt {n:Nat} (h:n < 10):natB n = byteB n:=by rw [natB,if_pos h]
theorem natB_ge {n:Nat} (h:¬ n < 10):natB n = natB (n / 10) ++ byteB n:=by rw [natB,if_neg h]
theorem byteB_size (n:Nat):(byteB n).size = 1:=rfl
theorem natB_size:∀ (k n:Nat),n < 10 ^ k->(natB n).size <= k + 1
 | 0,n,h=>by rw [natB_lt (by simp at h; omega),byteB_size]; omega
 | k + 1,n,h=>by
  by_cases hn:n < 10
  ·rw [natB_lt hn,byteB_size]; omega
  ·rw [natB_ge hn,ByteArray.size_append,byteB_size]
   have:=natB_size k (n / 10) (by rw [Nat.pow_succ] at h; omega)
   omega
def digB (n:Int):ByteArray:=if n < 0 then ByteArray.mk #[45] ++ natB (-n).toNat else natB n.toNat
theorem digB_size {n:Int} (h:-9223372036854775808 <= n/\n <= 9223372036854775807):(digB n).size <= 30:=by
 unfold digB
 split
 ·rw [ByteArray.size_append]
  have:=natB_size 19 (-n).toNat (by (have:(10:Nat) ^ 19 = 10000000000000000000:=by decide); omega)
  have h1:(ByteArray.mk #[45]).size = 1:=rfl
  omega
 ·have:=natB_size 19 n.toNat (by (have:(10:Nat) ^ 19 = 10000000000000000000:=by decide); omega)
  omega
structure OpD where
 kind:Int
 step:Stp
 free:Bool
 cell:Int
 least:Int
 to:Int
 by_:Int
 text:ByteArray
def opC (o:OpD):List Value:=[.int .i64 o.kind,.int .i64 o.step.kind,.int .i64 o.step.obj,.int .i64 o.step.num,.bool o.free,.int .i64 o.cell,.int .i64 o.least,.int .i64 o.to,.int .i64 o.by_,.string o.text]
def at4 (n:Int):Nat:=pickIx n 4
theorem at4_lt (n:Int):at4 n < 4:=pickIx_lt n (by decide)
abbrev Cells:=Nat->Int
def addC (c:Cells) (k:Nat) (b:Int):Cells:=fun j=>if j = k then IntKind.i64.wrap (c j + b) else c j
def consN (k:Nte) (o:Out' Cells (Nat × Nat)):Out' Cells (Nat × Nat):={ o with nts:=k :: o.nts }
def jumps (ops:List OpD) (o:OpD) (j:Nat) (c:Cells):Bool:=decide (o.kind = 6) && decide (c (at4 o.to) < o.least) && decide (j < 50) && decide (0 <= o.cell) && decide (o.cell < ops.length)
def opsGo (ops:List OpD) (i j:Nat) (c:Cells):Out' Cells (Nat × Nat) :=
 if hi:i < ops.length then
  if ops[i].kind = 1 then ⟨c,[],.inl (i,j)⟩ else
  if ops[i].kind = 2 then consN ⟨ops[i].step.kind,ops[i].text ++ digB (c (at4 ops[i].cell))⟩ (opsGo ops (i + 1) j c) else
  if ops[i].kind = 3 then opsGo ops (i + 1) j (addC c (at4 ops[i].to) ops[i].by_) else
  if ops[i].kind = 4 then ⟨c,[],.inr 2⟩ else
  if ops[i].kind = 5 then ⟨c,[],.inr 1⟩ else
  if hj:jumps ops ops[i] j c = true then opsGo ops ops[i].cell.toNat (j + 1) c else opsGo ops (i + 1) j c
 else ⟨c,[],.inr 1⟩
termination_by (50 - j,ops.length - i)
decreasing_by
 all_goals simp_wf
 all_goals simp only [Prod.lex_def]
 ·exact .inr ⟨trivial,by omega⟩
 ·exact .inr ⟨trivial,by omega⟩
 ·refine .inl ?_
  simp [jumps] at hj
  omega
 ·exact .inr ⟨trivial,by omega⟩
section
variable {ops:List OpD} {i j:Nat} {c:Cells} {o:OpD}
theorem opsGo_end (h:¬ i < ops.length):opsGo ops i j c = ⟨c,[],.inr 1⟩:=by rw [opsGo,dif_neg h]
theorem opsGo_at (h:ops[i]? = some o):opsGo ops i j c = if o.kind = 1 then ⟨c,[],.inl (i,j)⟩ else
  if o.kind = 2 then consN ⟨o.step.kind,o.text ++ digB (c (at4 o.cell))⟩ (opsGo ops (i + 1) j c) else
  if o.kind = 3 then opsGo ops (i + 1) j (addC c (at4 o.to) o.by_) else
  if o.kind = 4 then ⟨c,[],.inr 2⟩ else
  if o.kind = 5 then ⟨c,[],.inr 1⟩ else
  if jumps ops o j c = true then opsGo ops o.cell.toNat (j + 1) c else opsGo ops (i + 1) j c:=by
 obtain ⟨hi,rfl⟩:=List.getElem?_eq_some_iff.1 h
 conv=>lhs; rw [opsGo]
 rw [dif_pos hi]
 simp only [dite_eq_ite]
end
def meas (ops:List OpD) (i j:Nat):Nat:=(50 - j) * (ops.length + 1) + (ops.length - i)
theorem meas_next {ops:List OpD} {i j:Nat} (h:i < ops.length):meas ops (i + 1) j < meas ops i j:=by unfold meas; omega
theorem meas_jump {ops:List OpD} {i j k:Nat} (h:j < 50):meas ops k (j + 1) < meas ops i j:=by
 unfold meas
 have h1:50 - j = (50 - (j + 1)) + 1:=by omega
 rw [h1,Nat.add_mul]
 omega
def CellsOk (c:Cells):Prop:=∀ k,-9223372036854775808 <= c k/\c k <= 9223372036854775807
theorem wrap_ok (z:Int):-9223372036854775808 <= IntKind.i64.wrap z/\IntKind.i64.wrap z <= 9223372036854775807:=by
 simp [IntKind.wrap,IntKind.signed,IntKind.bits]
 split <;> omega
theorem CellsOk.add {c:Cells} (h:CellsOk c) (k:Nat) (b:Int):CellsOk (addC c k b):=fun j=>by
 unfold addC
 split
 ·exact wrap_ok _
 ·exact h j
end Go.Vy.Sc
end
/- Small functions of the law and of the document: what each returns. -/
section
namespace Go.Vy.Sc
open Go Go.Conc Go.Yc Go.RowKit Go.Proofs Go.Proofs.Ytfmoeemolgjodaa
open Go.Vc
section
variable [Ctx Try.prog]
end
section
theorem rem_val (n:Int):(n.tmod 4 + 4).tmod 4 = ((at4 n:Nat):Int):=mod2 n (n:=4) (by decide)
theorem rem_bd (n:Int):-9223372036854775808 <= n.tmod 4 + 4/\n.tmod 4 + 4 <= 9223372036854775807:=by
 have h:-1000 <= n.tmod 4/\n.tmod 4 <= 1000:=tmod_bd n (n:=4) (by decide) (by decide)
 omega
theorem u64_in {m:Int} (h:0 <= m/\m < 18446744073709551616):IntKind.u64.wrap m = m:=by
 simp [IntKind.wrap,IntKind.signed,IntKind.bits]; omega
theorem u8_in {m:Int} (h:0 <= m/\m < 256):IntKind.u8.wrap m = m:=by
 simp [IntKind.wrap,IntKind.signed,IntKind.bits]; omega
end
section
variable [Ctx Try.prog]
def natD (i:Nat):Nat:=if i < 10 then 10 + i else 2
def natV (n:Nat) (i:Nat):Value:=match i with
 | 0=>.int .u64 (n:Int)
 | 1=>.int .u64 (IntKind.u64.wrap ((n:Int).tdiv 10))
 | 2=>.string (natB (n / 10))
 | 3=>.int .u64 (n:Int)
 | 4=>.int .u64 ((n:Int).tmod 10)
 | 5=>.int .u64 (IntKind.u64.wrap (48 + (n:Int).tmod 10))
 | 6=>.int .u8 (IntKind.u8.wrap (IntKind.u64.wrap (48 + (n:Int).tmod 10)))
 | 8=>.string (ByteArray.empty.push (UInt8.ofNat (IntKind.u8.wrap (IntKind.u64.wrap (48 + (n:Int).tmod 10))).toNat))
 | _=>.string (natB (n / 10) ++ (ByteArray.empty.push (UInt8.ofNat (IntKind.u8.wrap (IntKind.u64.wrap (48 + (n:Int).tmod 10))).toNat)))
def natI (n:Nat) (i:Nat) (e:Env) (u:World):Prop:=if i = 7 then ∃ b,e 17 = .slice (some ⟨b,0,none⟩) 1 1/\Blk u b #[.int .u8 (IntKind.u8.wrap (IntKind.u64.wrap (48 + (n:Int).tmod 10)))] 5 else e (natD i) = natV n i
end
section
theorem natI_keep {n i j:Nat} {e:Env} {u u':World} {v:Value} (hi:i < 11) (hj:j < 11) (hne:j ≠ i) (hb:Below u.heap.size u u') (h:natI n j e u):natI n j (upd e (natD i) v) u':=by
 unfold natI at h ⊢
 split
 ·rename_i h7
  subst h7
  obtain ⟨b,h1,h2⟩:=h
  refine ⟨b,?_,h2.keep hb⟩
  rw [<- h1]
  unfold upd
  rw [if_neg (by unfold natD; split <;> omega)]
 ·rename_i h7
  rw [if_neg h7] at h
  rw [<- h]
  unfold upd
  rw [if_neg (by unfold natD; split <;> split <;> omega)]
end
section
variable [Ctx Try.prog]
def natJ (n:Nat) (w0:World) (D:Nat->Bool) (e:Env) (u:World):Prop:=Below w0.heap.size w0 u/\e 0 = .int .u64 (n:Int)/\∀ j,j < 11->D j = true->natI n j e u
end
section
theorem natJ_step {n:Nat} {w0:World} {D:Nat->Bool} {e:Env} {u u':World} {i:Nat} {v:Value} (hi:i < 11) (h:natJ n w0 D e u) (hb:Below u.heap.size u u') (hv:natI n i (upd e (natD i) v) u'):natJ n w0 (setD D i) (upd e (natD i) v) u':=by
 obtain ⟨h1,h2,h3⟩:=h
 refine ⟨cl_step h1 hb,?_,fun j hj hD=>?_⟩
 ·rw [<- h2]; unfold upd; rw [if_neg (by unfold natD; split <;> omega)]
 ·by_cases hji:j = i
  ·subst hji; exact hv
  ·exact natI_keep hi hj hji hb (h3 j hj (by simpa [setD,hji] using hD))
theorem stepI_val {P:Program} [Ctx P] {ops:Array Oper} {I:(Nat->Bool)->Env->World->Prop} {i:Nat} {o:Oper} {D:Nat->Bool} {e:Env} {w w':World} {v:Value} (hw:Region.wanted o (yieldE ops e) = true) (h:Does P (execOp (ev e) o) w (.val v) w') (hI:I (setD D i) (updO e o.dst v) w'):StepI P ops I i o D e w :=
 .inl ⟨hw,fun τ d=>⟨.val v,Yc.onT w' τ d,h.go τ d,by have h1:=h.tape; have h2:=h.drawn; show I _ _ (Yc.onT (Yc.onT w' τ d) w.tape w.drawn); rw [<- h1,<- h2]; exact hI⟩⟩
theorem stepI_call {P:Program} [Ctx P] {ops:Array Oper} {I:(Nat->Bool)->Env->World->Prop} {i:Nat} {o:Oper} {D:Nat->Bool} {e:Env} {w:World} {f:FuncId} {args:Array Value} (hw:Region.wanted o (yieldE ops e) = true) (h:Does P (execOp (ev e) o) w (.enter f args) w) (hI:C P f args w (fun v w''=>I (setD D i) (updO e o.dst v) w'')):StepI P ops I i o D e w :=
 .inl ⟨hw,fun τ d=>⟨.enter f args,Yc.onT w τ d,h.go τ d,hI⟩⟩
theorem byte_val {n:Nat} (h:n < 10):ByteArray.empty.push (UInt8.ofNat (IntKind.u8.wrap (IntKind.u64.wrap (48 + (n:Int)))).toNat) = byteB n:=by
 rw [u64_in (by omega),u8_in (by omega)]
 have h1:(48 + (n:Int)).toNat = 48 + n % 10:=by omega
 rw [h1]; rfl
theorem nat_lt {n:Nat} (h:n < 10):ByteArray.empty.push (UInt8.ofNat (IntKind.u8.wrap (IntKind.u64.wrap (48 + (n:Int)))).toNat) = natB n:=by
 rw [byte_val h,natB_lt h]
theorem nat_ge {n:Nat} (h:¬ n < 10):natB (n / 10) ++ ByteArray.empty.push (UInt8.ofNat (IntKind.u8.wrap (IntKind.u64.wrap (48 + (n:Int).tmod 10))).toNat) = natB n:=by
 have h1:(n:Int).tmod 10 = ((n % 10:Nat):Int):=rfl
 rw [h1,byte_val (by omega),natB_ge h]
 have:byteB (n % 10) = byteB n:=by unfold byteB; rw [Nat.mod_mod]
 rw [this]
theorem quo_val {n:Nat} (h:n < 18446744073709551616):IntKind.u64.wrap ((n:Int).tdiv 10) = ((n / 10:Nat):Int):=by
 have h1:(n:Int).tdiv 10 = ((n / 10:Nat):Int):=rfl
 rw [h1,u64_in (by omega)]
end
section
variable [Ctx Try.prog]
theorem at_c (n:Int) (w:World):C Try.prog 34 #[.int .i64 n] w fun v w1=>v = .int .i64 (at4 n:Nat)/\w1 = w:=by
 refine C.enter (n:=7) Try.func34 rfl rfl ?_
 refine W.seq ?_
 refine W.region rfl ?_
 refine L.va (x_asI rfl) ?_
 refine L.nil ?_
 show W _ _ _ _ _ _
 refine W.seq ?_
 refine W.region rfl ?_
 refine L.va (x_mvI rfl) ?_
 refine L.va (x_rem (m:=n) (k:=4) rfl rfl (by decide)) ?_
 refine L.va (x_addI (m:=n.tmod 4) (k:=4) rfl rfl (rem_bd n)) ?_
 refine L.va (x_rem (m:=n.tmod 4 + 4) (k:=4) rfl rfl (by decide)) ?_
 refine L.va (x_asI rfl) ?_
 refine L.nil ?_
 show W _ _ _ _ _ _
 refine W.ret ?_
 repeat (first | refine T.ret ?_ | refine B.ret ?_ | refine N.ret ?_)
 refine ends.one (.inr rfl) rfl ?_
 exact ⟨congrArg (Value.int .i64) (rem_val n),rfl⟩
theorem natural_step (n:Nat) (hn:n < 18446744073709551616) (w0:World) (ih:¬ n < 10->∀ w,C Try.prog 49 #[.int .u64 (IntKind.u64.wrap ((n:Int).tdiv 10))] w fun v w1=>v = .string (natB (n / 10))/\Below w.heap.size w w1):C Try.prog 49 #[.int .u64 (n:Int)] w0 fun v w1=>v = .string (natB n)/\Below w0.heap.size w0 w1:=by
 refine C.enter (n:=20) Try.func49 rfl rfl ?_
 have hb:Below w0.heap.size w0 w0:=Below.refl _ _
 refine W.seq ?_
 refine W.region rfl ?_
 refine L.va x_assign ?_
 refine L.nil ?_
 show W _ _ _ _ _ _
 refine W.seq ?_
 refine W.seq ?_
 refine W.region rfl ?_
 refine L.va x_move ?_
 refine L.va (x_lss (κ:=.u64) (m:=(n:Int)) (k:=10) rfl rfl) ?_
 refine L.nil ?_
 show W _ _ _ _ _ _
 refine W.cond rfl (fun h4=>?_) (fun h4=>?_)
 ·have h4:n < 10:=by have:=of_decide_eq_true h4; omega
  refine W.seq ?_
  refine W.region rfl ?_
  refine L.va x_move ?_
  refine L.va (x_add (κ:=.u64) (m:=48) (k:=(n:Int)) rfl rfl) ?_
  refine L.va (x_convI rfl Try.underlying84 Try.underlying5) ?_
  refine L.build1 (cs:=#[.int .u8 (IntKind.u8.wrap (IntKind.u64.wrap (48 + (n:Int))))]) rfl rfl Try.underlying116 sz5 rfl ⟨_,zr5⟩ (by decide) (fun w b8 F8=>?_)
  have hb:=cl_step hb F8.below
  have hB8:=F8.blk
  refine L.va (x_strByte (m:=IntKind.u8.wrap (IntKind.u64.wrap (48 + (n:Int)))) rfl Try.underlying116 Try.underlying5 Try.underlying9 (hB8.cellAt 0 rfl)) ?_
  refine L.va x_assign ?_
  refine L.nil ?_
  show W _ _ _ _ _ _
  refine W.ret ?_
  repeat (first | refine T.ret ?_ | refine B.ret ?_ | refine N.ret ?_)
  refine ends.one (.inr rfl) rfl ?_
  exact ⟨congrArg Value.string (nat_lt h4),hb⟩
 ·have h4:¬ n < 10:=by have:=of_decide_eq_false h4; omega
  refine W.skip ?_
  show W _ _ _ _ _ _
  refine W.seq ?_
  refine W.inv (natJ n w0) rfl (by kernel_rfl) ⟨hb.drew,rfl,fun j _ hD=>by cases hD⟩ ?_ (fun D e u hall hJ=>?_)
  ·intro i o hi D e u hD hdep hclo hJ
   have hJ0:=hJ
   obtain ⟨hbu,h0,hv⟩:=hJ
   have get:∀ j,j < 11->j ≠ 7->D j = true->e (natD j) = natV n j:=fun j hj h7 hd=>by have:=hv j hj hd; unfold natI at this; rwa [if_neg h7] at this
   match i,hi,hdep with
   | 0,hi,hdep =>
    obtain rfl:=Option.some.inj hi
    refine stepI_val rfl (x_move) ?_
    exact natJ_step (i:=0) (by decide) hJ0 (Below.refl _ _) (by unfold natI; rw [if_neg (by decide)]; exact (upd_same _ _ _).trans h0)
   | 1,hi,hdep =>
    obtain rfl:=Option.some.inj hi
    have d0:D 0 = true:=hdep _ (Array.mem_of_getElem? (i:=0) rfl) rfl
    have g0:e 10 = natV n 0:=get 0 (by decide) (by decide) d0
    refine stepI_val rfl (x_quo (κ:=.u64) (m:=(n:Int)) (k:=10) g0 rfl (by decide)) ?_
    exact natJ_step (i:=1) (by decide) hJ0 (Below.refl _ _) (by unfold natI; rw [if_neg (by decide)]; rfl)
   | 2,hi,hdep =>
    obtain rfl:=Option.some.inj hi
    have d1:D 1 = true:=hdep _ (Array.mem_of_getElem? (i:=0) rfl) rfl
    have g1:e 11 = natV n 1:=get 1 (by decide) (by decide) d1
    refine stepI_call rfl (x_call1 g1 Try.func49 rfl nm49 rfl) (C.mono (ih h4 u) fun v u2 hx=>?_)
    obtain ⟨rfl,hx⟩:=hx
    exact natJ_step (i:=2) (by decide) hJ0 hx (by unfold natI; rw [if_neg (by decide)]; rfl)
   | 3,hi,hdep =>
    obtain rfl:=Option.some.inj hi
    refine stepI_val rfl (x_move) ?_
    exact natJ_step (i:=3) (by decide) hJ0 (Below.refl _ _) (by unfold natI; rw [if_neg (by decide)]; exact (upd_same _ _ _).trans h0)
   | 4,hi,hdep =>
    obtain rfl:=Option.some.inj hi
    have d3:D 3 = true:=hdep _ (Array.mem_of_getElem? (i:=0) rfl) rfl
    have g3:e 13 = natV n 3:=get 3 (by decide) (by decide) d3
    refine stepI_val rfl (x_rem (κ:=.u64) (m:=(n:Int)) (k:=10) g3 rfl (by decide)) ?_
    exact natJ_step (i:=4) (by decide) hJ0 (Below.refl _ _) (by unfold natI; rw [if_neg (by decide)]; rfl)
   | 5,hi,hdep =>
    obtain rfl:=Option.some.inj hi
    have d4:D 4 = true:=hdep _ (Array.mem_of_getElem? (i:=0) rfl) rfl
    have g4:e 14 = natV n 4:=get 4 (by decide) (by decide) d4
    refine stepI_val rfl (x_add (κ:=.u64) (m:=48) (k:=(n:Int).tmod 10) rfl g4) ?_
    exact natJ_step (i:=5) (by decide) hJ0 (Below.refl _ _) (by unfold natI; rw [if_neg (by decide)]; rfl)
   | 6,hi,hdep =>
    obtain rfl:=Option.some.inj hi
    have d5:D 5 = true:=hdep _ (Array.mem_of_getElem? (i:=0) rfl) rfl
    have g5:e 15 = natV n 5:=get 5 (by decide) (by decide) d5
    refine stepI_val rfl (x_convI g5 Try.underlying84 Try.underlying5) ?_
    exact natJ_step (i:=6) (by decide) hJ0 (Below.refl _ _) (by unfold natI; rw [if_neg (by decide)]; rfl)
   | 7,hi,hdep =>
    obtain rfl:=Option.some.inj hi
    have d6:D 6 = true:=hdep _ (Array.mem_of_getElem? (i:=0) rfl) rfl
    have g6:e 16 = natV n 6:=get 6 (by decide) (by decide) d6
    have hf:=fresh_alloc u #[.int .u8 (IntKind.u8.wrap (IntKind.u64.wrap (48 + (n:Int).tmod 10)))] 5
    refine stepI_val rfl (x_build1 (v:=.int .u8 (IntKind.u8.wrap (IntKind.u64.wrap (48 + (n:Int).tmod 10)))) g6 rfl Try.underlying116 sz5 zr5 rfl) ?_
    exact natJ_step (i:=7) (by decide) hJ0 hf.below (by unfold natI; rw [if_pos rfl]; exact ⟨_,rfl,hf.blk⟩)
   | 8,hi,hdep =>
    obtain rfl:=Option.some.inj hi
    have d7:D 7 = true:=hdep _ (Array.mem_of_getElem? (i:=0) rfl) rfl
    have h7:=hv 7 (by decide) d7
    unfold natI at h7
    rw [if_pos rfl] at h7
    obtain ⟨b,g7,hB⟩:=h7
    refine stepI_val rfl (x_strByte (m:=IntKind.u8.wrap (IntKind.u64.wrap (48 + (n:Int).tmod 10))) g7 Try.underlying116 Try.underlying5 Try.underlying9 (hB.cellAt 0 rfl)) ?_
    exact natJ_step (i:=8) (by decide) hJ0 (Below.refl _ _) (by unfold natI; rw [if_neg (by decide)]; rfl)
   | 9,hi,hdep =>
    obtain rfl:=Option.some.inj hi
    have d2:D 2 = true:=hdep _ (Array.mem_of_getElem? (i:=0) rfl) rfl
    have g2:e 12 = natV n 2:=get 2 (by decide) (by decide) d2
    have d8:D 8 = true:=hdep _ (Array.mem_of_getElem? (i:=1) rfl) rfl
    have g8:e 18 = natV n 8:=get 8 (by decide) (by decide) d8
    refine stepI_val rfl (x_addStr g2 g8 (by have:=natB_size 20 (n / 10) (by omega); have h9:(ByteArray.empty.push (UInt8.ofNat (IntKind.u8.wrap (IntKind.u64.wrap (48 + (n:Int).tmod 10))).toNat)).size = 1:=rfl; omega)) ?_
    exact natJ_step (i:=9) (by decide) hJ0 (Below.refl _ _) (by unfold natI; rw [if_neg (by decide)]; rfl)
   | 10,hi,hdep =>
    obtain rfl:=Option.some.inj hi
    have d9:D 9 = true:=hdep _ (Array.mem_of_getElem? (i:=0) rfl) rfl
    have g9:e 19 = natV n 9:=get 9 (by decide) (by decide) d9
    refine stepI_val rfl (x_assign) ?_
    exact natJ_step (i:=10) (by decide) hJ0 (Below.refl _ _) (by unfold natI; rw [if_neg (by decide)]; exact (upd_same _ _ _).trans g9)
   | i + 11,hi,hdep=>cases hi
  ·obtain ⟨hbu,h0,hv⟩:=hJ
   have h2:=hv 10 (by decide) (hall 10 (by decide))
   have h2:e 2 = .string (natB (n / 10) ++ (ByteArray.empty.push (UInt8.ofNat (IntKind.u8.wrap (IntKind.u64.wrap (48 + (n:Int).tmod 10))).toNat))):=h2
   repeat (first | refine T.nrm ?_ | refine B.nrm ?_ | refine N.nrm ?_)
   show W _ _ _ _ _ _
   refine W.ret ?_
   repeat (first | refine T.ret ?_ | refine B.ret ?_ | refine N.ret ?_)
   refine ends.one (.inr rfl) rfl ?_
   exact ⟨h2.trans (congrArg Value.string (nat_ge h4)),hbu⟩
theorem natural_c:∀ (n:Nat),n < 18446744073709551616->∀ w,C Try.prog 49 #[.int .u64 (n:Int)] w fun v w1=>v = .string (natB n)/\Below w.heap.size w w1:=by
 intro n
 induction n using Nat.strongRecOn with
 | _ n ih =>
  intro hn w
  refine natural_step n hn w fun h w'=>?_
  rw [quo_val hn]
  exact ih (n / 10) (by omega) (by omega) w'
theorem digits_c (n:Int) (hn:-9223372036854775808 <= n/\n <= 9223372036854775807) (w0:World):C Try.prog 42 #[.int .i64 n] w0 fun v w1=>v = .string (digB n)/\Below w0.heap.size w0 w1:=by
 refine C.enter (n:=15) Try.func42 rfl rfl ?_
 have hb:Below w0.heap.size w0 w0:=Below.refl _ _
 refine W.seq ?_
 refine W.region rfl ?_
 refine L.va x_assign ?_
 refine L.nil ?_
 show W _ _ _ _ _ _
 refine W.seq ?_
 refine W.seq ?_
 refine W.region rfl ?_
 refine L.va (x_mvI rfl) ?_
 refine L.va (x_lss (κ:=.i64) (m:=n) (k:=0) rfl rfl) ?_
 refine L.nil ?_
 show W _ _ _ _ _ _
 refine W.cond rfl (fun h4=>?_) (fun h4=>?_)
 ·have h4:n < 0:=of_decide_eq_true h4
  refine W.seq ?_
  refine W.region rfl ?_
  refine L.va (x_mvI rfl) ?_
  refine L.va (x_addI (m:=n) (k:=1) rfl rfl (by omega)) ?_
  refine L.va (x_neg (k:=n + 1) rfl (by omega)) ?_
  refine L.va (x_convI rfl Try.underlying2 Try.underlying84) ?_
  refine L.va (x_add (κ:=.u64) (m:=IntKind.u64.wrap (-(n + 1))) (k:=1) rfl rfl) ?_
  have hneg:IntKind.u64.wrap (IntKind.u64.wrap (-(n + 1)) + 1) = (((-n).toNat:Nat):Int):=by rw [u64_in (m:=-(n + 1)) (by omega),u64_in (by omega)]; omega
  refine L.call (x_call1 rfl Try.func49 rfl nm49 rfl) (by have:=natural_c (-n).toNat (by omega) w0; rw [<- hneg] at this; exact this) ?_
  rintro _ w ⟨rfl,hbw⟩
  have hb:=cl_step hb hbw
  refine L.va (x_addStr (a:=ByteArray.mk #[45]) rfl rfl (by have:=natB_size 20 (-n).toNat (by omega); have h9:(ByteArray.mk #[45]).size = 1:=rfl; omega)) ?_
  refine L.va x_assign ?_
  refine L.nil ?_
  show W _ _ _ _ _ _
  refine W.ret ?_
  repeat (first | refine T.ret ?_ | refine B.ret ?_ | refine N.ret ?_)
  refine ends.one (.inr rfl) rfl ?_
  exact ⟨congrArg Value.string (by unfold digB; rw [if_pos h4]),hb⟩
 ·have h4:¬ n < 0:=of_decide_eq_false h4
  refine W.skip ?_
  show W _ _ _ _ _ _
  refine W.seq ?_
  refine W.region rfl ?_
  refine L.va (x_mvI rfl) ?_
  refine L.va (x_convI rfl Try.underlying2 Try.underlying84) ?_
  have hpos:IntKind.u64.wrap n = ((n.toNat:Nat):Int):=by rw [u64_in (by omega)]; omega
  refine L.call (x_call1 rfl Try.func49 rfl nm49 rfl) (by have:=natural_c n.toNat (by omega) w0; rw [<- hpos] at this; exact this) ?_
  rintro _ w ⟨rfl,hbw⟩
  have hb:=cl_step hb hbw
  refine L.va x_assign ?_
  refine L.nil ?_
  show W _ _ _ _ _ _
  refine W.ret ?_
  repeat (first | refine T.ret ?_ | refine B.ret ?_ | refine N.ret ?_)
  refine ends.one (.inr rfl) rfl ?_
  exact ⟨congrArg Value.string (by unfold digB; rw [if_neg h4]),hb⟩
end
end Go.Vy.Sc
end
/- Clients whose bodies are lists of operations: what they lean on. -/
section
namespace Go.Vy.Sc
open Go Go.Conc Go.Yc Go.RowKit Go.Proofs Go.Proofs.Ytfmoeemolgjodaa
open Go.Vc Go.Wg
def shC (c:Cells):Array Value:=#[.int .i64 (c 0),.int .i64 (c 1),.int .i64 (c 2),.int .i64 (c 3),.bool false,.bool false]
theorem shC_at (c:Cells) {k:Nat} (h:k < 4):(shC c)[k]? = some (.int .i64 (c k)):=by
 match k,h with
 | 0,_=>rfl
 | 1,_=>rfl
 | 2,_=>rfl
 | 3,_=>rfl
theorem shC_add (c:Cells) {k:Nat} (h:k < 4) (b:Int):setRow (shC c) k [.int .i64 (IntKind.i64.wrap (c k + b))] = shC (addC c k b):=by
 match k,h with
 | 0,_=>simp [setRow,shC,addC]
 | 1,_=>simp [setRow,shC,addC]
 | 2,_=>simp [setRow,shC,addC]
 | 3,_=>simp [setRow,shC,addC]
structure Lay where
 m:Nat
 sb:Nat
 bo:Nat->List OpD
 ba:Nat->Option Addr
 bc:Nat->Nat
 b1:Nat->Nat
 b2:Nat->Nat
 RO:Nat->Prop
 wB:World
 lb:Nat
 pl:Nat->Plug
def Lay.F (Λ:Lay) (b:Nat):Prop:=b = Λ.sb\/Λ.RO b
structure ShInv (Λ:Lay) (c:Cells) (w:World):Prop where
 sh:BlkF w Λ.sb (shC c) 39 (0,0)
 ro:∀ b,Λ.RO b->w.heap[b]? = Λ.wB.heap[b]?/\b < w.heap.size/\w.heap[b]? ≠ some nothing
 ok:CellsOk c
def bodiesSys (Λ:Lay):Sys where
 S:=Cells
 L:=Nat × Nat
 m:=Λ.m
 s0:=fun _=>0
 nil:=fun _=>false
 stp:=fun i l=>(((Λ.bo i)[l.1]?).map (·.step)).getD sp0
 rdy:=fun i l s=>match (Λ.bo i)[l.1]? with
  | some o=>o.free || decide (o.least <= s (at4 o.cell))
  | none=>true
 beg:=fun i s=>opsGo (Λ.bo i) 0 0 s
 go:=fun i l s=>match (Λ.bo i)[l.1]? with
  | some o=>opsGo (Λ.bo i) (l.1 + 1) l.2 (addC s (at4 o.to) o.by_)
  | none=>⟨s,[],.inr 1⟩
 Inv:=fun s w F=>F = Λ.F/\ShInv Λ s w
 lb:=Λ.lb
 pl:=Λ.pl
theorem blkF_ne_nothing {w:World} {b:Nat} {cs:Array Value} {T:TypeId} {f:Nat × Nat} (h:BlkF w b cs T f) (hc:0 < cs.size):w.heap[b]? ≠ some nothing:=by
 unfold BlkF at h
 rw [h]
 intro e
 unfold nothing at e
 injection e with e
 injection e with e
 rw [e] at hc
 simp at hc
theorem ShInv.vis {Λ:Lay} {c:Cells} {w:World} (h:ShInv Λ c w) {b:Nat} (hb:Λ.F b):b < w.heap.size/\w.heap[b]? ≠ some nothing:=by
 rcases hb with rfl | hb
 ·exact ⟨h.sh.lt,blkF_ne_nothing h.sh (by show 0 < 6; decide)⟩
 ·exact (h.ro b hb).2
theorem ShInv.loc {Λ:Lay} {c:Cells} {w w':World} (h:ShInv Λ c w) (hw:∀ b,Λ.F b->w'.heap[b]? = w.heap[b]?):ShInv Λ c w':=by
 refine ⟨(hw _ (.inl rfl)).trans h.sh,fun b hb=>?_,h.ok⟩
 have:=h.ro b hb
 have he:=hw b (.inr hb)
 refine ⟨he.trans this.1,?_,by rw [he]; exact this.2.2⟩
 rcases Nat.lt_or_ge b w'.heap.size with z | z
 ·exact z
 ·rw [Array.getElem?_eq_none z,Array.getElem?_eq_getElem this.2.1] at he; cases he
theorem bodies_ok (Λ:Lay):SysOk (bodiesSys Λ):=by
 refine ⟨fun s w w' F h hw=>?_,fun s w F h b hb=>?_⟩
 ·obtain ⟨rfl,h⟩:=h
  exact ⟨rfl,h.loc hw⟩
 ·obtain ⟨rfl,h⟩:=h
  exact h.vis hb
structure LayOk (Λ:Lay):Prop where
 ops:∀ i,i < Λ.m->∀ (k:Nat) (o:OpD),(Λ.bo i)[k]? = some o->∀ (j:Nat) (v:Value),(opC o)[j]? = some v->Λ.wB.cell? ⟨ab (Λ.ba i),ao (Λ.ba i) + k * 10 + j,none⟩ = some v
 sl:∀ i,i < Λ.m->SL (Λ.ba i) (Λ.bo i).length
 sep:¬ Λ.RO Λ.sb
 roA:∀ i,i < Λ.m->0 < (Λ.bo i).length->Λ.RO (ab (Λ.ba i))
 ro1:∀ i,i < Λ.m->Λ.RO (Λ.b1 i)
 ro2:∀ i,i < Λ.m->Λ.RO (Λ.b2 i)
 box1:∀ i,i < Λ.m->BlkF Λ.wB (Λ.b1 i) #[.slice (Λ.ba i) (Λ.bo i).length (Λ.bc i)] 64 (0,0)
 box2:∀ i,i < Λ.m->BlkF Λ.wB (Λ.b2 i) #[.pointer (some ⟨Λ.sb,0,none⟩)] 32 (0,0)
 len:∀ i,i < Λ.m->(Λ.bo i).length <= 1000000000
 text:∀ i,i < Λ.m->∀ (k:Nat) (o:OpD),(Λ.bo i)[k]? = some o->o.text.size <= 1000000000000
section
variable {Λ:Lay} {fb:Nat->FuncId} {q:PR (bodiesSys Λ)} {w0:World} {n cb:Nat} {top:List Frame}
structure BSt (Λ:Lay) (fb:Nat->FuncId) (q:PR (bodiesSys Λ)) (w0:World) (n cb:Nat) (top:List Frame) (i j:Nat) (c:Cells) (w:World):Prop where
 inv:ShInv Λ c w
 fate:((bodiesSys Λ).outAt q (gh w 0)).fate = (opsGo (Λ.bo n) i j c).fate
 s:((bodiesSys Λ).outAt q (gh w 0)).s = (opsGo (Λ.bo n) i j c).s
 nts:∃ pre,((bodiesSys Λ).outAt q (gh w 0)).nts = pre ++ (opsGo (Λ.bo n) i j c).nts/\pre.length = gh w 1
 on:gh w 2 = 0
 os:w.os = w0.os
 output:w.output = w0.output
theorem BSt.to {i j i' j':Nat} {c c':Cells} {w w':World} (h:BSt Λ fb q w0 n cb top i j c w) (he:opsGo (Λ.bo n) i j c = opsGo (Λ.bo n) i' j' c') (hi:ShInv Λ c' w') (ht:w'.tape = w.tape) (ho:w'.os = w.os/\w'.output = w.output):BSt Λ fb q w0 n cb top i' j' c' w':=by
 refine ⟨hi,?_,?_,?_,?_,ho.1.trans h.os,ho.2.trans h.output⟩
 ·rw [gh_tape ht,<- he]; exact h.fate
 ·rw [gh_tape ht,<- he]; exact h.s
 ·rw [gh_tape ht,gh_tape ht,<- he]; exact h.nts
 ·rw [gh_tape ht]; exact h.on
theorem BSt.keep {i j:Nat} {c:Cells} {w w':World} (h:BSt Λ fb q w0 n cb top i j c w) (hb:Below w.heap.size w w'):BSt Λ fb q w0 n cb top i j c w' :=
 h.to rfl (h.inv.loc fun b hb'=>hb.block b (h.inv.vis hb').1) hb.tape ⟨hb.os,hb.output⟩
theorem BSt.told {i j:Nat} {c:Cells} {w:World} {f:(Nat × Nat) ⊕ Nat} (h:BSt Λ fb q w0 n cb top i j c w) (he:opsGo (Λ.bo n) i j c = ⟨c,[],f⟩):((bodiesSys Λ).cfg fb q w0 n cb top).Told w Λ.F f:=by
 obtain ⟨pre,h1,h2⟩:=h.nts
 refine ⟨h.on,?_,?_,?_,h.os,h.output⟩
 ·exact h.fate.trans (by rw [he])
 ·show gh w 1 = ((bodiesSys Λ).outAt q (gh w 0)).nts.length
  rw [h1,he,<- h2]; simp
 ·show Λ.F = Λ.F/\ShInv Λ ((bodiesSys Λ).outAt q (gh w 0)).s w
  refine ⟨rfl,?_⟩
  rw [h.s,he]; exact h.inv
theorem BSt.row {i j k:Nat} {c:Cells} {w:World} {o:OpD} (hΛ:LayOk Λ) (hn:n < Λ.m) (h:BSt Λ fb q w0 n cb top i j c w) (ho:(Λ.bo n)[k]? = some o) (x:Nat) (v:Value) (hv:(opC o)[x]? = some v):w.cell? ⟨ab (Λ.ba n),ao (Λ.ba n) + k * 10 + x,none⟩ = some v:=by
 have hl:=(List.getElem?_eq_some_iff.1 ho).1
 have:=(h.inv.ro _ (hΛ.roA n hn (by omega))).1
 rw [<- hΛ.ops n hn k o ho x v hv]
 exact (cell_of_heap (u:=Λ.wB) (u':=w) (a:=⟨ab (Λ.ba n),ao (Λ.ba n) + k * 10 + x,none⟩) this).1
theorem BSt.b1 {i j:Nat} {c:Cells} {w:World} (hΛ:LayOk Λ) (hn:n < Λ.m) (h:BSt Λ fb q w0 n cb top i j c w):BlkF w (Λ.b1 n) #[.slice (Λ.ba n) (Λ.bo n).length (Λ.bc n)] 64 (0,0):=(h.inv.ro _ (hΛ.ro1 n hn)).1.trans (hΛ.box1 n hn)
theorem BSt.b2 {i j:Nat} {c:Cells} {w:World} (hΛ:LayOk Λ) (hn:n < Λ.m) (h:BSt Λ fb q w0 n cb top i j c w):BlkF w (Λ.b2 n) #[.pointer (some ⟨Λ.sb,0,none⟩)] 32 (0,0):=(h.inv.ro _ (hΛ.ro2 n hn)).1.trans (hΛ.box2 n hn)
theorem BSt.start {u:World} {F:Nat->Prop} (hs:Starts ((bodiesSys Λ).cfg fb q w0 n cb top) ((bodiesSys Λ).beg n) u F):F = Λ.F/\BSt Λ fb q w0 n cb top 0 0 ((bodiesSys Λ).sAt q (gh u 0)) u:=by
 obtain ⟨hF,hi⟩:=hs.inv
 have ho:(bodiesSys Λ).outAt q (gh u 0) = opsGo (Λ.bo n) 0 0 ((bodiesSys Λ).sAt q (gh u 0)):=hs.out
 refine ⟨hF,hi,by rw [ho],by rw [ho],⟨[],by rw [ho]; rfl,hs.nts.symm⟩,hs.on,hs.os,hs.output⟩
theorem BSt.note {i j:Nat} {c:Cells} {w:World} {o:OpD} (h:BSt Λ fb q w0 n cb top i j c w) (ho:(Λ.bo n)[i]? = some o) (hk:o.kind = 2):((bodiesSys Λ).outAt q (gh w 0)).nts[gh w 1]? = some ⟨o.step.kind,o.text ++ digB (c (at4 o.cell))⟩ /\
  ∀ w',Grow w w'->gh w' 0 = gh w 0->gh w' 1 = gh w 1 + 1->gh w' 2 = 0->BSt Λ fb q w0 n cb top (i + 1) j c w':=by
 obtain ⟨pre,h1,h2⟩:=h.nts
 have he:=opsGo_at (j:=j) (c:=c) ho
 rw [if_neg (by omega),if_pos hk] at he
 have hn:((bodiesSys Λ).outAt q (gh w 0)).nts = pre ++ ⟨o.step.kind,o.text ++ digB (c (at4 o.cell))⟩ :: (opsGo (Λ.bo n) (i + 1) j c).nts:=by rw [h1,he]; rfl
 refine ⟨by rw [hn,<- h2]; simp,fun w' hg g0 g1 g2=>⟨h.inv.loc fun b hb=>hg.block b (h.inv.vis hb).1,?_,?_,⟨pre ++ [⟨o.step.kind,o.text ++ digB (c (at4 o.cell))⟩],?_,?_⟩,g2,hg.os.trans h.os,hg.output.trans h.output⟩⟩
 ·rw [g0,h.fate,he]; rfl
 ·rw [g0,h.s,he]; rfl
 ·rw [g0,hn]; simp
 ·rw [g1,<- h2]; simp
theorem BSt.goes {k j:Nat} {w u u2:World} {Fn F':Nat->Prop} {o:OpD} (ho:(Λ.bo n)[k]? = some o) (hg:((bodiesSys Λ).cfg fb q w0 n cb top).Goes w Fn (k,j) u F') (hos:w.os = w0.os/\w.output = w0.output)
  (hi:ShInv Λ (addC ((bodiesSys Λ).sAt q (gh u 0)) (at4 o.to) o.by_) u2) (ht:u2.tape = u.tape) (ho2:u2.os = u.os/\u2.output = u.output):BSt Λ fb q w0 n cb top (k + 1) j (addC ((bodiesSys Λ).sAt q (gh u 0)) (at4 o.to) o.by_) u2:=by
 have hout:(bodiesSys Λ).outAt q (gh u 0) = opsGo (Λ.bo n) (k + 1) j (addC ((bodiesSys Λ).sAt q (gh u 0)) (at4 o.to) o.by_):=by
  have h1:(bodiesSys Λ).outAt q (gh u 0) = (bodiesSys Λ).go n (k,j) ((bodiesSys Λ).sAt q (gh u 0)):=hg.out
  rw [h1]
  show (match (Λ.bo n)[k]? with | some o=>opsGo (Λ.bo n) (k + 1) j (addC _ (at4 o.to) o.by_) | none=>_) = _
  rw [ho]
 refine ⟨hi,?_,?_,⟨[],?_,?_⟩,?_,(ho2.1.trans hg.later.os).trans hos.1,(ho2.2.trans hg.later.output).trans hos.2⟩
 ·rw [gh_tape ht,hout]
 ·rw [gh_tape ht,hout]
 ·rw [gh_tape ht,hout]; rfl
 ·rw [gh_tape ht,hg.nts]; rfl
 ·rw [gh_tape ht]; exact hg.on
end
end Go.Vy.Sc
end
/- The closures of the law's step. -/
section
namespace Go.Vy.Sc
open Go Go.Conc Go.Yc Go.RowKit Go.Proofs Go.Proofs.Ytfmoeemolgjodaa
open Go.Vc Go.Wg
section
variable [Ctx Try.prog]
omit [Ctx Try.prog] in
theorem shc_cell {w:World} {sb k:Nat} {c:Cells} (h:Blk w sb #[.int .i64 (c 0),.int .i64 (c 1),.int .i64 (c 2),.int .i64 (c 3),.bool false,.bool false] 39) (hk:k < 4):w.cell? ⟨sb,0 + k * 1,none⟩ = some (.int .i64 (c k)):=by
 rw [Nat.zero_add,Nat.mul_one]
 exact h.cellAt k (shC_at c hk)
theorem rdy_c {sb b0 b1:Nat} (c:Cells) (o:OpD) (w0 w:World) (hb:Below w0.heap.size w0 w) (hS:BlkF w sb (shC c) 39 (0,0)) (hP:BlkF w b0 #[.pointer (some ⟨sb,0,none⟩)] 32 (0,0)) (hO:BlkF w b1 (opC o).toArray 63 (0,0)):C Try.prog 47 #[.pointer (some ⟨b0,0,none⟩),.pointer (some ⟨b1,0,none⟩)] w fun v w1=>v = .bool (decide (o.least <= c (at4 o.cell)))/\Below w0.heap.size w0 w1:=by
 refine C.enter (n:=14) Try.func47 rfl rfl ?_
 have hS:Blk w sb #[.int .i64 (c 0),.int .i64 (c 1),.int .i64 (c 2),.int .i64 (c 3),.bool false,.bool false] 39:=hS
 have hP:Blk w b0 #[.pointer (some ⟨sb,0,none⟩)] 32:=hP
 have hO:Blk w b1 #[.int .i64 o.kind,.int .i64 o.step.kind,.int .i64 o.step.obj,.int .i64 o.step.num,.bool o.free,.int .i64 o.cell,.int .i64 o.least,.int .i64 o.to,.int .i64 o.by_,.string o.text] 63:=hO
 refine W.seq ?_
 refine W.region rfl ?_
 refine L.va (x_asB rfl) ?_
 refine L.nil ?_
 show W _ _ _ _ _ _
 refine W.seq ?_
 refine W.fl 10 [3] [0,1,2,4,5,8,9,3,6,7] (fun w'=>Blk w' b0 #[.pointer (some ⟨sb,0,none⟩)] 32/\Blk w' b1 #[.int .i64 (o.kind),.int .i64 (o.step.kind),.int .i64 (o.step.obj),.int .i64 (o.step.num),.bool (o.free),.int .i64 (o.cell),.int .i64 (o.least),.int .i64 (o.to),.int .i64 (o.by_),.string (o.text)] 63/\Blk w' sb #[.int .i64 (c 0),.int .i64 (c 1),.int .i64 (c 2),.int .i64 (c 3),.bool false,.bool false] 39) (by kernel_rfl) (by kernel_rfl) (by kernel_rfl) (by kernel_rfl) (by kernel_rfl) (⟨hP.keep (Below.refl w.heap.size w).drew,hO.keep (Below.refl w.heap.size w).drew,hS.keep (Below.refl w.heap.size w).drew⟩) ?_
 have hdr:Below w.heap.size w w.drew:=(Below.refl w.heap.size w).drew
 have hb:=cl_step hb hdr
 have hP:=hP.keep hdr
 have hO:=hO.keep hdr
 have hS:=hS.keep hdr
 clear hdr
 generalize w.drew = w at *
 refine F.va rfl rfl (fun w' hw'=>(x_load rfl Try.underlying32 rfl (hw'.1.cellAt 0 (v:=.pointer (some ⟨sb,0,none⟩)) rfl))) ?_
 refine F.va rfl rfl (fun w' hw'=>(x_field rfl Try.underlying63 rfl sz3 (by decide))) ?_
 refine F.va rfl rfl (fun w' hw'=>(x_load rfl Try.underlying3 rfl (hw'.2.1.cellAt 5 (v:=.int .i64 (o.cell)) rfl))) ?_
 refine F.va rfl rfl (fun w' hw'=>(x_nilCheck rfl)) ?_
 refine F.va rfl rfl (fun w' hw'=>(x_field rfl Try.underlying39 rfl sz35 (by decide))) ?_
 refine F.va rfl rfl (fun w' hw'=>(x_field rfl Try.underlying63 rfl sz2 (by decide))) ?_
 refine F.va rfl rfl (fun w' hw'=>(x_load rfl Try.underlying2 rfl (hw'.2.1.cellAt 6 (v:=.int .i64 (o.least)) rfl))) ?_
 refine F.doo rfl rfl ?_
 refine L.call (x_call1 rfl Try.func34 rfl nm34 rfl) (at_c o.cell _) ?_
 rintro _ _ ⟨rfl,rfl⟩
 refine L.nil ⟨rfl,⟨hP,hO,hS⟩,?_⟩
 refine F.va rfl rfl (fun w' hw'=>(x_idxArr (i:=at4 o.cell) rfl rfl Try.underlying35 sz2 (at4_lt _))) ?_
 refine F.va rfl rfl (fun w' hw'=>(x_load (v:=.int .i64 (c (at4 o.cell))) rfl Try.underlying2 rfl (shc_cell hw'.2.2 (at4_lt _)))) ?_
 refine F.nil ?_
 show L _ _ _ _ _ _ _
 refine L.va (x_geq (m:=c (at4 o.cell)) (k:=o.least) rfl rfl) ?_
 refine L.va (x_asB rfl) ?_
 refine L.nil ?_
 show W _ _ _ _ _ _
 refine W.ret ?_
 repeat (first | refine T.ret ?_ | refine B.ret ?_ | refine N.ret ?_)
 refine ends.one (.inr rfl) rfl ?_
 exact ⟨rfl,hb⟩
theorem do_c {sb b0 b1:Nat} (c:Cells) (o:OpD) (w0 w:World) (hb:Below w0.heap.size w0 w) (hS:BlkF w sb (shC c) 39 (0,0)) (hP:BlkF w b0 #[.pointer (some ⟨sb,0,none⟩)] 32 (0,0)) (hO:BlkF w b1 (opC o).toArray 63 (0,0)):C Try.prog 48 #[.pointer (some ⟨b0,0,none⟩),.pointer (some ⟨b1,0,none⟩)] w fun v w1=>v = .tuple #[]/\BlkF w1 sb (shC (addC c (at4 o.to) o.by_)) 39 (0,0)/\ModS (fun b=>b = sb) w0.heap.size w0 w1:=by
 refine C.enter (n:=16) Try.func48 rfl rfl ?_
 have hS:Blk w sb #[.int .i64 (c 0),.int .i64 (c 1),.int .i64 (c 2),.int .i64 (c 3),.bool false,.bool false] 39:=hS
 have hP:Blk w b0 #[.pointer (some ⟨sb,0,none⟩)] 32:=hP
 have hO:Blk w b1 #[.int .i64 o.kind,.int .i64 o.step.kind,.int .i64 o.step.obj,.int .i64 o.step.num,.bool o.free,.int .i64 o.cell,.int .i64 o.least,.int .i64 o.to,.int .i64 o.by_,.string o.text] 63:=hO
 refine W.fl 13 [3] [0,1,2,4,5,8,9,11,12,3,6,7,10] (fun w'=>Blk w' b0 #[.pointer (some ⟨sb,0,none⟩)] 32/\Blk w' b1 #[.int .i64 (o.kind),.int .i64 (o.step.kind),.int .i64 (o.step.obj),.int .i64 (o.step.num),.bool (o.free),.int .i64 (o.cell),.int .i64 (o.least),.int .i64 (o.to),.int .i64 (o.by_),.string (o.text)] 63/\Blk w' sb #[.int .i64 (c 0),.int .i64 (c 1),.int .i64 (c 2),.int .i64 (c 3),.bool false,.bool false] 39) (by kernel_rfl) (by kernel_rfl) (by kernel_rfl) (by kernel_rfl) (by kernel_rfl) (⟨hP.keep (Below.refl w.heap.size w).drew,hO.keep (Below.refl w.heap.size w).drew,hS.keep (Below.refl w.heap.size w).drew⟩) ?_
 have hdr:Below w.heap.size w w.drew:=(Below.refl w.heap.size w).drew
 have hb:=cl_step hb hdr
 have hP:=hP.keep hdr
 have hO:=hO.keep hdr
 have hS:=hS.keep hdr
 clear hdr
 generalize w.drew = w at *
 refine F.va rfl rfl (fun w' hw'=>(x_load rfl Try.underlying32 rfl (hw'.1.cellAt 0 (v:=.pointer (some ⟨sb,0,none⟩)) rfl))) ?_
 refine F.va rfl rfl (fun w' hw'=>(x_field rfl Try.underlying63 rfl sz3 (by decide))) ?_
 refine F.va rfl rfl (fun w' hw'=>(x_load rfl Try.underlying3 rfl (hw'.2.1.cellAt 7 (v:=.int .i64 (o.to)) rfl))) ?_
 refine F.va rfl rfl (fun w' hw'=>(x_nilCheck rfl)) ?_
 refine F.va rfl rfl (fun w' hw'=>(x_field rfl Try.underlying39 rfl sz35 (by decide))) ?_
 refine F.va rfl rfl (fun w' hw'=>(x_field rfl Try.underlying63 rfl sz2 (by decide))) ?_
 refine F.va rfl rfl (fun w' hw'=>(x_load rfl Try.underlying2 rfl (hw'.2.1.cellAt 8 (v:=.int .i64 (o.by_)) rfl))) ?_
 refine F.va rfl rfl (fun w' hw'=>(x_nilCheck rfl)) ?_
 refine F.va rfl rfl (fun w' hw'=>(x_field rfl Try.underlying39 rfl sz35 (by decide))) ?_
 refine F.doo rfl rfl ?_
 refine L.call (x_call1 rfl Try.func34 rfl nm34 rfl) (at_c o.to _) ?_
 rintro _ _ ⟨rfl,rfl⟩
 refine L.nil ⟨rfl,⟨hP,hO,hS⟩,?_⟩
 refine F.va rfl rfl (fun w' hw'=>(x_idxArr (i:=at4 o.to) rfl rfl Try.underlying35 sz2 (at4_lt _))) ?_
 refine F.va rfl rfl (fun w' hw'=>(x_load (v:=.int .i64 (c (at4 o.to))) rfl Try.underlying2 rfl (shc_cell hw'.2.2 (at4_lt _)))) ?_
 refine F.va rfl rfl (fun w' hw'=>(x_add (κ:=.i64) (m:=c (at4 o.to)) (k:=o.by_) rfl rfl)) ?_
 refine F.nil ?_
 show L _ _ _ _ _ _ _
 refine L.va (x_idxArr (i:=at4 o.to) rfl rfl Try.underlying35 sz2 (at4_lt _)) ?_
 refine L.putF (b:=sb) (o:=0 + at4 o.to * 1) (f:=(0,0)) (shC (addC c (at4 o.to) o.by_)) rfl rfl rfl sz2 rfl rfl hS (by have:=at4_lt o.to; show 0 + at4 o.to * 1 + 1 <= 6; omega) (.inr (Nat.zero_le _)) (by rw [Nat.zero_add,Nat.mul_one]; exact shC_add c (at4_lt _) _) ?_
 refine L.nil ?_
 repeat (first | refine T.nrm ?_ | refine B.nrm ?_ | refine N.nrm ?_)
 refine ends.none (.inl rfl) rfl ?_
 exact ⟨rfl,setBlkF_self hS _ _ _,ModS.grown (⟨hb.os,hb.tape,hb.output,hb.size,fun k hk _=>hb.block k hk⟩:ModS (fun b=>b = sb) w0.heap.size w0 _) (setBlkF_grown _ _ _ _ _) hb.size (fun r e=>by cases e; exact .inl rfl)⟩
end
end Go.Vy.Sc
end
/- The law's step, as a client goes through it. -/
section
namespace Go.Vy.Sc
open Go Go.Conc Go.Yc Go.RowKit Go.Proofs Go.Proofs.Ytfmoeemolgjodaa
open Go.Vc Go.Wg
theorem fnIs {f:FuncId} {caps:Array Value} {fn:Func} (h1:Try.prog.funcs[f]? = some fn) (h2:fn.body.isSome = true) (h3:(fn.name == "runtime.NumGoroutine") = false):FnIs Try.prog (.func (.func f) #[] caps) f caps:=⟨rfl,fn,h1,h2,h3⟩
theorem step_p {Λ:Lay} {fb:Nat->FuncId} {q:PR (bodiesSys Λ)} {w0:World} {n cb:Nat} {top:List Frame} (hΛ:LayOk Λ) (hn:n < Λ.m) {k j:Nat} {c:Cells} {o:OpD} (ho:(Λ.bo n)[k]? = some o) (hk:o.kind = 1) (w:World) (hs:BSt Λ fb q w0 n cb top k j c w) :
  @Calls Try.prog (procCtx ((bodiesSys Λ).cfg fb q w0 n cb top)) 41 #[.pointer (some ⟨Λ.sb,0,none⟩),.pointer (some ⟨cb,0,none⟩),.agg (opC o).toArray] w (fun e u2=>match e with
   | .returned v=>v = .tuple #[]/\∃ c',BSt Λ fb q w0 n cb top (k + 1) j c' u2
   | .panicked ch=>Raised ch/\((bodiesSys Λ).cfg fb q w0 n cb top).Done u2 Λ.F (.panicked ch)
   | .outgrown=>False):=by
 letI:Ctx Try.prog:=procCtx ((bodiesSys Λ).cfg fb q w0 n cb top)
 refine Calls.enterP (n:=16) Try.func41 rfl rfl ?_
 have hi0:=hs.inv
 have hb:Below w.heap.size w w:=Below.refl _ _
 obtain ⟨wE,hwE⟩:∃ wE,wE = w:=⟨_,rfl⟩
 rw [<- hwE] at hi0
 refine W.seq ?_
 refine W.region rfl ?_
 refine L.box (cs:=#[.pointer (some (⟨Λ.sb,0,none⟩))]) rfl rfl (fun w b3 F3=>?_)
 have hb:=cl_step hb F3.below
 have hs:=hs.keep F3.below
 have hB3:=F3.blk
 refine L.box (cs:=#[.int .i64 (o.kind),.int .i64 (o.step.kind),.int .i64 (o.step.obj),.int .i64 (o.step.num),.bool (o.free),.int .i64 (o.cell),.int .i64 (o.least),.int .i64 (o.to),.int .i64 (o.by_),.string (o.text)]) rfl rfl (fun w b5 F5=>?_)
 have hb:=cl_step hb F5.below
 have hs:=hs.keep F5.below
 have hB3:=hB3.keep F5.below
 have hB5:=F5.blk
 refine L.nil ?_
 show W _ _ _ _ _ _
 refine W.seq ?_
 refine W.region rfl ?_
 refine L.va (x_makeFuncL (l:=[.tmp 3,.tmp 5]) (vs:=[.pointer (some ⟨b3,0,none⟩),.pointer (some ⟨b5,0,none⟩)]) rfl) ?_
 refine L.va (x_asF rfl) ?_
 refine L.nil ?_
 show W _ _ _ _ _ _
 refine W.seq ?_
 refine W.seq ?_
 refine W.region rfl ?_
 refine L.va (x_field rfl Try.underlying63 rfl sz4 (by decide)) ?_
 refine L.va (x_load rfl Try.underlying4 rfl (hB5.cellAt 4 (v:=.bool (o.free)) rfl)) ?_
 refine L.nil ?_
 show W _ _ _ _ _ _
 refine W.cond rfl (fun h9=>?_) (fun h9=>?_)
 ·refine W.region rfl ?_
  refine L.va x_assign ?_
  refine L.nil ?_
  show W _ _ _ _ _ _
  refine W.region rfl ?_
  refine L.va (x_mvP rfl) ?_
  refine L.va (x_field rfl Try.underlying63 rfl sz43 (by decide)) ?_
  refine L.va (x_loadAgg (cs:=[.int .i64 (o.step.kind),.int .i64 (o.step.obj),.int .i64 (o.step.num)]) rfl Try.underlying43 rfl sz43 rfl (hB5.aggAt rfl)) ?_
  refine L.va x_move ?_
  refine L.va (x_makeFuncL (l:=[.tmp 3,.tmp 5]) (vs:=[.pointer (some ⟨b3,0,none⟩),.pointer (some ⟨b5,0,none⟩)]) rfl) ?_
  have hl3:wE.heap.size <= b3:=by have:=F3.here; rw [hwE]; omega
  have hl5:wE.heap.size <= b5:=by have h1:=F5.here; have h2:=F3.below.size; rw [hwE]; omega
  have ht:=hs.told (f:=.inl (k,j)) (by rw [opsGo_at ho,if_pos hk])
  have hkeep:∀ u F',((bodiesSys Λ).cfg fb q w0 n cb top).Later w Λ.F u F'->F' = Λ.F/\ShInv Λ ((bodiesSys Λ).sAt q (gh u 0)) u/\BlkF u b3 #[.pointer (some ⟨Λ.sb,0,none⟩)] 32 (0,0)/\BlkF u b5 (opC o).toArray 63 (0,0):=fun u F' hl=>by
   obtain ⟨hF,hi⟩:=hl.inv
   refine ⟨hF,hi,(hl.keep b3 hB3.lt (blkF_ne_nothing (f:=(0,0)) (blkF_of hB3) (by show 0 < 1; decide)) (fun z=>?_)).1.trans hB3,(hl.keep b5 hB5.lt (blkF_ne_nothing (f:=(0,0)) (blkF_of hB5) (by show 0 < 10; decide)) (fun z=>?_)).1.trans hB5⟩
   ·have:=(hi0.vis z).1; omega
   ·have:=(hi0.vis z).1; omega
  have hr:((bodiesSys Λ).cfg fb q w0 n cb top).ReadyOk w Λ.F .nilFunc (k,j):=.inl ⟨rfl,fun s=>by
   show (match (Λ.bo n)[k]? with | some o=>o.free || decide (o.least <= s (at4 o.cell)) | none=>true) = true
   rw [ho]; simp [h9]⟩
  have hdo:∀ u F',((bodiesSys Λ).cfg fb q w0 n cb top).Goes w Λ.F (k,j) u F'->DoOk Try.prog (Cfg.numCtx ((bodiesSys Λ).cfg fb q w0 n cb top)) (.func (.func 48) #[] #[.pointer (some ⟨b3,0,none⟩),.pointer (some ⟨b5,0,none⟩)]) u (fun u2=>BlkF u2 Λ.sb (shC (addC ((bodiesSys Λ).sAt q (gh u 0)) (at4 o.to) o.by_)) 39 (0,0)/\ModS (fun b=>b = Λ.sb) u.heap.size u u2):=fun u F' hg=>by
   obtain ⟨hF,hi,g3,g5⟩:=hkeep u F' hg.later
   letI:Ctx Try.prog:=baseCtx Try.prog false
   exact .inr ⟨48,_,fnIs Try.func48 rfl nm48,Calls.num (C.mono (do_c _ o u u (Below.refl _ _) hi.sh g3 g5) fun v u' hv=>hv.2)⟩
  refine L.callP' rfl (x_call4 rfl rfl rfl rfl Try.func18 rfl nm18 rfl) (proc_step ht (by show _ = stepV ((((Λ.bo n)[k]?).map (·.step)).getD sp0); rw [ho]; rfl) hr (.inr ⟨_,_,fnIs Try.func48 rfl nm48⟩) _ hdo) ?_ ?_ (fun _ h=>h)
  ·rintro v u2 ⟨rfl,u,F',hg,hR,htp⟩
   obtain ⟨hF,hi,g3,g5⟩:=hkeep u F' hg.later
   refine L.nil ?_
   repeat (first | refine T.nrm ?_ | refine B.nrm ?_ | refine N.nrm ?_)
   refine ends.none (.inl rfl) rfl ⟨rfl,_,BSt.goes ho hg ⟨hs.os,hs.output⟩ ⟨hR.1,fun b hb=>?_,hi.ok.add _ _⟩ htp ⟨hR.2.os,hR.2.output⟩⟩
   have h1:=hi.ro b hb
   have h2:u2.heap[b]? = u.heap[b]?:=hR.2.block b h1.2.1 fun e=>hΛ.sep (e ▸ hb)
   exact ⟨h2.trans h1.1,Nat.lt_of_lt_of_le h1.2.1 hR.2.size,by rw [h2]; exact h1.2.2⟩
  ·rintro ch u2 ⟨hra,F',hl,h2⟩
   obtain ⟨hF,hi,g3,g5⟩:=hkeep u2 F' hl
   exact ⟨hra,hra,.inr ⟨h2,⟨rfl,hi⟩,hl.os.trans hs.os,hl.output.trans hs.output⟩⟩
 ·refine W.skip ?_
  show W _ _ _ _ _ _
  refine W.region rfl ?_
  refine L.va (x_mvP rfl) ?_
  refine L.va (x_field rfl Try.underlying63 rfl sz43 (by decide)) ?_
  refine L.va (x_loadAgg (cs:=[.int .i64 (o.step.kind),.int .i64 (o.step.obj),.int .i64 (o.step.num)]) rfl Try.underlying43 rfl sz43 rfl (hB5.aggAt rfl)) ?_
  refine L.va (x_mvF rfl) ?_
  refine L.va (x_makeFuncL (l:=[.tmp 3,.tmp 5]) (vs:=[.pointer (some ⟨b3,0,none⟩),.pointer (some ⟨b5,0,none⟩)]) rfl) ?_
  have hl3:wE.heap.size <= b3:=by have:=F3.here; rw [hwE]; omega
  have hl5:wE.heap.size <= b5:=by have h1:=F5.here; have h2:=F3.below.size; rw [hwE]; omega
  have ht:=hs.told (f:=.inl (k,j)) (by rw [opsGo_at ho,if_pos hk])
  have hkeep:∀ u F',((bodiesSys Λ).cfg fb q w0 n cb top).Later w Λ.F u F'->F' = Λ.F/\ShInv Λ ((bodiesSys Λ).sAt q (gh u 0)) u/\BlkF u b3 #[.pointer (some ⟨Λ.sb,0,none⟩)] 32 (0,0)/\BlkF u b5 (opC o).toArray 63 (0,0):=fun u F' hl=>by
   obtain ⟨hF,hi⟩:=hl.inv
   refine ⟨hF,hi,(hl.keep b3 hB3.lt (blkF_ne_nothing (f:=(0,0)) (blkF_of hB3) (by show 0 < 1; decide)) (fun z=>?_)).1.trans hB3,(hl.keep b5 hB5.lt (blkF_ne_nothing (f:=(0,0)) (blkF_of hB5) (by show 0 < 10; decide)) (fun z=>?_)).1.trans hB5⟩
   ·have:=(hi0.vis z).1; omega
   ·have:=(hi0.vis z).1; omega
  have hr:((bodiesSys Λ).cfg fb q w0 n cb top).ReadyOk w Λ.F (.func (.func 47) #[] #[.pointer (some ⟨b3,0,none⟩),.pointer (some ⟨b5,0,none⟩)]) (k,j):=.inr ⟨47,_,fnIs Try.func47 rfl nm47,fun u F' hl=>by
   obtain ⟨hF,hi,g3,g5⟩:=hkeep u F' hl
   letI:Ctx Try.prog:=baseCtx Try.prog true
   refine C.mono (rdy_c _ o u u (Below.refl _ _) hi.sh g3 g5) fun v u' hv=>⟨?_,hv.2⟩
   rw [hv.1]; show _ = Value.bool (match (Λ.bo n)[k]? with | some o=>o.free || decide (o.least <= _) | none=>true)
   rw [ho]; simp [h9]; rfl⟩
  have hdo:∀ u F',((bodiesSys Λ).cfg fb q w0 n cb top).Goes w Λ.F (k,j) u F'->DoOk Try.prog (Cfg.numCtx ((bodiesSys Λ).cfg fb q w0 n cb top)) (.func (.func 48) #[] #[.pointer (some ⟨b3,0,none⟩),.pointer (some ⟨b5,0,none⟩)]) u (fun u2=>BlkF u2 Λ.sb (shC (addC ((bodiesSys Λ).sAt q (gh u 0)) (at4 o.to) o.by_)) 39 (0,0)/\ModS (fun b=>b = Λ.sb) u.heap.size u u2):=fun u F' hg=>by
   obtain ⟨hF,hi,g3,g5⟩:=hkeep u F' hg.later
   letI:Ctx Try.prog:=baseCtx Try.prog false
   exact .inr ⟨48,_,fnIs Try.func48 rfl nm48,Calls.num (C.mono (do_c _ o u u (Below.refl _ _) hi.sh g3 g5) fun v u' hv=>hv.2)⟩
  refine L.callP' rfl (x_call4 rfl rfl rfl rfl Try.func18 rfl nm18 rfl) (proc_step ht (by show _ = stepV ((((Λ.bo n)[k]?).map (·.step)).getD sp0); rw [ho]; rfl) hr (.inr ⟨_,_,fnIs Try.func48 rfl nm48⟩) _ hdo) ?_ ?_ (fun _ h=>h)
  ·rintro v u2 ⟨rfl,u,F',hg,hR,htp⟩
   obtain ⟨hF,hi,g3,g5⟩:=hkeep u F' hg.later
   refine L.nil ?_
   repeat (first | refine T.nrm ?_ | refine B.nrm ?_ | refine N.nrm ?_)
   refine ends.none (.inl rfl) rfl ⟨rfl,_,BSt.goes ho hg ⟨hs.os,hs.output⟩ ⟨hR.1,fun b hb=>?_,hi.ok.add _ _⟩ htp ⟨hR.2.os,hR.2.output⟩⟩
   have h1:=hi.ro b hb
   have h2:u2.heap[b]? = u.heap[b]?:=hR.2.block b h1.2.1 fun e=>hΛ.sep (e ▸ hb)
   exact ⟨h2.trans h1.1,Nat.lt_of_lt_of_le h1.2.1 hR.2.size,by rw [h2]; exact h1.2.2⟩
  ·rintro ch u2 ⟨hra,F',hl,h2⟩
   obtain ⟨hF,hi,g3,g5⟩:=hkeep u2 F' hl
   exact ⟨hra,hra,.inr ⟨h2,⟨rfl,hi⟩,hl.os.trans hs.os,hl.output.trans hs.output⟩⟩
end Go.Vy.Sc
end
