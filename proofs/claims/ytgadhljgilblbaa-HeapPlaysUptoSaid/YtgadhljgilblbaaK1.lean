/- What the claim leans on, part 1. Laws. -/
import Derived.Conc.TokenTrace
import GoSem.Claim
import Derived.Below
import Derived.Conc.Token
import Derived.Conc.Listed
import Derived.Orders
import Derived.Deep.LoopGhost
import Derived.Conc.CompanyDraw
import GoSem.Dispatch
set_option linter.unusedVariables false
namespace Go
structure B(Q:Prop):Prop where
  v:Q
section
variable{P Q:Prop}
theorem U416(h:P:=by refine T.nrm ?_;exact⟨_,by omega,⟨{M with now:=M.now.set i (⟨c9,none,0⟩:Dc),la:=r6 M.la i a9,lc:=r6 M.lc i c8,ta:=ta9,tc:=tc9,s:=P4 i M.s c9,W9:=M.W9.set i (q+1)},q+1,rfl,rfl,rfl,hR,(hI.pass ho (⟨c9,none,0⟩:Dc) hco h0 (hz9.2 h0) a9 c8 ta9 tc9),hkt⟩⟩):P:=h
theorem U31(h:P:=by refine U33 ?_;exact⟨rfl,hb⟩):P:=h
theorem U207(h:P:=by refine AtR.leaveD (I0 _) rfl Try.func111 rfl hcm ?_;exact QuitsD.mono hT (by omega)):P:=h
theorem U426(h:P:=by refine T.nrm ?_;exact⟨_,by omega,⟨i+1,a2,q+1,cp2,rfl,rfl,rfl,rfl,rfl,rfl,rfl,(by omega),(by rw[hrl,List.length_append,hq];rfl),(by rw[hrl,List.map_append];simpa [La0,hc]using H8),hb⟩⟩):P:=h
theorem U432(h:P:=by rw[hm.hit j p t hp hd (R6 j hj)];exact(rp0 e0 ops.toList vals t j p (by rw[hlz];exact hp) hd (fun i' p' hp' O5=>h.one i' j p' p t (by rw[<- hlz];exact hp') hp O5 hd) _ hj).symm):P:=h
theorem U323(h:P:=by refine U39 ?_;exact⟨_,by omega,⟨i+1,rfl,rfl,rfl,rfl,(by omega),h1,h2,hB2,C1,hb⟩⟩):P:=h
theorem U482(h:P:=by refine T.nrm ?_;exact⟨_,by omega,⟨i+1,a,q,cp,rfl,rfl,rfl,rfl,rfl,rfl,rfl,(by omega),(by rw[hrl];exact hq),(by rw[hrl];exact hO),hb⟩⟩):P:=h
theorem U118(h:P:=by refine U33 ?_;exact⟨rfl,rfl⟩):P:=h
theorem U517(h:P:=by refine ZA.done hZ ?_;exact ZA.leaves (fn:=Try.f97) (f:=97) rfl func97 rfl (fun fr h8 h9=>hK _ fr h2 h8 h9)):P:=h
theorem U523(h:P:=by refine ends.cell (cs:=#[.i 9,.i 5,.i num]) (.inr rfl) rfl rfl underlying77 rfl k8 B1 ?_;exact⟨rfl,hb⟩):P:=h
theorem U524(h:P:=by refine ends.cell (cs:=#[.i 8,.i 5,.i num]) (.inr rfl) rfl rfl underlying77 rfl k8 B1 ?_;exact⟨rfl,hb⟩):P:=h
theorem U528(h:P:=by refine ends.cell (cs:=#[.i 8,.i 5,.i 0]) (.inr rfl) rfl rfl underlying77 rfl k8 B1 ?_;exact⟨rfl,hb⟩):P:=h
theorem U529(h:P:=by refine ends.cell (cs:=#[.i 9,.i 5,.i 0]) (.inr rfl) rfl rfl underlying77 rfl k8 B1 ?_;exact⟨rfl,hb⟩):P:=h
theorem U555(h:P:=by have hZ':Ctx.Zs prog (Fin prog Post {X' with pend:=0,cap:=0,dn:=0} 0):=j6;refine ZA.back (di0 prog Post {X' with pend:=0,cap:=0,dn:=0} 0) (i:=1) rfl rfl ha h9 ?_;exact Ru0 hE hT hJ' (by rw[<- hrb];rfl) rfl):P:=h
theorem U568(h:P:=by(repeat(first|refine T.ret ?_|refine B.ret ?_|refine N.ret ?_));refine ends.none (.inr rfl) rfl ?_;exact⟨rfl,_,hR,hI.stop ho (⟨c9,none,0⟩:Dc) hco (by show c9.at_≠0;omega)⟩):P:=h
theorem U595(h:P:=by rw[<- hv];exact next w (hl (fun j=>listed.getD j false) w hDi hVD ai0 hJ)):P:=h
theorem U627(h:P:=by refine AtR.Kg0 n1 rfl Try.func81 rfl ?_;exact Kh0 hK):P:=h
theorem U629(h:P:=by rw[hs];exact⟨w'.heap.size,upd_same _ _ _,F.blk,hI.hb.size⟩):P:=h
theorem U631(h:P:=by refine AtR.Kg0 T2 rfl Try.func83 rfl ?_;exact Xz0 hK):P:=h
theorem U647(h:P:=by refine U44 ?_;exact⟨rfl,u0,F',⟨hK,X9⟩,hCn,N3⟩):P:=h
variable(k:Q)
include k
theorem U0(h:Q->P:=by intro O;refine W.seq ?_;exact W.region rfl O):P:=h k
theorem U1(h:Q->P:=by intro O;refine L.nil ?_;show W _ _ _ _ _ _;exact O):P:=h k
theorem U43(h:Q->P:=by intro O;refine W.ret ?_;(repeat(first|refine T.ret ?_|refine B.ret ?_|refine N.ret ?_));exact O):P:=h k
theorem U12(h:Q->P:=by intro O;refine L.va (ir0 rfl) ?_;exact U1 O):P:=h k
theorem U3(h:Q->P:=by intro O;refine U0 ?_;exact L.va (Y3 rfl) O):P:=h k
theorem U24(h:Q->P:=by intro O;refine F.va rfl rfl (fun w' J0=>(Y3 rfl)) ?_;exact F.va rfl rfl (fun w' J0=>(K1 rfl)) O):P:=h k
theorem U183(h:Q->P:=by intro O;refine W.seq ?_;exact W.quiet (fun w'=>Below w.heap.size w w') (by kernel_rfl) (by kernel_rfl) ((Below.refl w.heap.size w).drew) O):P:=h k
theorem U6(h:Q->P:=by intro O;refine D.va (fun w' J0=>(Y3 rfl)) ?_;exact D.va (fun w' J0=>(K1 rfl)) O):P:=h k
theorem U184(h:Q->P:=by intro O;have hM:V0 w M.wb #[.p M.hb,.slice ba p.m bc,.slice (pt M.pb) p.m p.m,.slice (pt M.nb) p.m p.m,.slice M.ta M.s.N0.length M.tc,.slice (pt M.gb) p.m p.m] 54:=hR.hW;have I8:V0 w M.rb #[.slice M.ea M.evs.length M.ec,.slice none 0 0,.slice (pt M.eb) p.m p.m,.slice (pt M.xb) p.m p.m,.bool false,.i (M.used:Int)] 40:=hR.hR;revert hM I8;exact O):P:=h k
theorem U185(h:Q->P:=by intro O;refine T.nrm ?_;show ZA _ _ _ _ _ _ _;exact O):P:=h k
theorem U5(h:Q->P:=by intro O;refine L.va (gj0 rfl) ?_;exact U1 O):P:=h k
theorem U44(h:Q->P:=by intro O;(repeat(first|refine T.nrm ?_|refine B.nrm ?_|refine N.nrm ?_));exact ends.none (.inl rfl) rfl O):P:=h k
theorem U186(h:Q->P:=by intro O;refine ZA.W hZ hb ?_;exact W.region rfl O):P:=h k
theorem U270(h:Q->P:=by intro O;refine FP.va rfl rfl (fun w' J0=>(Y3 rfl)) ?_;exact FP.va rfl rfl (fun w' J0=>(K1 rfl)) O):P:=h k
theorem U81(h:Q->P:=by intro O;refine W.skip ?_;show W _ _ _ _ _ _;exact O):P:=h k
theorem U17(h:Q->P:=by intro O;refine W.seq ?_;exact U0 O):P:=h k
theorem U394(h:Q->P:=by intro O;refine D.va (fun w' J0=>(B0 rfl underlying106 rfl ((hA.j0 J0).q0 0 (v:=.p c.cb) rfl))) ?_;exact D.va (fun w' J0=>(K1 rfl)) O):P:=h k
theorem U95(h:Q->P:=by intro O;have C1:=F3.blk;refine L.alloc (cs:=#[.i 0,.i 0,.i 0,.i 0,.i 0,.slice none 0 0,.i 0,.i 0,.i 0,.i 0,.bool false]) Kl0 rfl (fun w b4 F4=>?_);revert C1 w b4 F4;exact O):P:=h k
theorem U131(h:Q->P:=by intro O;refine U12 ?_;exact W.G5 rfl O):P:=h k
theorem U132(h:Q->P:=by intro O;(repeat(first|refine T.exit ?_|refine N.exit ?_|refine B.Xj0 (by decide) ?_));exact B.Xi0 O):P:=h k
theorem U7(h:Q->P:=by intro O;have hb:Below w0.heap.size w0 w0:=Below.refl _ _;refine U0 ?_;revert hb;exact O):P:=h k
theorem U62(h:Q->P:=by intro O;refine L.off rfl ?_;exact L.off rfl O):P:=h k
theorem U54(h:Q->P:=by intro O;refine L.va (K1 rfl) ?_;exact L.va (E0 rfl underlying197 rfl sz4 (by decide)) O):P:=h k
theorem U2(h:Q->P:=by intro O;refine L.nil ?_;exact U185 O):P:=h k
theorem U23(h:Q->P:=by intro O;refine L.va (v7 rfl) ?_;exact L.on rfl O):P:=h k
theorem U271(h:Q->P:=by intro O;refine S0.off (I0 _) rfl rfl ?_;exact S0.off (I0 _) rfl rfl O):P:=h k
theorem U187(h:Q->P:=by intro O;refine D.va (fun w' J0=>(E0 rfl underlying113 rfl gn0 (by decide))) ?_;exact D.va (fun w' J0=>(B0 rfl underlying111 rfl ((hH.j0 J0).q0 2 (v:=.slice Lx.na H.Y0.length Lx.nc) rfl))) O):P:=h k
theorem U188(h:Q->P:=by intro O;refine At.seq (I0 _) ?_;exact At.region (I0 _) O):P:=h k
theorem U33(h:Q->P:=by intro O;refine U43 ?_;exact ends.one (.inr rfl) rfl O):P:=h k
theorem U34(h:Q->P:=by intro O;refine B.nrm ?_;show W _ _ _ _ _ _;exact O):P:=h k
theorem U8(h:Q->P:=by intro O;refine ZA.seq hZ ?_;exact U186 O):P:=h k
theorem U14(h:Q->P:=by intro O;refine U3 ?_;exact L.va (K1 rfl) O):P:=h k
theorem U189(h:Q->P:=by intro O;refine FP.va rfl rfl (fun w' J0=>u4 (i:=i) rfl rfl underlying45 nt0 (fun _=>rfl) him) ?_;exact FP.va rfl rfl (fun w' J0=>B0 (v:=.slice (r1.la i) (s1.log i).length (r1.lc i)) rfl underlying50 rfl (by show World.cell? w' ⟨p.l7,0+i*1,none⟩=_;rw[Nat.zero_add,Nat.mul_one];exact V0.q0 J0.2.1 i (P6 him))) O):P:=h k
theorem U82(h:Q->P:=by intro O;refine W.G5 rfl ?_;exact U81 O):P:=h k
theorem U395(h:Q->P:=by intro O;refine L.va (B0 rfl underlying29 rfl (hC.q0 2 (v:=.p wb) rfl)) ?_;exact L.call (X4 rfl func74 rfl kz1 rfl) (Mq0 wb w hW) O):P:=h k
theorem U9(h:Q->P:=by intro O;refine L.va (lc0 rfl) ?_;exact U1 O):P:=h k
theorem U396(h:B Q->P:=by intro O;refine L.va (K2 rfl) ?_;exact L.va (gk0 rfl rfl (by omega)) O.1):P:=h ⟨k⟩
theorem U45(h:Q->P:=by intro O;refine L.va (Y3 rfl) ?_;exact L.va (K1 rfl) O):P:=h k
theorem U272(h:Q->P:=by intro O;refine U271 ?_;exact S0.val (I0 _) (P1 _) rfl (v:=.bool false) (cx0 rfl rfl) O):P:=h k
theorem U273(h:Q->P:=by intro O;refine W.region rfl ?_;exact L.va (E0 rfl underlying117 rfl c5 (by decide)) O):P:=h k
theorem U397(h:Q->P:=by intro O;refine L.va (Q0 (cs:=[.i obj,.i num]) rfl underlying133 rfl us0 rfl (hC.B4 rfl)) ?_;exact L.va (Y3 rfl) O):P:=h k
theorem U133(h:Q->P:=by intro O;have Y1:=F1.E5 B1 hg;have hb:=G4 hb hb.size hg lt4;revert Y1 hb;exact O):P:=h k
theorem U190(h:Q->P:=by intro O;refine L.va (E0 rfl underlying95 rfl Yj0 (by decide)) ?_;exact L.va (B0 rfl underlying85 rfl (hH.q0 3 (v:=.p pb) rfl)) O):P:=h k
theorem U11(h:Q->P:=by intro O;exact U1 O):P:=h k
theorem U27(h:Q->P:=by intro O;refine L.va (K2 rfl) ?_;exact L.on rfl O):P:=h k
theorem U25(h:Q->P:=by intro O;refine L.va (O6 rfl) ?_;exact L.nil O):P:=h k
theorem U398(h:Q->P:=by intro O;refine W.fp 17 [15,16] [] [0,1,2,3,4,5,6,7,8,9,10,11,12,13,14,15,16] (fun ch u=>z7 ch/\P8 (A3 p fb q p5 i cb top) w0 u) (fun w'=>V0 w' p.pk #[.slice none 0 0,.slice none 0 0,.slice none 0 0,.slice none 0 0,.bool false,.i 0,.p p.hp,.slice (pt p.l7) p.m p.m,.slice r2.ta s2.N0.length r2.tc] 48/\V0 w' p.l7 (arr p.m fun j=>.slice (r2.la j) (s2.log j).length (r2.lc j)) 50/\V0 w' b6 #[.i c2.tn,.i c2.tg,.i c2.e,.i 0,.bool false] 122) (by kernel_rfl) (by kernel_rfl) (by kernel_rfl) (by kernel_rfl) (by kernel_rfl) (by kernel_rfl) (fun _ _ _ h=>h) (⟨hK.j0 (Below.refl w.heap.size w).drew,hG.j0 (Below.refl w.heap.size w).drew,O2.j0 (Below.refl w.heap.size w).drew⟩) ?_;have Y2:Below w.heap.size w w.drew:=(Below.refl w.heap.size w).drew;revert Y2;exact O):P:=h k
theorem U399(h:Q->P:=by intro O;refine W.fp 17 [15,16] [] [0,1,2,3,4,5,6,7,8,9,10,11,12,13,14,15,16] (fun ch u=>z7 ch/\P8 (A3 p fb q p5 i cb top) w0 u) (fun w'=>V0 w' p.pk #[.slice none 0 0,.slice none 0 0,.slice none 0 0,.slice none 0 0,.bool false,.i 0,.p p.hp,.slice (pt p.l7) p.m p.m,.slice r1.ta s1.N0.length r1.tc] 48/\V0 w' p.l7 (arr p.m fun j=>.slice (r1.la j) (s1.log j).length (r1.lc j)) 50/\V0 w' b6 #[.i c2.tn,.i c2.tg,.i c2.e,.i 0,.bool false] 122) (by kernel_rfl) (by kernel_rfl) (by kernel_rfl) (by kernel_rfl) (by kernel_rfl) (by kernel_rfl) (fun _ _ _ h=>h) (⟨hK.j0 (Below.refl w.heap.size w).drew,hG.j0 (Below.refl w.heap.size w).drew,O2.j0 (Below.refl w.heap.size w).drew⟩) ?_;have Y2:Below w.heap.size w w.drew:=(Below.refl w.heap.size w).drew;revert Y2;exact O):P:=h k
theorem U400(h:Q->P:=by intro O;refine S0.nil (I0 _) ?_;exact At.G5 (I0 _) rfl O):P:=h k
theorem U41(h:Q->P:=by intro O;refine L.va (w7 rfl) ?_;exact L.va (V4 rfl underlying23 rfl) O):P:=h k
theorem U134(h:Q->P:=by intro O;refine S0.val (I0 _) (P1 _) rfl (v:=.bool false) (N8 (r:=false) rfl rfl (by decide)) ?_;exact S0.val (I0 _) (P1 _) rfl (v:=.bool false) (P0 rfl) O):P:=h k
theorem U20(h:Q->P:=by intro O;refine U0 ?_;exact L.va (K2 rfl) O):P:=h k
theorem U55(h:Q->P:=by intro O;refine L.va (e7 rfl) ?_;exact L.nil O):P:=h k
theorem U15(h:Q->P:=by intro O;refine F.nil ?_;show L _ _ _ _ _ _ _;exact O):P:=h k
theorem U274(h:Q->P:=by intro O;have hM:V0 w M.wb #[.p M.hb,.slice ba p.m bc,.slice (pt M.pb) p.m p.m,.slice (pt M.nb) p.m p.m,.slice M.ta M.s.N0.length M.tc,.slice (pt M.gb) p.m p.m] 54:=hR.hW;have I8:V0 w M.rb #[.slice wi0 (M.evs ++ [(i,D3 5 l.2)]).length wj0,.slice none 0 0,.slice (pt M.eb) p.m p.m,.slice (pt M.xb) p.m p.m,.bool false,.i ((M.used+1:Nat):Int)] 40:=hR.hR;revert hM I8;exact O):P:=h k
theorem U275(h:Q->P:=by intro O;refine L.va (E0 rfl underlying82 rfl c5 (by decide)) ?_;exact L.va (B0 rfl underlying3 rfl (C1.q0 0 (v:=.i rn) rfl)) O):P:=h k
theorem U276(h:Q->P:=by intro O;refine L.va (E0 rfl underlying113 rfl O8 (by decide)) ?_;exact L.va (B0 rfl underlying23 rfl (hH.q0 3 (v:=.slice Lx.pa H.pool.length Lx.pc) rfl)) O):P:=h k
theorem U277(h:Q->P:=by intro O;refine D.off rfl ?_;exact D.off rfl O):P:=h k
theorem U401(h:Q->P:=by intro O;have Y2:Below w.heap.size w w.drew:=(Below.refl w.heap.size w).drew;have hR:=hR.j0 Y2;revert Y2 hR;exact O):P:=h k
theorem U63(h:Q->P:=by intro O;have lt3:=F3.lq hb.size;have hb:=O0 hb F3.below;revert lt3 hb;exact O):P:=h k
theorem U278(h:Q->P:=by intro O;refine At.seq n1 ?_;exact At.region n1 O):P:=h k
theorem U135(h:Q->P:=by intro O;refine L.va (E0 rfl underlying95 rfl ed1 (by decide)) ?_;exact L.call (X4 rfl func49 rfl eq1 rfl) (Ew0 hp Ly.lb _ _ _ _ _ _ hH hL) O):P:=h k
theorem U191(h:Q->P:=by intro O;refine D.va (fun w' J0=>(E0 rfl underlying162 rfl Vj0 (by decide))) ?_;exact D.va (fun w' J0=>(B0 rfl underlying151 rfl ((hg.m.run.j0 J0).q0 7 (v:=.chan (some R.yb)) rfl))) O):P:=h k
theorem U402(h:Q->P:=by intro O;refine S0.val B3 (P1 _) rfl (v:=.pointer (some ⟨gr.blk,gr.off,none⟩)) (P0 rfl) ?_;exact S0.val B3 (P1 _) rfl (v:=.pointer (some ⟨gr.blk,gr.off,none⟩)) (l5 rfl) O):P:=h k
theorem U192(h:Q->P:=by intro O;refine U1 ?_;exact W.block O):P:=h k
theorem U403(h:B Q->P:=by intro O;refine L.va (gk0 rfl rfl (by omega)) ?_;exact L.va (K2 rfl) O.1):P:=h ⟨k⟩
theorem U193(h:Q->P:=by intro O;refine U24 ?_;exact F.va rfl rfl (fun w' J0=>(E0 rfl underlying54 rfl Yh0 (by decide))) O):P:=h k
theorem U404(h:Q->P:=by intro O;refine W.fp 8 [6,7] [] [0,1,2,3,4,5,6,7] (fun ch u=>z7 ch/\P8 (A3 p fb q p5 i cb top) w0 u) (fun w'=>V0 w' p.pk #[.slice none 0 0,.slice none 0 0,.slice none 0 0,.slice none 0 0,.bool false,.i 0,.p p.hp,.slice (pt p.l7) p.m p.m,.slice r1.ta s1.N0.length r1.tc] 48/\V0 w' b7 #[.i c2.tn,.i c2.tg] 82) (by kernel_rfl) (by kernel_rfl) (by kernel_rfl) (by kernel_rfl) (by kernel_rfl) (by kernel_rfl) (fun _ _ _ h=>h) (⟨hK.j0 (Below.refl w.heap.size w).drew,hB7.j0 (Below.refl w.heap.size w).drew⟩) ?_;have Y2:Below w.heap.size w w.drew:=(Below.refl w.heap.size w).drew;revert Y2;exact O):P:=h k
theorem U194(h:Q->P:=by intro O;refine At.seq (u1 _ gr 2) ?_;exact At.region (u1 _ gr 2) O):P:=h k
theorem U195(h:Q->P:=by intro O;refine S0.off n1 rfl rfl ?_;exact S0.off n1 rfl rfl O):P:=h k
theorem U28(h:Q->P:=by intro O;refine L.va (nc0 rfl) ?_;exact U1 O):P:=h k
theorem U18(h:Q->P:=by intro O;refine U17 ?_;exact L.va (K2 rfl) O):P:=h k
theorem U196(h:Q->P:=by intro O;refine FP.va rfl rfl (fun w' J0=>(Q0 (cs:=[.i c2.tn,.i c2.tg,.i c2.e,.i 0,.bool false]) rfl underlying122 rfl ee0 rfl (J0.2.2.B4 rfl))) ?_;exact FP.A9 rfl rfl O):P:=h k
theorem U279(h:Q->P:=by intro O;refine L.va (Q0 (cs:=[.i 0,.i num,.i rn,.i rg,.i val,.slice a seen.length sk,.i tn,.i tg,.i er,.i x,.bool true]) rfl underlying117 rfl X2 rfl (C1.B4 rfl)) ?_;refine L.pa [.i 0,.i num,.i rn,.i rg,.i val,.slice a seen.length sk,.i tn,.i tg,.i er,.i x,.bool true] X2 B1 (fun w G0 hg A2=>?_);revert w G0 hg A2;exact O):P:=h k
theorem U136(h:Q->P:=by intro O;refine At.seq (I0 _) ?_;exact U188 O):P:=h k
theorem U83(h:Q->P:=by intro O;refine L.va (Y3 rfl) ?_;exact L.va (K2 rfl) O):P:=h k
theorem U405(h:Q->P:=by intro O;refine L.va (gj0 rfl) ?_;exact L.nil O):P:=h k
theorem U406(h:Q->P:=by intro O;refine U34 ?_;exact W.region rfl O):P:=h k
theorem U280(h:Q->P:=by intro O;refine S0.val n1 (P1 _) rfl (v:=.bool false) (N8 (r:=false) rfl rfl (by decide)) ?_;exact S0.val n1 (P1 _) rfl (v:=.bool false) (P0 rfl) O):P:=h k
theorem U407(h:Q->P:=by intro O;refine L.va (Q5 rfl rfl underlying140) ?_;exact U1 O):P:=h k
theorem U197(h:Q->P:=by intro O;refine W.seq ?_;exact U3 O):P:=h k
theorem U137(h:Q->P:=by intro O;refine D.va (fun w' J0=>(Y3 rfl)) ?_;exact D.on rfl O):P:=h k
theorem U96(h:Q->P:=by intro O;have hm:=hm.step D1 (Nat.le_trans J5 hm.size);have hH:=hH.j0 D1;revert hm hH;exact O):P:=h k
theorem U16(h:Q->P:=by intro O;refine U131 ?_;exact W.region rfl O):P:=h k
theorem U4(h:Q->P:=by intro O;refine U131 ?_;exact U0 O):P:=h k
theorem U138(h:Q->P:=by intro O;refine L.va (K1 rfl) ?_;exact L.va (E0 rfl underlying162 rfl da0 (by decide)) O):P:=h k
theorem U46(h:Q->P:=by intro O;refine L.va (gj0 rfl) ?_;exact U12 O):P:=h k
theorem U21(h:Q->P:=by intro O;refine L.va (Dr0 rfl) ?_;refine L.va (am0 rfl rfl) ?_;exact L.va (am0 rfl rfl) O):P:=h k
theorem U198(h:Q->P:=by intro O;show L _ _ _ _ _ _ _;exact L.va (u4 (i:=i) rfl rfl underlying45 nt0 (fun _=>rfl) him) O):P:=h k
theorem U35(h:Q->P:=by intro O;refine U11 ?_;exact U43 O):P:=h k
theorem U408(h:Q->P:=by intro O;refine L.va (E0 rfl underlying82 rfl c5 (by decide)) ?_;exact L.va (B0 rfl underlying3 rfl (j3.q0 0 (v:=.i ((i:Nat)+1)) rfl)) O):P:=h k
theorem U281(h:Q->P:=by intro O;refine F.va rfl rfl (fun w' J0=>(E0 rfl underlying54 rfl Bl0 (by decide))) ?_;exact F.va rfl rfl (fun w' J0=>(B0 rfl underlying46 rfl (J0.1.q0 4 (v:=.slice M.ta M.s.N0.length M.tc) rfl))) O):P:=h k
theorem U22(h:Q->P:=by intro O;show W _ _ _ _ _ _;exact O):P:=h k
theorem U199(h:Q->P:=by intro O;refine U394 ?_;exact D.va (fun w' J0=>(E0 rfl underlying197 rfl Ko0 (by decide))) O):P:=h k
theorem U200(h:Q->P:=by intro O;refine L.Q7 (cs:=#[.i c2.tn,.i c2.tg,.i c2.e,.i 0,.bool false]) rfl rfl underlying50 ee0 rfl ⟨_,ur0⟩ (by decide) (fun w b90 F90=>?_);have Cy0:=Nat.le_refl w.heap.size;revert w b90 F90 Cy0;exact O):P:=h k
theorem U97(h:Q->P:=by intro O;refine U43 ?_;exact ends.two (.inr rfl) rfl O):P:=h k
theorem U29(h:Q->P:=by intro O;refine L.va (is0 rfl rfl) ?_;exact U1 O):P:=h k
theorem U201(h:Q->P:=by intro O;refine U394 ?_;exact D.va (fun w' J0=>(E0 rfl underlying197 rfl c5 (by decide))) O):P:=h k
theorem U98(h:Q->P:=by intro O;refine L.va (B0 rfl underlying106 rfl (hA.q0 0 (v:=.p c.cb) rfl)) ?_;exact U54 O):P:=h k
theorem U202(h:Q->P:=by intro O;refine L.va (E0 rfl underlying84 rfl c5 (by decide)) ?_;exact L.va (B0 rfl underlying3 rfl (j3.q0 0 (v:=.i o.kind) rfl)) O):P:=h k
theorem U282(h:Q->P:=by intro O;refine U400 ?_;exact At.skip (I0 _) O):P:=h k
theorem U409(h:Q->P:=by intro O;refine L.va (E0 rfl underlying117 rfl c5 (by decide)) ?_;exact L.va (B0 rfl underlying3 rfl (C1.q0 1 (v:=.i num) rfl)) O):P:=h k
theorem U99(h:Q->P:=by intro O;refine U195 ?_;exact S0.val n1 (P1 _) rfl (v:=.bool false) (cx0 rfl rfl) O):P:=h k
theorem U283(h:Q->P:=by intro O;have hD:=hD.j0 F4.below;have C1:=C1.j0 F4.below;revert hD C1;exact O):P:=h k
theorem U100(h:Q->P:=by intro O;refine D.va (fun w' J0=>(w7 rfl)) ?_;exact D.va (fun w' J0=>(K2 rfl)) O):P:=h k
theorem U64(h:Q->P:=by intro O;refine U12 ?_;exact W.Y5 rfl O):P:=h k
theorem U65(h:Q->P:=by intro O;refine L.va (e7 rfl) ?_;exact U23 O):P:=h k
theorem U56(h:Q->P:=by intro O;refine L.va (w7 rfl) ?_;exact L.va (K2 rfl) O):P:=h k
theorem U47(h:Q->P:=by intro O;refine L.va (S1 rfl rfl) ?_;exact U12 O):P:=h k
theorem U66(h:Q->P:=by intro O;refine At.seq T2 ?_;exact At.region T2 O):P:=h k
theorem U48(h:Q->P:=by intro O;exact L.nil O):P:=h k
theorem U410(h:Q->P:=by intro O;refine D.va (fun w' J0=>(E0 rfl underlying117 rfl c5 (by decide))) ?_;exact D.va (fun w' J0=>(B0 rfl underlying3 rfl ((C1.j0 J0).q0 1 (v:=.i ((i:Nat)+1)) rfl))) O):P:=h k
theorem U284(h:Q->P:=by intro O;refine L.va (E0 rfl underlying113 rfl O8 (by decide)) ?_;refine L.pu 3 [.slice a3 (0+seen.length+1) c3] #[.i 5,.i most,.slice Lx.na H.Y0.length Lx.nc,.slice a3 (0+seen.length+1) c3] O8 hH (fun w G0 hg A2=>?_);revert w G0 hg A2;exact O):P:=h k
theorem U285(h:Q->P:=by intro O;refine F.va rfl rfl (fun w' J0=>(E0 rfl underlying117 rfl c5 (by decide))) ?_;exact F.va rfl rfl (fun w' J0=>(B0 rfl underlying3 rfl (J0.q0 1 (v:=.i num) rfl))) O):P:=h k
theorem U411(h:Q->P:=by intro O;have hN9:V0 w M.nb (Mx.now M |>.flatMap dcC).toArray 117:=hR.hN;refine W.fl 9 [8] [0,1,2,3,4,5,6,7,8] (fun w'=>V0 w' M.rb #[.slice M.ea M.evs.length M.ec,.slice none 0 0,.slice (pt M.eb) p.m p.m,.slice (pt M.xb) p.m p.m,.bool false,.i (M.used:Int)] 40) (by kernel_rfl) (by kernel_rfl) (by kernel_rfl) (by kernel_rfl) (by kernel_rfl) (I8.j0 (Below.refl w.heap.size w).drew) ?_;revert hN9;exact O):P:=h k
theorem U36(h:Q->P:=by intro O;refine U8 ?_;exact L.va (Y3 rfl) O):P:=h k
theorem U412(h:Q->P:=by intro O;refine F.va rfl rfl (fun w' J0=>(Q0 (cs:=[.i o.kind,.i o.val,.i o.u5,.i o.rn,.i o.rg]) rfl underlying84 rfl up0 rfl (J0.2.B4 rfl))) ?_;exact F.A9 rfl rfl O):P:=h k
theorem U286(h:Q->P:=by intro O;refine U35 ?_;exact ends.cell (cs:=#[.i 0,.i num,.i rn,.i rg,.i val,.slice a seen.length sk,.i tn,.i tg,.i er,.i x,.bool true]) (.inr rfl) rfl rfl underlying117 rfl X2 B1 O):P:=h k
theorem U413(h:Q->P:=by intro O;refine FP.va rfl rfl (fun w' J0=>u4 (i:=i) rfl rfl underlying45 nt0 (fun _=>rfl) him) ?_;exact FP.va rfl rfl (fun w' J0=>B0 (v:=.slice (r2.la i) (s2.log i).length (r2.lc i)) rfl underlying50 rfl (by show World.cell? w' ⟨p.l7,0+i*1,none⟩=_;rw[Nat.zero_add,Nat.mul_one];exact V0.q0 J0.2.1 i (P6 him))) O):P:=h k
theorem U287(h:Q->P:=by intro O;refine L.va (Y3 rfl) ?_;exact L.on rfl O):P:=h k
theorem U288(h:Q->P:=by intro O;refine D.va (fun w' J0=>(B0 rfl underlying3 rfl ((hC.j0 J0).q0 0 (v:=.i (i:Int)) rfl))) ?_;exact D.va (fun w' J0=>o4 (i:=i) rfl rfl underlying23 c5 hi) O):P:=h k
theorem U10(h:Q->P:=by intro O;rw[hw];exact O):P:=h k
theorem U203(h:Q->P:=by intro O;refine F.va rfl rfl (fun w' J0=>(K2 rfl)) ?_;exact U24 O):P:=h k
theorem U414(h:Q->P:=by intro O;refine W.seq ?_;exact W.block O):P:=h k
theorem U289(h:Q->P:=by intro O;refine D.va (fun w' J0=>(B0 rfl underlying150 rfl (((hg.m.blk i _ (S6 hc)).j0 J0).q0 1 (v:=.p R.rb) rfl))) ?_;exact D.va (fun w' J0=>(K1 rfl)) O):P:=h k
theorem U204(h:Q->P:=by intro O;refine S0.val (u1 _ gr 2) (P1 _) rfl (v:=.bool false) (cx0 rfl rfl) ?_;exact S0.nil (u1 _ gr 2) O):P:=h k
theorem U290(h:Q->P:=by intro O;refine L.va (E0 rfl underlying117 rfl sz4 (by decide)) ?_;refine L.pu 10 [.bool true] #[.i 7,.i num,.i rn,.i rg,.i val,.slice a seen.length sk,.i tn,.i tg,.i er,.i x,.bool true] sz4 C1 (fun w G0 hg A2=>?_);revert w G0 hg A2;exact O):P:=h k
theorem U101(h:Q->P:=by intro O;refine C.enter (n:=172) func30 rfl rfl ?_;have hb:Below w0.heap.size w0 w0:=Below.refl _ _;revert hb;exact O):P:=h k
theorem U291(h:Q->P:=by intro O;refine U2 ?_;exact ZA.jc0 hZ hb 11 (fun w'=>Below w.heap.size w w') (by kernel_rfl) (by kernel_rfl) (by kernel_rfl) (by kernel_rfl) (Below.refl w.heap.size w).drew O):P:=h k
theorem U30(h:Q->P:=by intro O;refine D.nil (fun w D1=>?_);have hb:=O0 hb D1;revert w D1 hb;exact O):P:=h k
theorem U292(h:Q->P:=by intro O;refine W.seq ?_;exact W.jc0 13 (fun w'=>Below w.heap.size w w') (by kernel_rfl) (by kernel_rfl) (by kernel_rfl) (by kernel_rfl) ((Below.refl w.heap.size w).drew) O):P:=h k
theorem U139(h:Q->P:=by intro O;refine At.seq (Q3 _ gr) ?_;exact At.region (Q3 _ gr) O):P:=h k
theorem U67(h:Q->P:=by intro O;refine At.seq B3 ?_;exact At.region B3 O):P:=h k
theorem U205(h:Q->P:=by intro O;refine L.box (cs:=#[.i 1,.i num,.i rn,.i rg,.i val,.slice a sn sk,.i tn,.i tg,.i er,.i x,.bool ok]) rfl rfl (fun w b3 F3=>?_);refine U63 ?_;intro lt3 hb;revert w b3 F3 lt3 hb;exact O):P:=h k
theorem U293(h:Q->P:=by intro O;refine W.jc0 13 (fun w'=>Below w.heap.size w w') (by kernel_rfl) (by kernel_rfl) (by kernel_rfl) (by kernel_rfl) ((Below.refl w.heap.size w).drew) ?_;exact U199 O):P:=h k
theorem U294(h:Q->P:=by intro O;refine S0.val hY hb rfl (nq0 rfl underlying162 rfl Vj0 (by decide)) ?_;exact S0.stay (v:=.chan (some R.yb)) hb rfl (by simp) rfl underlying151 rfl O):P:=h k
theorem U102(h:Q->P:=by intro O;refine L.va (w7 rfl) ?_;exact L.va (V4 rfl underlying22 rfl) O):P:=h k
theorem U103(h:Q->P:=by intro O;refine D.va (fun w' J0=>(v7 rfl)) ?_;exact D.on rfl O):P:=h k
theorem U415(h:Q->P:=by intro O;have Y1:=F1.E5 C1 hg;have hm:=hm.own hg lt3 J5;revert Y1 hm;exact O):P:=h k
theorem U295(h:Q->P:=by intro O;refine S0.off (u1 _ gr 2) rfl rfl ?_;exact S0.off (u1 _ gr 2) rfl rfl O):P:=h k
theorem U296(h:Q->P:=by intro O;refine L.va (B0 rfl underlying140 rfl (hB2.q0 0 (v:=.p cb) rfl)) ?_;exact L.va (K1 rfl) O):P:=h k
theorem U297(h:Q->P:=by intro O;refine L.va (B0 rfl underlying140 rfl (C1.q0 0 (v:=.p cb) rfl)) ?_;exact L.va (K1 rfl) O):P:=h k
theorem U298(h:Q->P:=by intro O;refine L.va (B0 rfl underlying85 rfl (hB2.q0 0 (v:=.p cb) rfl)) ?_;exact L.va (K1 rfl) O):P:=h k
theorem U299(h:Q->P:=by intro O;refine L.va (B0 rfl underlying85 rfl (C1.q0 0 (v:=.p cb) rfl)) ?_;exact L.va (K1 rfl) O):P:=h k
theorem U300(h:Q->P:=by intro O;refine L.va (E0 rfl underlying54 rfl O8 (by decide)) ?_;exact L.va (B0 rfl underlying23 rfl (hM.q0 2 (v:=.slice (pt M.pb) m m) rfl)) O):P:=h k
theorem U206(h:B Q->P:=by intro O;(have sz0:r1.la i≠none->ab (r1.la i)≠b90:=fun h=>by have h8:=hT.lt h;have h9:=F90.here;omega);have hE:=hE.j0 F90.below;revert sz0 hE;exact O.1):P:=h ⟨k⟩
theorem U301(h:Q->P:=by intro O;refine D.va (fun w' J0=>(B0 rfl underlying150 rfl ((hC.j0 J0).q0 1 (v:=.p R.rb) rfl))) ?_;exact D.va (fun w' J0=>(K1 rfl)) O):P:=h k
theorem U37(h:Q->P:=by intro O;refine U63 ?_;intro lt3 hb;have hD:=hD.j0 F3.below;revert lt3 hb hD;exact O):P:=h k
theorem U302(h:Q->P:=by intro O;have hM:V0 w M.wb #[.p M.hb,.slice ba m bc,.slice (pt M.pb) m m,.slice (pt M.nb) m m,.slice M.ta M.s.N0.length M.tc,.slice (pt M.gb) m m] 54:=hR.hW;refine L.nil ?_;revert hM;exact O):P:=h k
theorem U303(h:B Q->P:=by intro O;have hl:=hl.V2 hg (fun ha=>by obtain⟨_,_,hle,_⟩:=hl.row ha;have h7:=hR.lo.2.2.2.2.2.2.1;show ab a≠M.eb;have h7:M.eb<B2:=h7;omega);have hNw:=hNw.grown hg;revert hl hNw;exact O.1):P:=h ⟨k⟩
theorem U104(h:Q->P:=by intro O;have Y1:=F1.E5 C1 hg;have hb:=G4 hb hb.size hg lt3;have B1:=B1.other hg (Ne.symm S8);revert Y1 hb B1;exact O):P:=h k
theorem U68(h:Q->P:=by intro O;refine C.enter (n:=28) func29 rfl rfl ?_;refine U7 ?_;intro hb;revert hb;exact O):P:=h k
theorem U304(h:Q->P:=by intro O;have neA:=X1.ne hA (hg.m.blk i c hc) (by decide);refine L.stC (i:=i) (o:=9) (vs:=[.bool false]) hg {c with wt:=false} hc rfl rfl rfl rfl sz4 rfl rfl (by decide) rfl (fun w hg N3=>?_);revert neA w hg N3;exact O):P:=h k
theorem U105(h:Q->P:=by intro O;refine U62 ?_;exact U62 O):P:=h k
theorem U69(h:Q->P:=by intro O;refine L.va (w7 rfl) ?_;exact L.on rfl O):P:=h k
theorem U140(h:Q->P:=by intro O;refine U27 ?_;exact L.call (X4 rfl func10 rfl Kq0 rfl) (vs0 _ w) O):P:=h k
theorem U305(h:Q->P:=by intro O;refine F.va rfl rfl (fun w' J0=>(K2 rfl)) ?_;exact F.va rfl rfl (fun w' J0=>(E0 rfl underlying40 rfl Gm0 (by decide))) O):P:=h k
theorem U70(h:Q->P:=by intro O;refine U2 ?_;exact ZA.seq hZ O):P:=h k
theorem U306(h:Q->P:=by intro O;have hPn:N1 w2 w0.heap.size a3 c3 (seen ++ [num]):=N1.own (n:=0+seen.length+1) (by rw[List.map_append];exact H8) (by simp);revert hPn;exact O):P:=h k
theorem U307(h:Q->P:=by intro O;refine U201 ?_;exact D.va (fun w' J0=>(B0 rfl underlying3 rfl (((hg.m.blk i _ (S6 hc)).j0 J0).q0 0 (v:=.i (i:Int)) rfl))) O):P:=h k
theorem U417(h:B Q->P:=by intro O;refine S0.val (I0 _) (P1 _) rfl (v:=.int .i32 (((v:Nat):Int))) (l4 (r:=((v:Nat):Int)) rfl Try.underlying155 Try.underlying21 (cy0 v (by omega))) ?_;exact S0.val (I0 _) (P1 _) rfl (v:=.int .i32 (((v:Nat):Int))) (J1 rfl) O.1):P:=h ⟨k⟩
theorem U71(h:Q->P:=by intro O;have lt5:=F5.lq hb.size;have hb:=O0 hb F5.below;revert lt5 hb;exact O):P:=h k
theorem U141(h:Q->P:=by intro O;refine At.G5 (u1 _ gr 2) rfl ?_;exact At.skip (u1 _ gr 2) O):P:=h k
theorem U84(h:Q->P:=by intro O;refine At.seq E3 ?_;exact At.region E3 O):P:=h k
theorem U26(h:Q->P:=by intro O;refine U1 ?_;exact U82 O):P:=h k
theorem U142(h:Q->P:=by intro O;refine C.enter (n:=172) func30 rfl rfl ?_;have hm:F1 w0 w0 Bs [113,125]:=F1.refl _ _ _;revert hm;exact O):P:=h k
theorem U13(h:Q->P:=by intro O;refine U192 ?_;exact U0 O):P:=h k
theorem U208(h:Q->P:=by intro O;refine L.box (cs:=#[.i o.kind,.i o.val,.i o.u5,.i o.rn,.i o.rg]) rfl rfl (fun w b5 F5=>?_);have lt5:=Nat.le_refl w.heap.size;revert w b5 F5 lt5;exact O):P:=h k
theorem U418(h:Q->P:=by intro O;refine FP.va rfl rfl (fun w' J0=>(B0 rfl underlying46 rfl (J0.1.q0 8 (v:=.slice r1.ta s1.N0.length r1.tc) rfl))) ?_;exact FP.va rfl rfl (fun w' J0=>(Q0 (cs:=[.i c2.tn,.i c2.tg]) rfl underlying82 rfl X5 rfl (J0.2.B4 rfl))) O):P:=h k
theorem U143(h:Q->P:=by intro O;refine At.seq n1 ?_;exact U278 O):P:=h k
theorem U38(h:Q->P:=by intro O;refine U132 ?_;show W _ _ _ _ _ _;exact O):P:=h k
theorem U209(h:Q->P:=by intro O;refine AtR.leave0 (I0 _) V7 rfl Try.func81 rfl ?_;exact S0.nil (I0 _) O):P:=h k
theorem U308(h:Q->P:=by intro O;refine U193 ?_;exact F.va rfl rfl (fun w' J0=>(B0 rfl underlying52 rfl (J0.1.q0 3 (v:=.slice (pt M.nb) m m) rfl))) O):P:=h k
theorem U72(h:Q->P:=by intro O;refine U1 ?_;refine U17 ?_;exact L.va (E0 rfl underlying117 rfl c5 (by decide)) O):P:=h k
theorem U85(h:Q->P:=by intro O;have hPn:=hPn.mod Y1 rfl;have hS:=hS.mod Y1 rfl;revert hPn hS;exact O):P:=h k
theorem U419(h:Q->P:=by intro O;refine D.va (fun w' J0=>(u4 (i:=j) rfl rfl underlying22 Bm0 hBo.sl D2)) ?_;exact D.va (fun w' J0=>(B0 (v:=.slice (oa j) (p.bo j).length (oc j)) rfl underlying80 rfl (y4 (hBo.row j D2) (RX.hb (hR.j0 J0))))) O):P:=h k
theorem U210(h:Q->P:=by intro O;refine L.va (A1 (r:=true) (by decide) (S1 (m:=1) (k:=1) rfl rfl)) ?_;exact U64 O):P:=h k
theorem U211(h:B Q->P:=by intro O;have hE2:=hE.Cx0 him ⟨(c2.tn),(c2.tg),(c2.e),0,false⟩ H8 I6 hwh G0 hg;have hc:=hc.V2 hg trivial;revert hE2 hc;exact O.1):P:=h ⟨k⟩
theorem U144(h:Q->P:=by intro O;have Y2:Below w.heap.size w w.drew:=(Below.refl w.heap.size w).drew;have hE:=hE.j0 Y2;revert Y2 hE;exact O):P:=h k
theorem U420(h:Q->P:=by intro O;refine L.va (E0 rfl underlying48 rfl Bl0 (by decide)) ?_;refine L.pu 8 [.slice ta2 (s1.N0.length+1) tc2] #[.slice none 0 0,.slice none 0 0,.slice none 0 0,.slice none 0 0,.bool false,.i 0,.p p.hp,.slice (pt p.l7) p.m p.m,.slice ta2 (s1.N0.length+1) tc2] Bl0 hK (fun w G0 hg A2=>?_);revert w G0 hg A2;exact O):P:=h k
theorem U212(h:Q->P:=by intro O;refine U397 ?_;exact L.va (A8 (l:=[.tmp 2,.tmp 5]) (vs:=[.p b2,.p b5]) rfl) O):P:=h k
theorem U213(h:Q->P:=by intro O;refine U397 ?_;exact L.va (A8 (l:=[.tmp 5,.tmp 3]) (vs:=[.p b5,.p b3]) rfl) O):P:=h k
theorem U106(h:Q->P:=by intro O;refine L.va (w7 rfl) ?_;exact L.va (w7 rfl) O):P:=h k
theorem U214(h:Q->P:=by intro O;refine U72 ?_;exact L.va (B0 rfl underlying3 rfl (C1.q0 0 (v:=.i 1) rfl)) O):P:=h k
theorem U309(h:Q->P:=by intro O;refine U194 ?_;exact S0.val (u1 _ gr 2) (P1 _) rfl (v:=.int .u64 (((0*4294967296+1:Nat):Int))) (P0 rfl) O):P:=h k
theorem U310(h:Q->P:=by intro O;refine L.va (B0 rfl underlying4 rfl ((hg.m.blk i c hc).q0 10 (v:=.bool c.st) rfl)) ?_;exact L.va (ir0 rfl) O):P:=h k
theorem U215(h:Q->P:=by intro O;refine L.va (E0 rfl underlying145 rfl c5 (by decide)) ?_;exact L.on rfl O):P:=h k
theorem U311(h:Q->P:=by intro O;refine L.va (Ao0 (m:=0) rfl rfl underlying23 rfl) ?_;exact L.va (cd0 (r:=-1) (by decide) (by decide) rfl rfl) O):P:=h k
theorem U216(h:Q->P:=by intro O;refine U5 ?_;exact W.block O):P:=h k
theorem U107(h:Q->P:=by intro O;have lt3:=F3.lq hm.size;have hm:=hm.step F3.below (Nat.le_trans J5 hm.size);revert lt3 hm;exact O):P:=h k
theorem U108(h:Q->P:=by intro O;refine ZA.skip hZ ?_;exact ZA.seq hZ O):P:=h k
theorem U217(h:Q->P:=by intro O;refine L.on rfl ?_;exact L.va (E0 rfl underlying82 rfl c5 (by decide)) O):P:=h k
theorem U218(h:Q->P:=by intro O;refine L.alloc (cs:=#[.i 0,.i 0,.i 0,.i 0,.bool false]) ur0 rfl (fun w b6 F6=>?_);have lt6:=Nat.le_refl w.heap.size;revert w b6 F6 lt6;exact O):P:=h k
theorem U109(h:Q->P:=by intro O;have C1:=C1.mod r9 rfl;have B1:=B1.mod r9 rfl;revert C1 B1;exact O):P:=h k
theorem U86(h:Q->P:=by intro O;refine U415 ?_;intro Y1 hm;have hH:=hH.mod Y1 rfl;revert Y1 hm hH;exact O):P:=h k
theorem U421(h:Q->P:=by intro O;refine S0.val (u1 _ gr 2) (P1 _) rfl (v:=.pointer (some ⟨gr.blk,gr.off,none⟩)) (P0 rfl) ?_;exact S0.val (u1 _ gr 2) (P1 _) rfl (v:=.pointer (some ⟨gr.blk,gr.off,none⟩)) (l5 rfl) O):P:=h k
theorem U422(h:Q->P:=by intro O;refine S0.val (u1 _ gr 1) (P1 _) rfl (v:=.pointer (some ⟨gr.blk,gr.off,none⟩)) (P0 rfl) ?_;exact S0.val (u1 _ gr 1) (P1 _) rfl (v:=.pointer (some ⟨gr.blk,gr.off,none⟩)) (l5 rfl) O):P:=h k
theorem U423(h:Q->P:=by intro O;refine F.va rfl rfl (fun w' J0=>(o4 (i:=j) rfl rfl underlying23 c5 D2)) ?_;exact F.A9 rfl rfl O):P:=h k
theorem U219(h:Q->P:=by intro O;refine L.va (Ds0 rfl rfl) ?_;exact U55 O):P:=h k
theorem U424(h:Q->P:=by intro O;refine W.seq ?_;exact W.fl 3 [2] [0,1,2] (fun w'=>V0 w' b7 #[.i c2.tn,.i c2.tg] 82) (by kernel_rfl) (by kernel_rfl) (by kernel_rfl) (by kernel_rfl) (by kernel_rfl) (hB7.j0 (Below.refl w.heap.size w).drew) O):P:=h k
theorem U312(h:Q->P:=by intro O;refine U273 ?_;refine L.pu 0 [.i 0] #[.i 0,.i num,.i rn,.i rg,.i val,.slice a seen.length sk,.i tn,.i tg,.i er,.i x,.bool true] c5 C1 (fun w G0 hg A2=>?_);revert w G0 hg A2;exact O):P:=h k
theorem U425(h:Q->P:=by intro O;refine S0.val (I0 _) (P1 _) rfl (v:=.int .u32 0) (l4 (r:=0) rfl Try.underlying155 Try.underlying158 (by decide)) ?_;exact S0.val (I0 _) (P1 _) rfl (v:=.int .u32 0) (J1 rfl) O):P:=h k
theorem U39(h:B Q->P:=by intro O;refine U406 ?_;refine U396 ?_;refine U405 ?_;exact T.nrm O.1):P:=h ⟨k⟩
theorem U427(h:Q->P:=by intro O;refine F.va rfl rfl (fun w' J0=>(E0 rfl underlying40 rfl O8 (by decide))) ?_;exact F.va rfl rfl (fun w' J0=>(B0 rfl underlying23 rfl (J0.q0 2 (v:=.slice (pt M.eb) p.m p.m) rfl))) O):P:=h k
theorem U73(h:Q->P:=by intro O;refine L.va (lc0 rfl) ?_;exact U5 O):P:=h k
theorem U428(h:Q->P:=by intro O;refine S0.val (Q3 _ gr) (P1 _) rfl (v:=.pointer (some ⟨gr.blk,gr.off,none⟩)) (P0 rfl) ?_;exact S0.val (Q3 _ gr) (P1 _) rfl (v:=.pointer (some ⟨gr.blk,gr.off,none⟩)) (l5 rfl) O):P:=h k
theorem U313(h:Q->P:=by intro O;refine U14 ?_;exact L.va (E0 rfl underlying95 rfl ed1 (by decide)) O):P:=h k
theorem U220(h:Q->P:=by intro O;refine L.va (E0 rfl underlying135 rfl Ye0 (by decide)) ?_;exact U395 O):P:=h k
theorem U221(h:Q->P:=by intro O;refine L.va (E0 rfl underlying193 rfl Ye0 (by decide)) ?_;exact U395 O):P:=h k
theorem U429(h:Q->P:=by intro O;refine S0.toUnsafe dr1 (P1 _) rfl rfl (.inl rfl) Try.underlying227 Try.underlying91 Vs0 ?_;exact S0.rz0 T2 (P1 _) .acquire (by simp) (.inl rfl) rfl Try.func113 fa1 rfl rfl fi1 rfl O):P:=h k
theorem U314(h:Q->P:=by intro O;refine D.va (fun w' J0=>(V4 rfl underlying80 rfl)) ?_;exact D.va (fun w' J0=>(is0 rfl rfl)) O):P:=h k
theorem U430(h:Q->P:=by intro O;refine D.va (fun w' J0=>(E0 rfl underlying54 rfl O8 (by decide))) ?_;exact D.va (fun w' J0=>(B0 rfl underlying23 rfl ((hM.j0 J0).q0 2 (v:=.slice (pt M.pb) p.m p.m) rfl))) O):P:=h k
theorem U222(h:Q->P:=by intro O;refine U17 ?_;exact L.va (E0 rfl underlying145 rfl sz4 (by decide)) O):P:=h k
theorem U223(h:Q->P:=by intro O;refine U0 ?_;exact L.va (E0 rfl underlying117 rfl c5 (by decide)) O):P:=h k
theorem U431(h:Q->P:=by intro O;refine D.va (fun w' J0=>(E0 rfl underlying113 rfl gn0 (by decide))) ?_;exact D.va (fun w' J0=>(B0 rfl underlying111 rfl ((hRH.j0 J0).q0 2 (v:=.slice na H.Y0.length nc) rfl))) O):P:=h k
theorem U433(h:Q->P:=by intro O;refine S0.val E3 (P1 _) rfl (v:=.pointer (some ⟨gr.blk,gr.off,none⟩)) (P0 rfl) ?_;exact S0.val E3 (P1 _) rfl (v:=.pointer (some ⟨gr.blk,gr.off,none⟩)) (l5 rfl) O):P:=h k
theorem U434(h:Q->P:=by intro O;refine S0.val n1 (P1 _) rfl (v:=.int .u32 0) (l4 (r:=0) rfl Try.underlying155 Try.underlying158 (by decide)) ?_;exact S0.val n1 (P1 _) rfl (v:=.int .u32 0) (J1 rfl) O):P:=h k
theorem U435(h:Q->P:=by intro O;refine S0.val T2 (P1 _) rfl (v:=.pointer (some ⟨gr.blk,gr.off,none⟩)) (P0 rfl) ?_;exact S0.val T2 (P1 _) rfl (v:=.pointer (some ⟨gr.blk,gr.off,none⟩)) (l5 rfl) O):P:=h k
theorem U145(h:Q->P:=by intro O;refine L.va (is0 rfl rfl) ?_;exact L.va (v7 rfl) O):P:=h k
theorem U224(h:Q->P:=by intro O;have hm:=hm.step Y2 (Nat.le_trans J5 hm.size);have hH:=hH.j0 Y2;revert hm hH;exact O):P:=h k
theorem U436(h:Q->P:=by intro O;refine F.va rfl rfl (fun w' J0=>(E0 rfl underlying54 rfl Rd0 (by decide))) ?_;exact F.va rfl rfl (fun w' J0=>(B0 rfl underlying45 rfl (J0.1.q0 5 (v:=.slice (pt M.gb) m m) rfl))) O):P:=h k
theorem U437(h:B Q->P:=by intro O;refine L.va (gk0 rfl rfl (by omega)) ?_;exact L.va (o4 (i:=i) rfl rfl underlying23 c5 hi) O.1):P:=h ⟨k⟩
theorem U438(h:Q->P:=by intro O;refine S0.cf0 n1 (P1 _) rfl rfl (v:=.i 1) (P0 rfl) ?_;exact S0.cf0 n1 (P1 _) rfl rfl (v:=.int .i32 1) (l4 (r:=1) rfl Try.underlying3 Try.underlying21 (by decide)) O):P:=h k
theorem U315(h:Q->P:=by intro O;refine S0.val hY hb rfl (v:=.p R.rb) (P0 rfl) ?_;exact S0.val hY hb rfl (l5 rfl) O):P:=h k
theorem U439(h:Q->P:=by intro O;refine D.va (fun w' J0=>(E0 rfl underlying117 rfl c5 (by decide))) ?_;exact D.va (fun w' J0=>(B0 rfl underlying3 rfl ((C1.j0 J0).q0 1 (v:=.i ((H.Y0.length:Nat)+1)) rfl))) O):P:=h k
theorem U440(h:Q->P:=by intro O;refine F.va rfl rfl (fun w' J0=>(E0 rfl underlying54 rfl Yg0 (by decide))) ?_;exact F.va rfl rfl (fun w' J0=>(B0 rfl underlying51 rfl (J0.2.1.q0 0 (v:=.p M.hb) rfl))) O):P:=h k
theorem U441(h:Q->P:=by intro O;refine F.va rfl rfl (fun w' J0=>(E0 rfl underlying82 rfl c5 (by decide))) ?_;exact F.va rfl rfl (fun w' J0=>(B0 rfl underlying3 rfl (J0.2.q0 0 (v:=.i ((i:Nat)+1)) rfl))) O):P:=h k
theorem U316(h:Q->P:=by intro O;refine U48 ?_;exact U34 O):P:=h k
theorem U317(h:Q->P:=by intro O;refine U3 ?_;exact L.va (Q0 (cs:=[.i 1,.i 1]) rfl underlying82 rfl X5 rfl (C1.B4 rfl)) O):P:=h k
theorem U442(h:B Q->P:=by intro O;refine S0.val (I0 _) (P1 _) rfl (v:=.bool true) (dv0 (r:=true) rfl rfl (decide_eq_true (by omega))) ?_;exact S0.val (I0 _) (P1 _) rfl (v:=.bool true) (P0 rfl) O.1):P:=h ⟨k⟩
theorem U225(h:Q->P:=by intro O;refine L.va (w7 rfl) ?_;exact L.va (V4 rfl underlying105 rfl) O):P:=h k
theorem U443(h:Q->P:=by intro O;refine S0.cf0 (u1 _ gr 2) (P1 _) rfl rfl (v:=.bool false) (dv0 (r:=false) rfl rfl (by decide)) ?_;exact S0.val (u1 _ gr 2) (P1 _) rfl (v:=.bool false) (P9 rfl rfl) O):P:=h k
theorem U110(h:Q->P:=by intro O;refine L.nil ?_;exact U44 O):P:=h k
theorem U318(h:Q->P:=by intro O;refine U187 ?_;exact D.va (fun w' J0=>(V4 rfl underlying111 rfl)) O):P:=h k
theorem U444(h:B Q->P:=by intro O;refine U83 ?_;exact L.call (W1 rfl rfl func31 rfl en1 rfl) (wc0 hR hi hpk hdn (by show(M.s.log i).length <=_;omega) (by show M.s.N0.length <=_;omega) (by omega)) O.1):P:=h ⟨k⟩
theorem U49(h:Q->P:=by intro O;refine U81 ?_;exact U414 O):P:=h k
theorem U445(h:Q->P:=by intro O;refine FP.va rfl rfl (fun w' J0=>(E0 rfl underlying84 rfl sz2 (by decide))) ?_;exact FP.va rfl rfl (fun w' J0=>(B0 rfl underlying2 rfl (J0.2.q0 1 (v:=.i o.val) rfl))) O):P:=h k
theorem U19(h:Q->P:=by intro O;refine U133 ?_;intro Y1 hb;have B1:=G0;refine U35 ?_;revert hb B1;exact O):P:=h k
theorem U446(h:Q->P:=by intro O;refine F.va rfl rfl (fun w' J0=>(E0 rfl underlying95 rfl Yj0 (by decide))) ?_;exact F.va rfl rfl (fun w' J0=>(B0 rfl underlying85 rfl (J0.1.q0 3 (v:=.p pb) rfl))) O):P:=h k
theorem U447(h:Q->P:=by intro O;refine D.va (fun w' J0=>(E0 rfl underlying113 rfl gn0 (by decide))) ?_;exact D.on rfl O):P:=h k
theorem U448(h:Q->P:=by intro O;refine D.va (fun w' J0=>(E0 rfl underlying82 rfl c5 (by decide))) ?_;exact D.va (fun w' J0=>(B0 rfl underlying3 rfl ((C1.j0 J0).q0 0 (v:=.i ((i:Nat)+1)) rfl))) O):P:=h k
theorem U319(h:Q->P:=by intro O;refine U270 ?_;exact FP.va rfl rfl (fun w' J0=>(E0 rfl underlying48 rfl Yd0 (by decide))) O):P:=h k
theorem U111(h:Q->P:=by intro O;refine S0.nil (I0 _) ?_;exact U136 O):P:=h k
theorem U449(h:Q->P:=by intro O;refine D.va (fun w' J0=>(B0 rfl underlying97 rfl ((R4.j0 J0).q0 0 (v:=.slice Ly.la H.Y0.length Ly.lc) rfl))) ?_;exact D.va (fun w' J0=>(V4 rfl underlying97 rfl)) O):P:=h k
theorem U146(h:Q->P:=by intro O;refine U7 ?_;intro hb;refine L.box (cs:=#[.i rn,.i rg]) rfl rfl (fun w b3 F3=>?_);revert hb w b3 F3;exact O):P:=h k
theorem U450(h:Q->P:=by intro O;refine L.va (Y3 rfl) ?_;exact L.call (W1 rfl rfl func45 rfl Go0 rfl) ((by have h9:=Er0 pb wb obj 0 Ly.pa H.pool.length Ly.pc _ hM.hP hM.hW;rw[hpn]at h9;exact h9)) O):P:=h k
theorem U451(h:Q->P:=by intro O;refine L.va (K1 rfl) ?_;exact L.on rfl O):P:=h k
theorem U320(h:Q->P:=by intro O;refine D.on rfl ?_;exact D.va (fun w' J0=>(E0 rfl underlying82 rfl c5 (by decide))) O):P:=h k
theorem U112(h:Q->P:=by intro O;refine U3 ?_;exact L.va (K2 rfl) O):P:=h k
theorem U452(h:B Q->P:=by intro O;refine S0.val n1 (P1 _) rfl (v:=.bool true) (dv0 (r:=true) rfl rfl (decide_eq_true (by omega))) ?_;exact S0.val n1 (P1 _) rfl (v:=.bool true) (P0 rfl) O.1):P:=h ⟨k⟩
theorem U321(h:Q->P:=by intro O;refine S0.val T2 (P1 _) rfl (v:=.int .u64 0) (J1 rfl) ?_;exact S0.nil T2 O):P:=h k
theorem U322(h:Q->P:=by intro O;have hO:Own w w0.heap.size 3 1 (pt tf0) 0 0 []:=Own.Jh0 (c:=0) kb0 rfl Fs0 (by decide) (by decide);revert hO;exact O):P:=h k
theorem U113(h:Q->P:=by intro O;refine S0.nil n1 ?_;refine At.G5 n1 rfl ?_;exact At.skip n1 O):P:=h k
theorem U226(h:Q->P:=by intro O;refine U197 ?_;refine L.va (Q5 rfl rfl underlying25) ?_;refine U1 ?_;exact U82 O):P:=h k
theorem U453(h:Q->P:=by intro O;refine F.va rfl rfl (fun w' J0=>(B0 rfl underlying52 rfl (J0.2.1.q0 3 (v:=.slice (pt M.nb) p.m p.m) rfl))) ?_;exact F.va rfl rfl (fun w' J0=>(K2 rfl)) O):P:=h k
theorem U454(h:Q->P:=by intro O;refine D.va (fun w' J0=>(E0 rfl underlying95 rfl Ye0 (by decide))) ?_;exact D.va (fun w' J0=>(B0 rfl underlying29 rfl ((hH.j0 J0).q0 0 (v:=.p wb) rfl))) O):P:=h k
theorem U147(h:B Q->P:=by intro O;have Y1:=F1.E5 hH hg;have hm:=hm.trans (F1.put hH hg (by omega) rfl);revert Y1 hm;exact O.1):P:=h ⟨k⟩
theorem U148(h:Q->P:=by intro O;refine W.region rfl ?_;exact L.va (w7 rfl) O):P:=h k
theorem U455(h:Q->P:=by intro O;refine L.va (B0 rfl underlying3 rfl (j3.q0 0 (v:=.i rn) rfl)) ?_;exact L.call (W1 rfl rfl func46 rfl Gp0 rfl) (qm0 B hp wb pb obj most H Ly _ hM rn hz) O):P:=h k
theorem U456(h:Q->P:=by intro O;refine D.va (fun w' J0=>(E0 rfl underlying95 rfl c5 (by decide))) ?_;exact D.va (fun w' J0=>(B0 rfl underlying3 rfl ((hH.j0 J0).q0 1 (v:=.i obj) rfl))) O):P:=h k
theorem U457(h:Q->P:=by intro O;refine D.va (fun w' J0=>(E0 rfl underlying95 rfl Yj0 (by decide))) ?_;exact D.va (fun w' J0=>(B0 rfl underlying85 rfl ((hH.j0 J0).q0 3 (v:=.p pb) rfl))) O):P:=h k
theorem U458(h:Q->P:=by intro O;refine D.va (fun w' J0=>(E0 rfl underlying117 rfl sz2 (by decide))) ?_;exact D.va (fun w' J0=>(B0 rfl underlying2 rfl ((C1.j0 J0).q0 4 (v:=.i val) rfl))) O):P:=h k
theorem U459(h:Q->P:=by intro O;refine L.va (is0 rfl rfl) ?_;exact U70 O):P:=h k
theorem U460(h:Q->P:=by intro O;refine U402 ?_;exact S0.val B3 (P1 _) rfl (v:=.pointer (some ⟨gr.blk,gr.off,none⟩)) (j5 (s:=1) gr.off gr.off rfl Try.underlying157 rfl qd0 (by decide) rfl) O):P:=h k
theorem U461(h:Q->P:=by intro O;refine U402 ?_;exact S0.val B3 (P1 _) rfl (v:=.pointer (some ⟨gr.blk,gr.off,none⟩)) (j5 (s:=1) gr.off gr.off rfl Try.underlying160 rfl qe0 (by decide) rfl) O):P:=h k
theorem U74(h:Q->P:=by intro O;have C1:=C1.j0 D1;have B1:=B1.j0 D1;revert C1 B1;exact O):P:=h k
theorem U462(h:Q->P:=by intro O;refine F.va rfl rfl (fun w' J0=>(B0 rfl underlying38 rfl (J0.q0 3 (v:=.slice (pt M.xb) p.m p.m) rfl))) ?_;exact F.va rfl rfl (fun w' J0=>(K2 rfl)) O):P:=h k
theorem U227(h:Q->P:=by intro O;refine L.va (V4 rfl underlying23 rfl) ?_;exact L.on rfl O):P:=h k
theorem U149(h:Q->P:=by intro O;refine L.va (it0 rfl rfl) ?_;exact U1 O):P:=h k
theorem U463(h:Q->P:=by intro O;refine F.va rfl rfl (fun w' J0=>(Q0 (cs:=[.i c2.tn,.i c2.tg]) rfl underlying82 rfl X5 rfl (J0.B4 rfl))) ?_;exact F.va rfl rfl (fun w' J0=>(K2 rfl)) O):P:=h k
theorem U228(h:Q->P:=by intro O;rw[L0 s0,L0 s7,L0 s8,L0 s9];exact O):P:=h k
theorem U32(h:Q->P:=by intro O;refine U316 ?_;exact U0 O):P:=h k
theorem U464(h:Q->P:=by intro O;refine W.seq ?_;exact W.jc0 10 (fun w'=>Below w.heap.size w w') (by kernel_rfl) (by kernel_rfl) (by kernel_rfl) (by kernel_rfl) ((Below.refl w.heap.size w).drew) O):P:=h k
theorem U465(h:Q->P:=by intro O;refine L.va (Q0 (cs:=[.i rn,.i rg]) rfl underlying82 rfl X5 rfl (C1.B4 rfl)) ?_;exact L.call (W1 rfl rfl func64 rfl ky1 rfl) (On0 _ hD rn rg) O):P:=h k
theorem U324(h:Q->P:=by intro O;refine F.A9 rfl rfl ?_;refine L.Q7 (cs:=#[.i num]) rfl rfl underlying23 c5 rfl ⟨_,zr3⟩ (by decide) (fun w Id0 T8=>?_);revert w Id0 T8;exact O):P:=h k
theorem U466(h:Q->P:=by intro O;refine L.va (o4 (i:=i) rfl rfl underlying52 X2 hi) ?_;refine L.xN (i:=i) (d:=(⟨c9,none,0⟩:Dc)) hR hi (by show N1 _ _ none 0 c9.seen;rw[hz9.1];exact N1.zero _ _) rfl rfl X2 (fun w Y9 hg=>?_);revert w Y9 hg;exact O):P:=h k
theorem U325(h:Q->P:=by intro O;refine U20 ?_;exact L.va (A1 (r:=false) (by decide) (le0 (m:=-1) (k:=0) rfl rfl)) O):P:=h k
theorem U326(h:Q->P:=by intro O;refine S0.val (u1 _ gr 2) (P1 _) rfl (v:=.bool false) (P0 rfl) ?_;exact U295 O):P:=h k
theorem U467(h:Q->P:=by intro O;refine U270 ?_;refine FP.va rfl rfl (fun w' J0=>(E0 rfl underlying48 rfl Rd0 (by decide))) ?_;refine FP.va rfl rfl (fun w' J0=>(B0 rfl underlying45 rfl (J0.1.q0 7 (v:=.slice (pt p.l7) p.m p.m) rfl))) ?_;refine FP.va rfl rfl (fun w' J0=>(Y3 rfl)) ?_;exact FP.call rfl rfl (fun w' J0=>X4 rfl func53 rfl kp1 rfl) (fun w' J0=>um0) O):P:=h k
theorem U327(h:Q->P:=by intro O;refine L.va (K2 rfl) ?_;exact L.va (o4 (i:=i) rfl rfl underlying23 c5 hi) O):P:=h k
theorem U328(h:Q->P:=by intro O;refine D.va (fun w' J0=>(E0 rfl underlying162 rfl da0 (by decide))) ?_;refine D.va (fun w' J0=>(E0 rfl underlying40 rfl O8 (by decide))) ?_;exact D.va (fun w' J0=>(B0 rfl underlying23 rfl ((hR.j0 J0).q0 3 (v:=.slice (pt R.eb) R.m R.m) rfl))) O):P:=h k
theorem U468(h:Q->P:=by intro O;refine W.seq ?_;exact W.jc0 9 (fun w'=>Below w.heap.size w w') (by kernel_rfl) (by kernel_rfl) (by kernel_rfl) (by kernel_rfl) ((Below.refl w.heap.size w).drew) O):P:=h k
theorem U469(h:Q->P:=by intro O;refine L.va (E0 rfl underlying162 rfl ut0 (by decide)) ?_;exact L.va (B0 rfl underlying152 rfl (hM.run.q0 0 (v:=.slice R.ca R.cl.length R.cc) rfl)) O):P:=h k
theorem U75(h:Q->P:=by intro O;refine W.seq ?_;exact U183 O):P:=h k
theorem U329(h:Q->P:=by intro O;refine U136 ?_;exact S0.val (I0 _) (P1 _) rfl (v:=.int .u32 0) (P0 rfl) O):P:=h k
theorem U470(h:Q->P:=by intro O;refine L.va (E0 rfl underlying113 rfl gn0 (by decide)) ?_;exact L.va (B0 rfl underlying111 rfl (hH.q0 2 (v:=.slice Lx.na H.Y0.length Lx.nc) rfl)) O):P:=h k
theorem U150(h:Q->P:=by intro O;show L _ _ _ _ _ _ _;exact L.va (Y3 rfl) O):P:=h k
theorem U471(h:Q->P:=by intro O;refine L.va (Y3 rfl) ?_;exact L.call (W1 rfl rfl func51 rfl Rg0 rfl) (Wf0 (Ly.X i) wb obj _ (o3 H i).g (o3 H i).l (o3 H i).v _ (hM.hX i hi) hM.hW) O):P:=h k
theorem U330(h:Q->P:=by intro O;refine L.va (A1 (r:=true) (by decide) (S1 (m:=3) (k:=3) rfl rfl)) ?_;exact U64 O):P:=h k
theorem U331(h:Q->P:=by intro O;refine L.va (E0 rfl underlying197 rfl Yf0 (by decide)) ?_;exact L.on rfl O):P:=h k
theorem U76(h:Q->P:=by intro O;have hW:=hW.j0 F5.below;have hC:=hC.j0 F5.below;revert hW hC;exact O):P:=h k
theorem U472(h:Q->P:=by intro O;refine L.va (Z1 (parts:=[(0,.tmp 24),(1,.tmp 26)]) rfl (Te0 c2.tn c2.tg c2.e)) ?_;refine L.pu 0 [.i c2.tn,.i c2.tg,.i c2.e,.i 0,.bool false] #[.i c2.tn,.i c2.tg,.i c2.e,.i 0,.bool false] ee0 O2 (fun w G0 hg A2=>?_);revert w G0 hg A2;exact O):P:=h k
theorem U473(h:B Q->P:=by intro O;refine F.va rfl rfl (fun w' J0=>(V4 rfl underlying23 rfl)) ?_;exact F.va rfl rfl (fun w' J0=>(cd0 (r:=(p0.length:Int)) (by omega) (by omega) rfl rfl)) O.1):P:=h ⟨k⟩
theorem U40(h:Q->P:=by intro O;refine U0 ?_;exact U12 O):P:=h k
theorem U474(h:Q->P:=by intro O;refine W.G5 rfl ?_;exact W.skip O):P:=h k
theorem U475(h:Q->P:=by intro O;refine L.va (E0 rfl underlying113 rfl gn0 (by decide)) ?_;exact L.va (B0 rfl underlying111 rfl (hRH.q0 2 (v:=.slice na H.Y0.length nc) rfl)) O):P:=h k
theorem U476(h:Q->P:=by intro O;refine L.va (E0 rfl underlying117 rfl c5 (by decide)) ?_;exact L.va (B0 (v:=.i (c9.at_:Int)) rfl underlying3 rfl (RX.Oz0 hR hdn 0 _ rfl)) O):P:=h k
theorem U477(h:B Q->P:=by intro O;refine U198 ?_;refine L.put (b:=p.l7) (o:=0+i*1) (vs:=[.slice la2 ((s1.log i).length+1) lc2]) _ rfl rfl rfl nt0 rfl rfl hG (by rw[D5];omega) (fj0 ⟨(c2.tn),(c2.tg),(c2.e),0,false⟩) (fun w G0 hg A2=>?_);revert w G0 hg A2;exact O.1):P:=h ⟨k⟩
theorem U478(h:B Q->P:=by intro O;refine U198 ?_;refine L.put (b:=p.l7) (o:=0+i*1) (vs:=[.slice la2 ((s2.log i).length+1) lc2]) _ rfl rfl rfl nt0 rfl rfl hG (by rw[D5];omega) (fj0 ⟨(c2.tn),(c2.tg),(c2.e),0,false⟩) (fun w G0 hg A2=>?_);revert w G0 hg A2;exact O.1):P:=h ⟨k⟩
theorem U151(h:Q->P:=by intro O;refine U401 ?_;intro Y2 hR;have hM:=hM.j0 Y2;revert Y2 hR hM;exact O):P:=h k
theorem U332(h:Q->P:=by intro O;refine L.va (E0 rfl underlying84 rfl c5 (by decide)) ?_;exact L.on rfl O):P:=h k
theorem U50(h:Q->P:=by intro O;have hb:=O0 hb D1;have B1:=B1.j0 D1;revert hb B1;exact O):P:=h k
theorem U333(h:Q->P:=by intro O;refine U72 ?_;exact L.va (B0 rfl underlying3 rfl (C1.q0 0 (v:=.i 3) rfl)) O):P:=h k
theorem U152(h:Q->P:=by intro O;refine W.region rfl ?_;exact L.va ew0 O):P:=h k
theorem U479(h:Q->P:=by intro O;refine S0.val (u1 _ gr 2) (P1 _) rfl (v:=.bool true) (P0 rfl) ?_;exact S0.cf0 (u1 _ gr 2) (P1 _) rfl rfl (v:=.i (-1)) (P0 rfl) O):P:=h k
theorem U229(h:Q->P:=by intro O;refine L.va (le0 rfl rfl) ?_;exact L.va (v7 rfl) O):P:=h k
theorem U480(h:Q->P:=by intro O;refine L.va (E0 rfl underlying40 rfl pj0 (by decide)) ?_;exact L.va (B0 rfl underlying36 rfl (hB2.q0 0 (v:=.slice ea evs.length ec) rfl)) O):P:=h k
theorem U334(h:Q->P:=by intro O;refine L.va (E0 rfl underlying40 rfl O8 (by decide)) ?_;exact L.on rfl O):P:=h k
theorem U335(h:Q->P:=by intro O;refine L.va (E0 rfl underlying40 rfl c5 (by decide)) ?_;exact L.on rfl O):P:=h k
theorem U481(h:Q->P:=by intro O;refine L.va (E0 rfl underlying40 rfl c5 (by decide)) ?_;exact L.va (B0 rfl underlying3 rfl (I8.q0 5 (v:=.i (M.used:Int)) rfl)) O):P:=h k
theorem U336(h:B Q->P:=by intro O;refine ZA.G5 hZ (rb (decide_eq_false (by omega))) ?_;exact ZA.exit hZ rfl O.1):P:=h ⟨k⟩
theorem U153(h:Q->P:=by intro O;refine ZA.H4 hZ ?_;exact ZA.seq hZ O):P:=h k
theorem U114(h:Q->P:=by intro O;refine U2 ?_;exact ZA.G5 hZ rfl O):P:=h k
theorem U337(h:Q->P:=by intro O;refine U15 ?_;exact L.va (o4 (i:=j) rfl rfl underlying38 k8 D2) O):P:=h k
theorem U230(h:Q->P:=by intro O;refine At.seq (u1 _ gr 2) ?_;exact U194 O):P:=h k
theorem U87(h:Q->P:=by intro O;refine U1 ?_;exact W.Y5 rfl O):P:=h k
theorem U51(h:Q->P:=by intro O;refine U95 ?_;intro C1 w b4 F4;have lt4:=F4.lq hb.size;revert C1 w b4 F4 lt4;exact O):P:=h k
theorem U483(h:Q->P:=by intro O;refine L.va (u4 (i:=i) rfl rfl underlying152 uq0 hM.cls.sl D2) ?_;exact L.va (B0 (v:=.p c.cb) rfl underlying106 rfl (Kz0 hM hc)) O):P:=h k
theorem U88(h:Q->P:=by intro O;have hb:=O0 hb F4.below;refine U283 ?_;intro hD C1;have B1:=F4.blk;revert hb hD C1 B1;exact O):P:=h k
theorem U154(h:Q->P:=by intro O;have hc:=hc.j0 Y2;have O2:=O2.j0 Y2;revert hc O2;exact O):P:=h k
theorem U484(h:Q->P:=by intro O;refine FP.va rfl rfl (fun w' J0=>B0 (v:=.p p.hp) rfl underlying25 rfl (J0.1).heap) ?_;exact FP.va rfl rfl (fun w' J0=>(Y3 rfl)) O):P:=h k
theorem U485(h:Q->P:=by intro O;refine D.va (fun w' J0=>(A1 (r:=true) (decide_eq_true rfl) (S1 (m:=0) (k:=0) rfl rfl))) ?_;exact D.va (fun w' J0=>(e7 rfl)) O):P:=h k
theorem U115(h:Q->P:=by intro O;exact U110 O):P:=h k
theorem U338(h:Q->P:=by intro O;refine U45 ?_;exact L.va (E0 rfl underlying162 rfl da0 (by decide)) O):P:=h k
theorem U231(h:Q->P:=by intro O;refine L.va (au0 rfl) ?_;exact L.va (v7 rfl) O):P:=h k
theorem U486(h:Q->P:=by intro O;refine L.va (E0 rfl underlying84 rfl c5 (by decide)) ?_;exact L.va (B0 rfl underlying3 rfl (C1.q0 2 (v:=.i o.u5) rfl)) O):P:=h k
theorem U487(h:Q->P:=by intro O;refine U0 ?_;exact L.va (B0 rfl underlying97 rfl (R4.q0 0 (v:=.slice ((lay m).la) ((hI.hs s).Y0.length) ((lay m).lc)) rfl)) O):P:=h k
theorem U42(h:Q->P:=by intro O;refine U1 ?_;exact U17 O):P:=h k
theorem U488(h:Q->P:=by intro O;refine L.va (B0 rfl underlying31 rfl (((hM.j0 hb).blk i _ hc).q0 6 (v:=.func (.func f) #[] caps) rfl)) ?_;exact L.on rfl O):P:=h k
theorem U489(h:Q->P:=by intro O;refine L.va (E0 rfl underlying82 rfl c5 (by decide)) ?_;exact L.va (B0 rfl underlying3 rfl (hB7.q0 0 (v:=.i c2.tn) rfl)) O):P:=h k
theorem U116(h:Q->P:=by intro O;refine U5 ?_;exact U226 O):P:=h k
theorem U155(h:Q->P:=by intro O;have hR:=hR.j0 D1;have hM:=hM.j0 D1;revert hR hM;exact O):P:=h k
theorem U490(h:Q->P:=by intro O;refine U193 ?_;exact F.va rfl rfl (fun w' J0=>(B0 rfl underlying52 rfl (J0.1.q0 3 (v:=.slice (pt M.nb) p.m p.m) rfl))) O):P:=h k
theorem U491(h:Q->P:=by intro O;refine L.va (A1 (r:=false) (decide_eq_false (fun h=>h rfl)) (ad0 (m:=(m:Int)) (k:=(m:Int)) rfl rfl)) ?_;exact L.va (O6 rfl) O):P:=h k
theorem U232(h:Q->P:=by intro O;refine U272 ?_;exact U282 O):P:=h k
theorem U492(h:Q->P:=by intro O;refine U447 ?_;exact D.va (fun w' J0=>(B0 rfl underlying111 rfl ((hH.j0 J0).q0 2 (v:=.slice Lx.na H.Y0.length Lx.nc) rfl))) O):P:=h k
theorem U493(h:Q->P:=by intro O;refine S0.val n1 (P1 _) rfl (v:=.bool true) (P0 rfl) ?_;exact S0.cf0 n1 (P1 _) rfl rfl (v:=.i 1) (P0 rfl) O):P:=h k
theorem U52(h:Q->P:=by intro O;refine U277 ?_;exact U277 O):P:=h k
theorem U494(h:Q->P:=by intro O;refine L.va (E0 rfl underlying133 rfl c5 (by decide)) ?_;exact L.va (B0 rfl underlying3 rfl (j3.q0 0 (v:=.i o) rfl)) O):P:=h k
theorem U495(h:Q->P:=by intro O;refine L.va (E0 rfl underlying133 rfl c5 (by decide)) ?_;exact L.va (B0 rfl underlying3 rfl (j3.q0 1 (v:=.i n) rfl)) O):P:=h k
theorem U496(h:B Q->P:=by intro O;refine S0.val (I0 _) (P1 _) rfl (v:=.bool false) (fp0 (r:=false) rfl rfl (decide_eq_false (by omega))) ?_;exact U282 O.1):P:=h ⟨k⟩
theorem U233(h:Q->P:=by intro O;refine L.on rfl ?_;exact L.va (ad0 rfl rfl) O):P:=h k
theorem U156(h:Q->P:=by intro O;refine U184 ?_;intro hM I8;revert hM I8;exact O):P:=h k
theorem U234(h:Q->P:=by intro O;refine At.seq K5 ?_;exact At.region K5 O):P:=h k
theorem U339(h:Q->P:=by intro O;refine L.va (V4 rfl underlying152 rfl) ?_;exact L.va (K2 rfl) O):P:=h k
theorem U340(h:Q->P:=by intro O;refine S0.nil (I0 _) ?_;exact At.Y5 (I0 _) rfl O):P:=h k
theorem U497(h:Q->P:=by intro O;have n6:=HSo.Hk0 (K:=A3 p fb q p5 i cb top) (s:=s1) (tc':=tc2) n6 O2.lt hwh;have hB7:=V0.Fe0 hB7 I6 cj0 (fun ha e=>n7 (.inr (.inr (.inr (.inl ⟨ha,e⟩)))));revert n6 hB7;exact O):P:=h k
theorem U341(h:Q->P:=by intro O;refine L.va (w7 rfl) ?_;exact L.va (V4 rfl underlying50 rfl) O):P:=h k
theorem U498(h:Q->P:=by intro O;refine D.on rfl ?_;exact D.va (fun w' J0=>(B0 rfl underlying3 rfl ((C1.j0 J0).q0 0 (v:=.i ((i:Nat)+1)) rfl))) O):P:=h k
theorem U117(h:Q->P:=by intro O;refine ZA.block hZ ?_;exact U8 O):P:=h k
theorem U499(h:Q->P:=by intro O;refine U19 ?_;intro hb B1;refine ends.cell (cs:=#[.i 0,.i 0,.i 0,.i 0,.i 0,.slice none 0 0,.i 0,.i 0,.i 0,.i 0,.bool false]) (.inr rfl) rfl rfl underlying117 rfl X2 B1 ?_;revert hb B1;exact O):P:=h k
theorem U53(h:Q->P:=by intro O;refine U131 ?_;exact U17 O):P:=h k
theorem U500(h:Q->P:=by intro O;refine L.on rfl ?_;exact L.va (B0 (v:=.slice (oa i) (bo i).length (oc i)) rfl underlying80 rfl (hBo.row i D2)) O):P:=h k
theorem U501(h:B Q->P:=by intro O;refine S0.val n1 (P1 _) rfl (v:=.bool false) (fp0 (r:=false) rfl rfl (decide_eq_false (by omega))) ?_;exact U113 O.1):P:=h ⟨k⟩
theorem U502(h:Q->P:=by intro O;refine L.va (B0 rfl underlying140 rfl (C1.q0 0 (v:=.p cb) rfl)) ?_;exact L.va (Q5 rfl rfl underlying140) O):P:=h k
theorem U503(h:Q->P:=by intro O;refine D.va (fun w' J0=>(K2 rfl)) ?_;exact D.va (fun w' J0=>(o4 (i:=j) rfl rfl underlying23 c5 D2)) O):P:=h k
theorem U342(h:B Q->P:=by intro O;refine ZA.Y5 hZ (rb (decide_eq_true (by omega))) ?_;exact U108 O.1):P:=h ⟨k⟩
theorem U235(h:Q->P:=by intro O;refine S0.nil T2 ?_;exact At.seq T2 O):P:=h k
theorem U504(h:Q->P:=by intro O;refine At.region T2 ?_;exact S0.val T2 (P1 _) rfl (v:=.pointer (some ⟨gr.blk,gr.off,none⟩)) (P0 rfl) O):P:=h k
theorem U157(h:Q->P:=by intro O;refine FP.nil ?_;show L _ _ _ _ _ _ _;exact O):P:=h k
theorem U505(h:Q->P:=by intro O;refine L.va (B0 rfl underlying85 rfl (hB2.q0 0 (v:=.p cb) rfl)) ?_;exact L.va (Q5 rfl rfl underlying85) O):P:=h k
theorem U506(h:Q->P:=by intro O;refine L.va (B0 rfl underlying85 rfl (C1.q0 0 (v:=.p cb) rfl)) ?_;exact L.va (Q5 rfl rfl underlying85) O):P:=h k
theorem U507(h:Q->P:=by intro O;refine L.va (B0 (v:=.i o.kind) rfl underlying3 rfl ((hBo.ops i D2).cell k2 o ho 0 _ rfl)) ?_;exact L.on rfl O):P:=h k
theorem U89(h:Q->P:=by intro O;have C1:=C1.mod Y1 rfl;have B1:=B1.mod Y1 rfl;revert C1 B1;exact O):P:=h k
theorem U158(h:Q->P:=by intro O;refine S0.nil n1 ?_;exact U143 O):P:=h k
theorem U508(h:Q->P:=by intro O;refine U188 ?_;exact S0.val (I0 _) (P1 _) rfl (v:=.int .u64 (((v*4294967296+0:Nat):Int))) (P0 rfl) O):P:=h k
theorem U509(h:Q->P:=by intro O;refine U188 ?_;exact S0.val (I0 _) (P1 _) rfl (v:=.int .u64 (((v*4294967296+1:Nat):Int))) (P0 rfl) O):P:=h k
theorem U57(h:Q->P:=by intro O;refine U17 ?_;exact U216 O):P:=h k
theorem U510(h:Q->P:=by intro O;refine D.va (fun w' J0=>(K2 rfl)) ?_;exact D.va (fun w' J0=>(o4 (i:=i) rfl rfl underlying45 nt0 Il0)) O):P:=h k
theorem U159(h:Q->P:=by intro O;refine W.region rfl ?_;exact U83 O):P:=h k
theorem U511(h:Q->P:=by intro O;refine U188 ?_;exact S0.val (I0 _) (P1 _) rfl (v:=.int .u64 (((0*4294967296+0:Nat):Int))) (P0 rfl) O):P:=h k
theorem U236(h:Q->P:=by intro O;refine L.va (nc0 rfl) ?_;exact L.nil O):P:=h k
theorem U58(h:Q->P:=by intro O;refine U11 ?_;exact U0 O):P:=h k
theorem U512(h:Q->P:=by intro O;refine U278 ?_;exact S0.val n1 (P1 _) rfl (v:=.int .u64 ((((v+1)*4294967296+0:Nat):Int))) (P0 rfl) O):P:=h k
theorem U513(h:Q->P:=by intro O;refine U278 ?_;exact S0.val n1 (P1 _) rfl (v:=.int .u64 ((((0+1)*4294967296+0:Nat):Int))) (P0 rfl) O):P:=h k
theorem U514(h:Q->P:=by intro O;refine U54 ?_;exact L.va (B0 rfl underlying4 rfl (((hM.j0 hb).blk i _ hc).q0 9 (v:=.bool true) rfl)) O):P:=h k
theorem U343(h:Q->P:=by intro O;refine ZA.region hZ ?_;refine ZA.recover hZ (i:=0) (rest:=[]) rfl rfl rfl rfl hmd (fun c45 v hsv=>?_);revert c45 v hsv;exact O):P:=h k
theorem U344(h:B Q->P:=by intro O;refine W.G5 (rb (decide_eq_false (by omega))) ?_;exact U0 O.1):P:=h ⟨k⟩
theorem U59(h:Q->P:=by intro O;refine U1 ?_;exact U0 O):P:=h k
theorem U345(h:Q->P:=by intro O;refine FP.va rfl rfl (fun w' J0=>(Y3 rfl)) ?_;refine U270 ?_;exact FP.va rfl rfl (fun w' J0=>(E0 rfl underlying48 rfl Bl0 (by decide))) O):P:=h k
theorem U346(h:Q->P:=by intro O;have hl:=hl.V2 hg (Own.Wm0 hl (G3 hR.hX) (by decide));have hNw:=hNw.grown hg;revert hl hNw;exact O):P:=h k
theorem U347(h:B Q->P:=by intro O;refine W.Y5 (rb (decide_eq_true (by omega))) ?_;exact U0 O.1):P:=h ⟨k⟩
theorem U515(h:Q->P:=by intro O;refine U10 ?_;exact U9 O):P:=h k
theorem U348(h:Q->P:=by intro O;refine FP.va rfl rfl (fun w' J0=>(Dr0 rfl)) ?_;refine FP.va rfl rfl (fun w' J0=>(am0 rfl rfl)) ?_;exact FP.va rfl rfl (fun w' J0=>(am0 rfl rfl)) O):P:=h k
theorem U237(h:Q->P:=by intro O;refine U15 ?_;exact L.va (K1 rfl) O):P:=h k
theorem U349(h:Q->P:=by intro O;refine F.va rfl rfl (fun w' J0=>(Y3 rfl)) ?_;refine F.va rfl rfl (fun w' J0=>(E0 rfl underlying117 rfl O8 (by decide))) ?_;exact F.va rfl rfl (fun w' J0=>(B0 rfl underlying23 rfl (J0.q0 5 (v:=.slice a seen.length sk) rfl))) O):P:=h k
theorem U516(h:Q->P:=by intro O;refine U66 ?_;exact S0.Eb0 T2 (P1 _) .enable (by simp) (.inl rfl) rfl Try.func100 nv0 rfl rfl nx0 O):P:=h k
theorem U90(h:Q->P:=by intro O;refine D.nil (fun w D1=>?_);refine U96 ?_;intro hm hH;revert w D1 hm hH;exact O):P:=h k
theorem U518(h:Q->P:=by intro O;refine U408 ?_;exact L.call (W1 rfl rfl func46 rfl Gp0 rfl) (jl0 B hp wb pb obj most _ _ _ hM i F9) O):P:=h k
theorem U519(h:Q->P:=by intro O;refine U408 ?_;exact L.call (W1 rfl rfl func46 rfl Gp0 rfl) (jl0 B hp wb pb obj most H Ly _ hM i hi) O):P:=h k
theorem U520(h:Q->P:=by intro O;refine U112 ?_;exact L.call (W1 rfl rfl func46 rfl Gp0 rfl) (jl0 B hp wb pb obj most H Ly _ hM i hi) O):P:=h k
theorem U160(h:Q->P:=by intro O;refine L.nil ?_;exact B.nrm O):P:=h k
theorem U238(h:Q->P:=by intro O;refine U0 ?_;refine L.alloc (cs:=#[.i 0,.i 0]) sb0 rfl (fun w b6 F6=>?_);revert w b6 F6;exact O):P:=h k
theorem U350(h:Q->P:=by intro O;refine F.va rfl rfl (fun w' J0=>(Y3 rfl)) ?_;exact U24 O):P:=h k
theorem U239(h:Q->P:=by intro O;refine U7 ?_;intro hb;refine L.box (cs:=#[.p cb]) rfl rfl (fun w b2 F2=>?_);revert hb w b2 F2;exact O):P:=h k
theorem U521(h:Q->P:=by intro O;refine U67 ?_;exact S0.val B3 (P1 _) rfl (v:=.int .u64 (((v*4294967296+0:Nat):Int))) (P0 rfl) O):P:=h k
theorem U522(h:Q->P:=by intro O;refine S0.val K5 (P1 _) rfl (v:=.pointer (some ⟨gr.blk,gr.off,none⟩)) (P0 rfl) ?_;refine S0.val K5 (P1 _) rfl (v:=.pointer (some ⟨gr.blk,gr.off,none⟩)) (l5 rfl) ?_;exact S0.val K5 (P1 _) rfl (v:=.pointer (some ⟨gr.blk,gr.off+1,none⟩)) (j5 (s:=1) gr.off (gr.off+1) rfl Try.underlying160 rfl Kp0 (by decide) rfl) O):P:=h k
theorem U240(h:Q->P:=by intro O;refine L.va (it0 rfl rfl) ?_;exact U25 O):P:=h k
theorem U241(h:Q->P:=by intro O;have hm:=hm.step D1 (Nat.le_trans J5 hm.size);have hM:=hM.j0 D1;revert hm hM;exact O):P:=h k
theorem U119(h:Q->P:=by intro O;have lt2:=F2.lq hb.size;have hb:=O0 hb F2.below;revert lt2 hb;exact O):P:=h k
theorem U525(h:Q->P:=by intro O;refine U412 ?_;exact L.call (W1 rfl rfl func52 rfl Yl0 rfl) (sx0 _ _ _ M.s.N0 o _ hR.hT) O):P:=h k
theorem U526(h:Q->P:=by intro O;refine U313 ?_;exact L.call (W1 rfl rfl func21 rfl ej1 rfl) (vh0 hp b13 _ _ _ _ _ _ _ hH R4) O):P:=h k
theorem U527(h:Q->P:=by intro O;refine L.va (u4 (i:=k2) rfl rfl underlying80 up0 (hBo.ops i D2).sl h33.1) ?_;exact L.on rfl O):P:=h k
theorem U530(h:Q->P:=by intro O;have hN9:V0 w M.nb (Mx.now ({M with ends:=(M.ends.set j 1),I4:=(M.I4.set j sp0)}:Mx) |>.flatMap dcC).toArray 117:=hR.hN;refine U1 ?_;revert hN9;exact O):P:=h k
theorem U91(h:Q->P:=by intro O;have Y1:=F1.E5 B1 hg;have hm:=hm.own hg lt4 J5;have hH:=hH.mod Y1 rfl;revert Y1 hm hH;exact O):P:=h k
theorem U531(h:Q->P:=by intro O;refine L.va (K2 rfl) ?_;exact L.va (Z1 (parts:=[(0,.tmp 9),(1,.tmp 10)]) rfl (Zr0 obj num)) O):P:=h k
theorem U161(h:Q->P:=by intro O;refine L.off rfl ?_;exact U25 O):P:=h k
theorem U532(h:Q->P:=by intro O;have hl2:=(hO.dx0 p6.goes.Z3.le).trans X7;(have hiu:i<(hI.hs (K.R5 (gh u0 0))).Y0.length:=by rw[<- hnu];exact(Goes.X p6.goes hI aa1).2);revert hl2 hiu;exact O):P:=h k
theorem U242(h:Q->P:=by intro O;refine L.va (e7 rfl) ?_;exact U12 O):P:=h k
theorem U533(h:Q->P:=by intro O;refine U54 ?_;exact L.va (B0 rfl underlying4 rfl ((hM.blk i c hc).q0 9 (v:=.bool c.wt) rfl)) O):P:=h k
theorem U534(h:Q->P:=by intro O;refine U275 ?_;exact L.va (Q0 (cs:=[.i rn,.i rg]) rfl underlying82 rfl X5 rfl (C1.B4 rfl)) O):P:=h k
theorem U351(h:Q->P:=by intro O;have Y2:Below w.heap.size w w.drew:=(Below.refl w.heap.size w).drew;refine U224 ?_;intro hm hH;revert Y2 hm hH;exact O):P:=h k
theorem U535(h:Q->P:=by intro O;refine U230 ?_;exact S0.val (u1 _ gr 2) (P1 _) rfl (v:=.int .i32 (((0:Nat):Int))) (P0 rfl) O):P:=h k
theorem U536(h:Q->P:=by intro O;refine D.on rfl ?_;exact D.va (fun w' J0=>(u4 (i:=i) rfl rfl underlying111 Q9 hD.nO.sl hi)) O):P:=h k
theorem U60(h:Q->P:=by intro O;exact U5 O):P:=h k
theorem U537(h:Q->P:=by intro O;refine U136 ?_;exact S0.val (I0 _) (P1 _) rfl (v:=.int .i32 (((0:Nat):Int))) (P0 rfl) O):P:=h k
theorem U352(h:Q->P:=by intro O;refine D.va (fun w' J0=>(E0 rfl underlying95 rfl c5 (by decide))) ?_;refine D.va (fun w' J0=>(B0 rfl underlying3 rfl ((hH.j0 J0).q0 2 (v:=.i most) rfl))) ?_;exact D.va (fun w' J0=>(le0 rfl rfl)) O):P:=h k
theorem U538(h:Q->P:=by intro O;refine U143 ?_;exact S0.val n1 (P1 _) rfl (v:=.int .i32 ((((v+1):Nat):Int))) (P0 rfl) O):P:=h k
theorem U353(h:Q->P:=by intro O;refine L.va (v7 rfl) ?_;exact L.va (au0 rfl) O):P:=h k
theorem U539(h:Q->P:=by intro O;refine F.va rfl rfl (fun w' J0=>(Y3 rfl)) ?_;exact F.va rfl rfl (fun w' J0=>(w7 rfl)) O):P:=h k
theorem U540(h:Q->P:=by intro O;refine D.va (fun w' J0=>(E0 rfl underlying40 rfl Gm0 (by decide))) ?_;exact D.on rfl O):P:=h k
theorem U77(h:Q->P:=by intro O;refine U11 ?_;exact U273 O):P:=h k
theorem U78(h:Q->P:=by intro O;refine U192 ?_;exact U17 O):P:=h k
theorem U541(h:Q->P:=by intro O;refine U515 ?_;refine U197 ?_;exact U407 O):P:=h k
theorem U354(h:Q->P:=by intro O;have neE:=X1.ne hE hg.m.ends (by decide);refine L.stE (i:=i) hg hi rfl rfl c5 (fun w hg N3=>?_);revert neE w hg N3;exact O):P:=h k
theorem U542(h:B Q->P:=by intro O;refine D.on rfl ?_;exact D.va (fun w' J0=>(cd0 (r:=(i:Int)) (by omega) (by omega) rfl rfl)) O.1):P:=h ⟨k⟩
theorem U543(h:Q->P:=by intro O;refine L.va (Z1 (parts:=[]) rfl Tx0) ?_;refine L.pa [.i 0,.i 0,.i 0,.i 0,.i 0,.slice none 0 0,.i 0,.i 0,.i 0,.i 0,.bool false] X2 B1 (fun w G0 hg A2=>?_);revert w G0 hg A2;exact O):P:=h k
theorem U544(h:Q->P:=by intro O;refine U43 ?_;exact ends.dq0 (cs:=#[.i 0,.i 0]) (.inr rfl) rfl rfl underlying82 rfl X5 O2 O):P:=h k
theorem U355(h:Q->P:=by intro O;refine U276 ?_;exact L.va (V4 rfl underlying23 rfl) O):P:=h k
theorem U356(h:Q->P:=by intro O;refine U47 ?_;exact W.Y5 (rb (decide_eq_true hk1)) O):P:=h k
theorem U545(h:Q->P:=by intro O;refine L.on rfl ?_;exact L.va (B0 rfl underlying3 rfl (j3.q0 1 (v:=.i c.rg) rfl)) O):P:=h k
theorem U546(h:Q->P:=by intro O;refine U24 ?_;exact F.va rfl rfl (fun w' J0=>(E0 rfl underlying113 rfl gn0 (by decide))) O):P:=h k
theorem U243(h:Q->P:=by intro O;refine U2 ?_;exact ZA.Y5 hZ rfl O):P:=h k
theorem U244(h:Q->P:=by intro O;refine U23 ?_;exact U287 O):P:=h k
theorem U547(h:Q->P:=by intro O;refine F.va rfl rfl (fun w' J0=>(w7 rfl)) ?_;exact F.va rfl rfl (fun w' J0=>(w7 rfl)) O):P:=h k
theorem U357(h:Q->P:=by intro O;have hm:=hm.step T8.below (Nat.le_trans J5 hm.size);have hH:=hH.j0 T8.below;revert hm hH;exact O):P:=h k
theorem U358(h:Q->P:=by intro O;have hm:=hm.step E7.below (Nat.le_trans J5 hm.size);have hH:=hH.j0 E7.below;revert hm hH;exact O):P:=h k
theorem U245(h:Q->P:=by intro O;refine U190 ?_;exact L.va (Y3 rfl) O):P:=h k
theorem U246(h:Q->P:=by intro O;have hZ:Ctx.Zs prog (Fin prog Post X 0):=j6;have hb:=P1 58;revert hZ hb;exact O):P:=h k
theorem U359(h:Q->P:=by intro O;refine ZA.H4 hZ ?_;exact ZA.inBlock hZ O):P:=h k
theorem U247(h:Q->P:=by intro O;have hZ:Ctx.Zs prog (Fin prog Post X 0):=j6;have hb:=P1 27;revert hZ hb;exact O):P:=h k
theorem U548(h:Q->P:=by intro O;rw[L0 s6,L0 s39,L0 s40,L0 s41,L0 s4,L0 s1];exact O):P:=h k
theorem U549(h:Q->P:=by intro O;refine L.va (K1 rfl) ?_;exact L.va (E0 rfl underlying193 rfl af0 (by decide)) O):P:=h k
theorem U248(h:Q->P:=by intro O;refine Calls.ch0 (n:=93) func26 rfl rfl ?_;have sy0:=hc.os;revert sy0;exact O):P:=h k
theorem U550(h:Q->P:=by intro O;refine L.on rfl ?_;exact L.va (A1 (r:=true) (by decide) (S1 (m:=0) (k:=0) rfl rfl)) O):P:=h k
theorem U360(h:Q->P:=by intro O;refine U3 ?_;exact L.va (Y3 rfl) O):P:=h k
theorem U92(h:Q->P:=by intro O;refine U28 ?_;exact U0 O):P:=h k
theorem U551(h:Q->P:=by intro O;refine L.va (K1 rfl) ?_;exact L.va (E0 rfl underlying135 rfl O8 (by decide)) O):P:=h k
theorem U79(h:Q->P:=by intro O;have C1:=C1.j0 F4.below;have B1:=F4.blk;revert C1 B1;exact O):P:=h k
theorem U552(h:Q->P:=by intro O;refine U271 ?_;exact S0.val (I0 _) (P1 _) rfl (v:=.bool true) (P9 rfl rfl) O):P:=h k
theorem U93(h:Q->P:=by intro O;refine U46 ?_;exact U97 O):P:=h k
theorem U361(h:Q->P:=by intro O;refine U75 ?_;exact D.va (fun w' J0=>(Y3 rfl)) O):P:=h k
theorem U553(h:Q->P:=by intro O;refine U2 ?_;refine ZA.call (i:=1) (rest:=[]) hZ hb (f:=58) (args:=#[.p R.rb]) rfl rfl (X4 rfl func58 rfl kt1 rfl) (fun a ha=>?_);revert a ha;exact O):P:=h k
theorem U80(h:Q->P:=by intro O;refine L.alloc (cs:=#[.i 0,.i 0,.i 0]) dy1 rfl (fun w b4 F4=>?_);have lt4:=F4.lq hb.size;refine U88 ?_;intro hb hD C1 B1;revert w b4 F4 lt4 hb hD C1 B1;exact O):P:=h k
theorem U554(h:Q->P:=by intro O;refine Bj0 (Q:=fun _ _ _=>False) hZ hb (fun _ _ _ hx=>hx.elim) ho ?_;show pc0 P _ a w _ _;exact O):P:=h k
theorem U362(h:Q->P:=by intro O;refine At.H4 hY ?_;exact At.region hY O):P:=h k
theorem U556(h:Q->P:=by intro O;have h5:=(Goes.aa0 hg j3 (Nat.zero_lt_succ _) hF5).2;have p6:Gn K w0 m F lab u F':=Gn.V2 ⟨hK,Goes.down hbL hg⟩ N3 ⟨lt5,h5⟩;revert h5 p6;exact O):P:=h k
theorem U557(h:Q->P:=by intro O;refine U409 ?_;exact L.call (n3 rfl rfl rfl func62 rfl Rh0 rfl) (jz0 _ hD 8 num) O):P:=h k
theorem U558(h:Q->P:=by intro O;refine U409 ?_;exact L.call (n3 rfl rfl rfl func62 rfl Rh0 rfl) (jz0 _ hD 9 num) O):P:=h k
theorem U559(h:B Q->P:=by intro O;refine U410 ?_;exact D.va (fun w' J0=>(cd0 (r:=(i:Int)) (by omega) (by omega) rfl rfl)) O.1):P:=h ⟨k⟩
theorem U560(h:Q->P:=by intro O;refine F.va rfl rfl (fun w' J0=>(Z1 (parts:=[]) rfl Ui0)) ?_;exact U423 O):P:=h k
theorem U561(h:Q->P:=by intro O;refine F.A9 rfl rfl ?_;exact L.call (X4 rfl func10 rfl Kq0 rfl) (vs0 c2.e w) O):P:=h k
theorem U363(h:Q->P:=by intro O;refine S0.val (I0 _) (P1 _) rfl (v:=.bool false) (P0 rfl) ?_;refine U271 ?_;exact U232 O):P:=h k
theorem U249(h:B Q->P:=by intro O;have hbL:=hb;(have hF5:¬F b5:=fun z=>by have:=hK.tlt hT z;omega);revert hbL hF5;exact O.1):P:=h ⟨k⟩
theorem U562(h:Q->P:=by intro O;refine U3 ?_;exact L.call (n3 rfl rfl rfl func62 rfl Rh0 rfl) (jz0 _ hD 8 0) O):P:=h k
theorem U563(h:Q->P:=by intro O;refine U3 ?_;exact L.call (n3 rfl rfl rfl func62 rfl Rh0 rfl) (jz0 _ hD 9 0) O):P:=h k
theorem U564(h:B Q->P:=by intro O;refine L.va (B0 (v:=.i (k:Int)) rfl underlying3 rfl (RX.qy0 hR hk)) ?_;exact U437 O.1):P:=h ⟨k⟩
theorem U565(h:Q->P:=by intro O;refine U156 ?_;intro hM I8;have hN9:V0 w M.nb (Mx.now ({M with ends:=(M.ends.set j 1),I4:=M.I4}:Mx) |>.flatMap dcC).toArray 117:=hR.hN;revert hM I8 hN9;exact O):P:=h k
theorem U566(h:Q->P:=by intro O;refine FP.A9 rfl rfl ?_;refine L.Q7 (cs:=#[.i c2.tn,.i c2.tg]) rfl rfl underlying46 X5 rfl ⟨_,sb0⟩ (by decide) (fun w b37 F37=>?_);revert w b37 F37;exact O):P:=h k
theorem U567(h:Q->P:=by intro O;refine U275 ?_;exact L.call (W1 rfl rfl func84 rfl Ri0 rfl) (qx0 _ hD rn hn) O):P:=h k
theorem U569(h:B Q->P:=by intro O;refine L.va (V4 rfl underlying97 rfl) ?_;exact L.va (ex0 rfl rfl (by omega)) O.1):P:=h ⟨k⟩
theorem U120(h:Q->P:=by intro O;refine U183 ?_;exact U6 O):P:=h k
theorem U250(h:Q->P:=by intro O;refine W.region rfl ?_;exact U45 O):P:=h k
theorem U570(h:Q->P:=by intro O;refine U275 ?_;exact L.call (W1 rfl rfl func84 rfl Ri0 rfl) (wa0 _ hD rn hn) O):P:=h k
theorem U571(h:Q->P:=by intro O;refine L.va (A1 (r:=false) (by decide) (S1 (m:=3) (k:=1) rfl rfl)) ?_;exact U4 O):P:=h k
theorem U572(h:Q->P:=by intro O;refine L.va (A1 (r:=false) (by decide) (S1 (m:=3) (k:=2) rfl rfl)) ?_;exact U4 O):P:=h k
theorem U573(h:Q->P:=by intro O;refine U10 ?_;exact L.va (A1 (r:=false) (by decide) (ad0 (m:=0) (k:=0) rfl rfl)) O):P:=h k
theorem U94(h:Q->P:=by intro O;refine U26 ?_;exact U0 O):P:=h k
theorem U162(h:Q->P:=by intro O;refine W.seq ?_;exact U14 O):P:=h k
theorem U574(h:Q->P:=by intro O;refine L.va (B0 rfl underlying140 rfl (hB2.q0 0 (v:=.p cb) rfl)) ?_;exact U407 O):P:=h k
theorem U575(h:Q->P:=by intro O;refine L.va (A1 (r:=true) (by decide) (S1 (m:=6) (k:=6) rfl rfl)) ?_;exact U64 O):P:=h k
theorem U576(h:Q->P:=by intro O;refine L.va (A1 (r:=true) (by decide) (S1 (m:=5) (k:=5) rfl rfl)) ?_;exact U64 O):P:=h k
theorem U577(h:Q->P:=by intro O;refine L.va (A1 (r:=true) (by decide) (S1 (m:=7) (k:=7) rfl rfl)) ?_;exact U64 O):P:=h k
theorem U578(h:Q->P:=by intro O;refine L.va (A1 (r:=true) (by decide) (S1 (m:=2) (k:=2) rfl rfl)) ?_;exact U64 O):P:=h k
theorem U364(h:Q->P:=by intro O;have hm:=hm.step F5.below (Nat.le_trans J5 hm.size);have hH:=hH.j0 F5.below;revert hm hH;exact O):P:=h k
theorem U579(h:Q->P:=by intro O;refine L.va (Y3 rfl) ?_;refine L.Q7 (cs:=#[.p cb]) rfl rfl underlying152 uq0 rfl ⟨_,Vg0⟩ (by decide) (fun w b35 F35=>?_);revert w b35 F35;exact O):P:=h k
theorem U580(h:Q->P:=by intro O;refine F.A9 rfl rfl ?_;refine L.Q7 (cs:=#[.i ((i:Nat)+1)]) rfl rfl underlying23 c5 rfl ⟨_,zr3⟩ (by decide) (fun w b62 F62=>?_);revert w b62 F62;exact O):P:=h k
theorem U581(h:Q->P:=by intro O;refine U27 ?_;exact L.va (u4 (i:=i) rfl rfl underlying22 Bm0 hBo.sl D2) O):P:=h k
theorem U582(h:B Q->P:=by intro O;refine U22 ?_;exact W.G5 (congrArg Value.bool (decide_eq_false (by omega))) O.1):P:=h ⟨k⟩
theorem U583(h:Q->P:=by intro O;refine D.va (fun w' J0=>(au0 rfl)) ?_;exact D.va (fun w' J0=>(O6 rfl)) O):P:=h k
theorem U163(h:Q->P:=by intro O;have hH:=hH.j0 F3.below;have hN:=hN.j0 F3.below;revert hH hN;exact O):P:=h k
theorem U365(h:Q->P:=by intro O;refine U43 ?_;exact ends.none (.inr rfl) rfl O):P:=h k
theorem U584(h:B Q->P:=by intro O;refine U22 ?_;exact W.Y5 (congrArg Value.bool (decide_eq_true (by omega))) O.1):P:=h ⟨k⟩
theorem U251(h:Q->P:=by intro O;refine U137 ?_;refine D.va (fun w' J0=>(K1 rfl)) ?_;exact D.on rfl O):P:=h k
theorem U585(h:Q->P:=by intro O;refine U72 ?_;exact L.va (B0 rfl underlying3 rfl (C1.q0 0 (v:=.i 5) rfl)) O):P:=h k
theorem U586(h:Q->P:=by intro O;refine U72 ?_;exact L.va (B0 rfl underlying3 rfl (C1.q0 0 (v:=.i 8) rfl)) O):P:=h k
theorem U587(h:Q->P:=by intro O;refine U72 ?_;exact L.va (B0 rfl underlying3 rfl (C1.q0 0 (v:=.i 4) rfl)) O):P:=h k
theorem U588(h:Q->P:=by intro O;refine U72 ?_;exact L.va (B0 rfl underlying3 rfl (C1.q0 0 (v:=.i 7) rfl)) O):P:=h k
theorem U589(h:Q->P:=by intro O;refine U72 ?_;exact L.va (B0 rfl underlying3 rfl (C1.q0 0 (v:=.i 6) rfl)) O):P:=h k
theorem U590(h:Q->P:=by intro O;refine U72 ?_;exact L.va (B0 rfl underlying3 rfl (C1.q0 0 (v:=.i 2) rfl)) O):P:=h k
theorem U121(h:B Q->P:=by intro O;have O2:=V0.Fe0 O2 I6 cj0 (fun ha e=>n6 (.inr (.inr (.inr (.inr (.inl ⟨i,him,ha,e⟩))))));have hK:=V0.app hK hT I6 (by decide);have hG:=V0.app hG hT I6 (by decide);have hc:=hc.V2 I6 trivial;revert O2 hK hG hc;exact O.1):P:=h ⟨k⟩
theorem U591(h:Q->P:=by intro O;refine D.va (fun w' J0=>(au0 rfl)) ?_;exact D.va (fun w' J0=>(v7 rfl)) O):P:=h k
theorem U122(h:Q->P:=by intro O;refine U467 ?_;exact U467 O):P:=h k
theorem U592(h:B Q->P:=by intro O;(have sz0:r2.la i≠none->ab (r2.la i)≠b90:=fun h=>by have h8:=hT.lt h;have h9:=F90.here;omega);have hE:=hE.j0 F90.below;revert sz0 hE;exact O.1):P:=h ⟨k⟩
theorem U366(h:Q->P:=by intro O;exact U1 O):P:=h k
theorem U593(h:Q->P:=by intro O;refine S0.val n1 (P1 _) rfl (v:=.bool false) (P0 rfl) ?_;exact U195 O):P:=h k
theorem U594(h:Q->P:=by intro O;refine S0.val n1 (P1 _) rfl (v:=.int .u32 0) (P0 rfl) ?_;exact U280 O):P:=h k
theorem U596(h:Q->P:=by intro O;refine L.va (E0 rfl underlying40 rfl Rc0 (by decide)) ?_;exact L.on rfl O):P:=h k
theorem U597(h:Q->P:=by intro O;refine L.va (E0 rfl underlying40 rfl Gm0 (by decide)) ?_;exact L.on rfl O):P:=h k
theorem U598(h:Q->P:=by intro O;refine S0.cf0 n1 (P1 _) rfl rfl (v:=.bool true) (dv0 (r:=true) rfl rfl (by decide)) ?_;refine S0.val n1 (P1 _) rfl (v:=.bool true) (P9 rfl rfl) ?_;exact S0.val n1 (P1 _) rfl (v:=.bool true) (P0 rfl) O):P:=h k
theorem U599(h:Q->P:=by intro O;refine L.va (E0 rfl underlying40 rfl sz4 (by decide)) ?_;exact L.on rfl O):P:=h k
theorem U367(h:Q->P:=by intro O;show L _ _ _ _ _ _ _;exact U45 O):P:=h k
theorem U600(h:Q->P:=by intro O;refine U66 ?_;exact S0.val T2 (P1 _) rfl (v:=.int .u64 0) (P0 rfl) O):P:=h k
theorem U601(h:B Q->P:=by intro O;refine U149 ?_;exact W.G5 (congrArg Value.bool (decide_eq_false (by omega))) O.1):P:=h ⟨k⟩
theorem U602(h:Q->P:=by intro O;refine L.va (Y3 rfl) ?_;refine L.Q7 (cs:=#[.p xb]) rfl rfl underlying97 Kn0 rfl ⟨_,ei1⟩ (by decide) (fun w b94 F94=>?_);revert w b94 F94;exact O):P:=h k
theorem U123(h:Q->P:=by intro O;have hE:=hE.j0 Y2;refine U154 ?_;intro hc O2;revert hE hc O2;exact O):P:=h k
theorem U603(h:Q->P:=by intro O;have B1:=B1.other hg (V0.ne B1 cg0 (by decide));have J8:=J8.grown hg (fun r e=>by cases e;exact⟨_,_,_,G3 cg0⟩);revert B1 J8;exact O):P:=h k
theorem U604(h:B Q->P:=by intro O;have ah1:=Nat.le_refl w.heap.size;(have ai1:r1.ta≠none->ab r1.ta≠b37:=fun h=>by have h8:=hT.lt h;have h9:=F37.here;omega);revert ah1 ai1;exact O.1):P:=h ⟨k⟩
theorem U605(h:Q->P:=by intro O;refine L.va (E0 rfl underlying162 rfl Vk0 (by decide)) ?_;exact U2 O):P:=h k
theorem U124(h:Q->P:=by intro O;refine U1 ?_;exact U20 O):P:=h k
theorem U125(h:Q->P:=by intro O;have hc:=hc.j0 F90.below;have O2:=O2.j0 F90.below;have hK:=hK.j0 F90.below;have hG:=hG.j0 F90.below;have hT:=hT.j0 F90.below;revert hc O2 hK hG hT;exact O):P:=h k
theorem U606(h:Q->P:=by intro O;refine U367 ?_;exact L.va (E0 rfl underlying197 rfl Vl0 (by decide)) O):P:=h k
theorem U607(h:Q->P:=by intro O;refine L.va (Q5 rfl rfl underlying25) ?_;exact L.va (O6 rfl) O):P:=h k
theorem U608(h:Q->P:=by intro O;refine U0 ?_;exact L.va (E0 rfl underlying145 rfl sz2 (by decide)) O):P:=h k
theorem U368(h:Q->P:=by intro O;refine S0.val n1 (P1 _) rfl (v:=.bool true) (P9 rfl rfl) ?_;refine S0.nil n1 ?_;exact At.Y5 n1 rfl O):P:=h k
theorem U164(h:B Q->P:=by intro O;refine U406 ?_;refine U403 ?_;exact L.nil O.1):P:=h ⟨k⟩
theorem U369(h:Q->P:=by intro O;refine L.va ew0 ?_;exact L.va ew0 O):P:=h k
theorem U609(h:Q->P:=by intro O;refine U296 ?_;exact L.va (E0 rfl underlying193 rfl us0 (by decide)) O):P:=h k
theorem U610(h:Q->P:=by intro O;refine U297 ?_;exact L.va (E0 rfl underlying193 rfl us0 (by decide)) O):P:=h k
theorem U611(h:Q->P:=by intro O;refine U298 ?_;exact L.va (E0 rfl underlying135 rfl us0 (by decide)) O):P:=h k
theorem U612(h:Q->P:=by intro O;refine U299 ?_;exact L.va (E0 rfl underlying135 rfl us0 (by decide)) O):P:=h k
theorem U613(h:Q->P:=by intro O;refine U360 ?_;exact L.va (E0 rfl underlying145 rfl c5 (by decide)) O):P:=h k
theorem U614(h:Q->P:=by intro O;refine U3 ?_;exact L.va (E0 rfl underlying117 rfl X5 (by decide)) O):P:=h k
theorem U615(h:Q->P:=by intro O;refine U138 ?_;exact L.va (E0 rfl underlying40 rfl sz4 (by decide)) O):P:=h k
theorem U616(h:Q->P:=by intro O;refine L.box (cs:=#[.i 4,.i num,.i rn,.i rg,.i val,.slice a sn sk,.i tn,.i tg,.i er,.i x,.bool ok]) rfl rfl (fun w b3 F3=>?_);refine U37 ?_;intro lt3 hb hD;revert w b3 F3 lt3 hb hD;exact O):P:=h k
theorem U617(h:Q->P:=by intro O;refine L.box (cs:=#[.i 8,.i num,.i rn,.i rg,.i val,.slice a sn sk,.i tn,.i tg,.i er,.i x,.bool ok]) rfl rfl (fun w b3 F3=>?_);refine U37 ?_;intro lt3 hb hD;revert w b3 F3 lt3 hb hD;exact O):P:=h k
theorem U165(h:Q->P:=by intro O;refine U105 ?_;exact U55 O):P:=h k
theorem U126(h:Q->P:=by intro O;refine U116 ?_;exact U14 O):P:=h k
theorem U618(h:B Q->P:=by intro O;have hσ:=Al0 (V:=V) h (.cons F9 hl) i (by omega) hs R6 (fun j hj=>hkf j hj) at0 hV;rw[hσ];revert hσ;exact O.1):P:=h ⟨k⟩
theorem U370(h:Q->P:=by intro O;refine ZD.seq hZ ?_;exact ZD.region hZ O):P:=h k
theorem U371(h:Q->P:=by intro O;refine ZA.block hZ ?_;exact ZA.loop hZ O):P:=h k
theorem U619(h:Q->P:=by intro O;refine L.va (w7 rfl) ?_;exact L.va (V4 rfl underlying152 rfl) O):P:=h k
theorem U372(h:Q->P:=by intro O;have hm:F1 w0 w0 B [95,135,193,97,140]:=F1.refl _ _ _;have hH:=hM.hH;revert hm hH;exact O):P:=h k
theorem U620(h:Q->P:=by intro O;refine U18 ?_;exact L.call (X4 rfl func10 rfl Kq0 rfl) (vs0 _ w) O):P:=h k
theorem U373(h:Q->P:=by intro O;refine S0.nil (Q3 _ gr) ?_;exact U139 O):P:=h k
theorem U166(h:B Q->P:=by intro O;refine U186 ?_;refine U403 ?_;refine U2 ?_;exact ZA.inLoop hZ O.1):P:=h ⟨k⟩
theorem U252(h:Q->P:=by intro O;have hm:=hm.trans (r9.wide rfl);have hH:=hH.mod r9 rfl;revert hm hH;exact O):P:=h k
theorem U621(h:Q->P:=by intro O;refine U3 ?_;exact L.va (E0 rfl underlying82 rfl c5 (by decide)) O):P:=h k
theorem U374(h:Q->P:=by intro O;have n5:=hE.fresh (Nat.le_of_eq F5.here.symm);have hK:=hK.j0 F5.below;revert n5 hK;exact O):P:=h k
theorem U375(h:Q->P:=by intro O;have n6:=hE.fresh (Nat.le_of_eq F6.here.symm);have hK:=hK.j0 F6.below;revert n6 hK;exact O):P:=h k
theorem U622(h:Q->P:=by intro O;refine U0 ?_;exact L.call (dm0  func8 rfl nm8 rfl) (ib0 _) O):P:=h k
theorem U623(h:Q->P:=by intro O;refine U0 ?_;exact L.call (dm0  func9 rfl nm9 rfl) (No0 _) O):P:=h k
theorem U376(h:Q->P:=by intro O;refine L.va (v7 rfl) ?_;exact U105 O):P:=h k
theorem U624(h:Q->P:=by intro O;refine eu0 (Ctx.cl Z hZ) hl ?_;rw[Frame.raise_at];exact O):P:=h k
theorem U253(h:Q->P:=by intro O;refine U1 ?_;exact W.seq O):P:=h k
theorem U625(h:Q->P:=by intro O;refine F.va rfl rfl (fun w' J0=>(Q0 (cs:=dcC d) rfl underlying117 rfl X2 rfl (fun k v hk=>Dh0 J0.2.2 hd k v hk))) ?_;refine F.A9 rfl rfl ?_;have hnx:=Ol0 w hR.hD d (by rw[hdc];exact hat.2.1) (by rw[hdc];exact hat.2.2.1);revert hnx;exact O):P:=h k
theorem U167(h:Q->P:=by intro O;refine U22 ?_;exact U474 O):P:=h k
theorem U626(h:Q->P:=by intro O;refine At.seq (u1 _ gr 0) ?_;exact At.region (u1 _ gr 0) O):P:=h k
theorem U377(h:Q->P:=by intro O;refine U12 ?_;exact U33 O):P:=h k
theorem U168(h:Q->P:=by intro O;have hm:=hm.step F4.below (Nat.le_trans J5 hm.size);have hH:=hH.j0 F4.below;have hN:=hN.j0 F4.below;revert hm hH hN;exact O):P:=h k
theorem U169(h:B Q->P:=by intro O;have Y1:=F1.E5 O2 hg;have hE:=hE.V2 hg n6;have hc:=hc.V2 hg trivial;revert Y1 hE hc;exact O.1):P:=h ⟨k⟩
theorem U378(h:Q->P:=by intro O;refine L.va (gj0 rfl) ?_;exact U2 O):P:=h k
theorem U170(h:Q->P:=by intro O;refine U151 ?_;intro Y2 hR hM;have I8:=I8.j0 Y2;have hN9:=hN9.j0 Y2;revert Y2 hR hM I8 hN9;exact O):P:=h k
theorem U127(h:Q->P:=by intro O;have hK:=hK.j0 Y2;have hG:=hG.j0 Y2;have hT:=hT.j0 Y2;revert hK hG hT;exact O):P:=h k
theorem U379(h:Q->P:=by intro O;refine L.va (lc0 rfl) ?_;exact U2 O):P:=h k
theorem U171(h:Q->P:=by intro O;refine U71 ?_;intro lt5 hb;have hM:=hM.j0 F5.below;revert lt5 hb hM;exact O):P:=h k
theorem U172(h:Q->P:=by intro O;refine U155 ?_;intro hR hM;have B1:=B1.j0 D1;revert hR hM B1;exact O):P:=h k
theorem U254(h:Q->P:=by intro O;have hb:=O0 hb F4.below;have hH:=hH.j0 F4.below;revert hb hH;exact O):P:=h k
theorem U628(h:B Q->P:=by intro O;refine U2 ?_;exact ZA.G5 hZ (rb (decide_eq_false (by omega))) O.1):P:=h ⟨k⟩
theorem U173(h:Q->P:=by intro O;refine U2 ?_;exact U8 O):P:=h k
theorem U174(h:Q->P:=by intro O;refine U8 ?_;exact U459 O):P:=h k
theorem U128(h:Q->P:=by intro O;have hK:=hE.st.rm.hK;have hG:=hE.st.rm.hG;have hT:=hE.st.rm.hL i him;have cj0:=G6 hT;revert hK hG hT cj0;exact O):P:=h k
theorem U380(h:Q->P:=by intro O;refine U65 ?_;exact L.va (v7 rfl) O):P:=h k
theorem U381(h:Q->P:=by intro O;refine F.A9 rfl rfl ?_;refine L.rw0 underlying23 c5 (fun w tf0 E7=>?_);revert w tf0 E7;exact O):P:=h k
theorem U630(h:Q->P:=by intro O;refine U287 ?_;exact L.va (bp0 rfl rfl underlying25) O):P:=h k
theorem U382(h:Q->P:=by intro O;refine W.region rfl ?_;exact U377 O):P:=h k
theorem U632(h:Q->P:=by intro O;refine L.va (V4 rfl underlying97 rfl) ?_;exact L.on rfl O):P:=h k
theorem U383(h:Q->P:=by intro O;have hex:=dj0 (h.sel i o ho) hlk;have hwa:=dk0 hlk;revert hex hwa;exact O):P:=h k
theorem U633(h:Q->P:=by intro O;refine L.pu 0 [.slice Ly.la H.Y0.length Ly.lc] #[.slice Ly.la H.Y0.length Ly.lc] Kj0 R4 (fun w G0 hg A2=>?_);have Y1:=F1.E5 R4 hg;revert w G0 hg A2 Y1;exact O):P:=h k
theorem U634(h:Q->P:=by intro O;refine L.va (S1 rfl rfl) ?_;exact L.va (v7 rfl) O):P:=h k
theorem U255(h:Q->P:=by intro O;refine U203 ?_;refine F.va rfl rfl (fun w' J0=>(E0 rfl underlying54 rfl Yg0 (by decide))) ?_;exact F.va rfl rfl (fun w' J0=>(B0 rfl underlying51 rfl (J0.1.q0 0 (v:=.p M.hb) rfl))) O):P:=h k
theorem U635(h:Q->P:=by intro O;refine L.on rfl ?_;exact L.va (V4 rfl underlying37 rfl) O):P:=h k
theorem U636(h:Q->P:=by intro O;refine L.on rfl ?_;exact L.va (V4 rfl underlying38 rfl) O):P:=h k
theorem U637(h:Q->P:=by intro O;refine D.off rfl ?_;exact D.va (fun w' J0=>(e7 rfl)) O):P:=h k
theorem U638(h:Q->P:=by intro O;refine D.va (fun w' J0=>(e7 rfl)) ?_;exact D.nil O):P:=h k
theorem U639(h:Q->P:=by intro O;refine D.va (fun w' J0=>(O6 rfl)) ?_;exact D.nil O):P:=h k
theorem U175(h:Q->P:=by intro O;refine U0 ?_;exact U5 O):P:=h k
theorem U176(h:Q->P:=by intro O;refine U1 ?_;exact U197 O):P:=h k
theorem U177(h:Q->P:=by intro O;refine U10 ?_;refine L.va (K1 rfl) ?_;exact L.va (B0 rfl underlying97 rfl (hL.q0 0 (v:=.slice Ly.la H.Y0.length Ly.lc) rfl)) O):P:=h k
theorem U384(h:Q->P:=by intro O;refine D.va (fun w' J0=>(ir0 rfl)) ?_;refine U30 ?_;intro w D1 hb;revert w D1 hb;exact O):P:=h k
theorem U178(h:Q->P:=by intro O;refine U541 ?_;exact U82 O):P:=h k
theorem U640(h:Q->P:=by intro O;refine aq0 (Ctx.cl Z hZ) hl ?_;rw[H9];exact O):P:=h k
theorem U256(h:Q->P:=by intro O;refine U5 ?_;exact U0 O):P:=h k
theorem U641(h:Q->P:=by intro O;refine U36 ?_;exact L.va (Q5 rfl rfl underlying106) O):P:=h k
theorem U257(h:Q->P:=by intro O;refine U105 ?_;exact U105 O):P:=h k
theorem U258(h:Q->P:=by intro O;refine U363 ?_;refine U136 ?_;exact S0.val (I0 _) (P1 _) rfl (v:=.int .i32 (((v:Nat):Int))) (P0 rfl) O):P:=h k
theorem U179(h:Q->P:=by intro O;refine D.nil (fun w D1=>?_);have hg:=hg.j0 D1;revert w D1 hg;exact O):P:=h k
theorem U385(h:Q->P:=by intro O;refine U185 ?_;exact ZA.inBlock hZ O):P:=h k
theorem U259(h:Q->P:=by intro O;refine S0.val (I0 _) (P1 _) rfl (v:=.bool true) (P0 rfl) ?_;refine S0.cf0 (I0 _) (P1 _) rfl rfl (v:=.i (-1)) (P0 rfl) ?_;refine S0.cf0 (I0 _) (P1 _) rfl rfl (v:=.bool false) (dv0 (r:=false) rfl rfl (by decide)) ?_;exact S0.val (I0 _) (P1 _) rfl (v:=.bool false) (P9 rfl rfl) O):P:=h k
theorem U129(h:Q->P:=by intro O;have r9:F1 w w2 w0.heap.size [3]:=F1.app hO u9 J6 rfl H8;have hm:=F1.appOwn hm hO u9 J5;have hH:=hH.mod r9 rfl;have hN:=hN.mod r9 rfl;refine U109 ?_;intro C1 B1;have hS:=hS.low D2 J6;revert r9 hm hH hN C1 B1 hS;exact O):P:=h k
theorem U130(h:Q->P:=by intro O;refine U86 ?_;intro Y1 hm hH;have hN:=hN.mod Y1 rfl;have B1:=B1.other hg (Ne.symm S8);refine U85 ?_;intro hPn hS;revert Y1 hm hH hN B1 hPn hS;exact O):P:=h k
theorem U642(h:B Q->P:=by intro O;have h1:=Int.emod_nonneg e (b:=(n:Int)) (by omega);have h2:=Int.emod_lt_of_pos e (b:=(n:Int)) (by omega);revert h1 h2;exact O.1):P:=h ⟨k⟩
theorem U260(h:Q->P:=by intro O;have hc:=hc.j0 F6.below;have j3:=j3.j0 F6.below;revert hc j3;exact O):P:=h k
theorem U61(h:Q->P:=by intro O;refine U104 ?_;intro Y1 hb B1;have C1:=G0;revert Y1 hb B1 C1;exact O):P:=h k
theorem U261(h:Q->P:=by intro O;refine U27 ?_;exact U219 O):P:=h k
theorem U386(h:Q->P:=by intro O;have hZ:Ctx.Zs prog (Fin prog Post X g):=j6;have hb:=bkd 112;revert hZ hb;exact O):P:=h k
theorem U180(h:Q->P:=by intro O;refine ZA.W hZ hb ?_;have hR:=hg.m.run;(have hC:=(hg.m.blk i c hc));revert hR hC;exact O):P:=h k
theorem U387(h:Q->P:=by intro O;have hZ:Ctx.Zs prog (Fin prog Post X 0):=j6;have hb:=P1 54;revert hZ hb;exact O):P:=h k
theorem U262(h:Q->P:=by intro O;have hW:=hW.j0 F2.below;have hC:=hC.j0 F2.below;revert hW hC;exact O):P:=h k
theorem U263(h:Q->P:=by intro O;have hW:=hW.j0 F3.below;have hC:=hC.j0 F3.below;revert hW hC;exact O):P:=h k
theorem U264(h:Q->P:=by intro O;have hE:=hE.j0 F5.below;have hc:=hc.j0 F5.below;revert hE hc;exact O):P:=h k
theorem U265(h:Q->P:=by intro O;refine L.va (E0 rfl underlying54 rfl Yh0 (by decide)) ?_;refine L.va (B0 rfl underlying52 rfl (hM.q0 3 (v:=.slice (pt M.nb) m m) rfl)) ?_;refine L.va (K2 rfl) ?_;exact L.va (o4 (i:=i) rfl rfl underlying52 X2 hi) O):P:=h k
theorem U181(h:Q->P:=by intro O;have hb:=O0 hb D1;refine U74 ?_;intro C1 B1;revert hb C1 B1;exact O):P:=h k
theorem U182(h:Q->P:=by intro O;have I3:=I3.mod Y1 rfl;have B1:=B1.other hg (Ne.symm S8);have hN:=hN.mod Y1 rfl;revert I3 B1 hN;exact O):P:=h k
theorem U266(h:Q->P:=by intro O;refine U244 ?_;exact U451 O):P:=h k
theorem U388(h:Q->P:=by intro O;refine W.seq ?_;exact W.seq O):P:=h k
theorem U643(h:B Q->P:=by intro O;refine U41 ?_;exact L.va (gk0 rfl rfl (by omega)) O.1):P:=h ⟨k⟩
theorem U644(h:Q->P:=by intro O;refine L.va (u4 (i:=i) rfl rfl underlying22 Bm0 hBo.sl D2) ?_;refine L.va (B0 (v:=.slice (oa i) (bo i).length (oc i)) rfl underlying80 rfl (hBo.row i D2)) ?_;exact L.va (V4 rfl underlying80 rfl) O):P:=h k
theorem U389(h:Q->P:=by intro O;refine D.on rfl ?_;refine D.va (fun w' J0=>(K2 rfl)) ?_;exact D.on rfl O):P:=h k
theorem U390(h:Q->P:=by intro O;refine D.on rfl ?_;exact U251 O):P:=h k
theorem U267(h:Q->P:=by intro O;refine L.on rfl ?_;refine U23 ?_;refine L.va (po0 rfl rfl underlying4) ?_;exact U65 O):P:=h k
theorem U645(h:Q->P:=by intro O;refine S0.nil E3 ?_;exact At.G5 E3 rfl O):P:=h k
theorem U646(h:Q->P:=by intro O;refine S0.nil K5 ?_;exact At.Y5 K5 rfl O):P:=h k
theorem U268(h:Q->P:=by intro O;have lt4:=F4.lq hb.size;have hb:=O0 hb F4.below;revert lt4 hb;exact O):P:=h k
theorem U391(h:Q->P:=by intro O;have hb:Below w0.heap.size w0 w0:=Below.refl _ _;have hH:=hD.hH;revert hb hH;exact O):P:=h k
theorem U392(h:Q->P:=by intro O;refine U81 ?_;exact W.Y5 rfl O):P:=h k
theorem U648(h:Q->P:=by intro O;refine D.va (fun w' J0=>(e7 rfl)) ?_;exact U103 O):P:=h k
theorem U649(h:Q->P:=by intro O;refine U318 ?_;exact D.va (fun w' J0=>(it0 rfl rfl)) O):P:=h k
theorem U269(h:Q->P:=by intro O;refine U49 ?_;exact U183 O):P:=h k
theorem U650(h:Q->P:=by intro O;refine D.va (fun w' J0=>(E0 rfl underlying113 rfl c5 (by decide))) ?_;refine D.va (fun w' J0=>(B0 rfl underlying3 rfl ((hH.j0 J0).q0 1 (v:=.i most) rfl))) ?_;exact D.va (fun w' J0=>(is0 rfl rfl)) O):P:=h k
theorem U393(h:Q->P:=by intro O;refine U541 ?_;exact W.Y5 rfl O):P:=h k
end
abbrev Value.i(x:Int):Value:=.int .i64 x
abbrev Value.p(b:Nat):Value:=.pointer (some ⟨b,0,none⟩)
abbrev pt(b:Nat):Option Addr:=some ⟨b,0,none⟩
end Go
section
namespace Go.Yc
open Go Go.Conc
structure Past (Sh:Loc->Prop) (Us:Nat->Prop) (St:Nat->Loc->Prop) (Mem Lo:Nat->Prop) (K:Nat->Prop) (t:Trace):Prop where
 clean:∀said,¬Race said t
 known:∀i a,touchAt t i=some a->a.loc.isMemory=true->¬Sh a.loc->K i\/(a.write=false/\∃g,t.g? i=some g/\Lo g/\St g a.loc)
 wrote:∀i a,touchAt t i=some a->a.write=true->∀g,Mem g->St g a.loc->Knows t g i
 hears:∀g,Mem g->Deaf t g=0
 rd0:∀i a g,touchAt t i=some a->Sh a.loc->t.g? i=some g->(∀g',Us g'->Knows t g' i)\/(a.kind≠.plain/\(g≠0->a.kind= .atomic/\¬t.heard i))
def PastH (Sh:Loc->Prop) (Us:Nat->Prop) (St:Nat->Loc->Prop) (Mem Lo:Nat->Prop) (h:Nat) (t:Trace):Prop:=Past Sh Us St Mem Lo (Knows t h) t
section
variable {Sh:Loc->Prop}{Us Us':Nat->Prop}{St St':Nat->Loc->Prop}{Mem Mem' Lo Lo':Nat->Prop}{h:Nat}{K K':Nat->Prop}{t u:Trace}
theorem Past.fewer (H:Past Sh Us St Mem Lo K t) (hM:∀g,Mem' g->Mem g):Past Sh Us St Mem' Lo K t :=
 ⟨H.clean,H.known,fun i a ha hw g hg hS=>H.wrote i a ha hw g (hM g hg) hS,fun g hg=>H.hears g (hM g hg),H.rd0⟩
theorem Past.loosen (H:Past Sh Us St Mem Lo K t) (hL:∀g,Lo g->Lo' g):Past Sh Us St Mem Lo' K t :=
 ⟨H.clean,fun i a ha hm hs=>(H.known i a ha hm hs).imp id fun⟨x,g,hg,hl,hS⟩=>⟨x,g,hg,hL g hl,hS⟩,H.wrote,H.hears,H.rd0⟩
theorem Past.old_known (H:Past Sh Us St Mem Lo K t) (hK:∀i,K i->K' i) {i:Nat} {a:Touch} {x:MemOp} (Z5:t[i]? =some x) (O7:x.act.touch? =some a) (hm:a.loc.isMemory=true) (hs:¬Sh a.loc) :
  K' i\/(a.write=false/\∃g,(t++u).g? i=some g/\Lo g/\St g a.loc) :=
 (H.known i a (by rw[touchAt_of Z5];exact O7) hm hs).imp (hK i) fun⟨p,g,hg,hl,hS⟩=>⟨p,g,by rw[g?_old (lt_size_of_getElem? Z5)];exact hg,hl,hS⟩
theorem Past.old_hears {g:Nat} (H:Past Sh Us St Mem Lo K t) (hu:∀op∈u,op.g=g) (hd:Mem g->Deaf (t++u) g=Deaf t g):∀g',Mem g'->Deaf (t++u) g'=0:=fun g' Y8=>by
 by_cases e:g'=g
 ·subst e;exact(hd Y8).trans (H.hears g' Y8)
 ·exact(Deaf_other t (fun x=>e x.symm) u hu).trans (H.hears g' Y8)
theorem Past.ep0 (H:Past Sh Us St Mem Lo K t) {i g:Nat} {a:Touch} {x:MemOp} (Z5:t[i]? =some x) (O7:x.act.touch? =some a) (hs:Sh a.loc) (hg:(t++u).g? i=some g) :
  (∀g',Us g'->Knows (t++u) g' i)\/(a.kind≠.plain/\(g≠0->a.kind= .atomic/\¬(t++u).heard i)):=by
 have D2:=lt_size_of_getElem? Z5;rw[g?_old D2]at hg;rcases H.rd0 i a g (by rw[touchAt_of Z5];exact O7) hs hg with this|this
 ·exact .inl fun g' Y8=>(this g' Y8).app u
 ·exact .inr ⟨this.1,fun C3=>⟨(this.2 C3).1,fun hh=>(this.2 C3).2 ((heard_old D2).1 hh)⟩⟩
theorem Past.leave (H:Past Sh Us St Mem Lo K t) (hU:∀g,Us' g->Us g):Past Sh Us' St Mem Lo K t :=
 ⟨H.clean,H.known,H.wrote,H.hears,fun i a g ha hs hg=>(H.rd0 i a g ha hs hg).imp (fun z g' Y8=>z g' (hU g' Y8)) id⟩
theorem PastH.Ij0 {Sh':Loc->Prop} (H:PastH Sh Us St Mem Lo h t) (hS:∀l,Sh l->Sh' l) (hLo:∀g l,Lo g->St g l->¬Sh' l) (hm:∀l,Sh' l->l.isMemory=true) (hU:∀g,Us g->g=h):PastH Sh' Us St Mem Lo h t :=
 ⟨H.clean,fun i a ha hm hs=>H.known i a ha hm fun z=>hs (hS _ z),H.wrote,H.hears,fun i a g ha hs hg=>by
  by_cases e:Sh a.loc
  ·exact H.rd0 i a g ha e hg
  ·rcases H.known i a ha (hm _ hs) e with hk|⟨_,g',_,hl,hS'⟩
   ·exact .inl fun g'' jj1=>by rw[hU g'' jj1];exact hk
   ·exact absurd hs (hLo g' _ hl hS')⟩
theorem Past.appMute {g:Nat} (H:Past Sh Us St Mem Lo K t) (hK:∀i,K i->K' i) (hn:∀op∈u,op.act.touch? =none) (hh:∀g',Mem g'->Deaf (t++u) g'=0):Past Sh Us St Mem Lo K' (t++u):=by
 refine⟨fun said=>noRace_appendMute (H.clean said) hn,fun i a ha hm hs=>?_,fun i a ha hw g' Y8 hS=>?_,hh,fun i a g' ha hs Y8=>?_⟩
 ·obtain⟨x,hx,O7⟩:=touch_of ha;rcases getElem?_append_cases hx with⟨_,Z5⟩|⟨_,hxu⟩
  ·exact H.old_known hK Z5 O7 hm hs
  ·rw[hn x hxu]at O7;cases O7
 ·obtain⟨x,hx,O7⟩:=touch_of ha;rcases getElem?_append_cases hx with⟨_,Z5⟩|⟨_,hxu⟩
  ·exact(H.wrote i a (by rw[touchAt_of Z5];exact O7) hw g' Y8 hS).app u
  ·rw[hn x hxu]at O7;cases O7
 ·obtain⟨x,hx,O7⟩:=touch_of ha;rcases getElem?_append_cases hx with⟨_,Z5⟩|⟨_,hxu⟩
  ·exact H.ep0 Z5 O7 hs Y8
  ·rw[hn x hxu]at O7;cases O7
theorem Past.appRead {g:Nat} (H:Past Sh Us St Mem Lo K t) (hK:∀i,K i->K' i) (hg:Mem g) (hL:Lo g) (hu:∀op∈u,op.g=g) (hr:∀op∈u,∀b,op.act.touch? =some b->b.write=false/\St g b.loc/\¬Sh b.loc) (hd:Deaf (t++u) g=Deaf t g) :
  Past Sh Us St Mem Lo K' (t++u):=by
 refine⟨fun said=>noRace_append (H.clean said) hu fun i a ha op hop b hb hc=>?_,fun i a ha hm hs=>?_,fun i a ha hw g' Y8 hS=>?_,H.old_hears hu (fun _=>hd),fun i a g' ha hs Y8=>?_⟩
 ·obtain⟨hb0,hbS,_⟩:=hr op hop b hb;rcases hc.2.2.1 with x|x
  ·exact H.wrote i a ha x g hg (hc.1▸hbS)
  ·rw[hb0]at x;cases x
 ·obtain⟨x,hx,O7⟩:=touch_of ha;rcases getElem?_append_cases hx with⟨_,Z5⟩|⟨_,hxu⟩
  ·exact H.old_known hK Z5 O7 hm hs
  ·exact .inr ⟨(hr x hxu a O7).1,g,by rw[g?_of hx,hu x hxu],hL,(hr x hxu a O7).2.1⟩
 ·obtain⟨x,hx,O7⟩:=touch_of ha;rcases getElem?_append_cases hx with⟨_,Z5⟩|⟨_,hxu⟩
  ·exact(H.wrote i a (by rw[touchAt_of Z5];exact O7) hw g' Y8 hS).app u
  ·rw[(hr x hxu a O7).1]at hw;cases hw
 ·obtain⟨x,hx,O7⟩:=touch_of ha;rcases getElem?_append_cases hx with⟨_,Z5⟩|⟨_,hxu⟩
  ·exact H.ep0 Z5 O7 hs Y8
  ·exact absurd hs (hr x hxu a O7).2.2
def HOk (Sh:Loc->Prop) (St:Nat->Loc->Prop) (h:Nat) (op:MemOp):Prop:=∀b,op.act.touch? =some b->¬Sh b.loc/\(b.write=true->∀g,g≠h->¬St g b.loc)
theorem PastH.appH (H:PastH Sh Us St Mem Lo h t) (hLo:¬Lo h) (hu:∀op∈u,op.g=h) (hs:∀op∈u,HOk Sh St h op) (hd:Deaf (t++u) h=Deaf t h):PastH Sh Us St Mem Lo h (t++u):=by
 refine⟨fun said=>noRace_append (H.clean said) hu fun i a ha op hop b hb hc=>?_,fun i a ha hm hns=>?_,fun i a ha hw g hg hS=>?_,H.old_hears hu (fun _=>hd),fun i a g' ha hsh Y8=>?_⟩
 ·obtain⟨h1,h2⟩:=hs op hop b hb;rcases H.known i a ha hc.2.1 (hc.1▸h1)with hk|⟨hw,g,_,hl,hS⟩
  ·exact hk
  ·rcases hc.2.2.1 with x|x
   ·rw[hw]at x;cases x
   ·exact absurd (hc.1▸hS) (h2 x g fun e=>hLo (e▸hl))
 ·obtain⟨x,hx,O7⟩:=touch_of ha;rcases getElem?_append_cases hx with⟨_,Z5⟩|⟨_,hxu⟩
  ·exact H.old_known (fun i=>Knows.app u) Z5 O7 hm hns
  ·have:=knows_own hx;rw[hu x hxu]at this;exact .inl this
 ·obtain⟨x,hx,O7⟩:=touch_of ha;rcases getElem?_append_cases hx with⟨_,Z5⟩|⟨_,hxu⟩
  ·exact(H.wrote i a (by rw[touchAt_of Z5];exact O7) hw g hg hS).app u
  ·by_cases e:g=h
   ·have:=knows_own hx;rw[hu x hxu]at this;rw[e];exact this
   ·exact absurd hS ((hs x hxu a O7).2 hw g e)
 ·obtain⟨x,hx,O7⟩:=touch_of ha;rcases getElem?_append_cases hx with⟨_,Z5⟩|⟨_,hxu⟩
  ·exact H.ep0 Z5 O7 hsh Y8
  ·exact absurd hsh (hs x hxu a O7).1
def GOk (Sh:Loc->Prop) (g:Nat) (op:MemOp):Prop:=∀b,op.act.touch? =some b->Sh b.loc/\b.kind≠.plain/\(g≠0->b.kind= .atomic)
theorem Past.Us0 {g:Nat} (H:Past Sh Us St Mem Lo K t) (hUs:Us g) (cl1:∀g l,St g l->¬Sh l) (hK:∀i,K i->K' i) (hu:∀op∈u,op.g=g) (hs:∀op∈u,GOk Sh g op) (hdf:g≠0->∀i,t.size <=i->i<t.size+u.size->(t++u).deaf g i≠0)
  (hh:∀g',Mem g'->Deaf (t++u) g'=0):Past Sh Us St Mem Lo K' (t++u):=by
 refine⟨fun said=>noRace_append (H.clean said) hu fun i a ha op hop b hb hc=>?_,fun i a ha hm hns=>?_,fun i a ha hw g' Y8 hS=>?_,hh,fun i a g' ha hsh Y8=>?_⟩
 ·obtain⟨h1,h2,h3⟩:=hs op hop b hb;obtain⟨x,hx,O7⟩:=touch_of ha;rcases H.rd0 i a x.g ha (hc.1▸h1) (g?_of hx)with hsx|hsx
  ·exact hsx g hUs
  rcases hc.2.2.2 with y|y|⟨_,y1,y2⟩
  ·exact absurd y hsx.1
  ·exact absurd y h2
  ·have e1:g=0:=Classical.byContradiction fun e=>by have:=h3 e;rw[y2]at this;cases this
   have e2:x.g=0:=Classical.byContradiction fun e=>by have:=(hsx.2 e).1;rw[y1]at this;cases this
   have:=knows_own hx;rw[e2]at this;rw[e1];exact this
 ·obtain⟨x,hx,O7⟩:=touch_of ha;rcases getElem?_append_cases hx with⟨_,Z5⟩|⟨_,hxu⟩
  ·exact H.old_known hK Z5 O7 hm hns
  ·exact absurd (hs x hxu a O7).1 hns
 ·obtain⟨x,hx,O7⟩:=touch_of ha;rcases getElem?_append_cases hx with⟨_,Z5⟩|⟨_,hxu⟩
  ·exact(H.wrote i a (by rw[touchAt_of Z5];exact O7) hw g' Y8 hS).app u
  ·exact absurd (hs x hxu a O7).1 (cl1 _ _ hS)
 ·obtain⟨x,hx,O7⟩:=touch_of ha;rcases getElem?_append_cases hx with⟨_,Z5⟩|⟨hi,hxu⟩
  ·exact H.ep0 Z5 O7 hsh Y8
  ·obtain⟨h1,h2,h3⟩:=hs x hxu a O7;have hgx:g'=g:=by rw[g?_of hx]at Y8;rw[<- hu x hxu];exact(Option.some.inj Y8).symm
   subst hgx;refine .inr ⟨h2,fun C3=>⟨h3 C3,?_⟩⟩;rintro⟨g2,u9,hd2⟩;rw[Y8]at u9;obtain rfl:=Option.some.inj u9;exact hdf C3 i hi (by have:=lt_size_of_getElem? hx;simpa using this) hd2
theorem PastH.still (H:PastH Sh Us St Mem Lo h t) (hLo:¬Lo h) (hSt:∀g,g≠h->∀l,St' g l↔St g l) (hS:∀l,St' h l->l.isMemory=true/\¬Sh l) (hM:∀g,Mem' g->Mem g\/g=h) (hd:Mem' h->Deaf t h=0):PastH Sh Us St' Mem' Lo h t :=
 ⟨H.clean,fun i a ha hm hs=>(H.known i a ha hm hs).imp id fun⟨x,g,hg,hl,hS'⟩=>⟨x,g,hg,hl,(hSt g (fun e=>hLo (e▸hl)) _).2 hS'⟩,
  fun i a ha hw g hg hl=>by
   by_cases e:g=h
   ·subst e;obtain⟨h1,h2⟩:=hS _ hl;rcases H.known i a ha h1 h2 with hk|⟨J0,_⟩
    ·exact hk
    ·rw[hw]at J0;cases J0
   ·exact H.wrote i a ha hw g ((hM g hg).resolve_right e) ((hSt g e _).1 hl),
  fun g hg=>by
   by_cases e:g=h
   ·subst e;exact hd hg
   ·exact H.hears g ((hM g hg).resolve_right e),H.rd0⟩
end
section
variable {Sh:Loc->Prop}{Us:Nat->Prop}{St:Nat->Loc->Prop}{Mem Lo:Nat->Prop}{h j:Nat}{t:Trace}
theorem PastH.give (H:PastH Sh Us St Mem Lo h t) (hh:Mem h) (hj:Mem j) (fh:FuncId) (ph:String) (fj:FuncId) (pj:String) (c k cap:Nat) :
  PastH Sh Us St Mem (fun g=>Lo g/\g≠j) j (t++met h j fh ph fj pj c k cap):=by
 have hn:=met_mute h j fh ph fj pj c k cap;have hq:=fun g=>met_quiet h j fh ph fj pj c k cap g;have e0:(t++met h j fh ph fj pj c k cap)[t.size]? =some {g:=h,fn:=fh,pos:=ph,act:=.send c k}:=by simp[met]
 have e3:(t++met h j fh ph fj pj c k cap)[t.size+3]? =some {g:=j,fn:=fj,pos:=pj,act:=.recvDone c k}:=by simp[met]
 have Pv0:HappensBefore (t++met h j fh ph fj pj c k cap) t.size (t.size+3) :=
  Relation.TransGen.single (.inr ⟨.handOver (act?_of e0) (act?_of e3),⟨h,g?_of e0,by rw[deaf_old (Nat.le_refl _)];exact H.hears h hh⟩,⟨j,g?_of e3,by rw[deaf_quiet (hq j) 3 (by simp[met])];exact H.hears j hj⟩⟩)
 refine⟨fun said=>noRace_appendMute (H.clean said) hn,fun i a ha hm hs=>?_,fun i a ha hw g hg hS=>?_,fun g hg=>(Deaf_quiet (hq g)).trans (H.hears g hg),fun i a g' ha hsh Y8=>?_⟩
 ·obtain⟨x,hx,O7⟩:=touch_of ha;rcases getElem?_append_cases hx with⟨hi,Z5⟩|⟨_,hxu⟩
  ·rcases H.known i a (by rw[touchAt_of Z5];exact O7) hm hs with hk|⟨p,g,hg,hl,hS⟩
   ·exact .inl ⟨t.size+3,_,e3,rfl,.inr ((hk.hb_new (Nat.le_refl _) e0 rfl).trans Pv0)⟩
   ·by_cases e:g=j
    ·subst e;have:=knows_own hx;rw[show x.g=g from by have:=g?_of Z5;rw[hg]at this;exact(Option.some.inj this).symm]at this;exact .inl this
    ·exact .inr ⟨p,g,by rw[g?_old hi];exact hg,⟨hl,e⟩,hS⟩
  ·rw[hn x hxu]at O7;cases O7
 ·obtain⟨x,hx,O7⟩:=touch_of ha;rcases getElem?_append_cases hx with⟨_,Z5⟩|⟨_,hxu⟩
  ·exact(H.wrote i a (by rw[touchAt_of Z5];exact O7) hw g hg hS).app _
  ·rw[hn x hxu]at O7;cases O7
 ·obtain⟨x,hx,O7⟩:=touch_of ha;rcases getElem?_append_cases hx with⟨_,Z5⟩|⟨_,hxu⟩
  ·exact H.ep0 Z5 O7 hsh Y8
  ·rw[hn x hxu]at O7;cases O7
theorem PastH.born {c:Nat} (H:PastH Sh Us St Mem Lo h t) (hh:Mem h) (hc0:Deaf t c=0) (hSt:∀l,¬St c l) (hUs:Us h) (fh:FuncId) (ph:String) (fc:FuncId) :
  PastH Sh (fun g=>Us g\/g=c) St (fun g=>Mem g\/g=c) Lo c (t ++ #[{g:=h,fn:=fh,pos:=ph,act:=.go c},{g:=c,fn:=fc,pos:=ph,act:=.start}]):=by
 generalize hu:(#[{g:=h,fn:=fh,pos:=ph,act:=.go c},{g:=c,fn:=fc,pos:=ph,act:=.start}]:Trace)=u;have hn:∀op∈u,op.act.touch? =none:=by
  intro op hop;subst hu;simp only[List.mem_toArray,List.mem_cons,List.not_mem_nil,or_false]at hop;rcases hop with rfl|rfl <;> rfl
 have hq:∀g,∀op∈u,∀d,deafStep g d op=d:=by
  intro g op hop d;subst hu;simp only[List.mem_toArray,List.mem_cons,List.not_mem_nil,or_false]at hop;rcases hop with rfl|rfl <;> rfl
 have e0:(t++u)[t.size]? =some {g:=h,fn:=fh,pos:=ph,act:=.go c}:=by subst hu;simp
 have e1:(t++u)[t.size+1]? =some {g:=c,fn:=fc,pos:=ph,act:=.start}:=by subst hu;simp
 have Pv0:HappensBefore (t++u) t.size (t.size+1) :=
  Relation.TransGen.single (.inr ⟨.spawn (act?_of e0) (act?_of e1) (g?_of e1),⟨h,g?_of e0,by rw[deaf_old (Nat.le_refl _)];exact H.hears h hh⟩,⟨c,g?_of e1,by rw[deaf_quiet (hq c) 1 (by subst hu;simp)];exact hc0⟩⟩)
 refine⟨fun said=>noRace_appendMute (H.clean said) hn,fun i a ha hm hs=>?_,fun i a ha hw g hg hS=>?_,fun g hg=>(Deaf_quiet (hq g)).trans (hg.elim (H.hears g) fun e=>e▸hc0),fun i a g' ha hsh Y8=>?_⟩
 ·obtain⟨x,hx,O7⟩:=touch_of ha;rcases getElem?_append_cases hx with⟨hi,Z5⟩|⟨_,hxu⟩
  ·rcases H.known i a (by rw[touchAt_of Z5];exact O7) hm hs with hk|⟨p,g,hg,hl,hS⟩
   ·exact .inl ⟨t.size+1,_,e1,rfl,.inr ((hk.hb_new (Nat.le_refl _) e0 rfl).trans Pv0)⟩
   ·exact .inr ⟨p,g,by rw[g?_old hi];exact hg,hl,hS⟩
  ·rw[hn x hxu]at O7;cases O7
 ·obtain⟨x,hx,O7⟩:=touch_of ha;rcases getElem?_append_cases hx with⟨_,Z5⟩|⟨_,hxu⟩
  ·rcases hg with hg|rfl
   ·exact(H.wrote i a (by rw[touchAt_of Z5];exact O7) hw g hg hS).app u
   ·exact absurd hS (hSt _)
  ·rw[hn x hxu]at O7;cases O7
 ·obtain⟨x,hx,O7⟩:=touch_of ha;rcases getElem?_append_cases hx with⟨_,Z5⟩|⟨_,hxu⟩
  ·have D2:=lt_size_of_getElem? Z5;rcases H.rd0 i a g' (by rw[touchAt_of Z5];exact O7) hsh (by rw[<- g?_old (u:=u) D2];exact Y8)with y|y
   ·refine .inl fun g2 u9=>?_;rcases u9 with u9|rfl
    ·exact(y g2 u9).app u
    ·exact⟨t.size+1,_,e1,rfl,.inr (((y h hUs).hb_new (Nat.le_refl _) e0 rfl).trans Pv0)⟩
   ·exact .inr ⟨y.1,fun C3=>⟨(y.2 C3).1,fun hh=>(y.2 C3).2 ((heard_old D2).1 hh)⟩⟩
  ·rw[hn x hxu]at O7;cases O7
theorem PastH.over (H:PastH Sh Us St Mem Lo 0 t) (hU:Us 0) (hL:∀g,¬Lo g):t.HandedOver:=by
 rintro i g hg C3 ⟨x,hx,hm,ie0⟩;by_cases hs:Sh x.loc
 ·rcases H.rd0 i x g hx hs hg with hk|this
  ·obtain⟨q,z,hq,hz,hb⟩:=hk 0 hU;rcases hb with rfl|hb
   ·rw[g?_of hq,hz]at hg;exact absurd (Option.some.inj hg).symm C3
   ·exact⟨q,by rw[g?_of hq,hz],hb⟩
  ·exact(ie0.elim (fun z=>absurd (this.2 C3).1 z) fun z=>absurd z (this.2 C3).2)
 ·rcases H.known i x hx hm hs with⟨q,z,hq,hz,hb⟩|⟨_,g',_,hl,_⟩
  ·rcases hb with rfl|hb
   ·rw[g?_of hq,hz]at hg;exact absurd (Option.some.inj hg).symm C3
   ·exact⟨q,by rw[g?_of hq,hz],hb⟩
  ·exact absurd hl (hL g')
end
end Go.Yc
end
section
namespace Go.Yc
open Go
def zk0:Mark->Bool
 | .acquire _| .release _| .releaseMerge _| .disable| .enable| .read _| .write _=>false
 |_=>true
def K4:Obj->Bool
 | .view ..=>true
 |_=>false
def Z6:Obj->Bool
 | .cells ..=>true
 |_=>false
def dead {α:Type} (P:Program):Sem α->Prop
 | .pure _=>False
 | .load _ _ k=>∀v,dead P (k v)
 | .store _ _ _ k=>dead P k
 | .new _ k=>∀r,dead P (k r)
 | .shape _ k=>∀s,dead P (k s)
 | .freeze _ _ k=>dead P k
 | .frozen _ k=>∀b,dead P (k b)
 | .getObj _ k=>∀o,dead P (k o)
 | .setObj _ _ k=>dead P k
 | .choose _ k=>∀n,dead P (k n)
 | .sys _ k=>∀r,dead P (k r)
 | .program k=>dead P (k P)
 | .mark _ k=>dead P k
 | .halt h=>∀v,h≠.panic v
def E1 {α:Type} (P:Program):Sem α->Prop
 | .pure _=>True
 | .load _ _ k=>∀v,E1 P (k v)
 | .store _ _ _ k=>E1 P k
 | .new o k=>K4 o=false/\∀r,E1 P (k r)
 | .shape _ k=>∀s,dead P (k s)
 | .freeze _ _ k=>dead P k
 | .frozen _ k=>∀b,dead P (k b)
 | .getObj _ k=>∀o,E1 P (k o)
 | .setObj _ o k=>(K4 o=false/\Z6 o=false)/\E1 P k
 | .choose _ k=>∀n,E1 P (k n)
 | .sys _ k=>∀r,dead P (k r)
 | .program k=>E1 P (k P)
 | .mark m k=>if zk0 m then E1 P k else dead P k
 | .halt _=>True
theorem E4 {α β:Type} {P:Program} (f:α->Sem β):∀{s:Sem α},dead P s->dead P (s.bind f)
 | .pure _,h=>h.elim
 | .load _ _ k,h=>fun v=>E4 f (h v)
 | .store _ _ _ k,h=>E4 f (s:=k) h
 | .new _ k,h=>fun r=>E4 f (h r)
 | .shape _ k,h=>fun s=>E4 f (h s)
 | .freeze _ _ k,h=>E4 f (s:=k) h
 | .frozen _ k,h=>fun b=>E4 f (h b)
 | .getObj _ k,h=>fun o=>E4 f (h o)
 | .setObj _ _ k,h=>E4 f (s:=k) h
 | .choose _ k,h=>fun n=>E4 f (h n)
 | .sys _ k,h=>fun r=>E4 f (h r)
 | .program k,h=>E4 f (s:=k P) h
 | .mark _ k,h=>E4 f (s:=k) h
 | .halt _,h=>h
theorem W6 {α β:Type} {P:Program} {f:α->Sem β} (hf:∀a,E1 P (f a)):∀{s:Sem α},E1 P s->E1 P (s.bind f)
 | .pure a,_=>hf a
 | .load _ _ k,h=>fun v=>W6 hf (h v)
 | .store _ _ _ k,h=>W6 hf (s:=k) h
 | .new _ k,h=>⟨h.1,fun r=>W6 hf (h.2 r)⟩
 | .shape _ k,h=>fun s=>E4 f (h s)
 | .freeze _ _ k,h=>E4 f (s:=k) h
 | .frozen _ k,h=>fun b=>E4 f (h b)
 | .getObj _ k,h=>fun o=>W6 hf (h o)
 | .setObj _ _ k,h=>⟨h.1,W6 hf (s:=k) h.2⟩
 | .choose _ k,h=>fun n=>W6 hf (h n)
 | .sys _ k,h=>fun r=>E4 f (h r)
 | .program k,h=>W6 hf (s:=k P) h
 | .mark m k,h=>by
  unfold E1 at h;show E1 P (Sem.mark m (k.bind f));unfold E1;split at h
  ·rename_i hm;rw[if_pos hm];exact W6 hf (s:=k) h
  ·rename_i hm;rw[if_neg hm];exact E4 f (s:=k) h
 | .halt _,_=>trivial
def inR (f:Nat×Nat) (i:Nat):Prop:=f.1 <=i/\i<f.2
inductive p7 where
 |all
 |cut (rest:Array Value) (f:Nat×Nat)
 |gone (o:Obj)
inductive ek0:p7->Obj->Obj->Prop
 |same (o:Obj):ek0 .all o o
 |cut (c rest:Array Value) (T:TypeId) (f f':Nat×Nat) (h:∀i,inR f i->inR f' i):ek0 (.cut rest f) (.cells c T f') (.cells (c++rest) T f)
 |gone (T:TypeId) (f:Nat×Nat) (o:Obj):ek0 (.gone o) (.cells #[] T f) o
structure B6 (ρ:Nat->p7) (u w:World):Prop where
 os:w.os=u.os
 output:w.output=u.output
 tape:w.tape=u.tape
 drawn:w.drawn=u.drawn
 size:w.heap.size=u.heap.size
 obj:∀(b:Nat) (x:Obj),u.heap[b]? =some x->∃y,w.heap[b]? =some y/\ek0 (ρ b) x y
 new:∀b,u.heap.size <=b->ρ b= .all
 P7:∀(b:Nat) (x:Obj),u.heap[b]? =some x->K4 x=false
def A4 (x y:Obj):Prop:=match x,y with
 | .cells c T f,.cells c' T' f'=>c'.size=c.size/\T'=T/\f'=f/\∀i,inR f i->c'[i]? =c[i]?
 | .cells ..,_=>False
 |_,y=>Z6 y=false
structure Evo (u u':World):Prop where
 size:u.heap.size <=u'.heap.size
 obj:∀(b:Nat) (x:Obj),u.heap[b]? =some x->∃y,u'.heap[b]? =some y/\A4 x y
theorem A4.refl:∀x,A4 x x
 | .cells ..=>⟨rfl,rfl,rfl,fun _ _=>rfl⟩
 | .pending ..=>rfl
 | .view ..=>rfl
 | .number ..=>rfl
 | .map ..=>rfl
 | .chan ..=>rfl
 | .stringIter ..=>rfl
 | .mapIter ..=>rfl
 | .loop ..=>rfl
 | .deferred ..=>rfl
 | .coro ..=>rfl
 | .finalizers ..=>rfl
theorem A4.trans {x y z:Obj} (h:A4 x y) (h':A4 y z):A4 x z:=by
 cases x <;> cases y <;> first|exact h.elim|skip
 case cells.cells=>
  cases z <;> first|exact h'.elim|skip
  obtain⟨h1,rfl,rfl,h2⟩:=h;obtain⟨h3,rfl,rfl,h4⟩:=h';exact⟨h3.trans h1,rfl,rfl,fun i hi=>(h4 i hi).trans (h2 i hi)⟩
 all_goals (first|(cases z <;> simp_all [A4,Z6]))
theorem Evo.refl (u:World):Evo u u:=⟨Nat.le_refl _,fun _ x h=>⟨x,h,A4.refl x⟩⟩
theorem Evo.trans {u v x:World} (h:Evo u v) (h':Evo v x):Evo u x :=
 ⟨Nat.le_trans h.size h'.size,fun b o ho=>by
  obtain⟨o',h1,h2⟩:=h.obj b o ho;obtain⟨o'',h3,h4⟩:=h'.obj b o' h1;exact⟨o'',h3,h2.trans h4⟩⟩
def if0 (u:World) (e:Event):Prop:=match e.loc with
 | .cell a=>a.block<u.heap.size->(∃v,u.cell? a=some v)/\(e.write=true->u.frozen? a=false)
 | .obj r=>r<u.heap.size->∃x,u.heap[r]? =some x/\Z6 x=false
 | .mark m=>zk0 m=true
 |_=>False
theorem L5 {u:World} {a:Addr} {v:Value} (h:u.cell? a=some v):∃c T f,u.heap[a.block]? =some (.cells c T f)/\a.spot=none/\c[a.off]? =some v:=by
 unfold World.cell? at h;split at h
 ·rename_i c T f hb;split at h
  ·cases h
  ·rename_i hs;exact⟨c,T,f,hb,by cases hh:a.spot <;> simp_all,h⟩
 ·cases h
section
variable {ρ:Nat->p7}{u w u':World}{a:Addr}{v:Value}
theorem B6.cell (h:B6 ρ u w) (hc:u.cell? a=some v):w.cell? a=some v:=by
 obtain⟨c,T,f,hb,hs,hv⟩:=L5 hc;obtain⟨y,hy,hl⟩:=h.obj _ _ hb;unfold World.cell?;generalize ρ a.block=p at hl;cases hl with
 |same=>rw[hy];simp[hs,hv]
 |cut _ rest _ f0 _ hf=>
  rw[hy];simp only[hs,Option.isSome_none,Bool.false_eq_true,if_false];rw[Array.getElem?_append_left (Array.getElem?_eq_some_iff.1 hv).1];exact hv
 |gone=>simp at hv
theorem B6.frozen (h:B6 ρ u w) (hc:u.cell? a=some v) (hf:u.frozen? a=false):w.frozen? a=false:=by
 obtain⟨c,T,f,hb,hs,hv⟩:=L5 hc;obtain⟨y,hy,hl⟩:=h.obj _ _ hb;unfold World.frozen? at hf⊢;rw[hb]at hf;generalize ρ a.block=p at hl;cases hl with
 |same=>rw[hy];exact hf
 |cut _ rest _ f0 _ hf0=>
  rw[hy];simp only[Bool.and_eq_false_imp,decide_eq_true_eq,decide_eq_false_iff_not]at hf⊢;intro h1 h2;exact hf (hf0 _ ⟨h1,h2⟩).1 (hf0 _ ⟨h1,h2⟩).2
 |gone=>simp at hv
theorem heap_setCell (u:World) (a:Addr) (v:Value) (b:Nat):(u.setCell a v).heap[b]? =(u.heap[b]?).map fun o=>if b=a.block then(match o with| .cells c T f=>.cells (if a.spot.isSome then c else c.setIfInBounds a.off v) T f|o=>o) else o:=by
 unfold World.setCell;simp only[Array.getElem?_modify];by_cases h:a.block=b
 ·subst h;simp only[if_true];cases u.heap[a.block]? with
  |none=>rfl
  |some o=>cases o <;> rfl
 ·simp[h,Ne.symm h]
theorem B6.setCell (h:B6 ρ u w) (hc:u.cell? a=some v) (x:Value):B6 ρ (u.setCell a x) (w.setCell a x):=by
 obtain⟨c,T,f,hb,hs,hv⟩:=L5 hc;have D2:=(Array.getElem?_eq_some_iff.1 hv).1;refine⟨h.os,h.output,h.tape,h.drawn,by simp[World.setCell,h.size],fun b o ho=>?_,fun b hb=>h.new b (by simpa [World.setCell]using hb),fun b o ho=>?_⟩
 ·rw[heap_setCell]at ho⊢;obtain⟨o1,h1,rfl⟩:=Option.map_eq_some_iff.1 ho;obtain⟨y,hy,hl⟩:=h.obj b o1 h1;refine⟨_,by rw[hy];rfl,?_⟩;by_cases hba:b=a.block
  ·subst hba;rw[hb]at h1;obtain rfl:=Option.some.inj h1;simp only[if_true,hs,Option.isSome_none,Bool.false_eq_true,if_false];generalize ρ a.block=p at hl⊢;cases hl with
   |same=>exact .same _
   |cut _ rest _ f0 _ hf0=>
    show ek0 _ _ (.cells ((c++rest).setIfInBounds a.off x) T f0);rw[show(c++rest).setIfInBounds a.off x=c.setIfInBounds a.off x++rest by
     rw[Array.setIfInBounds_append_left D2]]
    exact .cut _ _ _ _ _ hf0
   |gone=>simp at hv
  ·simp only[hba,if_false];exact hl
 ·rw[heap_setCell]at ho;obtain⟨o1,h1,rfl⟩:=Option.map_eq_some_iff.1 ho;have:=h.P7 b o1 h1;by_cases hba:b=a.block
  ·simp only[hba,if_true];cases o1 <;> simp_all [K4]
  ·simp only[hba,if_false];exact this
theorem ti0 (u:World) (a:Addr) (x:Value) (hz:u.frozen? a=false):Evo u (u.setCell a x):=by
 refine⟨by simp[World.setCell],fun b o ho=>?_⟩;rw[heap_setCell,ho];refine⟨_,rfl,?_⟩;by_cases hba:b=a.block
 ·subst hba;unfold World.frozen? at hz;rw[ho]at hz;simp only[if_true];cases o <;> simp only[A4,Z6]
  rename_i c T f;split
  ·simp
  ·refine⟨by simp,trivial,trivial,fun i hi=>?_⟩;rw[Array.getElem?_setIfInBounds_ne];rintro rfl;obtain⟨lo,hi'⟩:=f;simp only[Bool.and_eq_false_imp,decide_eq_true_eq,decide_eq_false_iff_not]at hz;exact hz hi.1 hi.2
 ·simp only[hba,if_false];exact A4.refl o
theorem Ik0 (u:World) (o:Obj):Evo u {u with heap:=u.heap.push o}:=by
 refine⟨by simp,fun b x hx=>⟨x,?_,A4.refl x⟩⟩;have:=(Array.getElem?_eq_some_iff.1 hx).1;show(u.heap.push o)[b]? =some x;rw[Array.getElem?_push,if_neg (by omega)];exact hx
theorem B6.push (h:B6 ρ u w) {o:Obj} (ho:K4 o=false):B6 ρ {u with heap:=u.heap.push o} {w with heap:=w.heap.push o}:=by
 refine⟨h.os,h.output,h.tape,h.drawn,by simp[h.size],fun b x hx=>?_,fun b hb=>h.new b (by simp at hb;omega),fun b x hx=>?_⟩
 ·have Z5:(u.heap.push o)[b]? =some x:=hx;show ∃y,(w.heap.push o)[b]? =some y/\_;rw[Array.getElem?_push]at Z5⊢;rw[h.size];split at Z5
  ·rename_i hb;rw[if_pos hb];cases Z5;exact⟨_,rfl,by rw[h.new b (by omega)];exact .same _⟩
  ·rename_i hb;rw[if_neg hb];exact h.obj b x Z5
 ·have Z5:(u.heap.push o)[b]? =some x:=hx;rw[Array.getElem?_push]at Z5;split at Z5
  ·cases Z5;exact ho
  ·exact h.P7 b x Z5
theorem zl0 {r:Nat} {x:Obj} (hr:u.heap[r]? =some x) (hx:Z6 x=false) {o:Obj} (ho:Z6 o=false):Evo u {u with heap:=u.heap.setIfInBounds r o}:=by
 refine⟨by simp,fun b y hy=>?_⟩;show ∃z,(u.heap.setIfInBounds r o)[b]? =some z/\_;rw[Array.getElem?_setIfInBounds];by_cases h:r=b
 ·subst h;have D2:=(Array.getElem?_eq_some_iff.1 hr).1;rw[hr]at hy;obtain rfl:=Option.some.inj hy;refine⟨o,by simp[D2],?_⟩;cases x <;> simp_all [A4,Z6]
 ·exact⟨y,by simp[h,hy],A4.refl y⟩
theorem B6.setObj (h:B6 ρ u w) {r:Nat} {o x:Obj} (hr:u.heap[r]? =some x) (hx:Z6 x=false) (ho:K4 o=false):B6 ρ {u with heap:=u.heap.setIfInBounds r o} {w with heap:=w.heap.setIfInBounds r o}:=by
 have hal:ρ r= .all:=by
  obtain⟨y,_,hl⟩:=h.obj r x hr;generalize ρ r=p at hl⊢;cases hl <;> first|rfl|cases hx
 refine⟨h.os,h.output,h.tape,h.drawn,by simp[h.size],fun b x hx=>?_,fun b hb=>h.new b (by simpa using hb),fun b x hx=>?_⟩
 ·have Z5:(u.heap.setIfInBounds r o)[b]? =some x:=hx;show ∃y,(w.heap.setIfInBounds r o)[b]? =some y/\_;rw[Array.getElem?_setIfInBounds]at Z5⊢;by_cases hrb:r=b
  ·subst hrb;simp only[if_true]at Z5⊢;rw[h.size];split at Z5
   ·rename_i hb;rw[if_pos hb];cases Z5;exact⟨_,rfl,by rw[hal];exact .same _⟩
   ·cases Z5
  ·simp only[hrb,if_false]at Z5⊢;exact h.obj b x Z5
 ·have Z5:(u.heap.setIfInBounds r o)[b]? =some x:=hx;rw[Array.getElem?_setIfInBounds]at Z5;by_cases hrb:r=b
  ·subst hrb;simp only[if_true]at Z5;split at Z5
   ·cases Z5;exact ho
   ·cases Z5
  ·simp only[hrb,if_false]at Z5;exact h.P7 b x Z5
theorem if0.back (he:Evo u u') {e:Event} (h:if0 u' e):if0 u e:=by
 obtain⟨l,wr,sy⟩:=e;cases l with
 |cell a=>
  intro D2;obtain⟨⟨v,hv⟩,hw⟩:=h (Nat.lt_of_lt_of_le D2 he.size);have hx:u.heap[a.block]? =some u.heap[a.block]:=Array.getElem?_eq_getElem D2;obtain⟨y,hy,hk⟩:=he.obj _ _ hx;obtain⟨c,T,f,hb,hs,hc⟩:=L5 hv;rw[hb]at hy;obtain rfl:=Option.some.inj hy;generalize u.heap[a.block]=x at hx hk;cases x <;> simp only[A4,Z6,Bool.true_eq_false]at hk
  rename_i c0 T0 f0;obtain⟨h1,rfl,rfl,_⟩:=hk;have Il0:=(Array.getElem?_eq_some_iff.1 hc).1;refine⟨⟨c0[a.off]'(by omega),by unfold World.cell?;rw[hx];simp[hs,show a.off<c0.size by omega]⟩,fun hwr=>?_⟩;have:=hw hwr;unfold World.frozen? at this⊢;rw[hb]at this;rw[hx];exact this
 |obj r=>
  intro D2;obtain⟨x',Z5,hc⟩:=h (Nat.lt_of_lt_of_le D2 he.size);have hx:u.heap[r]? =some u.heap[r]:=Array.getElem?_eq_getElem D2;obtain⟨y,hy,hk⟩:=he.obj _ _ hx;rw[Z5]at hy;obtain rfl:=Option.some.inj hy;refine⟨_,hx,?_⟩;generalize u.heap[r]=x at hk;cases x <;> first|rfl|(cases x' <;> simp_all [A4,Z6])
 |output=>exact h
 |goroutines=>exact h
 |mark m=>exact h
def tj0 {α:Type}:Result α->Prop
 | .ok _ _=>True
 | .halt (.panic _) _=>True
 |_=>False
def atW {α:Type}:Result α->World->Result α
 | .ok a _,w=>.ok a w
 | .halt h _,w=>.halt h w
def ig0 {α:Type}:Result α->World
 | .ok _ w=>w
 | .halt _ w=>w
def one:Value->Bool
 | .agg _=>false
 | .tuple _=>false
 |_=>true
theorem ap0 {α:Type} {P:Program} {m:Mode} {a:Addr} {v:Value} {k:Sem α} (h:one v=true) (u:World) (es:Array Event):(Sem.store m a v k).runT P u es=match u.cell? a with
  |some _=>if u.frozen? a then(.halt (.unsupported (.unsafePointer "a write to bytes that a string shares")) u,es) else k.runT P (u.setCell a v) (es.push ⟨.cell a,true,m== .atomic⟩)
  |none=>match u.farStore P a v (m== .atomic)with
   | .ok (u,Pw0)=>k.runT P u (es++Pw0.toArray.map (⟨.cell ·,true,m== .atomic⟩))
   | .error h=>(.halt h u,es):=by
 cases v <;> first|rfl|cases h
theorem eq0 {α:Type} {P:Program} {m:Mode} {a:Addr} {v:Value} {k:Sem α} (h:one v=false) (u:World) (es:Array Event):(Sem.store m a v k).runT P u es=(.halt (.stuck "store: not the value of one cell") u,es):=by
 cases v <;> first|rfl|cases h
theorem kx0 {P:Program} {u:World} {a:Addr} {b:Bool} {h:Halt} (he:u.farLoad P a b= .error h):∀v,h≠.panic v:=by
 unfold World.farLoad at he;split at he
 ·split at he
  ·cases he
  ·cases he;intro v;simp
 ·cases he;unfold World.noCell;split <;> intro v <;> simp
theorem ih0 {P:Program} {u:World} {a:Addr} {x:Value} {b:Bool} {h:Halt} (he:u.farStore P a x b= .error h):∀v,h≠.panic v:=by
 unfold World.farStore at he;split at he
 ·split at he
  ·cases he
  ·cases he;intro v;simp
 ·cases he;unfold World.noCell;split <;> intro v <;> simp
theorem cl0 {α:Type} {h:Halt} {w:World} (hf:tj0 (α:=α) (.halt h w)):∃v,h= .panic v:=by
 cases h <;> first|exact⟨_,rfl⟩|exact hf.elim
theorem G2 {α:Type} {P:Program}:∀{s:Sem α},dead P s->∀(u:World) (es:Array Event),¬tj0 (s.runT P u es).1
 | .pure _,h,_,_=>h.elim
 | .load m a k,h,u,es=>by
  unfold Sem.runT;split
  ·exact G2 (h _) _ _
  ·split
   ·exact G2 (h _) _ _
   ·rename_i he;intro hf;obtain⟨v,hv⟩:=cl0 hf;exact kx0 he v hv
 | .store m a v k,h,u,es=>by
  cases ho:one v
  ·rw[eq0 ho];exact id
  ·rw[ap0 ho];split
   ·split
    ·exact id
    ·exact G2 (s:=k) h _ _
   ·split
    ·exact G2 (s:=k) h _ _
    ·rename_i he;intro hf;obtain⟨v,hv⟩:=cl0 hf;exact ih0 he v hv
 | .new _ k,h,u,es=>G2 (h _) _ _
 | .shape _ k,h,u,es=>G2 (h _) _ _
 | .freeze _ _ k,h,u,es=>G2 (s:=k) h _ _
 | .frozen _ k,h,u,es=>G2 (h _) _ _
 | .getObj _ k,h,u,es=>by
  unfold Sem.runT;split
  ·exact id
  ·exact G2 (h _) _ _
  ·exact id
 | .setObj _ _ k,h,u,es=>by
  unfold Sem.runT;split
  ·exact id
  ·exact G2 (s:=k) h _ _
  ·exact id
 | .choose _ k,h,u,es=>by
  unfold Sem.runT;split
  ·exact G2 (h _) _ _
  ·exact G2 (h _) _ _
 | .sys _ k,h,u,es=>G2 (h _) _ _
 | .program k,h,u,es=>G2 (s:=k P) h _ _
 | .mark _ k,h,u,es=>G2 (s:=k) h _ _
 | .halt hh,h,u,es=>by
  intro hf;obtain⟨v,hv⟩:=cl0 hf;exact h v hv
structure tk0 {α:Type} (P:Program) (ρ:Nat->p7) (s:Sem α) (u w:World) (es:Array Event):Prop where
 out:∃w',s.runT P w es=(atW (s.runT P u es).1 w',(s.runT P u es).2)/\B6 ρ (ig0 (s.runT P u es).1) w'
 evo:Evo u (ig0 (s.runT P u es).1)
 evs:∀e∈(s.runT P u es).2,e∈es\/if0 u e
theorem tk0.of {α β:Type} {P:Program} {ρ:Nat->p7} {s:Sem α} {t:Sem β} {u w u' w':World} {es es':Array Event} {f:Result β->Result α} (h:tk0 P ρ t u' w' es') (hu:s.runT P u es=(f (t.runT P u' es').1,(t.runT P u' es').2)) (hw:s.runT P w es=(f (t.runT P w' es').1,(t.runT P w' es').2))
  (hf:∀r w,f (atW r w)=atW (f r) w) (hfw:∀r,ig0 (f r)=ig0 r) (he:Evo u u') (hes:∀e∈es',e∈es\/if0 u e):tk0 P ρ s u w es:=by
 obtain⟨⟨w2,h1,h2⟩,h3,h4⟩:=h;refine⟨⟨w2,?_,?_⟩,?_,?_⟩
 ·rw[hw,h1,hu];simp only[hf]
 ·rw[hu];simp only[hfw];exact h2
 ·rw[hu];simp only[hfw];exact he.trans h3
 ·rw[hu];intro e hee;rcases h4 e hee with h5|h5
  ·exact hes e h5
  ·exact .inr (h5.back he)
theorem tk0.go {α:Type} {P:Program} {ρ:Nat->p7} {s t:Sem α} {u w u' w':World} {es es':Array Event} (h:tk0 P ρ t u' w' es') (hu:s.runT P u es=t.runT P u' es') (hw:s.runT P w es=t.runT P w' es') (he:Evo u u') (hes:∀e∈es',e∈es\/if0 u e):tk0 P ρ s u w es :=
 tk0.of (f:=id) h hu hw (fun _ _=>rfl) (fun _=>rfl) he hes
theorem tl0 {o:Obj} (h:Z6 o=true):∃c T f,o= .cells c T f:=by
 cases o <;> first|exact⟨_,_,_,rfl⟩|cases h
theorem E9 {u:World} {es:Array Event} {x:Event} (hx:if0 u x):∀e∈es.push x,e∈es\/if0 u e:=by
 intro e he;rcases Array.mem_push.1 he with h|rfl
 ·exact .inl h
 ·exact .inr hx
theorem B6.ask {ρ:Nat->p7} {u w:World} (h:B6 ρ u w) (d:Nat):B6 ρ {u with drawn:=d} {w with drawn:=d}:=⟨h.os,h.output,h.tape,rfl,h.size,h.obj,h.new,h.P7⟩
theorem r7 {α:Type} {P:Program} {ρ:Nat->p7}:∀{s:Sem α},E1 P s->∀{u w:World} {es:Array Event},B6 ρ u w->tj0 (s.runT P u es).1->tk0 P ρ s u w es
 | .pure a,_,u,w,es,hs,_=>⟨⟨w,rfl,hs⟩,Evo.refl u,fun e he=>.inl he⟩
 | .halt hh,_,u,w,es,hs,_=>⟨⟨w,rfl,hs⟩,Evo.refl u,fun e he=>.inl he⟩
 | .load m a k,h,u,w,es,hs,hf=>by
  cases hc:u.cell? a with
  |some v=>
   have hu:(Sem.load m a k).runT P u es=(k v).runT P u (es.push ⟨.cell a,false,m== .atomic⟩):=by
    conv=>lhs;unfold Sem.runT
    rw[hc]
   have hw:(Sem.load m a k).runT P w es=(k v).runT P w (es.push ⟨.cell a,false,m== .atomic⟩):=by
    conv=>lhs;unfold Sem.runT
    rw[hs.cell hc]
   rw[hu]at hf;exact(r7 (h v) hs hf).go hu hw (Evo.refl u) (E9 (fun _=>⟨⟨v,hc⟩,fun h9=>by cases h9⟩))
  |none=>
   exfalso;unfold Sem.runT at hf;rw[hc]at hf;have:∃hh,u.farLoad P a (m== .atomic)= .error hh:=by
    unfold World.farLoad;cases hb:u.heap[a.block]? with
    |none=>exact⟨_,rfl⟩
    |some o=>
     cases o
     case view at_ t=>exact absurd (hs.P7 _ _ hb) (by simp[K4])
     all_goals exact⟨_,rfl⟩
   obtain⟨hh,he⟩:=this;rw[he]at hf;obtain⟨v,hv⟩:=cl0 hf;exact kx0 he v hv
 | .store m a x k,h,u,w,es,hs,hf=>by
  cases ho:one x
  ·rw[eq0 ho]at hf;exact hf.elim
  ·cases hc:u.cell? a with
   |some v=>
    cases hz:u.frozen? a
    ·have hu:(Sem.store m a x k).runT P u es=k.runT P (u.setCell a x) (es.push ⟨.cell a,true,m== .atomic⟩):=by
      rw[ap0 ho,hc,hz];rfl
     have hw:(Sem.store m a x k).runT P w es=k.runT P (w.setCell a x) (es.push ⟨.cell a,true,m== .atomic⟩):=by
      rw[ap0 ho,hs.cell hc,hs.frozen hc hz];rfl
     rw[hu]at hf;exact(r7 (s:=k) h (hs.setCell hc x) hf).go hu hw (ti0 u a x hz) (E9 (fun _=>⟨⟨v,hc⟩,fun _=>hz⟩))
    ·rw[ap0 ho,hc,hz]at hf;exact hf.elim
   |none=>
    exfalso;rw[ap0 ho,hc]at hf;have:∃hh,u.farStore P a x (m== .atomic)= .error hh:=by
     unfold World.farStore;cases hb:u.heap[a.block]? with
     |none=>exact⟨_,rfl⟩
     |some o=>
      cases o
      case view at_ t=>exact absurd (hs.P7 _ _ hb) (by simp[K4])
      all_goals exact⟨_,rfl⟩
    obtain⟨hh,he⟩:=this;rw[he]at hf;obtain⟨v,hv⟩:=cl0 hf;exact ih0 he v hv
 | .new o k,h,u,w,es,hs,hf=>by
  refine(r7 (h.2 u.heap.size) (hs.push h.1) hf).go rfl ?_ (Ik0 u o) (fun e he=>.inl he);show(k w.heap.size).runT P _ es=_;rw[hs.size]
 | .shape _ k,h,u,w,es,hs,hf=>absurd hf (G2 (h _) _ _)
 | .freeze _ _ k,h,u,w,es,hs,hf=>absurd hf (G2 (s:=k) h _ _)
 | .frozen _ k,h,u,w,es,hs,hf=>absurd hf (G2 (h _) _ _)
 | .getObj r k,h,u,w,es,hs,hf=>by
  cases hb:u.heap[r]? with
  |none=>unfold Sem.runT at hf;rw[hb]at hf;exact hf.elim
  |some o=>
   cases hco:Z6 o
   ·obtain⟨y,hy,hl⟩:=hs.obj r o hb;have hyo:y=o:=by generalize ρ r=p at hl;cases hl <;> first|rfl|cases hco
    subst hyo;have hu:(Sem.getObj r k).runT P u es=(k y).runT P u (es.push ⟨.obj r,false,y.isChan⟩):=by
     conv=>lhs;unfold Sem.runT
     rw[hb];cases y <;> first|rfl|cases hco
    have hw:(Sem.getObj r k).runT P w es=(k y).runT P w (es.push ⟨.obj r,false,y.isChan⟩):=by
     conv=>lhs;unfold Sem.runT
     rw[hy];cases y <;> first|rfl|cases hco
    rw[hu]at hf;exact(r7 (h y) hs hf).go hu hw (Evo.refl u) (E9 (fun _=>⟨y,hb,hco⟩))
   ·obtain⟨c,T,f,rfl⟩:=tl0 hco;unfold Sem.runT at hf;rw[hb]at hf;exact hf.elim
 | .setObj r o k,h,u,w,es,hs,hf=>by
  cases hb:u.heap[r]? with
  |none=>unfold Sem.runT at hf;rw[hb]at hf;exact hf.elim
  |some y=>
   cases hco:Z6 y
   ·obtain⟨y',hy,hl⟩:=hs.obj r y hb;have hyo:y'=y:=by generalize ρ r=p at hl;cases hl <;> first|rfl|cases hco
    subst hyo;have hu:(Sem.setObj r o k).runT P u es=k.runT P {u with heap:=u.heap.setIfInBounds r o} (es.push ⟨.obj r,true,o.isChan⟩):=by
     conv=>lhs;unfold Sem.runT
     rw[hb];cases y' <;> first|rfl|cases hco
    have hw:(Sem.setObj r o k).runT P w es=k.runT P {w with heap:=w.heap.setIfInBounds r o} (es.push ⟨.obj r,true,o.isChan⟩):=by
     conv=>lhs;unfold Sem.runT
     rw[hy];cases y' <;> first|rfl|cases hco
    rw[hu]at hf;exact(r7 (s:=k) h.2 (hs.setObj hb hco h.1.1) hf).go hu hw (zl0 hb hco h.1.2) (E9 (fun _=>⟨y',hb,hco⟩))
   ·obtain⟨c,T,f,rfl⟩:=tl0 hco;unfold Sem.runT at hf;rw[hb]at hf;exact hf.elim
 | .choose q k,h,u,w,es,hs,hf=>by
  cases hq:q.forced
  ·have hu:(Sem.choose q k).runT P u es=(k (q.cut (u.tape u.drawn q))).runT P {u with drawn:=u.drawn+1} es:=by
    conv=>lhs;unfold Sem.runT
    rw[hq];rfl
   have hw:(Sem.choose q k).runT P w es=(k (q.cut (u.tape u.drawn q))).runT P {w with drawn:=u.drawn+1} es:=by
    conv=>lhs;unfold Sem.runT
    rw[hq,hs.tape,hs.drawn];rfl
   rw[hu]at hf;exact(r7 (h _) (hs.ask _) hf).go hu hw ⟨Nat.le_refl _,fun _ x hx=>⟨x,hx,A4.refl x⟩⟩ (fun e he=>.inl he)
  ·have hu:(Sem.choose q k).runT P u es=(k 0).runT P u es:=by
    conv=>lhs;unfold Sem.runT
    rw[hq];rfl
   have hw:(Sem.choose q k).runT P w es=(k 0).runT P w es:=by
    conv=>lhs;unfold Sem.runT
    rw[hq];rfl
   rw[hu]at hf;exact(r7 (h 0) hs hf).go hu hw (Evo.refl u) (fun e he=>.inl he)
 | .sys _ k,h,u,w,es,hs,hf=>absurd hf (G2 (h _) _ _)
 | .program k,h,u,w,es,hs,hf=>(r7 (s:=k P) h hs hf).go rfl rfl (Evo.refl u) (fun e he=>.inl he)
 | .mark m k,h,u,w,es,hs,hf=>by
  unfold E1 at h;split at h
  ·rename_i hm;exact(r7 (s:=k) h hs hf).go rfl rfl (Evo.refl u) (E9 hm)
  ·exact absurd hf (G2 (s:=k) h _ _)
end
end Go.Yc
end
section
namespace Go.Yc
open Go Go.Conc
open Go.ConcN (sumTo upd sumTo_upd upd_ne upd_same sumTo_congr)
section
def P2 (u:World) (τ:Tape) (d:Nat):World:={u with tape:=τ,drawn:=d}
theorem ek0.uniq {p:p7} {x y y':Obj} (h:ek0 p x y) (h':ek0 p x y'):y=y':=by
 cases h <;> cases h' <;> rfl
theorem z8 {c:Array Value} {T:TypeId} {f:Nat×Nat} {y:Obj} (hk:A4 (.cells c T f) y):∃c',y= .cells c' T f/\c'.size=c.size/\∀i,inR f i->c'[i]? =c[i]?:=by
 cases y <;> try(exact hk.elim)
 obtain⟨h1,rfl,rfl,h2⟩:=hk;exact⟨_,rfl,h1,h2⟩
def cm0 (u:World) (b:Nat):Prop:=∃T f,u.heap[b]? =some (.cells #[] T f)
theorem cm0.evo {u u':World} {b:Nat} (h:cm0 u b) (he:Evo u u'):cm0 u' b:=by
 obtain⟨T,f,hb⟩:=h;obtain⟨y,hy,hk⟩:=he.obj _ _ hb;obtain⟨c,rfl,h1,_⟩:=z8 hk;have:c=#[]:=by simpa using h1
 subst this;exact⟨_,_,hy⟩
theorem cm0.kept {ρ:Nat->p7} {u u' w w':World} {b:Nat} (h:cm0 u b) (he:Evo u u') (hs:B6 ρ u w) (hs':B6 ρ u' w'):w'.heap[b]? =w.heap[b]?:=by
 obtain⟨T,f,hb⟩:=h;obtain⟨y,hy,hk⟩:=he.obj _ _ hb;obtain⟨c,rfl,h1,_⟩:=z8 hk;have:c=#[]:=by simpa using h1
 subst this;obtain⟨z,hz,hl⟩:=hs.obj _ _ hb;obtain⟨z',hz',c6⟩:=hs'.obj _ _ hy;rw[hz,hz',hl.uniq c6]
theorem zn0 {u u':World} {a:Addr} {v:Value} (hc:u.cell? a=some v) (hf:u.frozen? a=true) (he:Evo u u'):u'.cell? a=some v/\u'.frozen? a=true:=by
 obtain⟨c,T,f,hb,hs,hv⟩:=L5 hc;obtain⟨y,hy,hk⟩:=he.obj _ _ hb;obtain⟨c',rfl,h1,h2⟩:=z8 hk;unfold World.frozen? at hf⊢;unfold World.cell?;rw[hb]at hf;rw[hy];obtain⟨lo,hi⟩:=f;refine⟨?_,hf⟩;simp only[hs,Option.isSome_none,Bool.false_eq_true,if_false];simp only[Bool.and_eq_true,decide_eq_true_eq]at hf;rw[h2 _ hf];exact hv
structure X6 where
 blk:Nat
 off:Nat
def stA (G:X6):Addr:=⟨G.blk,G.off,none⟩
def smA (G:X6):Addr:=⟨G.blk,G.off+1,none⟩
def KK:Nat:=4294967296
attribute [local irreducible] KK
def GAt (G:X6) (st sm:Int) (w:World):Prop:=∃c T,w.heap[G.blk]? =some (.cells (c ++ #[.int .u64 st,.int .u32 sm]) T (0,0))/\c.size=G.off
def Cut (u:World) (G:X6):Prop:=0<G.off/\∃c T f,u.heap[G.blk]? =some (.cells c T f)/\c.size=G.off
theorem Cut.evo {u u':World} {G:X6} (h:Cut u G) (he:Evo u u'):Cut u' G:=by
 obtain⟨h0,c,T,f,hb,hc⟩:=h;obtain⟨y,hy,hk⟩:=he.obj _ _ hb;obtain⟨c',rfl,h1,_⟩:=z8 hk;exact⟨h0,_,_,_,hy,h1.trans hc⟩
theorem Cut.kept {ρ:Nat->p7} {u u' w w':World} {G:X6} {st sm:Int} (h:Cut u G) (he:Evo u u') (hs:B6 ρ u w) (hs':B6 ρ u' w') (hg:GAt G st sm w):GAt G st sm w':=by
 obtain⟨h0,c,T,f,hb,hc⟩:=h;obtain⟨y,hy,hk⟩:=he.obj _ _ hb;obtain⟨c',rfl,h1,_⟩:=z8 hk;obtain⟨z,hz,hl⟩:=hs.obj _ _ hb;obtain⟨z',hz',c6⟩:=hs'.obj _ _ hy;obtain⟨c0,T0,hg,hc0⟩:=hg;rw[hz]at hg;obtain rfl:=Option.some.inj hg;generalize ρ G.blk=p at hl c6;generalize hz0:(Obj.cells (c0 ++ #[.int .u64 st,.int .u32 sm]) T0 (0,0))=z0 at hl;cases hl with
 |same=>
  obtain⟨rfl,_,_⟩:=Obj.cells.inj hz0;simp at hc;omega
 |cut _ rest _ f1 _ _=>
  obtain⟨h2,rfl,h3⟩:=Obj.cells.inj hz0;have A2:c.size=c0.size:=by omega
  have:rest=#[.int .u64 st,.int .u32 sm]:=(Array.append_inj_right h2 A2.symm).symm;subst this;cases c6 with
  |cut _ _ _ _ _ _=>exact⟨c',T0,by rw[hz',<- h3],h1.trans hc⟩
 |gone=>simp at hc;omega
theorem GAt.cells {G:X6} {st sm:Int} {w:World} (h:GAt G st sm w):w.cell? (stA G)=some (.int .u64 st)/\w.cell? (smA G)=some (.int .u32 sm)/\w.frozen? (stA G)=false/\w.frozen? (smA G)=false:=by
 obtain⟨c,T,hb,hc⟩:=h;refine⟨?_,?_,?_,?_⟩
 ·simp[World.cell?,stA,hb,<- hc]
 ·simp only[World.cell?,smA,hb,Option.isSome_none,Bool.false_eq_true,if_false];rw[Array.getElem?_append_right (by omega)];simp[<- hc]
 ·simp[World.frozen?,stA,hb]
 ·simp[World.frozen?,smA,hb]
def l6 (P:Program) (main:Bool) (g:Goroutine) (u:World) (g':Goroutine) (u':World):Prop :=
 g'.status= .running/\∀ρ w,B6 ρ u w->Evo u u'/\∃w' es,stepG P main g w= .go g' w' es/\B6 ρ u' w'/\∀e∈es,if0 u e
structure w6 where
 ch:Nat
 z:Value
 me:Goroutine
def kd0 (P:Program) (main:Bool) (s:w6) (g:Goroutine):Prop :=
 g.status= .running/\g.frame=s.me.frame/\g.callers=s.me.callers/\g.dying=s.me.dying/\∀w,stepG P main g w= .comm s.me #[rcase s.ch s.z] true (.recv false) w #[]
abbrev er0:=List (Addr×Value)
def Way (P:Program) (main:Bool) (l:er0) (s:w6):Nat->Goroutine->Prop
 |0,g=>g=parked s.me #[rcase s.ch s.z] (.recv false)/\∃g₀,kd0 P main s g₀
 |n+1,g=>kd0 P main s g\/(0<n/\g.status= .running/\∃g' es,(∀e∈es,∃p∈l,e=⟨.cell p.1,false,false⟩)/\(∀w,(∀p∈l,w.cell? p.1=some p.2)->stepG P main g w= .go g' w es)/\Way P main l s n g')
theorem Way.status {P:Program} {main:Bool} {l:er0} {s:w6}:∀{n:Nat} {g:Goroutine},Way P main l s n g->(g.status= .running/\0<n)\/(g.status= .blocked/\n=0)
 |0,_,h=>.inr ⟨by have:=h.1;subst this;rfl,rfl⟩
 |_+1,_,h=>.inl ⟨h.elim (fun x=>x.1) fun x=>x.2.1,by omega⟩
def Fv0 (e:Event):Bool:=match e.loc with
 | .mark (.read _)| .mark (.write _)=>false
 | .mark _=>true
 |_=>false
def rdA (a:Addr):Event:=⟨.cell a,false,true⟩
def wrA (a:Addr):Event:=⟨.cell a,true,true⟩
def cm1 (P:Program) (G:X6) (g:Goroutine) (g':Goroutine) (es:Array Event):Prop :=
 g.status= .running/\(∀e∈es,Fv0 e=true)/\∀w st sm,GAt G st sm w->stepG P false g w= .go g' w es
def Lst (P:Program) (G:X6):Nat->Nat->Nat->Goroutine->Prop
 |0,_,_,_=>False
 |n+1,s,d,g=>0<d/\((∃g' es,cm1 P G g g' es/\(∀e∈es,e.loc≠.mark .disable/\e.loc≠.mark .enable)/\Lst P G n s d g')\/(g.status= .running/\match s with
  |2=>∃g',(∀w,GAt G 1 0 w->stepG P false g w= .go g' w #[rdA (stA G)])/\Lst P G n 1 d g'
  |1=>∃g',(∀w,GAt G 1 0 w->stepG P false g w= .go g' (w.setCell (stA G) (.int .u64 0)) #[wrA (stA G)])/\Lst P G n 0 d g'
  |_=>mayWake P g=true/\∃g',(∀w,GAt G 0 0 w->stepG P false g w= .go g' (w.setCell (smA G) (.int .u32 1)) (semEvents (smA G)))/\QuitsD P n d g'))
def Lt (P:Program) (G:X6):Nat->Nat->Goroutine->Prop
 |0,_,_=>False
 |n+1,d,g=>(∃g' es,cm1 P G g g' es/\Lt P G n (deafBehind d es) g')\/(g.status= .running/\0<d/\∀v wt:Nat,wt <=1->v<2147483647->∃g',
   (∀w,GAt G (((v+1)*KK+wt:Nat):Int) 0 w->stepG P false g w= .go g' (w.setCell (stA G) (.int .u64 ((v*KK+wt:Nat):Int))) #[rdA (stA G),wrA (stA G)])/\(¬(v=0/\wt=1)->QuitsD P n d g')/\(v=0/\wt=1->Lst P G n 2 d g'))
theorem Lt.running {P:Program} {G:X6}:∀{n d:Nat} {g:Goroutine},Lt P G n d g->g.status= .running:=by
 intro n d g h;cases n with
 |zero=>exact h.elim
 |succ n=>
  unfold Lt at h;rcases h with⟨_,_,x,_⟩|x
  ·exact x.1
  ·exact x.1
theorem Lst.running {P:Program} {G:X6}:∀{n s d:Nat} {g:Goroutine},Lst P G n s d g->g.status= .running:=by
 intro n s d g h;cases n with
 |zero=>exact h.elim
 |succ n=>
  unfold Lst at h;rcases h with⟨_,⟨_,_,x,_⟩|x⟩
  ·exact x.1
  ·exact x.1
end
section
attribute [local irreducible] KK
structure Gh where
 C2:Nat->Option w6
 stay:Nat->er0
 J4:Option X6
 old:List X6
 w5:Nat->Option Obj
 chs:Nat->Prop
 low:Nat->Prop
 L6:Nat->p7
 cap:Nat
 pend:Nat
 dn:Nat
 n:Nat
def Gh.Sh (X:Gh) (l:Loc):Prop:=∃a G,(X.J4=some G\/G∈X.old)/\l= .cell a/\a.block=G.blk/\G.off <=a.off
def Us (live:Nat->Bool) (g:Nat):Prop:=g=0\/live g=true
def Gh.St (X:Gh) (i:Nat) (l:Loc):Prop:=∃p∈X.stay i,l= .cell p.1
def Gh.Mem (X:Gh) (h g:Nat):Prop:=(g=h/\X.dn=0)\/X.C2 g≠none
def Gh.Lo (X:Gh) (h g:Nat):Prop:=g≠h/\X.C2 g≠none
def count (live:Nat->Bool) (n:Nat):Nat:=sumTo n fun i=>if live i then 1 else 0
def Idle (P:Program) (X:Gh) (live:Nat->Bool) (T:Trace) (i n:Nat) (g:Goroutine):Prop:=match X.C2 i with
 |some s=>Way P (i==0) (X.stay i) s n g
 |none=>0<i/\if live i then ∃G,X.J4=some G/\Lt P G n (Deaf T i) g else QuitsD P n (Deaf T i) g
structure Ring (P:Program) (X:Gh) (h:Nat) (u:World) (live:Nat->Bool) (T:Trace) (gs:Array Goroutine) (w:World) (q:Nat->Nat):Prop where
 sim:∃ρ,B6 ρ (P2 u w.tape w.drawn) w/\∀b,¬X.low b->ρ b=X.L6 b
 idle:∀i g,i≠h->gs[i]? =some g->Idle P X live T i (q i) g
 free:X.C2 h=none
 size:h<gs.size
 num:gs.size=X.n
 stays:∀i p,p∈X.stay i->u.cell? p.1=some p.2/\u.frozen? p.1=true
 chans:∀c,X.chs c->cm0 u c/\X.w5 c=none/\∃k,w.heap[c]? =some (.chan 0 #[] false k k false)
 O4:∀i s,X.C2 i=some s->X.chs s.ch
 inj:∀i j s s',X.C2 i=some s->X.C2 j=some s'->s.ch=s'.ch->i=j
 w5:∀b o,X.w5 b=some o->cm0 u b/\K4 o=false/\∃p y,w.heap[b]? =some y/\ek0 p o y
 cn0:∀G,X.J4=some G->X.low G.blk
 el0:∀c,X.chs c->X.low c
 J4:∀G,X.J4=some G->Cut u G/\GAt G (((count live gs.size+X.pend)*KK:Nat):Int) 0 w
 old:∀G∈X.old,Cut u G
 above:∀j,gs.size <=j->Deaf T j=0/\X.C2 j=none/\live j=false/\X.stay j=[]
 few:count live gs.size+X.pend <=X.cap/\X.cap <=65536
 em0:∀i,live i=true->i≠0/\X.J4≠none
 bz0:∀i,i≠0->(X.C2 i≠none\/i=h)->live i=true
 dfn:Deaf T h=X.dn
 past:PastH X.Sh (Us live) X.St (X.Mem h) (X.Lo h) h T
theorem cn1 {X:Gh} {u:World} {h:Nat} (S4:∀i p,p∈X.stay i->u.cell? p.1=some p.2/\u.frozen? p.1=true) (hg:∀G,(X.J4=some G\/G∈X.old)->Cut u G) {e:Event} (he:if0 u e) (fn:FuncId) (pos:String) :
  HOk X.Sh X.St h {g:=h,fn,pos,act:=.ofEvent e}/\e.loc≠.mark .disable/\e.loc≠.mark .enable:=by
 obtain⟨l,wr,sy⟩:=e;cases l with
 |cell a=>
  refine⟨fun b hb=>?_,by simp,by simp⟩;simp only[ofEvent_cell0,MemAct.touch?,Option.some.injEq]at hb;subst hb;refine⟨?_,fun hwr g _=>?_⟩
  ·rintro⟨a',G,hG,ha,hb,ho⟩;simp only[Loc.cell.injEq]at ha;subst ha;obtain⟨_,c,T,f,hc,hs⟩:=hg G hG;obtain⟨⟨v,hv⟩,_⟩:=he (by rw[hb];exact(Array.getElem?_eq_some_iff.1 hc).1);obtain⟨c',T',f',V8,_,hv'⟩:=L5 hv;rw[hb,hc]at V8;cases V8;have:=(Array.getElem?_eq_some_iff.1 hv').1;omega
  ·rintro⟨p,hp,ha⟩;simp only[Loc.cell.injEq]at ha;subst ha;obtain⟨h1,h2⟩:=S4 g p hp;obtain⟨c',T',f',V8,_,_⟩:=L5 h1;have:=(he (Array.getElem?_eq_some_iff.1 V8).1).2 hwr;rw[h2]at this;cases this
 |obj r=>
  refine⟨fun b hb=>?_,by simp,by simp⟩;have:b.loc= .obj r:=by
   cases wr <;> cases sy <;> simp[MemAct.ofEvent,MemAct.touch?]at hb <;> (try(subst hb;rfl))
  refine⟨?_,fun _ g _=>?_⟩
  ·rintro⟨a',G,_,ha,_⟩;rw[this]at ha;cases ha
  ·rintro⟨p,_,ha⟩;rw[this]at ha;cases ha
 |output=>exact he.elim
 |goroutines=>exact he.elim
 |mark m=>
  have hm:zk0 m=true:=he;cases m <;> first|(cases hm;done)|exact⟨fun b hb=>by simp[MemAct.ofEvent,MemAct.touch?]at hb,by simp,by simp⟩
section
variable {P:Program}{X:Gh}{h:Nat}{u:World}{live:Nat->Bool}{T:Trace}{gs:Array Goroutine}{w:World}{q:Nat->Nat}
theorem Way.again {main:Bool} {l:er0} {s:w6} {n:Nat} {g:Goroutine} (hw:Way P main l s n g) (hc:∃k,w.heap[s.ch]? =some (.chan 0 #[] false k k false)):g.again w=g:=by
 rcases hw.status with⟨h1,_⟩|⟨_,rfl⟩
 ·exact again_of_running (.inl h1) w
 ·obtain⟨rfl,_⟩:=hw;obtain⟨k,hk⟩:=hc;exact again_recv_open hk
theorem Idle.again {i n:Nat} {g:Goroutine} (hi:Idle P X live T i n g) (hc:∀s,X.C2 i=some s->∃k,w.heap[s.ch]? =some (.chan 0 #[] false k k false)):g.again w=g:=by
 unfold Idle at hi;cases e:X.C2 i with
 |some s=>rw[e]at hi;exact Way.again hi (hc s e)
 |none=>
  rw[e]at hi;obtain⟨_,hi⟩:=hi;split at hi
  ·obtain⟨G,_,hl⟩:=hi;exact again_of_running (.inl hl.running) w
  ·exact again_of_running hi.status w
theorem Idle.other {i n g':Nat} {g:Goroutine} (hi:Idle P X live T i n g) (C3:g'≠i) {ops:Trace} (fw0:∀op∈ops,op.g=g'):Idle P X live (T++ops) i n g:=by
 unfold Idle at hi⊢;rw[Deaf_other T C3 ops fw0];exact hi
theorem Idle.awake {i n:Nat} {g:Goroutine} (hi:Idle P X live T i n g):awake g:=by
 unfold Idle at hi;cases e:X.C2 i with
 |some s=>rw[e]at hi;exact awake_of (hi.status.elim (fun x=>.inl x.1) fun x=>.inr (.inl x.1))
 |none=>
  rw[e]at hi;obtain⟨_,hi⟩:=hi;split at hi
  ·obtain⟨G,_,hl⟩:=hi;exact awake_of (.inl hl.running)
  ·exact awake_of (hi.status.elim .inl fun x=>.inr (.inr x))
theorem Ring.awake (C:Ring P X h u live T gs w q) {a:Goroutine} (ha:gs[h]? =some a) (hs:a.status= .running\/a.status= .blocked):∀g∈gs,awake g:=by
 intro g hg;obtain⟨i,hi,rfl⟩:=Array.mem_iff_getElem.1 hg;by_cases e:i=h
 ·subst e;have:gs[i]=a:=by simpa [Array.getElem?_eq_getElem hi]using ha
  rw[this];exact awake_of (hs.elim .inl fun x=>.inr (.inl x))
 ·exact(C.idle i _ e (Array.getElem?_eq_getElem hi)).awake
theorem B6.at {ρ:Nat->p7} (hs:B6 ρ (P2 u w.tape w.drawn) w) (d:Nat):B6 ρ (P2 u (w.at d).tape (w.at d).drawn) (w.at d):=⟨hs.os,hs.output,rfl,rfl,hs.size,hs.obj,hs.new,hs.P7⟩
theorem Ring.at (C:Ring P X h u live T gs w q) (d:Nat):Ring P X h u live T gs (w.at d) q :=
 ⟨let⟨ρ,hs,hl⟩:=C.sim;⟨ρ,B6.at hs d,hl⟩,C.idle,C.free,C.size,C.num,C.stays,C.chans,C.O4,C.inj,C.w5,C.cn0,C.el0,C.J4,C.old,C.above,C.few,C.em0,C.bz0,C.dfn,C.past⟩
theorem Ring.own (C:Ring P X h u live T gs w q) {g g':Goroutine} {u':World} (ha:gs[h]? =some g) (hF:l6 P (h==0) g (P2 u w.tape w.drawn) g' u') :
  ∃w' es,stepG P (h==0) g w= .go g' w' es/\Ring P X h u' live (T++MemOp.ofEvents h g.frame.fn g.frame.place es) ((gs.map (woken P g g' w')).setIfInBounds h g') w' q/\((gs.map (woken P g g' w')).setIfInBounds h g')[h]? =some g':=by
 obtain⟨hr,hF⟩:=hF;obtain⟨ρ,hs,hlw⟩:=C.sim;obtain⟨hE,w',es,S4,hs',hev⟩:=hF ρ w hs;have hE:Evo u u':=⟨hE.size,hE.obj⟩
 have hs1:B6 ρ {u with tape:=w.tape,drawn:=w.drawn} w:=hs;have N3:∀G,(X.J4=some G\/G∈X.old)->Cut u G:=fun G hG=>hG.elim (fun e=>(C.J4 G e).1) (C.old G);have Px0:=fun e he=>cn1 (X:=X) (h:=h) C.stays N3 (hev e he);have fw0:∀op∈MemOp.ofEvents h g.frame.fn g.frame.place es,op.g=h:=fun op hop=>by obtain⟨e,_,rfl⟩:=Go.Conc.mem_ofEvents hop;rfl
 have hd:Deaf (T++MemOp.ofEvents h g.frame.fn g.frame.place es) h=Deaf T h:=by
  rw[Deaf_own];exact deafBehind_still (fun e he=>(Px0 e he g.frame.fn g.frame.place).2) _
 have J8:∀c,X.chs c->∃k,w'.heap[c]? =some (.chan 0 #[] false k k false):=fun c e=>by
  obtain⟨hg,_,k,hk⟩:=C.chans c e;exact⟨k,by rw[cm0.kept (u:=P2 u w.tape w.drawn) hg ⟨hE.size,hE.obj⟩ hs hs'];exact hk⟩
 refine⟨w',es,S4,⟨⟨ρ,?_,hlw⟩,fun i y hi hy=>?_,C.free,by simpa using C.size,by simpa using C.num,fun i p hp=>zn0 (C.stays i p hp).1 (C.stays i p hp).2 hE,
  fun c e=>⟨(C.chans c e).1.evo hE,(C.chans c e).2.1,J8 c e⟩,C.O4,C.inj,fun b o e=>?_,C.cn0,C.el0,fun G e=>⟨(C.J4 G e).1.evo hE,?_⟩,fun G hG=>(C.old G hG).evo hE,fun j hj=>?_,by simpa using C.few,C.em0,C.bz0,hd.trans C.dfn,?_⟩,Array.getElem?_setIfInBounds_self_of_lt (by simpa using C.size)⟩
 ·rw[hs'.tape,hs'.drawn];exact hs'
 ·rw[Array.getElem?_setIfInBounds_ne (fun e=>hi e.symm),Array.getElem?_map]at hy;obtain⟨y₀,hy₀,rfl⟩:=Option.map_eq_some_iff.1 hy;have w5:=C.idle i y₀ hi hy₀;rw[woken_of_again (w5.again fun s e=>J8 _ (C.O4 i s e))];exact w5.other (fun z=>hi z.symm) fw0
 ·obtain⟨h1,h2,p,y,hy,hl⟩:=C.w5 b o e;exact⟨h1.evo hE,h2,p,y,by rw[cm0.kept (u:=P2 u w.tape w.drawn) h1 ⟨hE.size,hE.obj⟩ hs hs'];exact hy,hl⟩
 ·have:=Cut.kept (u:=P2 u w.tape w.drawn) (C.J4 G e).1 ⟨hE.size,hE.obj⟩ hs hs' (C.J4 G e).2;simpa using this
 ·simp only[Array.size_setIfInBounds,Array.size_map]at hj;rw[Deaf_other T (g':=h) (by have:=C.size;omega) _ fw0];exact C.above j hj
 ·exact PastH.appH C.past (fun z=>z.1 rfl) fw0 (fun op hop=>by obtain⟨e,he,rfl⟩:=Go.Conc.mem_ofEvents hop;exact(Px0 e he _ _).1) hd
end
end
section
attribute [local irreducible] KK
theorem S3 (w:World) {a:Addr} (v:Value) {b:Nat} (h:b≠a.block):(w.setCell a v).heap[b]? =w.heap[b]?:=by
 rw[heap_setCell];cases w.heap[b]? with
 |none=>rfl
 |some o=>simp[h]
theorem B6.J4 {ρ:Nat->p7} {u w:World} {G:X6} {st sm:Int} (hs:B6 ρ (P2 u w.tape w.drawn) w) (hc:Cut u G) (hg:GAt G st sm w) (st' sm':Int) {w':World} (hw:w'.heap[G.blk]? =some (.cells ((let c:=w.heap[G.blk]?;match c with|some (.cells c _ _)=>c.extract 0 G.off|_=>#[]) ++ #[.int .u64 st',.int .u32 sm']) (match w.heap[G.blk]? with|some (.cells _ T _)=>T|_=>0) (0,0)))
  (ho:∀b,b≠G.blk->w'.heap[b]? =w.heap[b]?) (hz:w'.heap.size=w.heap.size) (h1:w'.os=w.os) (h2:w'.output=w.output):∃ρ',B6 ρ' (P2 u w'.tape w'.drawn) w'/\∀b,b≠G.blk->ρ' b=ρ b:=by
 obtain⟨h0,c,T,f,hb,hcs⟩:=hc;obtain⟨c0,T0,hg,hc0⟩:=hg;obtain⟨z,hz0,hl⟩:=hs.obj _ _ (show(P2 u w.tape w.drawn).heap[G.blk]? =some _ from hb);rw[hz0]at hg;obtain rfl:=Option.some.inj hg;rw[hz0]at hw;simp only at hw;have ht:(c0 ++ #[Value.int .u64 st,Value.int .u32 sm]).extract 0 G.off=c0:=by rw[<- hc0];simp[Array.extract_append]
 rw[ht]at hw;refine⟨fun b=>if b=G.blk then .cut #[.int .u64 st',.int .u32 sm'] (0,0) else ρ b,⟨h1.trans hs.os,h2.trans hs.output,rfl,rfl,hz.trans hs.size,fun b x hx=>?_,fun b hb'=>?_,hs.P7⟩,fun b hb=>if_neg hb⟩
 ·by_cases e:b=G.blk
  ·subst e;have Z5:u.heap[G.blk]? =some x:=hx;rw[hb]at Z5;obtain rfl:=Option.some.inj Z5;refine⟨_,hw,?_⟩;rw[if_pos rfl];generalize ρ G.blk=p at hl;generalize hq:(Obj.cells (c0 ++ #[.int .u64 st,.int .u32 sm]) T0 (0,0))=z1 at hl;cases hl with
   |same=>
    obtain⟨rfl,_,_⟩:=Obj.cells.inj hq;simp at hcs;omega
   |cut _ rest _ f1 _ hf=>
    obtain⟨h3,rfl,h4⟩:=Obj.cells.inj hq;have A2:c.size=c0.size:=by omega
    have:c=c0:=(Array.append_inj_left h3 A2.symm).symm;subst this;rw[<- h4]at hf;exact .cut _ _ _ _ _ hf
   |gone=>simp at hcs;omega
  ·rw[ho b e,if_neg e];exact hs.obj b x hx
 ·have D2:G.blk<u.heap.size:=(Array.getElem?_eq_some_iff.1 hb).1;have H3:u.heap.size <=b:=hb';rw[if_neg (by omega)];exact hs.new b hb'
theorem GAt.setSt {G:X6} {st sm:Int} {w:World} (h:GAt G st sm w) (v:Int):GAt G v sm (w.setCell (stA G) (.int .u64 v)):=by
 obtain⟨c,T,hb,hc⟩:=h;refine⟨c,T,?_,hc⟩;rw[heap_setCell];simp only[stA,hb,Option.map_some,if_true,Option.isSome_none,Bool.false_eq_true,if_false];congr 2;apply Array.ext_getElem?;intro i;rw[Array.getElem?_setIfInBounds];by_cases hi:G.off=i
 ·subst hi;simp[<- hc]
 ·rw[if_neg hi];rcases Nat.lt_or_ge i c.size with h1|h1
  ·rw[Array.getElem?_append_left h1,Array.getElem?_append_left h1]
  ·rw[Array.getElem?_append_right h1,Array.getElem?_append_right h1];obtain⟨k,hk⟩:∃k,i-c.size=k+1:=⟨i-c.size-1,by omega⟩
   rw[hk];cases k <;> rfl
theorem GAt.setSm {G:X6} {st sm:Int} {w:World} (h:GAt G st sm w) (v:Int):GAt G st v (w.setCell (smA G) (.int .u32 v)):=by
 obtain⟨c,T,hb,hc⟩:=h;refine⟨c,T,?_,hc⟩;rw[heap_setCell];simp only[smA,hb,Option.map_some,if_true,Option.isSome_none,Bool.false_eq_true,if_false];congr 2;apply Array.ext_getElem?;intro i;rw[Array.getElem?_setIfInBounds];by_cases hi:G.off+1=i
 ·subst hi;rw[if_pos rfl,if_pos (by simp;omega),Array.getElem?_append_right (by omega)];simp[<- hc]
 ·rw[if_neg hi];rcases Nat.lt_or_ge i c.size with h1|h1
  ·rw[Array.getElem?_append_left h1,Array.getElem?_append_left h1]
  ·rw[Array.getElem?_append_right h1,Array.getElem?_append_right h1];rcases Nat.eq_zero_or_pos (i-c.size)with h2|h2
   ·rw[h2];rfl
   ·obtain⟨k,hk⟩:∃k,i-c.size=k+2:=⟨i-c.size-2,by omega⟩
    rw[hk];cases k <;> rfl
structure Dj0 (G:X6) (w w':World):Prop where
 other:∀b,b≠G.blk->w'.heap[b]? =w.heap[b]?
 size:w'.heap.size=w.heap.size
 os:w'.os=w.os
 output:w'.output=w.output
theorem Dj0.setCell {G:X6} {w:World} {a:Addr} (ha:a.block=G.blk) (v:Value):Dj0 G w (w.setCell a v) :=
 ⟨fun b hb=>S3 w v (by rw[ha];exact hb),by simp[World.setCell],rfl,rfl⟩
theorem GAt.extract {G:X6} {st sm:Int} {w:World} (h:GAt G st sm w):w.heap[G.blk]? =some (.cells ((let c:=w.heap[G.blk]?;match c with|some (.cells c _ _)=>c.extract 0 G.off|_=>#[]) ++ #[.int .u64 st,.int .u32 sm]) (match w.heap[G.blk]? with|some (.cells _ T _)=>T|_=>0) (0,0)):=by
 obtain⟨c,T,hb,hc⟩:=h;have ht:(c ++ #[Value.int .u64 st,Value.int .u32 sm]).extract 0 G.off=c:=by rw[<- hc];simp[Array.extract_append]
 rw[hb];simp only[ht]
theorem ky0 {G:X6} {st sm:Int} {w:World} (h:GAt G st sm w) {a:Addr} (ha:a.block=G.blk) (hs:a.spot=none) (ho:G.off <=a.off) (v:Value) :
  (let c:=(w.setCell a v).heap[G.blk]?;match c with|some (.cells c _ _)=>c.extract 0 G.off|_=>#[])=(let c:=w.heap[G.blk]?;match c with|some (.cells c _ _)=>c.extract 0 G.off|_=>#[]) /\
  (match(w.setCell a v).heap[G.blk]? with|some (.cells _ T _)=>T|_=>0)=(match w.heap[G.blk]? with|some (.cells _ T _)=>T|_=>0):=by
 obtain⟨c,T,hb,hc⟩:=h;rw[heap_setCell,hb];simp only[Option.map_some,ha,if_true,hs,Option.isSome_none,Bool.false_eq_true,if_false,and_true];apply Array.ext_getElem?;intro i;simp only[Array.getElem?_extract,Array.getElem?_setIfInBounds,Nat.zero_add,Array.size_setIfInBounds];by_cases hi:i<G.off
 ·have:a.off≠i:=by omega
  simp[this]
 ·have:¬i<min G.off (c ++ #[Value.int .u64 st,Value.int .u32 sm]).size-0:=by omega
  rw[if_neg this,if_neg this]
theorem B6.setSt {ρ:Nat->p7} {u w:World} {G:X6} {st sm:Int} (hs:B6 ρ (P2 u w.tape w.drawn) w) (hc:Cut u G) (hg:GAt G st sm w) (v:Int):∃ρ',B6 ρ' (P2 u (w.setCell (stA G) (.int .u64 v)).tape (w.setCell (stA G) (.int .u64 v)).drawn) (w.setCell (stA G) (.int .u64 v))/\∀b,b≠G.blk->ρ' b=ρ b:=by
 have h1:=(hg.setSt v).extract;have h2:=ky0 hg (a:=stA G) rfl rfl (Nat.le_refl _) (.int .u64 v);rw[h2.1,h2.2]at h1;have t:=Dj0.setCell (G:=G) (w:=w) (a:=stA G) rfl (.int .u64 v);exact B6.J4 hs hc hg v sm h1 t.other t.size rfl rfl
theorem B6.setSm {ρ:Nat->p7} {u w:World} {G:X6} {st sm:Int} (hs:B6 ρ (P2 u w.tape w.drawn) w) (hc:Cut u G) (hg:GAt G st sm w) (v:Int):∃ρ',B6 ρ' (P2 u (w.setCell (smA G) (.int .u32 v)).tape (w.setCell (smA G) (.int .u32 v)).drawn) (w.setCell (smA G) (.int .u32 v))/\∀b,b≠G.blk->ρ' b=ρ b:=by
 have h1:=(hg.setSm v).extract;have h2:=ky0 hg (a:=smA G) rfl rfl (Nat.le_succ _) (.int .u32 v);rw[h2.1,h2.2]at h1;have t:=Dj0.setCell (G:=G) (w:=w) (a:=smA G) rfl (.int .u32 v);exact B6.J4 hs hc hg st v h1 t.other t.size rfl rfl
theorem Cut.md0 {u:World} {G:X6} (h:Cut u G) {b:Nat} (hg:cm0 u b):b≠G.blk:=by
 rintro rfl;obtain⟨h0,c,T,f,hb,hc⟩:=h;obtain⟨T',f',hb'⟩:=hg;rw[hb]at hb';cases hb';simp at hc;omega
section
variable {P:Program}{X:Gh}{h:Nat}{u:World}{live:Nat->Bool}{T:Trace}{gs:Array Goroutine}{w:World}{q:Nat->Nat}
def ca0 (X:Gh) (w w':World):Prop:=w'.tape=w.tape/\w'.drawn=w.drawn/\(∀c,X.chs c->w'.heap[c]? =w.heap[c]?)
theorem ca0.refl (w:World):ca0 X w w:=⟨rfl,rfl,fun _ _=>rfl⟩
theorem Ring.put (C:Ring P X h u live T gs w q) {i n':Nat} {g':Goroutine} {ops:Array MemOp} {Y7:Array Goroutine} {bh0:Nat->Bool} {w':World} (D2:i<gs.size) (hih:i≠h) (A2:Y7.size=gs.size) (Wy0:∀x,x≠i->Y7[x]? =gs[x]?) (k5:Y7[i]? =some g')
  (fw0:∀op∈ops,op.g=i) (Im0:Idle P X bh0 (T++ops) i n' g') (hl:∀x,x≠i->bh0 x=live x) (hli:bh0 i=true->live i=true) (hls:X.C2 i≠none->bh0 i=live i) (Dk0:PastH X.Sh (Us bh0) X.St (X.Mem h) (X.Lo h) h (T++ops))
  (ke0:∃ρ,B6 ρ (P2 u w'.tape w'.drawn) w'/\∀b,¬X.low b->ρ b=X.L6 b) (Z8:∀b,cm0 u b->w'.heap[b]? =w.heap[b]?) (Py0:∀G,X.J4=some G->GAt G (((count bh0 Y7.size+X.pend)*KK:Nat):Int) 0 w') (pa0:count bh0 gs.size <=count live gs.size):Ring P X h u bh0 (T++ops) Y7 w' (upd q i n'):=by
 refine⟨ke0,fun x y hx hy=>?_,C.free,by rw[A2];exact C.size,by rw[A2];exact C.num,C.stays,fun c e=>⟨(C.chans c e).1,(C.chans c e).2.1,?_⟩,C.O4,C.inj,fun b o e=>?_,C.cn0,C.el0,fun G e=>⟨(C.J4 G e).1,Py0 G e⟩,C.old,fun j hj=>?_,⟨by rw[A2];exact Nat.le_trans (Nat.add_le_add_right pa0 _) C.few.1,C.few.2⟩,fun j hj=>?_,fun j hj hs=>?_,(Deaf_other T hih ops fw0).trans C.dfn,Dk0⟩
 ·by_cases e:x=i
  ·subst e;rw[k5]at hy;obtain rfl:=Option.some.inj hy;rw[upd_same];exact Im0
  ·rw[Wy0 x e]at hy;rw[upd_ne q n' e];have:=(C.idle x y hx hy).other (fun z=>e z.symm) fw0;unfold Idle at this⊢;rw[hl x e];exact this
 ·obtain⟨k,hk⟩:=(C.chans c e).2.2;exact⟨k,by rw[Z8 _ (C.chans c e).1];exact hk⟩
 ·obtain⟨h1,h2,p,y,hy,hk⟩:=C.w5 b o e;exact⟨h1,h2,p,y,by rw[Z8 b h1];exact hy,hk⟩
 ·rw[A2]at hj;rw[Deaf_other T (g':=i) (by omega) ops fw0,hl j (by omega)];exact C.above j hj
 ·by_cases e:j=i
  ·subst e;exact C.em0 j (hli hj)
  ·rw[hl j e]at hj;exact C.em0 j hj
 ·by_cases e:j=i
  ·subst e;rcases hs with hs|hs
   ·rw[hls hs];exact C.bz0 j hj (.inl hs)
   ·exact absurd hs hih
  ·rw[hl j e];exact C.bz0 j hj hs
end
end
section
attribute [local irreducible] KK
theorem pp0 {live:Nat->Bool} {i n:Nat} (hi:live i=true) (hn:i<n):count live n=count (upd live i false) n+1:=by
 have:=sumTo_upd live false (fun b=>if b then 1 else 0) hn;simp only[hi,if_true,Bool.false_eq_true,if_false]at this;unfold count;omega
theorem Fw0 {live:Nat->Bool} {i n:Nat} (x:Bool) (hn:n <=i):count (upd live i x) n=count live n:=by
 unfold count;exact sumTo_congr fun j hj=>by rw[upd_ne live x (by omega)]
theorem O3 {g:Nat} {fn:FuncId} {pos:String} {es:Array Event}:∀op∈MemOp.ofEvents g fn pos es,op.g=g:=fun op hop=>by obtain⟨e,_,rfl⟩:=Go.Conc.mem_ofEvents hop;rfl
theorem dh0 {e:Event} (h:Fv0 e=true):(MemAct.ofEvent e).touch? =none:=by
 obtain⟨l,wr,sy⟩:=e;cases l with
 |mark m=>cases m <;> first|(cases h;done)|rfl
 |_=>cases h
section
variable {P:Program}{X:Gh}{h:Nat}{u:World}{live:Nat->Bool}{T:Trace}{gs:Array Goroutine}{w:World}{q:Nat->Nat}
theorem Idle.noSend {i n:Nat} {y:Goroutine} (hi:Idle P X live T i n y) (c:Nat):offersAt y c true=[]:=by
 unfold Idle at hi;cases e:X.C2 i with
 |some s=>
  rw[e]at hi;rcases hi.status with⟨h1,_⟩|⟨_,rfl⟩
  ·exact offersAt_of_not_blocked (by rw[h1];simp) _ _
  ·obtain⟨rfl,_⟩:=hi;exact offersAt_parked_recv' _ _ _ _ _
 |none=>
  rw[e]at hi;obtain⟨_,hi⟩:=hi;split at hi
  ·obtain⟨G,_,hl⟩:=hi;exact offersAt_of_not_blocked (by rw[hl.running];simp) _ _
  ·exact offersAt_of_not_blocked (fun hb=>by rcases hi.status with z|z <;> rw[z]at hb <;> cases hb) _ _
theorem Idle.Wz0 {i n:Nat} {y:Goroutine} (hi:Idle P X live T i n y) {c:Nat} (hc:∀s,X.C2 i=some s->s.ch≠c):offersAt y c false=[]:=by
 unfold Idle at hi;cases e:X.C2 i with
 |some s=>
  rw[e]at hi;rcases hi.status with⟨h1,_⟩|⟨_,rfl⟩
  ·exact offersAt_of_not_blocked (by rw[h1];simp) _ _
  ·obtain⟨rfl,_⟩:=hi;rw[offersAt_parked_recv,if_neg (hc s e)]
 |none=>
  rw[e]at hi;obtain⟨_,hi⟩:=hi;split at hi
  ·obtain⟨G,_,hl⟩:=hi;exact offersAt_of_not_blocked (by rw[hl.running];simp) _ _
  ·exact offersAt_of_not_blocked (fun hb=>by rcases hi.status with z|z <;> rw[z]at hb <;> cases hb) _ _
theorem Ring.by_step (C:Ring P X h u live T gs w q) {i:Nat} {g gh:Goroutine} {sl:Option (Nat×Nat)} (hi:gs[i]? =some g) (C3:i≠h) (W5:g.status= .running) (hh:gs[h]? =some gh)
  (hA:∀w',ca0 X w w'->gh.again w'=gh) (hO:∀s,X.C2 i=some s->kd0 P (i==0) s g->offersAt gh s.ch true=[]) :
  ∃(Y7:Array Goroutine) (ops:Array MemOp) (q':Nat->Nat) (w':World) (bh0:Nat->Bool),runT P (crowd gs w sl) i=(.next (crowd Y7 w' sl),ops)/\Y7.size=gs.size/\Y7[h]? =some gh/\(∀x,x≠i->q' x=q x) /\
   (∀s,X.C2 i=some s->q' i=0->kd0 P (i==0) s g)/\Ring P X h u bh0 (T++ops) Y7 w' q'/\sumTo gs.size q'<sumTo gs.size q/\ca0 X w w':=by
 have D2:i<gs.size:=(Array.getElem?_eq_some_iff.1 hi).1;have lx0:∀(w':World),ca0 X w w'->∀(a a':Goroutine) (x:Nat) (y:Goroutine),gs[x]? =some y->woken P a a' w' y=y:=fun w' hS a a' x y hy=>woken_of_again (by
  by_cases hx:x=h
  ·subst hx;rw[hh]at hy;obtain rfl:=Option.some.inj hy;exact hA w' hS
  ·exact(C.idle x y hx hy).again fun s e=>by obtain⟨k,hk⟩:=(C.chans _ (C.O4 x s e)).2.2;exact⟨k,by rw[hS.2.2 _ (C.O4 x s e)];exact hk⟩)
 have tm0:∀(w':World),ca0 X w w'->∀(a' g':Goroutine) (x:Nat),x≠i->((gs.map (woken P g a' w')).setIfInBounds i g')[x]? =gs[x]?:=by
  intro w' hS a' g' x hx;rw[Array.getElem?_setIfInBounds_ne (fun e=>hx e.symm),Array.getElem?_map];cases e:gs[x]? with
  |none=>rfl
  |some y=>simp[lx0 w' hS g a' x y e]
 have k5:∀(w':World) (a' g':Goroutine),((gs.map (woken P g a' w')).setIfInBounds i g')[i]? =some g':=fun w' a' g'=>Array.getElem?_setIfInBounds_self_of_lt (by simpa using D2);have Pz0:∀k,q i=k+1->sumTo gs.size (upd q i k)<sumTo gs.size q:=by
  intro k hqi;have h2:sumTo gs.size (upd q i k)+(k+1)=sumTo gs.size q+k:=by
   have:=sumTo_upd q k id D2;simpa [hqi]using this
  omega
 have w5:=C.idle i g C3 hi;unfold Idle at w5;cases e:X.C2 i with
 |none=>
  rw[e]at w5;obtain⟨tn0,hq⟩:=w5;have F9:(i==0)=false:=by simp;omega
  have hMi:¬X.Mem h i:=fun z=>z.elim (fun z=>C3 z.1) fun z=>z e;cases hl:live i with
  |false=>
   rw[hl]at hq;simp only[Bool.false_eq_true,if_false]at hq;cases hqi:q i with
   |zero=>rw[hqi]at hq;rw[hq.1]at W5;cases W5
   |succ k=>
    rw[hqi]at hq;rcases hq with⟨hf,_⟩|⟨_,g',es,hm,M6,hq'⟩
    ·rw[hf]at W5;cases W5
    have hS:=ca0.refl (X:=X) w;refine⟨_,_,upd q i k,w,live,runT_crowd_go (sl:=sl) hi (by rw[F9];exact M6 w),by simp,(tm0 w hS _ _ h (Ne.symm C3)).trans hh,fun x hx=>upd_ne q k hx,fun s hs=>(by cases hs),?_,Pz0 k hqi,hS⟩;refine C.put D2 C3 (by simp) (tm0 w hS _ _) (k5 w _ _) O3 (by unfold Idle;rw[e];simp only[hl,Bool.false_eq_true,if_false];exact⟨tn0,by rw[Deaf_own];exact hq'⟩) (fun _ _=>rfl) id (fun _=>rfl) ?_ C.sim (fun _ _=>rfl) (fun G hG=>by simpa using(C.J4 G hG).2) (Nat.le_refl _);exact C.past.appMute (g:=i) (fun x=>Knows.app _) (fun op hop=>by obtain⟨e',he,rfl⟩:=Go.Conc.mem_ofEvents hop;exact touch_mute (hm e' he)) (C.past.old_hears O3 (fun z=>absurd z hMi))
  |true=>
   rw[hl]at hq;simp only[if_true]at hq;obtain⟨G,hG,hq⟩:=hq;obtain⟨zr0,to0⟩:=C.J4 G hG;cases hqi:q i with
   |zero=>rw[hqi]at hq;exact hq.elim
   |succ k=>
    rw[hqi]at hq;unfold Lt at hq;rcases hq with⟨g',es,⟨_,hsy,M6⟩,hq'⟩|⟨_,hd0,Fx0⟩
    ·have hS:=ca0.refl (X:=X) w;refine⟨_,_,upd q i k,w,live,runT_crowd_go (sl:=sl) hi (by rw[F9];exact M6 w _ _ to0),by simp,(tm0 w hS _ _ h (Ne.symm C3)).trans hh,fun x hx=>upd_ne q k hx,fun s hs=>(by cases hs),?_,Pz0 k hqi,hS⟩;refine C.put D2 C3 (by simp) (tm0 w hS _ _) (k5 w _ _) O3 (by unfold Idle;rw[e];simp only[hl,if_true];exact⟨tn0,G,hG,by rw[Deaf_own];exact hq'⟩) (fun _ _=>rfl) id (fun _=>rfl) ?_ C.sim (fun _ _=>rfl) (fun G hG=>by simpa using(C.J4 G hG).2) (Nat.le_refl _);exact C.past.appMute (g:=i) (fun x=>Knows.app _) (fun op hop=>by obtain⟨e',he,rfl⟩:=Go.Conc.mem_ofEvents hop;exact dh0 (hsy e' he)) (C.past.old_hears O3 (fun z=>absurd z hMi))
    ·have ie0:=pp0 hl D2;generalize hv0:count (upd live i false) gs.size=v0 at ie0;obtain⟨v,hv⟩:∃v,v=v0+X.pend:=⟨_,rfl⟩
     have ie0:count live gs.size+X.pend=v+1:=by omega
     have hvb:v<2147483647:=by have:=C.few;omega
     obtain⟨g',M6,tp0,_⟩:=Fx0 v 0 (by omega) hvb;have co1:GAt G (((v+1)*KK+0:Nat):Int) 0 w:=by rw[Nat.add_zero,<- ie0];exact to0
     have S4:=M6 w co1;rw[Nat.add_zero]at S4;have hgv:=to0.setSt ((v*KK:Nat):Int);have mo0:stepG P (i==0) g w= .go g' (w.setCell (stA G) (.int .u64 ((v*KK:Nat):Int))) #[rdA (stA G),wrA (stA G)]:=by rw[F9];exact S4
     have p6:∀b,cm0 u b->(w.setCell (stA G) (.int .u64 ((v*KK:Nat):Int))).heap[b]? =w.heap[b]?:=fun b hb=>S3 w _ (zr0.md0 hb);have hS:ca0 X w (w.setCell (stA G) (.int .u64 ((v*KK:Nat):Int))):=⟨rfl,rfl,fun c hc=>p6 _ (C.chans c hc).1⟩
     have hdq:∀t:Trace,∀j,j <=(MemOp.ofEvents i g.frame.fn g.frame.place #[rdA (stA G),wrA (stA G)]).size->(t++MemOp.ofEvents i g.frame.fn g.frame.place #[rdA (stA G),wrA (stA G)]).deaf i (t.size+j)=Deaf t i:=fun t=>deaf_quiet (fun op hop d=>by
      obtain⟨e',he,rfl⟩:=Go.Conc.mem_ofEvents hop;simp only[List.mem_toArray,List.mem_cons,List.not_mem_nil,or_false]at he;rcases he with rfl|rfl <;> rfl)
     have hdd:Deaf (T++MemOp.ofEvents i g.frame.fn g.frame.place #[rdA (stA G),wrA (stA G)]) i=Deaf T i:=by
      rw[Deaf_own];exact deafBehind_still (fun e' he=>by
       simp only[List.mem_toArray,List.mem_cons,List.not_mem_nil,or_false]at he;rcases he with rfl|rfl <;> exact⟨by simp[rdA,wrA],by simp[rdA,wrA]⟩) _
     refine⟨_,_,upd q i k,_,upd live i false,runT_crowd_go (sl:=sl) hi mo0,by simp,(tm0 _ hS _ _ h (Ne.symm C3)).trans hh,fun x hx=>upd_ne q k hx,fun s hs=>(by cases hs),?_,Pz0 k hqi,hS⟩;refine C.put D2 C3 (by simp) (tm0 _ hS _ _) (k5 _ _ _) O3 (by unfold Idle;rw[e];simp only[upd_same,Bool.false_eq_true,if_false];exact⟨tn0,by rw[hdd];exact tp0 (by omega)⟩) (fun x hx=>upd_ne live false hx) (fun z=>by rw[upd_same]at z;cases z) (fun z=>absurd e z) ?_ ?_ p6 (fun G' hG'=>?_) (by omega)
     ·refine Past.leave (Us:=Us live) ?_ (fun x hx=>?_)
      ·refine Past.Us0 (g:=i) C.past (.inr hl) (fun g' l c6 hsh=>?_) (fun x=>Knows.app _) O3 (fun op hop=>?_) (fun _ j hj1 hj2=>?_) (C.past.old_hears O3 (fun z=>absurd z hMi))
       ·obtain⟨p,hp,rfl⟩:=c6;obtain⟨a',G',hG',ha,hb,ho⟩:=hsh;simp only[Loc.cell.injEq]at ha;subst ha;have hc:Cut u G':=hG'.elim (fun z=>(C.J4 G' z).1) (C.old G');obtain⟨_,c,T1,f,hc,hs⟩:=hc;obtain⟨c',T',f',V8,_,hv'⟩:=L5 (C.stays g' p hp).1;rw[hb,hc]at V8;cases V8;have:=(Array.getElem?_eq_some_iff.1 hv').1;omega
       ·obtain⟨e',he,rfl⟩:=Go.Conc.mem_ofEvents hop;intro b hb;simp only[List.mem_toArray,List.mem_cons,List.not_mem_nil,or_false]at he;rcases he with rfl|rfl <;> simp[rdA,wrA,MemAct.ofEvent,MemAct.touch?]at hb <;> subst hb <;> exact⟨⟨stA G,G,.inl hG,rfl,rfl,Nat.le_refl _⟩,by simp,fun _=>rfl⟩
       ·obtain⟨m,rfl⟩:∃m,j=T.size+m:=⟨j-T.size,by omega⟩
        rw[hdq T m (by omega)];omega
      ·rcases hx with hx|hx
       ·exact .inl hx
       ·by_cases ex:x=i
        ·subst ex;rw[upd_same]at hx;cases hx
        ·rw[upd_ne live false ex]at hx;exact .inr hx
     ·obtain⟨ρ,hs,hlw⟩:=C.sim;obtain⟨ρ',h1,h2⟩:=B6.setSt hs zr0 to0 ((v*KK:Nat):Int);exact⟨ρ',h1,fun b hb=>(h2 b fun e=>hb (e▸C.cn0 G hG)).trans (hlw b hb)⟩
     ·rw[hG]at hG';obtain rfl:=Option.some.inj hG';simp only[Array.size_setIfInBounds,Array.size_map,hv0,<- hv];exact hgv
 |some s=>
  rw[e]at w5;have hM:X.Mem h i:=.inr (by rw[e];simp);have hLo:X.Lo h i:=⟨C3,by rw[e];simp⟩
  have hS:=ca0.refl (X:=X) w;obtain⟨n,hqi⟩:∃n,q i=n+1:=by
   rcases w5.status with⟨_,h2⟩|⟨h1,_⟩
   ·exact⟨q i-1,by omega⟩
   ·rw[W5]at h1;cases h1
  rw[hqi]at w5;have cp1:kd0 P (i==0) s g\/(0<n/\∃g' es,(∀e'∈es,∃p∈X.stay i,e'=⟨.cell p.1,false,false⟩)/\(∀w,(∀p∈X.stay i,w.cell? p.1=some p.2)->stepG P (i==0) g w= .go g' w es)/\Way P (i==0) (X.stay i) s n g') :=
   w5.elim .inl fun z=>.inr ⟨z.1,z.2.2⟩
  rcases cp1 with hat|⟨hn0,g',es,hes,M6,re0⟩
  ·obtain⟨k,hk⟩:=(C.chans _ (C.O4 i s e)).2.2;have hw:∀cc∈#[rcase s.ch s.z],NoWays w (gs.setIfInBounds i ph) cc:=by
    intro cc hcc;simp only[List.mem_toArray,List.mem_cons,List.not_mem_nil,or_false]at hcc;subst hcc;refine ways_recv_none hk (partners_nil fun x y hy=>?_);rcases getElem?_stand gs i x y hy with⟨_,rfl⟩|⟨hx,hy'⟩
    ·exact offersAt_ph _ _
    ·by_cases hxh:x=h
     ·subst hxh;rw[hh]at hy';obtain rfl:=Option.some.inj hy';exact hO s e hat
     ·exact(C.idle x y hxh hy').noSend _
   refine⟨_,_,upd q i 0,w,live,crowd_waits (sl:=sl) hi (hat.2.2.2.2 w) hw,by simp,(Array.getElem?_setIfInBounds_ne C3).trans hh,fun x hx=>upd_ne q 0 hx,fun s' hs' _=>by rw[<- Option.some.inj hs'];exact hat,?_,?_,hS⟩
   ·refine C.put D2 C3 (by simp) (fun x hx=>Array.getElem?_setIfInBounds_ne (fun z=>hx z.symm)) (Array.getElem?_setIfInBounds_self_of_lt D2) O3 (by unfold Idle;rw[e];exact⟨rfl,g,hat⟩) (fun _ _=>rfl) id (fun _=>rfl) ?_ C.sim (fun _ _=>rfl) (fun G hG=>by simpa using(C.J4 G hG).2) (Nat.le_refl _);exact C.past.appMute (g:=i) (fun x=>Knows.app _) (fun op hop=>by obtain⟨e',he,rfl⟩:=Go.Conc.mem_ofEvents hop;simp at he) (C.past.old_hears O3 (fun _=>by rw[Deaf_own];rfl))
   ·have h2:sumTo gs.size (upd q i 0)+(n+1)=sumTo gs.size q+0:=by
     have:=sumTo_upd q 0 id D2;simpa [hqi]using this
    omega
  ·obtain⟨ρ,hs,_⟩:=C.sim;have S4:=M6 w fun p hp=>hs.cell (u:=P2 u w.tape w.drawn) (C.stays i p hp).1;refine⟨_,_,upd q i n,w,live,runT_crowd_go (sl:=sl) hi S4,by simp,(tm0 w hS _ _ h (Ne.symm C3)).trans hh,fun x hx=>upd_ne q n hx,fun s' _ hz=>by rw[upd_same]at hz;omega,?_,Pz0 n hqi,hS⟩;refine C.put D2 C3 (by simp) (tm0 w hS _ _) (k5 w _ _) O3 (by unfold Idle;rw[e];exact re0) (fun _ _=>rfl) id (fun _=>rfl) ?_ C.sim (fun _ _=>rfl) (fun G hG=>by simpa using(C.J4 G hG).2) (Nat.le_refl _);refine C.past.appRead (g:=i) (fun x=>Knows.app _) hM hLo O3 (fun op hop b hb=>?_) ?_
   ·obtain⟨e',he,rfl⟩:=Go.Conc.mem_ofEvents hop;obtain⟨p,hp,rfl⟩:=hes e' he;simp only[ofEvent_cell0,MemAct.touch?,Option.some.injEq]at hb;subst hb;refine⟨rfl,⟨p,hp,rfl⟩,?_⟩;rintro⟨a',G',hG',ha,hb,ho⟩;simp only[Loc.cell.injEq]at ha;subst ha;have hc:Cut u G':=hG'.elim (fun z=>(C.J4 G' z).1) (C.old G');obtain⟨_,c,T1,f,hc,hs⟩:=hc;obtain⟨c',T',f',V8,_,hv'⟩:=L5 (C.stays i p hp).1;rw[hb,hc]at V8;cases V8;have:=(Array.getElem?_eq_some_iff.1 hv').1;omega
   ·rw[Deaf_own];exact deafBehind_still (fun e' he=>by obtain⟨p,_,rfl⟩:=hes e' he;exact⟨by simp,by simp⟩) _
end
end
section
attribute [local irreducible] KK
def Ends (P:Program) (Post:Value->World->Prop) (m:Machine) (t:Trace):Prop :=
 ∃N last o w' t',runNT P (N+1) m t=(.ended o w',t')/\runN P N m= .next last/\step P last= .ended o w'/\Conc.Good P Post last o w' t'
theorem gf0 {P:Program}:∀{N:Nat} {m m':Machine} {t t':Trace},runNT P N m t=(.next m',t')->runN P N m= .next m'
 |0,m,m',t,t',h=>by simp only[runNT,Prod.mk.injEq]at h;simp only[runN];exact h.1
 |N+1,m,m',t,t',h=>by
  simp only[runNT]at h;unfold runN step;cases e:stepT P m with
  |mk s ops=>
   rw[e]at h;cases s with
   |next m1=>exact gf0 h
   |ended o w=>simp at h
theorem pq0 {P:Program}:∀(a b:Nat) (m m':Machine),runN P a m= .next m'->runN P (a+b) m=runN P b m'
 |0,b,m,m',h=>by simp only[runN,Stepped.next.injEq]at h;rw[Nat.zero_add,h]
 |a+1,b,m,m',h=>by
  rw[show a+1+b=(a+b)+1 by omega];have h':(match step P m with| .next m=>runN P a m|e=>e)= .next m':=h;show(match step P m with| .next m=>runN P (a+b) m|e=>e)=_;cases e:step P m with
  |next m1=>rw[e]at h';exact pq0 a b m1 m' h'
  |ended o w=>rw[e]at h';cases h'
section
variable {P:Program}{Post:Value->World->Prop}
theorem Ends.steps {N:Nat} {m m':Machine} {t t':Trace} (h:runNT P N m t=(.next m',t')) (hE:Ends P Post m' t'):Ends P Post m t:=by
 obtain⟨M,last,o,w',t2,h1,h2,h3,h4⟩:=hE;exact⟨N+M,last,o,w',t2,by rw[Nat.add_assoc,runNT_add,h];exact h1,by rw[pq0 N M m m' (gf0 h)];exact h2,h3,h4⟩
theorem Ends.step {m m':Machine} {t:Trace} {ops:Array MemOp} (h:stepT P m=(.next m',ops)) (hE:Ends P Post m' (t++ops)):Ends P Post m t :=
 Ends.steps (N:=1) (by simp only[runNT,h]) hE
end
def Fin (P:Program) (Post:Value->World->Prop) (X:Gh) (h:Nat) (g:Goroutine) (u:World):Prop :=
 ∀live T gs w sl q,gs[h]? =some g->Ring P X h u live T gs w q->Ends P Post (crowd gs w sl) T
section
variable {P:Program}{Post:Value->World->Prop}{X:Gh}{h:Nat}{u:World}
theorem Ring.cq1 {g:Goroutine} (W5:g.status= .running) (K:Machine->Trace->Prop) (hK:∀m m' t ops,stepT P m=(.next m',ops)->K m' (t++ops)->K m t)
  (mp0:∀live T gs w sl d b9 q,gs[h]? =some g->stepT P (crowd gs w sl)=runT P (crowd gs (w.at d) b9) h->Ring P X h u live T gs (w.at d) q->K (crowd gs w sl) T) :
  ∀(μ:Nat) live T gs w sl q,sumTo gs.size q=μ->gs[h]? =some g->Ring P X h u live T gs w q->K (crowd gs w sl) T:=by
 intro μ
 induction μ using Nat.strongRecOn with
 |_ μ ih=>
  intro live T gs w sl q hμ hg C;obtain⟨i,gi,d,b9,hi,hgi,S4⟩:=crowd_pick (P:=P) (w:=w) (sl:=sl) (C.awake hg (.inl W5)) ⟨h,g,hg,W5⟩;have Cd:=C.at d;by_cases e:i=h
  ·subst e;exact mp0 live T gs w sl d b9 q hg S4 Cd
  ·obtain⟨Y7,ops,q',w',bh0,hrt,A2,hgh,_,_,C',D2,_⟩:=Cd.by_step (sl:=b9) hi e hgi hg (fun w' _=>again_of_running (.inl W5) w') (fun s _ _=>offersAt_of_not_blocked (by rw[W5];simp) _ _);exact hK _ _ _ _ (S4.trans hrt) (ih _ (by rw[A2,<- hμ];exact D2) bh0 (T++ops) Y7 w' b9 q' rfl hgh C')
theorem Fin.bi0 {g:Goroutine} (W5:g.status= .running) (mp0:∀live T gs w sl d b9 q,gs[h]? =some g->stepT P (crowd gs w sl)=runT P (crowd gs (w.at d) b9) h->Ring P X h u live T gs (w.at d) q->Ends P Post (crowd gs w sl) T):Fin P Post X h g u :=
 fun live T gs w sl q hg C=>Ring.cq1 W5 (Ends P Post) (fun _ _ _ _ h=>Ends.step h) mp0 _ live T gs w sl q rfl hg C
theorem Fin.own {g:Goroutine} (W5:g.status= .running) (hs:∀τ d,∃g' u',l6 P (h==0) g (P2 u τ d) g' u'/\Fin P Post X h g' u'):Fin P Post X h g u:=by
 refine Fin.bi0 W5 fun live T gs w sl d b9 q hg S4 C=>?_;obtain⟨g',u',hF,hK⟩:=hs (w.at d).tape (w.at d).drawn;obtain⟨w',es,hgo,C',k5⟩:=C.own hg hF;exact Ends.step (S4.trans (runT_crowd_go (sl:=b9) hg hgo)) (hK _ _ _ _ _ _ k5 C')
theorem Fin.Qa0 {g:Goroutine} {X':Gh} {u':World} (hw:∀live T gs w q,Ring P X h u live T gs w q->Ring P X' h u' live T gs w q) (hF:Fin P Post X' h g u'):Fin P Post X h g u :=
 fun live T gs w sl q hg C=>hF live T gs w sl q hg (hw live T gs w q C)
end
def l3 (u:World) (b:Nat) (o:Obj):World:={u with heap:=u.heap.setIfInBounds b o}
theorem kz0 (u:World) (b:Nat) (o:Obj) (k:Nat):(l3 u b o).heap[k]? =if b=k then(if b<u.heap.size then some o else none) else u.heap[k]?:=by
 simp only[l3,Array.getElem?_setIfInBounds]
theorem N6 (u:World) {b k:Nat} (o:Obj) (h:b≠k):(l3 u b o).heap[k]? =u.heap[k]?:=by rw[kz0,if_neg h]
theorem G7 (u:World) {b:Nat} {o x:Obj} (h:u.heap[b]? =some x):(l3 u b o).heap[b]? =some o:=by
 rw[kz0,if_pos rfl,if_pos (Array.getElem?_eq_some_iff.1 h).1]
theorem H7 {u u':World} {a:Addr} (h:u'.heap[a.block]? =u.heap[a.block]?):u'.cell? a=u.cell? a/\u'.frozen? a=u.frozen? a:=by
 unfold World.cell? World.frozen?;rw[h];exact⟨rfl,rfl⟩
theorem B6.replace {ρ:Nat->p7} {u w:World} {b:Nat} {x x' y:Obj} {p:p7} (hs:B6 ρ (P2 u w.tape w.drawn) w) (hb:u.heap[b]? =some x) (hv:K4 x'=false) (hy:w.heap[b]? =some y) (hl:ek0 p x' y):∃ρ',B6 ρ' (P2 (l3 u b x') w.tape w.drawn) w/\∀k,k≠b->ρ' k=ρ k:=by
 have D2:=(Array.getElem?_eq_some_iff.1 hb).1;refine⟨fun k=>if k=b then p else ρ k,⟨hs.os,hs.output,rfl,rfl,by have:=hs.size;simpa [l3,P2]using this,fun k z hz=>?_,fun k hk=>?_,fun k z hz=>?_⟩,fun k hk=>if_neg hk⟩
 ·have hz':(l3 u b x').heap[k]? =some z:=hz;by_cases e:k=b
  ·subst e;rw[G7 u hb]at hz';obtain rfl:=Option.some.inj hz';exact⟨y,hy,by rw[if_pos rfl];exact hl⟩
  ·rw[N6 u x' (Ne.symm e)]at hz';obtain⟨y',h1,h2⟩:=hs.obj k z hz';exact⟨y',h1,by rw[if_neg e];exact h2⟩
 ·have hk':u.heap.size <=k:=by simpa [l3,P2]using hk
  rw[if_neg (by omega)];exact hs.new k hk'
 ·have hz':(l3 u b x').heap[k]? =some z:=hz;by_cases e:k=b
  ·subst e;rw[G7 u hb]at hz';obtain rfl:=Option.some.inj hz';exact hv
  ·rw[N6 u x' (Ne.symm e)]at hz';exact hs.P7 k z hz'
structure kf0 (X:Gh) (b:Nat):Prop where
 stay:∀i p,p∈X.stay i->p.1.block≠b
 w5:X.w5 b=none
 chs:¬X.chs b
 J4:∀G,(X.J4=some G\/G∈X.old)->G.blk≠b
structure Gh.co0 (X:Gh) (n:Nat):Prop where
 stay:∀i p,p∈X.stay i->p.1.block<n
 w5:∀b o,X.w5 b=some o->b<n
 chs:∀b,X.chs b->b<n
 J4:∀G,(X.J4=some G\/G∈X.old)->G.blk<n
 low:∀b,X.low b->b<n
theorem Gh.co0.mono {X:Gh} {n m:Nat} (h:X.co0 n) (hm:n <=m):X.co0 m :=
 ⟨fun i p hp=>Nat.lt_of_lt_of_le (h.stay i p hp) hm,fun b o e=>Nat.lt_of_lt_of_le (h.w5 b o e) hm,fun b e=>Nat.lt_of_lt_of_le (h.chs b e) hm,fun G e=>Nat.lt_of_lt_of_le (h.J4 G e) hm,fun b e=>Nat.lt_of_lt_of_le (h.low b e) hm⟩
theorem Gh.co0.gp0 {X:Gh} {n b:Nat} (h:X.co0 n) (hb:n <=b):kf0 X b :=
 ⟨fun i p hp=>by have:=h.stay i p hp;omega,by
  cases e:X.w5 b with
  |none=>rfl
  |some o=>have:=h.w5 b o e;omega,fun e=>by have:=h.chs b e;omega,fun G hG=>by have:=h.J4 G hG;omega⟩
def Gh.lower (X:Gh) (b:Nat):Gh:={X with low:=fun k=>X.low k\/k=b}
theorem Ring.swap {P:Program} {X:Gh} {h:Nat} {u:World} {live:Nat->Bool} {T:Trace} {gs:Array Goroutine} {w:World} {q:Nat->Nat} (C:Ring P X h u live T gs w q) {b:Nat} {x x':Obj} (hl:kf0 X b) (hb:u.heap[b]? =some x) (hv:K4 x'=false)
  (hlk:∀p y,ek0 p x y->∃p',ek0 p' x' y):Ring P (X.lower b) h (l3 u b x') live T gs w q:=by
 obtain⟨ρ,hs,hlw⟩:=C.sim;obtain⟨y,hy,G9⟩:=hs.obj b x hb;obtain⟨p',hp'⟩:=hlk _ _ G9;have zr0:∀G,(X.J4=some G\/G∈X.old)->Cut u G->Cut (l3 u b x') G:=fun G hG ⟨h0,c,T,f,hc,hcs⟩=>⟨h0,c,T,f,by rw[N6 u x' (Ne.symm (hl.J4 G hG))];exact hc,hcs⟩
 have Z8:∀k,k≠b->cm0 u k->cm0 (l3 u b x') k:=fun k hk ⟨T,f,hc⟩=>⟨T,f,by rw[N6 u x' (Ne.symm hk)];exact hc⟩
 refine⟨?_,C.idle,C.free,C.size,C.num,fun i p hp=>?_,fun c hc=>⟨Z8 c (fun e=>hl.chs (e▸hc)) (C.chans c hc).1,(C.chans c hc).2⟩,C.O4,C.inj,fun k o e=>?_,fun G e=>.inl (C.cn0 G e),fun c e=>.inl (C.el0 c e),fun G e=>⟨zr0 G (.inl e) (C.J4 G e).1,(C.J4 G e).2⟩,fun G e=>zr0 G (.inr e) (C.old G e),C.above,C.few,C.em0,C.bz0,C.dfn,C.past⟩
 ·obtain⟨ρ',h1,h2⟩:=B6.replace hs hb hv hy hp';exact⟨ρ',h1,fun k hk=>by
   have hkb:k≠b:=fun e=>hk (.inr e);rw[h2 k hkb];exact hlw k fun e=>hk (.inl e)⟩
 ·have:=H7 (u:=u) (u':=l3 u b x') (a:=p.1) (N6 u x' (Ne.symm (hl.stay i p hp)));rw[this.1,this.2];exact C.stays i p hp
 ·have hk:k≠b:=fun z=>by subst z;have e2:X.w5 k=some o:=e;rw[hl.w5]at e2;cases e2
  exact⟨Z8 k hk (C.w5 k o e).1,(C.w5 k o e).2⟩
section
variable {P:Program}{Post:Value->World->Prop}{X:Gh}{h:Nat}{u:World}{g:Goroutine}{b:Nat}
theorem Fin.freeze {c:Array Value} {T:TypeId} {f f':Nat×Nat} (hl:kf0 X b) (hb:u.heap[b]? =some (.cells c T f)) (hf:∀i,inR f i->inR f' i) (hF:Fin P Post (X.lower b) h g (l3 u b (.cells c T f'))):Fin P Post X h g u:=by
 refine Fin.Qa0 (fun live Tr gs w q C=>C.swap hl hb rfl fun p y hp=>?_) hF;cases hp with
 |same=>exact⟨.cut #[] f,by have:=ek0.cut c #[] T f f' hf;simpa using this⟩
 |cut _ rest _ f0 _ h0=>exact⟨.cut rest f0,.cut c rest T f0 f' fun i hi=>hf i (h0 i hi)⟩
 |gone=>exact⟨.gone y,.gone _ _ _⟩
def nothing:Obj:=.cells #[] 0 (0,0)
theorem Fin.chan (hl:kf0 X b) (hw:¬X.low b) (hpl:X.L6 b= .all) {k:Nat} (hb:u.heap[b]? =some (.chan 0 #[] false k k false)) (hF:Fin P Post {X.lower b with chs:=fun c=>X.chs c\/c=b} h g (l3 u b nothing)):Fin P Post X h g u:=by
 refine Fin.Qa0 (fun live Tr gs w q C=>?_) hF;have C':=C.swap (x':=nothing) hl hb rfl fun p y hp=>⟨.gone y,.gone _ _ _⟩
 obtain⟨ρ,hs,hlw⟩:=C.sim;obtain⟨y,hy,G9⟩:=hs.obj b _ hb;rw[hlw b hw,hpl]at G9;have hyb:y= .chan 0 #[] false k k false:=by cases G9;rfl
 subst hyb;refine⟨C'.sim,C'.idle,C'.free,C'.size,C'.num,C'.stays,fun c hc=>?_,fun i s e=>.inl (C'.O4 i s e),C'.inj,C'.w5,C'.cn0,fun c e=>e.elim (C'.el0 c) fun e=>.inr e,C'.J4,C'.old,C'.above,C'.few,C'.em0,C'.bz0,C'.dfn,C'.past⟩;rcases hc with hc|rfl
 ·exact C'.chans c hc
 ·exact⟨⟨0,(0,0),G7 u hb⟩,hl.w5,k,hy⟩
theorem Fin.stay {l:er0} (hl:∀p∈l,u.cell? p.1=some p.2/\u.frozen? p.1=true) (hF:Fin P Post {X with stay:=upd X.stay h l} h g u):Fin P Post X h g u:=by
 refine Fin.Qa0 (fun live Tr gs w q C=>?_) hF;have Qb0:∀i,i≠h->upd X.stay h l i=X.stay i:=fun i hi=>upd_ne _ _ hi;refine⟨C.sim,fun i y hi hy=>?_,C.free,C.size,C.num,fun i p hp=>?_,C.chans,C.O4,C.inj,C.w5,C.cn0,C.el0,C.J4,C.old,fun j hj=>?_,C.few,C.em0,C.bz0,C.dfn,?_⟩
 ·have:=C.idle i y hi hy;unfold Idle at this⊢;show(match X.C2 i with|some s=>Way P (i==0) (upd X.stay h l i) s (q i) y|none=>_);rw[Qb0 i hi];exact this
 ·have hp':p∈upd X.stay h l i:=hp;by_cases e:i=h
  ·subst e;rw[upd_same]at hp';exact hl p hp'
  ·rw[Qb0 i e]at hp';exact C.stays i p hp'
 ·have:=C.above j hj;refine⟨this.1,this.2.1,this.2.2.1,?_⟩;show upd X.stay h l j=[];rw[Qb0 j (by have:=C.size;omega)];exact this.2.2.2
 ·refine PastH.still C.past (fun z=>z.1 rfl) (fun i hi l'=>?_) (fun l' c6=>?_) (fun i hi=>.inl hi) (fun hi=>C.past.hears h hi)
  ·show(∃p∈upd X.stay h l i,_)↔_;rw[Qb0 i hi];exact Iff.rfl
  ·obtain⟨p,hp,rfl⟩:=(c6:∃p∈upd X.stay h l h,l'= .cell p.1)
   have hp:p∈l:=by have hp':p∈upd X.stay h l h:=hp;rwa [upd_same]at hp'
   refine⟨rfl,?_⟩;rintro⟨a',G,hG,ha,hb,ho⟩;simp only[Loc.cell.injEq]at ha;subst ha;have hc:Cut u G:=hG.elim (fun e=>(C.J4 G e).1) (C.old G);obtain⟨_,c,T,f,hc,hs⟩:=hc;obtain⟨c',T',f',V8,_,hv'⟩:=L5 (hl p hp).1;rw[hb,hc]at V8;cases V8;have:=(Array.getElem?_eq_some_iff.1 hv').1;omega
end
end
section
attribute [local irreducible] KK
theorem count_le {live:Nat->Bool} {i:Nat}:∀{n:Nat},i<n->live i=true->0<count live n:=by
 intro n hn hl;have:=Go.ConcN.le_sumTo (f:=fun i=>if live i then 1 else 0) hn;simp only[hl,if_true]at this;exact this
theorem GAt.of_block {G:X6} {st sm:Int} {w w':World} (h:GAt G st sm w) (e:w'.heap[G.blk]? =w.heap[G.blk]?):GAt G st sm w':=by
 obtain⟨c,T,hb,hc⟩:=h;exact⟨c,T,e.trans hb,hc⟩
section
variable {P:Program}{Post:Value->World->Prop}{X:Gh}{u:World}{g:Goroutine}
theorem Fin.Xa0 {f':Nat×Nat} {b:Nat} {c:Array Value} {T:TypeId} (rf0:X.cap=0) (hl:kf0 X b) (hw:¬X.low b) (hpl:X.L6 b= .all) (hb:u.heap[b]? =some (.cells (c ++ #[.int .u64 0,.int .u32 0]) T (0,0))) (h0:0<c.size)
  (hF:Fin P Post {X.lower b with J4:=some ⟨b,c.size⟩,old:=X.J4.toList++X.old} 0 g (l3 u b (.cells c T f'))):Fin P Post X 0 g u:=by
 refine Fin.Qa0 (fun live Tr gs w q C=>?_) hF;have C':=C.swap (x':=.cells c T f') hl hb rfl fun p y hp=>by
  generalize hq:(Obj.cells (c ++ #[.int .u64 0,.int .u32 0]) T (0,0))=z at hp;cases hp with
  |same=>subst hq;exact⟨_,.cut c _ T (0,0) f' fun _ h=>by unfold inR at h;omega⟩
  |cut c' rest T' f f2 hf=>
   obtain⟨rfl,rfl,rfl⟩:=Obj.cells.inj hq;exact⟨.cut (#[.int .u64 0,.int .u32 0]++rest) f,by rw[Array.append_assoc];exact .cut c _ _ f f' fun i hi=>by have:=hf i hi;unfold inR at this;omega⟩
  |gone T' f o=>
   obtain⟨h1,_,_⟩:=Obj.cells.inj hq;have:=congrArg Array.size h1;simp at this
 obtain⟨ρ,hs,hlw⟩:=C.sim;obtain⟨y,hy,G9⟩:=hs.obj b _ hb;rw[hlw b hw,hpl]at G9;have hyb:y= .cells (c ++ #[.int .u64 0,.int .u32 0]) T (0,0):=by cases G9;rfl
 subst hyb;have hz:count live gs.size+X.pend=0:=by have:=C.few;omega
 have pr0:∀i,live i=false:=fun i=>by
  rcases Nat.lt_or_ge i gs.size with hi|hi
  ·cases e:live i with
   |false=>rfl
   |true=>have:=count_le hi e;omega
  ·exact(C.above i hi).2.2.1
 refine⟨C'.sim,fun i y hi hy=>?_,C'.free,C'.size,C'.num,C'.stays,C'.chans,C'.O4,C'.inj,C'.w5,fun G e=>?_,C'.el0,fun G e=>?_,fun G e=>?_,C'.above,C'.few,fun i e=>absurd e (by rw[pr0 i];simp),C'.bz0,C'.dfn,?_⟩
 ·have:=C'.idle i y hi hy;unfold Idle at this⊢;simp only[pr0,Bool.false_eq_true,if_false]at this⊢;exact this
 ·cases e;exact .inr rfl
 ·cases e;refine⟨⟨h0,c,T,f',G7 u hb,rfl⟩,c,T,?_,rfl⟩;rw[hy];have:(((count live gs.size+X.pend)*KK:Nat):Int)=0:=by rw[hz,Nat.zero_mul];rfl
  show _=some (Obj.cells (c ++ #[.int .u64 (((count live gs.size+X.pend)*KK:Nat):Int),.int .u32 0]) T (0,0));rw[this]
 ·have e':G∈X.J4.toList++X.old:=e;rcases List.mem_append.1 e' with e'|e'
  ·exact(C'.J4 G (show X.J4=some G by simpa using e')).1
  ·exact C'.old G e'
 ·refine PastH.Ij0 C'.past (fun l c6=>?_) (fun i l hi hS=>?_) (fun l c6=>by obtain⟨a,G,_,rfl,_⟩:=c6;rfl) (fun i hi=>hi.elim id fun z=>by rw[pr0 i]at z;cases z)
  ·obtain⟨a,G,hG,ha,hb',ho⟩:=c6;refine⟨a,G,.inr ?_,ha,hb',ho⟩;show G∈X.J4.toList++X.old;rcases hG with hG|hG
   ·exact List.mem_append_left _ (by have hG:X.J4=some G:=hG;simpa using hG)
   ·exact List.mem_append_right _ hG
  ·rintro⟨a,G,hG,ha,hb',ho⟩;obtain⟨p,hp,rfl⟩:=hS;simp only[Loc.cell.injEq]at ha;subst ha;have hp0:p∈X.stay i:=hp;rcases hG with hG|hG
   ·cases hG;exact hl.stay i p hp0 hb'
   ·have hG':G∈X.J4.toList++X.old:=hG;have hc:Cut u G:=(List.mem_append.1 hG').elim (fun z=>(C.J4 G (by simpa using z)).1) (C.old G);obtain⟨_,c1,T1,f1,hc,hs1⟩:=hc;obtain⟨c',T',f',V8,_,hv'⟩:=L5 (C.stays i p hp0).1;rw[hb',hc]at V8;cases V8;have:=(Array.getElem?_eq_some_iff.1 hv').1;omega
end
def Gh.pass (X:Gh) (h j:Nat) (sh:Option w6):Gh:={X with C2:=upd (upd X.C2 j none) h sh}
section
variable {P:Program}{X:Gh}{h:Nat}{u:World}{live:Nat->Bool}{T:Trace}{gs:Array Goroutine}{w:World}{q:Nat->Nat}
theorem Ring.pass (C:Ring P X h u live T gs w q) {j k:Nat} {s:w6} (hj:X.C2 j=some s) (hjh:j≠h) (ii0:X.dn=0) (hk:w.heap[s.ch]? =some (.chan 0 #[] false k k false)) {Y7:Array Goroutine} {T':Trace} {H':Goroutine} (A2:Y7.size=gs.size)
  (zu0:∀x,x≠h->x≠j->Y7[x]? =gs[x]?) (hH:Y7[h]? =some H') (Ut0:∀x,Deaf T' x=Deaf T x) {sh:Option w6} (hsh:∀s',sh=some s'->X.chs s'.ch/\∀i s2,i≠j->X.C2 i=some s2->s2.ch≠s'.ch) {nh:Nat} (Xb0:Idle P (X.pass h j sh) live T' h nh H')
  (Dk0:PastH X.Sh (Us live) X.St (X.Mem h) (fun g=>X.Lo h g/\g≠j) j T'):Ring P (X.pass h j sh) j u live T' Y7 (w.setChan s.ch 0 #[] false (k+1) (k+1) false) (upd q h nh):=by
 obtain⟨ρ,hs,hlw⟩:=C.sim;obtain⟨Z8,In0,_⟩:=C.chans s.ch (C.O4 j s hj);have C3:∀b,b≠s.ch->(w.setChan s.ch 0 #[] false (k+1) (k+1) false).heap[b]? =w.heap[b]?:=fun b hb=>heap_setChan_ne w _ _ _ _ _ _ (Ne.symm hb);have k5:(w.setChan s.ch 0 #[] false (k+1) (k+1) false).heap[s.ch]? =some (.chan 0 #[] false (k+1) (k+1) false):=heap_setChan_self w hk _ _ _ _ _ _;have c7:∀i,i≠h->i≠j->(X.pass h j sh).C2 i=X.C2 i:=fun i h1 h2=>by
  show upd (upd X.C2 j none) h sh i=_;rw[upd_ne _ _ h1,upd_ne _ _ h2]
 have Xc0:(X.pass h j sh).C2 h=sh:=upd_same _ _ _;have Io0:(X.pass h j sh).C2 j=none:=by
  show upd (upd X.C2 j none) h sh j=_;rw[upd_ne _ _ hjh,upd_same]
 have pb0:j<gs.size:=by
  rcases Nat.lt_or_ge j gs.size with z|z
  ·exact z
  ·have:=(C.above j z).2.1;rw[hj]at this;cases this
 have hgb:∀G,Cut u G->G.blk≠s.ch:=fun G hG=>(hG.md0 Z8).symm;have hold:∀i s2,(X.pass h j sh).C2 i=some s2->(i≠h/\i≠j/\X.C2 i=some s2)\/(i=h/\sh=some s2):=fun i s2 e=>by
  by_cases e1:i=h
  ·subst e1;rw[Xc0]at e;exact .inr ⟨rfl,e⟩
  ·by_cases e2:i=j
   ·subst e2;rw[Io0]at e;cases e
   ·rw[c7 i e1 e2]at e;exact .inl ⟨e1,e2,e⟩
 refine⟨⟨fun b=>if b=s.ch then .gone (.chan 0 #[] false (k+1) (k+1) false) else ρ b,⟨hs.os,hs.output,rfl,rfl,by have:=hs.size;simpa [World.setChan,P2]using this,fun b x hx=>?_,fun b hb=>?_,hs.P7⟩,fun b hb=>?_⟩,
  fun x y hx hy=>?_,Io0,by rw[A2];exact pb0,by rw[A2];exact C.num,C.stays,fun c hc=>⟨(C.chans c hc).1,(C.chans c hc).2.1,?_⟩,fun i s2 e=>?_,fun i i' s1 s2 e1 e2 hc=>?_,fun b o e=>?_,C.cn0,C.el0,fun G e=>⟨(C.J4 G e).1,?_⟩,C.old,fun i hi=>?_,by rw[A2];exact C.few,C.em0,fun i hi hor=>?_,(Dk0.hears j (.inr (by rw[hj];simp))).trans ii0.symm,?_⟩
 ·by_cases e:b=s.ch
  ·subst e;obtain⟨T0,f0,hg⟩:=Z8;have Z5:u.heap[s.ch]? =some x:=hx;rw[hg]at Z5;obtain rfl:=Option.some.inj Z5;exact⟨_,k5,by rw[if_pos rfl];exact .gone _ _ _⟩
  ·obtain⟨y,h1,h2⟩:=hs.obj b x hx;exact⟨y,(C3 b e).trans h1,by rw[if_neg e];exact h2⟩
 ·obtain⟨T0,f0,hg⟩:=Z8;have h1:s.ch<u.heap.size:=(Array.getElem?_eq_some_iff.1 hg).1;have h2:u.heap.size <=b:=hb;rw[if_neg (by omega)];exact hs.new b hb
 ·have:b≠s.ch:=fun e=>hb (e▸C.el0 s.ch (C.O4 j s hj));show(if b=s.ch then _ else ρ b)=_;rw[if_neg this];exact hlw b hb
 ·by_cases e:x=h
  ·subst e;rw[hH]at hy;obtain rfl:=Option.some.inj hy;rw[upd_same];exact Xb0
  ·rw[zu0 x e hx]at hy;have w5:=C.idle x y e hy;unfold Idle at w5⊢;rw[c7 x e hx,Ut0,upd_ne q nh e];exact w5
 ·by_cases e:c=s.ch
  ·subst e;exact⟨k+1,k5⟩
  ·obtain⟨k',hk'⟩:=(C.chans c hc).2.2;exact⟨k',(C3 c e).trans hk'⟩
 ·rcases hold i s2 e with⟨_,_,e⟩|⟨_,e⟩
  ·exact C.O4 i s2 e
  ·exact(hsh s2 e).1
 ·rcases hold i s1 e1 with⟨_,a2,f1⟩|⟨f0,f1⟩ <;> rcases hold i' s2 e2 with⟨_,b2,f2⟩|⟨f3,f2⟩
  ·exact C.inj i i' s1 s2 f1 f2 hc
  ·exact absurd hc ((hsh s2 f2).2 i s1 a2 f1)
  ·exact absurd hc.symm ((hsh s1 f1).2 i' s2 b2 f2)
  ·rw[f0,f3]
 ·obtain⟨h1,h2,p,y,h3,h4⟩:=C.w5 b o e;have:b≠s.ch:=fun e2=>by subst e2;have e':X.w5 s.ch=some o:=e;rw[In0]at e';cases e'
  exact⟨h1,h2,p,y,(C3 b this).trans h3,h4⟩
 ·rw[A2];exact(C.J4 G e).2.of_block (C3 _ (hgb G (C.J4 G e).1))
 ·rw[A2]at hi;have:=C.above i hi;refine⟨by rw[Ut0];exact this.1,?_,this.2.2⟩;rw[c7 i (by have:=C.size;omega) (by omega)];exact this.2.1
 ·rcases hor with hor|rfl
  ·cases e:(X.pass h j sh).C2 i with
   |none=>exact absurd e hor
   |some s2=>
    rcases hold i s2 e with⟨_,_,e⟩|⟨rfl,_⟩
    ·exact C.bz0 i hi (.inl (by rw[e];simp))
    ·exact C.bz0 i hi (.inr rfl)
  ·exact C.bz0 i hi (.inl (by rw[hj];simp))
 ·refine(Dk0.fewer (Mem':=(X.pass h j sh).Mem j) fun x hx=>?_).loosen fun x hx=>?_
  ·rcases hx with⟨rfl,_⟩|hx
   ·exact .inr (by rw[hj];simp)
   ·cases e:(X.pass h j sh).C2 x with
    |none=>exact absurd e hx
    |some s2=>
     rcases hold x s2 e with⟨_,_,e⟩|⟨rfl,_⟩
     ·exact .inr (by rw[e];simp)
     ·exact .inl ⟨rfl,ii0⟩
  ·exact⟨hx.2,by rw[c7 x hx.1.1 hx.2];exact hx.1.2⟩
end
section
variable {P:Program}{Post:Value->World->Prop}{X:Gh}{h:Nat}{u:World}
def rg0 (P:Program) (X:Gh) (h:Nat) (sh:Option w6) (n:Nat) (g:Goroutine):Prop:=match sh with
 |some s'=>Way P (h==0) (X.stay h) s' n g
 |none=>0<h/\∃G,X.J4=some G/\Lt P G n 0 g
theorem Fin.give {g a₂:Goroutine} {s:w6} {j nh:Nat} {v z':Value} (W5:g.status= .running) (hj:X.C2 j=some s) (hjh:j≠h) (ii0:X.dn=0) (hsend:∀w,stepG P (h==0) g w= .comm a₂ #[scase s.ch v z'] true .send w #[])
  (sh:Option w6) (hsh:∀s',sh=some s'->X.chs s'.ch/\∀i s2,i≠j->X.C2 i=some s2->s2.ch≠s'.ch) (Xd0:rg0 P X h sh nh (Go.Conc.served a₂ undef)) (hF:Fin P Post (X.pass h j sh) j (Go.Conc.served s.me (recvd false v true)) u):Fin P Post X h g u:=by
 have Xb0:∀{live:Nat->Bool} {T T':Trace} {gs:Array Goroutine} {w:World} {q:Nat->Nat},Ring P X h u live T gs w q->Deaf T' h=0->Idle P (X.pass h j sh) live T' h nh (Go.Conc.served a₂ undef):=by
  intro live T T' gs w q C hd;unfold Idle;have:(X.pass h j sh).C2 h=sh:=upd_same _ _ _;rw[this];unfold rg0 at Xd0;cases sh with
  |some s'=>exact Xd0
  |none=>
   obtain⟨h0,G,hG,hL⟩:=Xd0;refine⟨h0,?_⟩;rw[C.bz0 h (by omega) (.inr rfl)];simp only[if_true];exact⟨G,hG,by rw[hd];exact hL⟩
 have fin:∀live T gs Y7 w q k (g₁:Nat->Nat) (ops:Array MemOp) (fh fj:FuncId) (ph pj:String) sl,Ring P X h u live (T++ops) gs w q->w.heap[s.ch]? =some (.chan 0 #[] false k k false)->Y7.size=gs.size->(∀x,x≠h->x≠j->Y7[x]? =gs[x]?) ->
   Y7[h]? =some (Go.Conc.served a₂ undef)->Y7[j]? =some (Go.Conc.served s.me (recvd false v true))->Ends P Post (crowd Y7 (w.setChan s.ch 0 #[] false (k+1) (k+1) false) sl) (T++(ops++met h j fh ph fj pj s.ch k 0)):=by
  intro live T gs Y7 w q k g₁ ops fh fj ph pj sl C hk A2 zu0 hH hJ;have hMh:X.Mem h h:=.inl ⟨rfl,ii0⟩;have hMj:X.Mem h j:=.inr (by rw[hj];simp);have p2:=PastH.give C.past hMh hMj fh ph fj pj s.ch k 0;have hD:∀x,Deaf ((T++ops)++met h j fh ph fj pj s.ch k 0) x=Deaf (T++ops) x:=fun x=>Deaf_quiet (met_quiet _ _ _ _ _ _ _ _ _ x);have:=Ring.pass C hj hjh ii0 hk A2 zu0 hH hD hsh (Xb0 C (by rw[hD];exact C.past.hears h hMh)) p2;rw[<- Array.append_assoc];exact hF _ _ _ _ _ _ hJ this
 have await:∀(μ:Nat) live T gs w sl q,sumTo gs.size q=μ->gs[h]? =some (parked a₂ #[scase s.ch v z'] .send)->0<q j->Ring P X h u live T gs w q->Ends P Post (crowd gs w sl) T:=by
  intro μ
  induction μ using Nat.strongRecOn with
  |_ μ ih=>
   intro live T gs w sl q hμ hg hqj C;have pb0:j<gs.size:=by
    rcases Nat.lt_or_ge j gs.size with z|z
    ·exact z
    ·have:=(C.above j z).2.1;rw[hj]at this;cases this
   have tq0:Way P (j==0) (X.stay j) s (q j) gs[j]:=by
    have:=C.idle j gs[j] hjh (Array.getElem?_eq_getElem pb0);unfold Idle at this;rw[hj]at this;exact this
   have cr1:gs[j].status= .running:=tq0.status.elim (·.1) fun z=>by omega
   obtain⟨i,gi,d,b9,hi,hgi,S4⟩:=crowd_pick (P:=P) (w:=w) (sl:=sl) (C.awake hg (.inr rfl)) ⟨j,gs[j],Array.getElem?_eq_getElem pb0,cr1⟩;have Cd:=C.at d;obtain⟨k,hk⟩:=(Cd.chans s.ch (Cd.O4 j s hj)).2.2;have hih:i≠h:=by rintro rfl;rw[hg]at hi;obtain rfl:=Option.some.inj hi;cases hgi
   by_cases ej:i=j/\kd0 P (i==0) s gi
   ·obtain⟨rfl,hat⟩:=ej;have hp:partners (gs.setIfInBounds i ph) s.ch true=[(h,0)]:=by
     rw[partners_one (stand_get (Ne.symm hih) hg) fun x y hxh hy=>by
      rcases getElem?_stand gs i x y hy with⟨_,rfl⟩|⟨_,hy'⟩
      ·exact offersAt_ph _ _
      ·exact(C.idle x y hxh hy').noSend _]
     simp[offersAt_parked_send]
    have hrt:=crowd_recv_meets (sl:=b9) hi (hat.2.2.2.2 (w.at d)) hk (Ne.symm hih) hg hp;refine Ends.step (S4.trans hrt) ?_;rw[show(MemOp.ofEvents i gi.frame.fn gi.frame.place #[]:Array MemOp)=#[] from rfl];refine fin live T gs _ (w.at d) q k (fun _=>0) #[] _ _ _ _ b9 (by simpa using Cd) hk (by simp) (fun x hx hxj=>by rw[Array.getElem?_setIfInBounds_ne (fun z=>hxj z.symm),Array.getElem?_setIfInBounds_ne (fun z=>hx z.symm)]) ?_ ?_
    ·rw[Array.getElem?_setIfInBounds_ne hih,Array.getElem?_setIfInBounds_self_of_lt C.size,finishComm_send]
    ·rw[Array.getElem?_setIfInBounds_self_of_lt (by simpa using pb0),finishComm_recv]
   ·obtain⟨Y7,ops,q',w',bh0,hrt,A2,hgh,hqo,hq0,C',D2,_⟩:=Cd.by_step (sl:=b9) hi hih hgi hg (fun w' hS=>again_send_open (by rw[hS.2.2 s.ch (Cd.O4 j s hj)];exact hk))
     (fun s' hs' hat=>by
      rw[offersAt_parked_send,if_neg];intro ec;have hij:=C.inj i j s' s hs' hj ec.symm;subst hij;rw[hj]at hs';obtain rfl:=Option.some.inj hs';exact ej ⟨rfl,hat⟩)
    refine Ends.step (S4.trans hrt) (ih _ (by rw[A2,<- hμ];exact D2) bh0 _ Y7 w' b9 q' rfl hgh ?_ C');by_cases hij:j=i
    ·subst hij;rcases Nat.eq_zero_or_pos (q' j)with h0|h0
     ·exact absurd ⟨rfl,hq0 s hj h0⟩ ej
     ·exact h0
    ·rw[hqo j hij];exact hqj
 refine Fin.bi0 W5 fun live T gs w sl d b9 q hg S4 C=>?_;have pb0:j<gs.size:=by
  rcases Nat.lt_or_ge j gs.size with z|z
  ·exact z
  ·have:=(C.above j z).2.1;rw[hj]at this;cases this
 have tq0:Way P (j==0) (X.stay j) s (q j) gs[j]:=by
  have:=C.idle j gs[j] hjh (Array.getElem?_eq_getElem pb0);unfold Idle at this;rw[hj]at this;exact this
 obtain⟨k,hk⟩:=(C.chans s.ch (C.O4 j s hj)).2.2;have Qc0:∀(x:Nat) (y:Goroutine),x≠j->(gs.setIfInBounds h ph)[x]? =some y->offersAt y s.ch false=[]:=by
  intro x y hxj hy;rcases getElem?_stand gs h x y hy with⟨_,rfl⟩|⟨hx,hy'⟩
  ·exact offersAt_ph _ _
  ·exact(C.idle x y hx hy').Wz0 fun s' hs' V8=>hxj (C.inj x j s' s hs' hj V8)
 rcases tq0.status with⟨hjr,hqj⟩|⟨_,hq0⟩
 ·have hp:partners (gs.setIfInBounds h ph) s.ch false=[]:=partners_nil fun x y hy=>by
   by_cases hxj:x=j
   ·subst hxj;rw[stand_get hjh (Array.getElem?_eq_getElem pb0)]at hy;obtain rfl:=Option.some.inj hy;exact offersAt_of_not_blocked (by rw[hjr];simp) _ _
   ·exact Qc0 x y hxj hy
  have hw:∀cc∈#[scase s.ch v z'],NoWays (w.at d) (gs.setIfInBounds h ph) cc:=by
   intro cc hcc;simp only[List.mem_toArray,List.mem_cons,List.not_mem_nil,or_false]at hcc;subst hcc;exact ways_send_none hk (Nat.le_refl _) hp
  have hrt:=crowd_waits (sl:=b9) hg (hsend (w.at d)) hw;refine Ends.step (S4.trans hrt) ?_;rw[show(MemOp.ofEvents h g.frame.fn g.frame.place #[]:Array MemOp)=#[] from rfl,Array.append_empty];refine await _ live T _ (w.at d) b9 q rfl (Array.getElem?_setIfInBounds_self_of_lt C.size) hqj ?_;exact⟨C.sim,fun x y hx hy=>C.idle x y hx (by rwa [Array.getElem?_setIfInBounds_ne (fun e=>hx e.symm)]at hy),C.free,by simpa using C.size,by simpa using C.num,C.stays,C.chans,C.O4,C.inj,C.w5,C.cn0,C.el0,by simpa using C.J4,C.old,fun x hx=>C.above x (by simpa using hx),by simpa using C.few,C.em0,C.bz0,C.dfn,C.past⟩
 ·have hpk:gs[j]=parked s.me #[rcase s.ch s.z] (.recv false):=by rw[hq0]at tq0;exact tq0.1
  have hgj:gs[j]? =some (parked s.me #[rcase s.ch s.z] (.recv false)):=by rw[<- hpk];exact Array.getElem?_eq_getElem pb0
  have hp:partners (gs.setIfInBounds h ph) s.ch false=[(j,0)]:=by
   rw[partners_one (stand_get hjh hgj) fun x y hxj hy=>Qc0 x y hxj hy,offersAt_parked_recv,if_pos rfl];rfl
  have hrt:=crowd_send_meets (sl:=b9) hg (hsend (w.at d)) hk hjh hgj hp;refine Ends.step (S4.trans hrt) ?_;rw[show(MemOp.ofEvents h g.frame.fn g.frame.place #[]:Array MemOp)=#[] from rfl];refine fin live T gs _ (w.at d) q k (fun _=>0) #[] _ _ _ _ b9 (by simpa using C) hk (by simp) (fun x hx hxj=>by rw[Array.getElem?_setIfInBounds_ne (fun z=>hx z.symm),Array.getElem?_setIfInBounds_ne (fun z=>hxj z.symm)]) ?_ ?_
  ·rw[Array.getElem?_setIfInBounds_self_of_lt (by simpa using C.size),finishComm_send]
  ·rw[Array.getElem?_setIfInBounds_ne (Ne.symm hjh),Array.getElem?_setIfInBounds_self_of_lt pb0,finishComm_recv]
end
end
section
attribute [local irreducible] KK
section
variable {P:Program}{Post:Value->World->Prop}{X:Gh}{u:World}
def Gh.hire (X:Gh) (s:w6):Gh:={X with C2:=upd X.C2 0 (some s),pend:=0,n:=X.n+1}
theorem Fin.spawn {g g' child:Goroutine} {s:w6} {nh:Nat} {G:X6} (W5:g.status= .running) (ii0:X.dn=0) (Dl0:X.pend=1) (hG:X.J4=some G) (hgo:∀w,stepG P true g w= .spawn g' child w #[])
  (J8:X.chs s.ch) (hno:∀i s2,X.C2 i=some s2->s2.ch≠s.ch) (re0:Way P true (X.stay 0) s nh g') (hF:Fin P Post (X.hire s) X.n child u):Fin P Post X 0 g u:=by
 refine Fin.bi0 W5 fun live T gs w sl d b9 q hg S4 C=>?_;have hrt:=runT_crowd_spawn (P:=P) (sl:=b9) (i:=0) hg (hgo (w.at d));have ct1:(((MemOp.ofEvents 0 g.frame.fn g.frame.place #[]:Array MemOp).push {g:=0,fn:=g.frame.fn,pos:=g.frame.place,act:=.go gs.size}).push {g:=gs.size,fn:=child.frame.fn,pos:=g.frame.place,act:=.start})=
   #[{g:=0,fn:=g.frame.fn,pos:=g.frame.place,act:=.go gs.size},{g:=gs.size,fn:=child.frame.fn,pos:=g.frame.place,act:=.start}]:=rfl
 rw[ct1]at hrt;refine Ends.step (S4.trans hrt) ?_;have h0:=C.size;have Ip0:=C.above gs.size (Nat.le_refl _);have hc0:gs.size≠0:=by omega
 have hD:∀x,Deaf (T ++ #[{g:=0,fn:=g.frame.fn,pos:=g.frame.place,act:=.go gs.size},{g:=gs.size,fn:=child.frame.fn,pos:=g.frame.place,act:=.start}]) x=Deaf T x:=fun x=>Deaf_quiet (fun op hop d=>by
  simp only[List.mem_toArray,List.mem_cons,List.not_mem_nil,or_false]at hop;rcases hop with rfl|rfl <;> rfl)
 have p:=PastH.born (c:=gs.size) C.past (.inl ⟨rfl,ii0⟩) Ip0.1 (fun l ⟨p,hp,_⟩=>by rw[Ip0.2.2.2]at hp;cases hp) (.inl rfl) g.frame.fn g.frame.place child.frame.fn;have c7:∀i,i≠0->(X.hire s).C2 i=X.C2 i:=fun i hi=>upd_ne X.C2 _ hi;have rh0:(X.hire s).C2 0=some s:=upd_same X.C2 0 (some s);have ie0:count (upd live gs.size true) (gs.size+1)=count live gs.size+1:=by
  show sumTo gs.size _+_=_;rw[show sumTo gs.size (fun i=>if upd live gs.size true i=true then 1 else 0)=count live gs.size from Fw0 true (Nat.le_refl _)];show _+(if upd live gs.size true gs.size=true then 1 else 0)=_;rw[upd_same];rfl
 have A2:((gs.setIfInBounds 0 g').push child).size=gs.size+1:=by simp
 refine hF (upd live gs.size true) _ _ _ b9 (upd q 0 nh) (by rw[<- C.num,Array.getElem?_push,if_pos (by simp)]) ?_;rw[<- C.num];refine⟨C.sim,fun x y hx hy=>?_,by rw[c7 _ hc0];exact Ip0.2.1,by rw[A2];omega,by rw[A2,C.num];rfl,C.stays,C.chans,fun i s2 e=>?_,fun i i' s1 s2 e1 e2 hc=>?_,C.w5,C.cn0,C.el0,fun G' e=>⟨(C.J4 G' e).1,?_⟩,C.old,fun x hx=>?_,?_,fun i hi=>?_,fun i hi hor=>?_,((hD _).trans Ip0.1).trans ii0.symm,?_⟩
 ·have hxl:x<gs.size:=by
   have:=(Array.getElem?_eq_some_iff.1 hy).1;rw[A2]at this;omega
  rw[Array.getElem?_push,if_neg (by simp;omega)]at hy;unfold Idle;by_cases e:x=0
  ·subst e;rw[Array.getElem?_setIfInBounds_self_of_lt h0]at hy;obtain rfl:=Option.some.inj hy;rw[rh0,upd_same];exact re0
  ·rw[Array.getElem?_setIfInBounds_ne (fun z=>e z.symm)]at hy;rw[c7 x e,hD,upd_ne q nh e,upd_ne live true (show x≠gs.size by omega)];have:=C.idle x y e hy;unfold Idle at this;exact this
 ·by_cases e0:i=0
  ·subst e0;rw[rh0]at e;obtain rfl:=Option.some.inj e;exact J8
  ·rw[c7 i e0]at e;exact C.O4 i s2 e
 ·by_cases a:i=0 <;> by_cases b:i'=0
  ·rw[a,b]
  ·subst a;rw[rh0]at e1;rw[c7 i' b]at e2;obtain rfl:=Option.some.inj e1;exact absurd hc.symm (hno i' s2 e2)
  ·subst b;rw[rh0]at e2;rw[c7 i a]at e1;obtain rfl:=Option.some.inj e2;exact absurd hc (hno i s1 e1)
  ·rw[c7 i a]at e1;rw[c7 i' b]at e2;exact C.inj i i' s1 s2 e1 e2 hc
 ·have:=(C.J4 G' e).2;rw[Dl0]at this;rw[A2,ie0];exact this
 ·rw[A2]at hx;have:=C.above x (by omega);exact⟨by rw[hD];exact this.1,by rw[c7 x (by omega)];exact this.2.1,by rw[upd_ne live true (by omega)];exact this.2.2.1,this.2.2.2⟩
 ·rw[A2,ie0];have:=C.few;rw[Dl0]at this;exact this
 ·by_cases e:i=gs.size
  ·subst e;exact⟨hc0,by show X.J4≠none;rw[hG];simp⟩
  ·rw[upd_ne live true e]at hi;exact C.em0 i hi
 ·by_cases e:i=gs.size
  ·subst e;exact upd_same _ _ _
  ·rw[upd_ne live true e];rw[c7 i hi]at hor;exact C.bz0 i hi (.inl (hor.resolve_right e))
 ·refine((p.leave (Us':=Us (upd live gs.size true)) fun x hx=>?_).fewer (Mem':=(X.hire s).Mem gs.size) fun x hx=>?_).loosen fun x hx=>?_
  ·rcases hx with hx|hx
   ·exact .inl (.inl hx)
   ·by_cases e:x=gs.size
    ·exact .inr e
    ·rw[upd_ne live true e]at hx;exact .inl (.inr hx)
  ·rcases hx with⟨e,_⟩|hx
   ·exact .inr e
   ·by_cases e:x=0
    ·exact .inl (.inl ⟨e,ii0⟩)
    ·rw[c7 x e]at hx;exact .inl (.inr hx)
  ·refine⟨fun e=>?_,?_⟩
   ·subst e;exact hx.2 Ip0.2.1
   ·rw[c7 x hx.1];exact hx.2
end
end
section
attribute [local irreducible] KK
structure Base (X:Gh) (u:World) (use:Nat->Bool) (T:Trace) (n:Nat) (w:World):Prop where
 sim:∃ρ,B6 ρ (P2 u w.tape w.drawn) w/\∀b,¬X.low b->ρ b=X.L6 b
 free:X.C2 0=none
 size:0<n
 num:n=X.n
 stays:∀i p,p∈X.stay i->u.cell? p.1=some p.2/\u.frozen? p.1=true
 chans:∀c,X.chs c->cm0 u c/\X.w5 c=none/\∃k,w.heap[c]? =some (.chan 0 #[] false k k false)
 O4:∀i s,X.C2 i=some s->X.chs s.ch
 inj:∀i j s s',X.C2 i=some s->X.C2 j=some s'->s.ch=s'.ch->i=j
 w5:∀b o,X.w5 b=some o->cm0 u b/\K4 o=false/\∃p y,w.heap[b]? =some y/\ek0 p o y
 cn0:∀G,X.J4=some G->X.low G.blk
 el0:∀c,X.chs c->X.low c
 cut:∀G,X.J4=some G->Cut u G
 old:∀G∈X.old,Cut u G
 above:∀j,n <=j->Deaf T j=0/\X.C2 j=none/\use j=false/\X.stay j=[]
 em0:∀i,use i=true->i≠0/\X.J4≠none
 bz0:∀i,X.C2 i≠none->i≠0->use i=true
 dfn:Deaf T 0=X.dn
 past:PastH X.Sh (Us use) X.St (X.Mem 0) (X.Lo 0) 0 T
section
variable {P:Program}{X:Gh}{u:World}{live use use':Nat->Bool}{T:Trace}{gs:Array Goroutine}{w w':World}{q:Nat->Nat}{n:Nat}
theorem Ring.base (C:Ring P X 0 u live T gs w q):Base X u live T gs.size w :=
 ⟨C.sim,C.free,C.size,C.num,C.stays,C.chans,C.O4,C.inj,C.w5,C.cn0,C.el0,fun G e=>(C.J4 G e).1,C.old,C.above,C.em0,fun i h hi=>C.bz0 i hi (.inl h),C.dfn,C.past⟩
theorem Base.ring (B:Base X u live T gs.size w) (hi:∀i g,i≠0->gs[i]? =some g->Idle P X live T i (q i) g) (hg:∀G,X.J4=some G->GAt G (((count live gs.size+X.pend)*KK:Nat):Int) 0 w) (hf:count live gs.size+X.pend <=X.cap/\X.cap <=65536):Ring P X 0 u live T gs w q :=
 ⟨B.sim,hi,B.free,B.size,B.num,B.stays,B.chans,B.O4,B.inj,B.w5,B.cn0,B.el0,fun G e=>⟨B.cut G e,hg G e⟩,B.old,B.above,hf,B.em0,fun i hi h=>h.elim (fun z=>B.bz0 i z hi) fun z=>absurd z hi,B.dfn,B.past⟩
theorem Base.Uu0 (B:Base X u use T n w) {i:Nat} {l:Loc} (hl:X.St i l):l.isMemory=true/\¬X.Sh l:=by
 obtain⟨p,hp,rfl⟩:=hl;refine⟨rfl,?_⟩;rintro⟨a',G,hG,ha,hb,ho⟩;simp only[Loc.cell.injEq]at ha;subst ha;have hc:Cut u G:=hG.elim (B.cut G) (B.old G);obtain⟨_,c,T1,f,hc,hs⟩:=hc;obtain⟨c',T',f',V8,_,hv'⟩:=L5 (B.stays i p hp).1;rw[hb,hc]at V8;cases V8;have:=(Array.getElem?_eq_some_iff.1 hv').1;omega
def GEv (G:X6) (x:Nat) (e:Event):Prop:=∀b,(MemAct.ofEvent e).touch? =some b->(∃a,b.loc= .cell a/\a.block=G.blk/\G.off <=a.off)/\b.kind≠.plain/\(x≠0->b.kind= .atomic)
theorem mq0 {G:X6} {x:Nat} {e:Event} (h:Fv0 e=true):GEv G x e:=fun b hb=>by rw[dh0 h]at hb;cases hb
theorem Base.step (B:Base X u use T n w) {x:Nat} {fn:FuncId} {pos:String} {es:Array Event} {G:X6} (hG:X.J4=some G) (hx:x<n) (hsx:X.C2 x=none) (hes:∀e∈es,GEv G x e) (hu:(∀e∈es,(MemAct.ofEvent e).touch? =none)\/(x=0\/use x=true/\∀k,k<es.size->deafBehind (Deaf T x) (es.extract 0 k)≠0))
  (hus:∀i,use' i=true->use i=true) (hls:∀i,X.C2 i≠none->i≠0->use' i=true) {pend cap dn:Nat} (hdn:dn=if x=0 then deafBehind X.dn es else X.dn) (ke0:∃ρ,B6 ρ (P2 u w'.tape w'.drawn) w'/\∀b,¬X.low b->ρ b=X.L6 b) (Z8:∀b,b≠G.blk->w'.heap[b]? =w.heap[b]?) :
  Base {X with pend:=pend,cap:=cap,dn:=dn} u use' (T++MemOp.ofEvents x fn pos es) n w':=by
 have p6:∀b,cm0 u b->w'.heap[b]? =w.heap[b]?:=fun b hb=>Z8 b ((B.cut G hG).md0 hb);have fw0:∀op∈MemOp.ofEvents x fn pos es,op.g=x:=O3;have hd0:Deaf (T++MemOp.ofEvents x fn pos es) 0=dn:=by
  by_cases e:x=0
  ·subst e;rw[Deaf_own,B.dfn,hdn,if_pos rfl]
  ·rw[Deaf_other T e _ fw0,B.dfn,hdn,if_neg e]
 refine⟨ke0,B.free,B.size,B.num,B.stays,fun c hc=>⟨(B.chans c hc).1,(B.chans c hc).2.1,?_⟩,B.O4,B.inj,fun b o e=>?_,B.cn0,B.el0,B.cut,B.old,fun j hj=>?_,fun i hi=>B.em0 i (hus i hi),hls,hd0,?_⟩
 ·obtain⟨k,hk⟩:=(B.chans c hc).2.2;exact⟨k,(p6 c (B.chans c hc).1).trans hk⟩
 ·obtain⟨h1,h2,p,y,h3,h4⟩:=B.w5 b o e;exact⟨h1,h2,p,y,(p6 b h1).trans h3,h4⟩
 ·have:=B.above j hj;refine⟨by rw[Deaf_other T (g':=x) (by omega) _ fw0];exact this.1,this.2.1,?_,this.2.2.2⟩;cases e:use' j with
  |false=>rfl
  |true=>have:=hus j e;rw[this]at *;simp_all
 ·have H0:Past X.Sh (Us use) X.St (fun g=>X.C2 g≠none) (X.Lo 0) (Knows T 0) T:=B.past.fewer fun g hg=>.inr hg;have hh:∀g',X.C2 g'≠none->Deaf (T++MemOp.ofEvents x fn pos es) g'=0:=fun g' Y8=>by
   rw[Deaf_other T (show x≠g' from fun e=>Y8 (by rw[<- e];exact hsx)) _ fw0];exact H0.hears g' Y8
  have p1:Past X.Sh (Us use) X.St (fun g=>X.C2 g≠none) (X.Lo 0) (Knows (T++MemOp.ofEvents x fn pos es) 0) (T++MemOp.ofEvents x fn pos es):=by
   rcases hu with hu|hu
   ·exact H0.appMute (g:=x) (fun i=>Knows.app _) (fun op hop=>by obtain⟨e,he,rfl⟩:=Go.Conc.mem_ofEvents hop;exact hu e he) hh
   ·refine H0.Us0 (g:=x) (hu.elim (fun e=>.inl e) fun e=>.inr e.1) (fun g l hl=>(B.Uu0 hl).2) (fun i=>Knows.app _) fw0 (fun op hop b hb=>?_) (fun C3 i hi1 hi2=>?_) hh
    ·obtain⟨e,he,rfl⟩:=Go.Conc.mem_ofEvents hop;obtain⟨⟨a,h1,h2,h3⟩,h4⟩:=hes e he b hb;exact⟨⟨a,G,.inl hG,h1,h2,h3⟩,h4⟩
    ·obtain⟨m,rfl⟩:∃m,i=T.size+m:=⟨i-T.size,by omega⟩
     have hm:m<es.size:=by
      have A2:(MemOp.ofEvents x fn pos es).size=es.size:=by rw[ofEvents_eq];simp
      omega
     rw[Go.Conc.deaf_inside T x fn pos es m (Nat.le_of_lt hm)];exact(hu.resolve_left C3).2 m hm
  refine PastH.still (p1.leave (Us':=Us use') fun g hg=>hg.imp id (hus g)) (fun z=>z.1 rfl) (fun _ _ _=>Iff.rfl) (fun l hl=>B.Uu0 hl) (fun g hg=>?_) (fun hg=>?_)
  ·rcases hg with⟨e,_⟩|hg
   ·exact .inr e
   ·exact .inl hg
  ·rcases hg with⟨_,e⟩|hg
   ·exact hd0.trans e
   ·exact absurd B.free hg
end
end
section
attribute [local irreducible] KK
def ps0 (P:Program) (G:X6) (g g':Goroutine) (es:Array Event):Prop :=
 g.status= .running/\g'.status= .running/\(∀e∈es,GEv G 0 e)/\∀w st sm,GAt G st sm w->stepG P true g w= .go g' w es
def Qd0 (P:Program) (G:X6) (K:Goroutine->Prop):Nat->Nat->Goroutine->Prop
 |0,d,g=>d=0/\K g
 |n+1,d,g=>(d=0/\K g)\/∃g' es,ps0 P G g g' es/\Qd0 P G K n (deafBehind d es) g'
def Iq0 (P:Program) (G:X6) (K:Goroutine->Prop):Nat->Nat->Goroutine->Prop
 |0,_,_=>False
 |n+1,d,g=>(∃g' es,ps0 P G g g' es/\Iq0 P G K n (deafBehind d es) g')\/(g.status= .running/\∀v:Nat,v<2147483647->∃g',g'.status= .running /\
   (∀w,GAt G ((v*KK:Nat):Int) 0 w->stepG P true g w= .go g' (w.setCell (stA G) (.int .u64 (((v+1)*KK:Nat):Int))) #[rdA (stA G),wrA (stA G)])/\Qd0 P G K n d g')
section
variable {P:Program}{Post:Value->World->Prop}{X:Gh}{u:World}{live:Nat->Bool}{T:Trace}{gs:Array Goroutine}{w w':World}{q:Nat->Nat}
theorem Ring.main (C:Ring P X 0 u live T gs w q) {G:X6} (hG:X.J4=some G) {g g':Goroutine} {es:Array Event} (hes:∀e∈es,GEv G 0 e) {pend cap:Nat} (ke0:∃ρ,B6 ρ (P2 u w'.tape w'.drawn) w'/\∀b,¬X.low b->ρ b=X.L6 b) (Z8:∀b,b≠G.blk->w'.heap[b]? =w.heap[b]?)
  (hat:GAt G (((count live gs.size+pend)*KK:Nat):Int) 0 w') (hf:count live gs.size+pend <=cap/\cap <=65536) :
  Ring P {X with pend:=pend,cap:=cap,dn:=deafBehind X.dn es} 0 u live (T++MemOp.ofEvents 0 g.frame.fn g.frame.place es) ((gs.map (woken P g g' w')).setIfInBounds 0 g') w' q/\((gs.map (woken P g g' w')).setIfInBounds 0 g')[0]? =some g':=by
 have A2:((gs.map (woken P g g' w')).setIfInBounds 0 g').size=gs.size:=by simp
 refine⟨?_,Array.getElem?_setIfInBounds_self_of_lt (by simpa using C.size)⟩;have B:=C.base.step (fn:=g.frame.fn) (pos:=g.frame.place) (use':=live) (pend:=pend) (cap:=cap) hG C.size C.free hes (.inr (.inl rfl)) (fun _ h=>h) (fun i h hi=>C.bz0 i hi (.inl h)) (dn:=deafBehind X.dn es) (by rw[if_pos rfl]) ke0 Z8;rw[<- A2]at B;refine B.ring (fun i y hi hy=>?_) (fun G' e=>?_) (by rw[A2];exact hf)
 ·rw[Array.getElem?_setIfInBounds_ne (fun e=>hi e.symm),Array.getElem?_map]at hy;obtain⟨y₀,hy₀,rfl⟩:=Option.map_eq_some_iff.1 hy;have w5:=C.idle i y₀ hi hy₀;rw[woken_of_again (w5.again (w:=w') fun s e=>?_)]
  ·exact w5.other (fun z=>hi z.symm) O3
  ·obtain⟨k,hk⟩:=(C.chans _ (C.O4 i s e)).2.2;exact⟨k,(Z8 _ ((C.J4 G hG).1.md0 (C.chans _ (C.O4 i s e)).1)).trans hk⟩
 ·have e':X.J4=some G':=e;rw[hG]at e';obtain rfl:=Option.some.inj e';rw[A2];exact hat
theorem Fin.cu1 {G:X6} {g g':Goroutine} {es:Array Event} (hG:X.J4=some G) (hh:ps0 P G g g' es) (hF:Fin P Post {X with dn:=deafBehind X.dn es} 0 g' u):Fin P Post X 0 g u:=by
 obtain⟨hr,_,hes,S4⟩:=hh;refine Fin.bi0 hr fun live T gs w sl d b9 q hg M6 C=>?_;have hat:=(C.J4 G hG).2;obtain⟨C',k5⟩:=C.main hG (g:=g) (g':=g') hes (w':=w.at d) C.sim (fun _ _=>rfl) hat C.few;exact Ends.step (M6.trans (runT_crowd_go (sl:=b9) (i:=0) hg (S4 _ _ _ hat))) (hF _ _ _ _ _ _ k5 C')
theorem Fin.cv1 {G:X6} (hG:X.J4=some G) {K:Goroutine->Prop} (hK:∀g,K g->Fin P Post {X with dn:=0} 0 g u):∀(n d:Nat) (g:Goroutine),Qd0 P G K n d g->Fin P Post {X with dn:=d} 0 g u
 |0,d,g,h=>by obtain⟨rfl,h⟩:=h;exact hK g h
 |n+1,d,g,h=>by
  rcases h with⟨rfl,h⟩|⟨g',es,hh,h⟩
  ·exact hK g h
  ·exact Fin.cu1 (X:={X with dn:=d}) hG hh (Fin.cv1 hG hK n _ g' h)
theorem es0 {G:X6} {x:Nat}:∀e∈#[rdA (stA G),wrA (stA G)],GEv G x e:=by
 intro e he b hb;simp only[List.mem_toArray,List.mem_cons,List.not_mem_nil,or_false]at he;rcases he with rfl|rfl <;> simp[rdA,wrA,MemAct.ofEvent,MemAct.touch?]at hb <;> subst hb <;> exact⟨⟨stA G,rfl,rfl,Nat.le_refl _⟩,by simp,fun _=>rfl⟩
theorem pt0 {G:X6} (d:Nat):deafBehind d #[rdA (stA G),wrA (stA G)]=d:=rfl
theorem Fin.Qe0 {G:X6} (hG:X.J4=some G) (hp:X.pend=0) (hc:X.cap<65536) {K:Goroutine->Prop} (hK:∀g,K g->Fin P Post {X with pend:=1,cap:=X.cap+1,dn:=0} 0 g u):∀(n d:Nat) (g:Goroutine),Iq0 P G K n d g->Fin P Post {X with dn:=d} 0 g u
 |0,d,g,h=>h.elim
 |n+1,d,g,h=>by
  unfold Iq0 at h;rcases h with⟨g',es,hh,h⟩|⟨hr,Fx0⟩
  ·exact Fin.cu1 (X:={X with dn:=d}) hG hh (Fin.Qe0 hG hp hc hK n _ g' h)
  ·refine Fin.bi0 hr fun live T gs w sl dd b9 q hg M6 C=>?_;have hat:=(C.J4 G hG).2;have pa0:=C.few;have hp':({X with dn:=d}:Gh).pend=0:=hp;rw[hp',Nat.add_zero]at hat pa0;have ns1:count live gs.size <=X.cap:=pa0.1;obtain⟨g',hr',S4,hB⟩:=Fx0 (count live gs.size) (by omega);obtain⟨ρ,hs,hlw⟩:=C.sim;have zr0:=(C.J4 G hG).1;obtain⟨ρ',h1,h2⟩:=B6.setSt hs zr0 hat (((count live gs.size+1)*KK:Nat):Int);obtain⟨C',k5⟩:=C.main hG (g:=g) (g':=g') (pend:=1) (cap:=X.cap+1) es0 (w':=(w.at dd).setCell (stA G) (.int .u64 (((count live gs.size+1)*KK:Nat):Int)))
    ⟨ρ',h1,fun b hb=>(h2 b fun e=>hb (e▸C.cn0 G hG)).trans (hlw b hb)⟩ (fun b hb=>S3 _ _ hb) (hat.setSt _) ⟨by omega,by omega⟩
   refine Ends.step (M6.trans (runT_crowd_go (sl:=b9) (i:=0) hg (S4 _ hat))) ?_;rw[pt0]at C';exact Fin.cv1 (X:={X with pend:=1,cap:=X.cap+1}) hG hK n d g' hB _ _ _ _ _ _ k5 C'
theorem Fin.ends {g:Goroutine} {v:Value} (hr:g.status= .running) (hno:∀i,X.C2 i=none) (rf0:X.cap=0) (S4:∀w,stepG P true g w= .ended (.done v) w #[])
  (cw1:∀ρ w,B6 ρ (P2 u w.tape w.drawn) w->(∀b,¬X.low b->ρ b=X.L6 b)->Post v w):Fin P Post X 0 g u:=by
 refine Fin.bi0 hr fun live T gs w sl d b9 q hg M6 C=>?_;have hz:count live gs.size+X.pend=0:=by have:=C.few;omega
 have pr0:∀i,live i=false:=fun i=>by
  rcases Nat.lt_or_ge i gs.size with hi|hi
  ·cases e:live i with
   |false=>rfl
   |true=>have:=count_le hi e;omega
  ·exact(C.above i hi).2.2.1
 have hq:∀i g,i≠0->gs[i]? =some g->QuitsD P (q i) (Deaf T i) g:=fun i g hi hg=>by
  have:=C.idle i g hi hg;unfold Idle at this;rw[hno i]at this;simp only[pr0,Bool.false_eq_true,if_false]at this;exact this.2
 have hrt:=runT_many_ended (P:=P) (sl:=b9) (i:=0) hg (S4 (w.at d));rw[show(MemOp.ofEvents 0 g.frame.fn g.frame.place #[]:Array MemOp)=#[] from rfl]at hrt;have mo0:=M6.trans hrt;obtain⟨ρ,hs,hlw⟩:=C.sim;refine⟨0,crowd gs w sl,_,_,T,by simp only[runNT,mo0];simp,rfl,by unfold step;rw[mo0],v,rfl,cw1 ρ (w.at d) hs hlw,C.past.clean,C.past.over (.inl rfl) (fun x hx=>hx.2 (hno x)),⟨fun x hx=>?_,rfl⟩,fun j x hx hj=>?_⟩
 ·obtain⟨j,hj⟩:=List.mem_iff_getElem?.1 hx;rw[List.getElem?_drop]at hj;exact⟨_,(hq (1+j) x (by omega) (by simpa [crowd]using hj)).leaves⟩
 ·exact⟨q j,(hq j x hj hx).hears _⟩
end
end
section
attribute [local irreducible] KK
section
variable (P:Program)(G:X6)(K:Goroutine->Prop)
def WE:Nat->Nat->Goroutine->Prop
 |0,d,g=>d=0/\K g
 |n+1,d,g=>(d=0/\K g)\/∃g' es,g.status= .running/\(∀e∈es,GEv G 0 e)/\(∀w,GAt G 0 0 w->stepG P true g w= .go g' w es)/\WE n (deafBehind d es) g'
def Uv0 (n d:Nat) (g:Goroutine):Prop :=
 g.status= .running/\g.offers=none/\(∀w st,GAt G st 0 w->stepG P true g w= .go {g with status:=.blocked} w #[])/\∃g',(∀w,GAt G 0 1 w->stepG P true g w= .go g' (w.setCell (smA G) (.int .u32 0)) (semEvents (smA G)))/\WE P G K n d g'
def WS:Nat->Nat->Goroutine->Prop
 |0,_,_=>False
 |n+1,d,g=>(∃g' es,ps0 P G g g' es/\WS n (deafBehind d es) g')\/(0<d/\Uv0 P G K n d g)
def WH:Nat->Option Nat->Nat->Nat->Goroutine->Prop
 |0,_,_,_,_=>False
 |n+1,o,V,d,g=>(∃g' es,ps0 P G g g' es/\WH n o V (deafBehind d es) g')\/(g.status= .running/\match o with
  |none=>∀v:Nat,v <=V->∃g',(∀w,GAt G ((v*KK:Nat):Int) 0 w->stepG P true g w= .go g' w #[rdA (stA G)])/\(v=0->WE P G K n d g')/\(v≠0->WH n (some v) V d g')
  |some vs=>(∃g',(∀w,GAt G ((vs*KK:Nat):Int) 0 w->stepG P true g w= .go g' (w.setCell (stA G) (.int .u64 ((vs*KK+1:Nat):Int))) #[rdA (stA G),wrA (stA G)])/\WS P G K n d g') /\
    ∀v:Nat,v<vs->∃g',(∀w,GAt G ((v*KK:Nat):Int) 0 w->stepG P true g w= .go g' w #[rdA (stA G)])/\WH n none v d g')
end
inductive Md where
 |free
 |wait
 |last (i s:Nat)
 |done
def Fy0 (m:Md) (c:Nat):Int×Int:=match m with
 | .free=>(((c*KK:Nat):Int),0)
 | .wait=>(((c*KK+1:Nat):Int),0)
 | .last _ 0=>(0,0)
 | .last _ (_+1)=>(1,0)
 | .done=>(0,1)
def g9 (lv:Nat->Bool) (m:Md) (i:Nat):Bool:=lv i ||(match m with| .last j _=>i==j|_=>false)
def u7 (P:Program) (G:X6) (lv:Nat->Bool) (m:Md) (T:Trace) (i n:Nat) (g:Goroutine):Prop :=
 if lv i then Lt P G n (Deaf T i) g else match m with
  | .last j s=>if i=j then Lst P G n s (Deaf T i) g else QuitsD P n (Deaf T i) g
  |_=>QuitsD P n (Deaf T i) g
def posOf (m:Md) (lv:Nat->Bool) (n:Nat):Prop:=match m with
 | .free=>True
 | .wait=>0<count lv n
 | .last i s=>count lv n=0/\i≠0/\i<n/\lv i=false/\s <=2
 | .done=>count lv n=0
structure Wr (P:Program) (X:Gh) (G:X6) (u:World) (lv:Nat->Bool) (m:Md) (d:Nat) (T:Trace) (gs:Array Goroutine) (w:World) (q:Nat->Nat):Prop where
 base:Base {X with pend:=0,cap:=0,dn:=d} u (g9 lv m) T gs.size w
 J4:X.J4=some G
 empty:∀i,X.C2 i=none
 idle:∀i g,i≠0->gs[i]? =some g->u7 P G lv m T i (q i) g
 gat:GAt G (Fy0 m (count lv gs.size)).1 (Fy0 m (count lv gs.size)).2 w
 pos:posOf m lv gs.size
 few:count lv gs.size <=65536
theorem u7.status {P:Program} {G:X6} {lv:Nat->Bool} {m:Md} {T:Trace} {i n:Nat} {g:Goroutine} (h:u7 P G lv m T i n g):g.status= .running\/g.status= .finished:=by
 unfold u7 at h;split at h
 ·exact .inl h.running
 ·split at h
  ·split at h
   ·exact .inl h.running
   ·exact h.status
  ·exact h.status
theorem u7.other {P:Program} {G:X6} {lv lv':Nat->Bool} {m m':Md} {T:Trace} {i n x:Nat} {g:Goroutine} (h:u7 P G lv m T i n g) (hx:x≠i) {ops:Trace} (fw0:∀op∈ops,op.g=x) (hl:lv' i=lv i) (hm:m'=m\/((∀s,m≠.last i s)/\∀s,m'≠.last i s)):u7 P G lv' m' (T++ops) i n g:=by
 unfold u7 at h⊢;rw[Deaf_other T hx ops fw0,hl];rcases hm with rfl|⟨h1,h2⟩
 ·exact h
 ·cases hlv:lv i with
  |true=>rw[hlv]at h;exact h
  |false=>
   rw[hlv]at h;simp only[Bool.false_eq_true,if_false]at h⊢;have h3:QuitsD P n (Deaf T i) g:=by
    cases m with
    |last j s=>simp only at h;rw[if_neg (fun e=>h1 s (by rw[e]))]at h;exact h
    |_=>exact h
   cases m' with
   |last j s=>simp only;rw[if_neg (fun e=>h2 s (by rw[e]))];exact h3
   |_=>exact h3
section
variable {P:Program}{X:Gh}{G:X6}{u:World}{lv:Nat->Bool}{m:Md}{d:Nat}{T:Trace}{gs:Array Goroutine}{w:World}{q:Nat->Nat}
theorem Wr.move (C:Wr P X G u lv m d T gs w q) {i n:Nat} {g g':Goroutine} {es:Array Event} {w':World} {lv':Nat->Bool} {m':Md} {sl:Option (Nat×Nat)} (hi:gs[i]? =some g) (C3:i≠0) (S4:stepG P false g w= .go g' w' es) (hes:∀e∈es,GEv G i e)
  (hu:(∀e∈es,(MemAct.ofEvent e).touch? =none)\/(g9 lv m i=true/\∀k,k<es.size->deafBehind (Deaf T i) (es.extract 0 k)≠0)) (hus:∀j,g9 lv' m' j=true->g9 lv m j=true) (ke0:∃ρ,B6 ρ (P2 u w'.tape w'.drawn) w'/\∀b,¬X.low b->ρ b=X.L6 b) (Z8:∀b,b≠G.blk->w'.heap[b]? =w.heap[b]?)
  (hq:q i=n+1) (Im0:u7 P G lv' m' (T++MemOp.ofEvents i g.frame.fn g.frame.place es) i n g') (hl:∀j,j≠i->lv' j=lv j) (hm:m'=m\/((∀j,j≠i->∀s,m≠.last j s)/\∀j,j≠i->∀s,m'≠.last j s)) (to0:GAt G (Fy0 m' (count lv' gs.size)).1 (Fy0 m' (count lv' gs.size)).2 w')
  (tn0:posOf m' lv' gs.size) (ie0:count lv' gs.size <=count lv gs.size) :
  ∃Y7 ops q',runT P (crowd gs w sl) i=(.next (crowd Y7 w' sl),ops)/\Y7.size=gs.size/\(∀g0,gs[0]? =some g0->Y7[0]? =some (woken P g g' w' g0))/\Wr P X G u lv' m' d (T++ops) Y7 w' q'/\sumTo Y7.size q'<sumTo gs.size q:=by
 have D2:i<gs.size:=(Array.getElem?_eq_some_iff.1 hi).1;have F9:(i==0)=false:=by simpa using C3
 have A2:((gs.map (woken P g g' w')).setIfInBounds i g').size=gs.size:=by simp
 refine⟨_,_,upd q i n,runT_crowd_go (sl:=sl) hi (by rw[F9];exact S4),A2,fun g0 h0=>?_,⟨?_,C.J4,C.empty,fun x y hx hy=>?_,by rw[A2];exact to0,by rw[A2];exact tn0,by rw[A2];exact Nat.le_trans ie0 C.few⟩,?_⟩
 ·rw[Array.getElem?_setIfInBounds_ne C3,Array.getElem?_map,h0];rfl
 ·rw[A2];exact C.base.step (fn:=g.frame.fn) (pos:=g.frame.place) (G:=G) C.J4 D2 (C.empty i) hes (hu.imp id .inr) hus (fun j hj=>absurd (C.empty j) hj) (by rw[if_neg C3]) ke0 Z8
 ·by_cases e:x=i
  ·subst e;rw[Array.getElem?_setIfInBounds_self_of_lt (by simpa using D2)]at hy;obtain rfl:=Option.some.inj hy;rw[upd_same];exact Im0
  ·rw[Array.getElem?_setIfInBounds_ne (fun z=>e z.symm),Array.getElem?_map]at hy;obtain⟨y₀,hy₀,rfl⟩:=Option.map_eq_some_iff.1 hy;have h1:=C.idle x y₀ hx hy₀;rw[woken_of_again (again_of_running h1.status w'),upd_ne q n e];exact h1.other (fun z=>e z.symm) O3 (hl x e) (hm.imp id fun z=>⟨z.1 x e,z.2 x e⟩)
 ·rw[A2];have h2:sumTo gs.size (upd q i n)+(n+1)=sumTo gs.size q+n:=by
   have:=sumTo_upd q n id D2;simpa [hq]using this
  omega
end
end
section
attribute [local irreducible] KK
theorem Dm0 {G:X6} {x:Nat}:∀e∈semEvents (smA G),GEv G x e:=by
 intro e he b hb;simp only[semEvents,List.mem_toArray,List.mem_cons,List.not_mem_nil,or_false]at he;rcases he with rfl|rfl|rfl|rfl <;> simp[MemAct.ofEvent,MemAct.touch?]at hb <;> subst hb <;> exact⟨⟨smA G,rfl,rfl,Nat.le_succ _⟩,by simp,fun _=>rfl⟩
theorem tr0 {G:X6} (d:Nat):deafBehind d (semEvents (smA G))=d:=by
 simp[deafBehind,semEvents]
theorem ts0 {G:X6} {d:Nat} (hd:0<d):∀k,k<(semEvents (smA G)).size->deafBehind d ((semEvents (smA G)).extract 0 k)≠0:=by
 intro k hk;have hk:k<4:=hk;rcases k with _|_|_|_|k <;> first|omega|(simp[semEvents,deafBehind];try omega)
theorem gq0 {d:Nat} {es:Array Event} (h:∀e∈es,e.loc≠.mark .disable/\e.loc≠.mark .enable) (k:Nat):deafBehind d (es.extract 0 k)=d :=
 deafBehind_still (fun e he=>h e (by
  obtain⟨j,hj,rfl⟩:=Array.mem_iff_getElem.1 he;simp only[Array.getElem_extract];exact Array.getElem_mem _)) d
theorem zy0 {G:X6} {x:Nat}:∀e∈#[rdA (stA G)],GEv G x e:=by
 intro e he b hb;simp only[List.mem_toArray,List.mem_cons,List.not_mem_nil,or_false]at he;subst he;simp[rdA,MemAct.ofEvent,MemAct.touch?]at hb;subst hb;exact⟨⟨stA G,rfl,rfl,Nat.le_refl _⟩,by simp,fun _=>rfl⟩
theorem Xe0 {G:X6} {x:Nat}:∀e∈#[wrA (stA G)],GEv G x e:=by
 intro e he b hb;simp only[List.mem_toArray,List.mem_cons,List.not_mem_nil,or_false]at he;subst he;simp[wrA,MemAct.ofEvent,MemAct.touch?]at hb;subst hb;exact⟨⟨stA G,rfl,rfl,Nat.le_refl _⟩,by simp,fun _=>rfl⟩
theorem Dn0 {a:Addr}:∀e∈#[rdA a,wrA a],e.loc≠.mark .disable/\e.loc≠.mark .enable:=by
 intro e he;simp only[List.mem_toArray,List.mem_cons,List.not_mem_nil,or_false]at he;rcases he with rfl|rfl <;> exact⟨by simp[rdA,wrA],by simp[rdA,wrA]⟩
theorem ij0 {a:Addr}:∀e∈#[rdA a],e.loc≠.mark .disable/\e.loc≠.mark .enable:=by
 intro e he;simp only[List.mem_toArray,List.mem_cons,List.not_mem_nil,or_false]at he;subst he;exact⟨by simp[rdA],by simp[rdA]⟩
theorem tt0 {a:Addr}:∀e∈#[wrA a],e.loc≠.mark .disable/\e.loc≠.mark .enable:=by
 intro e he;simp only[List.mem_toArray,List.mem_cons,List.not_mem_nil,or_false]at he;subst he;exact⟨by simp[wrA],by simp[wrA]⟩
section
variable {P:Program}{X:Gh}{G:X6}{u:World}{lv:Nat->Bool}{m:Md}{d:Nat}{T:Trace}{gs:Array Goroutine}{w:World}{q:Nat->Nat}
theorem Ir0 (P:Program) (g g':Goroutine) (w':World) (g0:Goroutine):woken P g g' w' g0=g0\/woken P g g' w' g0=g0.again w':=by
 unfold woken;split
 ·exact .inr rfl
 ·exact .inl rfl
theorem Wr.mr0 (C:Wr P X G u lv m d T gs w q) (v:Int):∃ρ,B6 ρ (P2 u (w.setCell (stA G) (.int .u64 v)).tape (w.setCell (stA G) (.int .u64 v)).drawn) (w.setCell (stA G) (.int .u64 v))/\∀b,¬X.low b->ρ b=X.L6 b:=by
 obtain⟨ρ,hs,hlw⟩:=C.base.sim;obtain⟨ρ',h1,h2⟩:=B6.setSt hs (C.base.cut G C.J4) C.gat v;exact⟨ρ',h1,fun b hb=>(h2 b fun e=>hb (e▸C.base.cn0 G C.J4)).trans (hlw b hb)⟩
theorem Wr.Is0 (C:Wr P X G u lv m d T gs w q) (v:Int):∃ρ,B6 ρ (P2 u (w.setCell (smA G) (.int .u32 v)).tape (w.setCell (smA G) (.int .u32 v)).drawn) (w.setCell (smA G) (.int .u32 v))/\∀b,¬X.low b->ρ b=X.L6 b:=by
 obtain⟨ρ,hs,hlw⟩:=C.base.sim;obtain⟨ρ',h1,h2⟩:=B6.setSm hs (C.base.cut G C.J4) C.gat v;exact⟨ρ',h1,fun b hb=>(h2 b fun e=>hb (e▸C.base.cn0 G C.J4)).trans (hlw b hb)⟩
def It0 (P:Program) (X:Gh) (G:X6) (u:World) (lv:Nat->Bool) (m:Md) (d:Nat) (T:Trace) (gs:Array Goroutine) (w:World) (q:Nat->Nat) (i:Nat) (sl:Option (Nat×Nat)):Prop :=
 ∃Y7 ops q' w' lv' m',runT P (crowd gs w sl) i=(.next (crowd Y7 w' sl),ops)/\Y7.size=gs.size/\(∀g0,gs[0]? =some g0->Y7[0]? =some g0\/Y7[0]? =some (g0.again w'))/\Wr P X G u lv' m' d (T++ops) Y7 w' q'/\sumTo Y7.size q'<sumTo gs.size q /\
   count lv' Y7.size <=count lv gs.size/\(m= .free↔m'= .free)/\(m'= .done->m= .done\/∀g0,gs[0]? =some g0->Y7[0]? =some (g0.again w'))
theorem Wr.by (C:Wr P X G u lv m d T gs w q) {i:Nat} {g:Goroutine} {sl:Option (Nat×Nat)} (hi:gs[i]? =some g) (C3:i≠0) (W5:g.status= .running) :
  It0 P X G u lv m d T gs w q i sl:=by
 have D2:i<gs.size:=(Array.getElem?_eq_some_iff.1 hi).1;have w5:=C.idle i g C3 hi;have pack:∀{g':Goroutine} {w':World} {lv':Nat->Bool} {m':Md} {es:Array Event},(∃Y7 ops q',runT P (crowd gs w sl) i=(.next (crowd Y7 w' sl),ops)/\Y7.size=gs.size/\(∀g0,gs[0]? =some g0->Y7[0]? =some (woken P g g' w' g0))/\Wr P X G u lv' m' d (T++ops) Y7 w' q'/\sumTo Y7.size q'<sumTo gs.size q) ->
   count lv' gs.size <=count lv gs.size->(m= .free↔m'= .free)->(m'= .done->m= .done\/∀g0,woken P g g' w' g0=g0.again w')->It0 P X G u lv m d T gs w q i sl:=by
  rintro g' w' lv' m' es ⟨Y7,ops,q',h1,h2,h3,h4,h5⟩ hc hf hd;refine⟨Y7,ops,q',w',lv',m',h1,h2,fun g0 h0=>?_,h4,h5,by rw[h2];exact hc,hf,fun e=>(hd e).imp id fun z g0 h0=>?_⟩
  ·rw[h3 g0 h0];rcases Ir0 P g g' w' g0 with e|e <;> rw[e]
   ·exact .inl rfl
   ·exact .inr rfl
  ·rw[h3 g0 h0,z g0]
 unfold u7 at w5;cases hl:lv i with
 |true=>
  rw[hl]at w5;simp only[if_true]at w5;have tn0:=count_le D2 hl;cases hq:q i with
  |zero=>rw[hq]at w5;exact w5.elim
  |succ k=>
   rw[hq]at w5;unfold Lt at w5;rcases w5 with⟨g',es,⟨_,hsy,M6⟩,hL⟩|⟨_,hd0,Fx0⟩
   ·refine pack (es:=es) (C.move (sl:=sl) hi C3 (M6 w _ _ C.gat) (fun e he=>mq0 (hsy e he)) (.inl fun e he=>dh0 (hsy e he)) (fun _ h=>h) C.base.sim (fun _ _=>rfl) hq ?_ (fun _ _=>rfl) (.inl rfl) C.gat C.pos (Nat.le_refl _)) (Nat.le_refl _) Iff.rfl fun e=>.inl e;unfold u7;rw[hl,if_pos rfl,Deaf_own];exact hL
   ·have ie0:=pp0 hl D2;generalize hv:count (upd lv i false) gs.size=v at ie0;have hvb:v<2147483647:=by have:=C.few;omega
    have hdf:g9 lv m i=true/\∀j,j < #[rdA (stA G),wrA (stA G)].size->deafBehind (Deaf T i) (#[rdA (stA G),wrA (stA G)].extract 0 j)≠0:=⟨by unfold g9;rw[hl];rfl,fun j _=>by rw[gq0 Dn0];omega⟩
    have hdd:Deaf (T++MemOp.ofEvents i g.frame.fn g.frame.place #[rdA (stA G),wrA (stA G)]) i=Deaf T i:=by rw[Deaf_own];exact deafBehind_still Dn0 _
    have hus:∀(m':Md),(∀j s,m'= .last j s->j=i)->(∀j s,m≠.last j s)->∀j,g9 (upd lv i false) m' j=true->g9 lv m j=true:=fun m' hm1 hm2 j hj=>by
     unfold g9 at hj⊢;by_cases e:j=i
     ·subst e;rw[hl];rfl
     ·rw[upd_ne lv false e]at hj;cases h2:lv j with
      |true=>rfl
      |false=>
       rw[h2]at hj;cases m' with
       |last j' s'=>have:=hm1 j' s' rfl;subst this;simp[e]at hj
       |_=>simp at hj
    cases m with
    |free=>
     obtain⟨g',M6,tp0,_⟩:=Fx0 v 0 (by omega) hvb;have hg:GAt G (((v+1)*KK+0:Nat):Int) 0 w:=by have:=C.gat;rw[ie0]at this;exact this
     have S4:=M6 w hg;rw[Nat.add_zero]at S4;refine pack (es:=#[rdA (stA G),wrA (stA G)]) (C.move (sl:=sl) (m':=.free) (lv':=upd lv i false) hi C3 S4 es0 (.inr hdf) (hus .free (fun _ _ e=>by cases e) (fun _ _ e=>by cases e)) (C.mr0 _) (fun b hb=>S3 _ _ hb) hq ?_ (fun j hj=>upd_ne lv false hj) (.inl rfl) ?_ trivial (by omega)) (by omega) Iff.rfl fun e=>.inl e
     ·unfold u7;rw[upd_same,if_neg (by simp),hdd];exact tp0 (by omega)
     ·have:=C.gat.setSt ((v*KK:Nat):Int);rw[hv];exact this
    |wait=>
     obtain⟨g',M6,tp0,ik0⟩:=Fx0 v 1 (by omega) hvb;have hg:GAt G (((v+1)*KK+1:Nat):Int) 0 w:=by have:=C.gat;rw[ie0]at this;exact this
     have S4:=M6 w hg;by_cases hv0:v=0
     ·subst hv0;refine pack (es:=#[rdA (stA G),wrA (stA G)]) (C.move (sl:=sl) (m':=.last i 2) (lv':=upd lv i false) hi C3 S4 es0 (.inr hdf) (hus (.last i 2) (fun j s e=>by cases e;rfl) (fun _ _ e=>by cases e)) (C.mr0 _) (fun b hb=>S3 _ _ hb) hq ?_ (fun j hj=>upd_ne lv false hj)
       (.inr ⟨fun j _ s e=>(by cases e),fun j hj s e=>(by cases e;exact hj rfl)⟩) ?_ ⟨hv,C3,D2,upd_same _ _ _,Nat.le_refl _⟩ (by omega)) (by omega) ⟨fun e=>(by cases e),fun e=>(by cases e)⟩ fun e=>by cases e
      ·unfold u7;rw[upd_same,if_neg (by simp)];simp only[if_true];rw[hdd];exact ik0 ⟨rfl,rfl⟩
      ·have:=C.gat.setSt ((0*KK+1:Nat):Int);have e1:((0*KK+1:Nat):Int)=1:=by rw[Nat.zero_mul];rfl
       rw[e1]at this⊢;exact this
     ·refine pack (es:=#[rdA (stA G),wrA (stA G)]) (C.move (sl:=sl) (m':=.wait) (lv':=upd lv i false) hi C3 S4 es0 (.inr hdf) (hus .wait (fun _ _ e=>by cases e) (fun _ _ e=>by cases e)) (C.mr0 _) (fun b hb=>S3 _ _ hb) hq ?_ (fun j hj=>upd_ne lv false hj) (.inl rfl) ?_ (by show 0<count _ _;omega) (by omega)) (by omega) Iff.rfl fun e=>.inl e
      ·unfold u7;rw[upd_same,if_neg (by simp),hdd];exact tp0 (by omega)
      ·have:=C.gat.setSt ((v*KK+1:Nat):Int);rw[hv];exact this
    |last j s=>have:=C.pos.1;omega
    |done=>have:count lv gs.size=0:=C.pos;omega
 |false=>
  rw[hl]at w5;simp only[Bool.false_eq_true,if_false]at w5;have quit:QuitsD P (q i) (Deaf T i) g->(∀s,m≠.last i s)->It0 P X G u lv m d T gs w q i sl:=fun hQ hml=>by
   cases hq:q i with
   |zero=>rw[hq]at hQ;rw[hQ.1]at W5;cases W5
   |succ k=>
    rw[hq]at hQ;rcases hQ with⟨hf,_⟩|⟨_,g',es,hm,M6,hQ⟩
    ·rw[hf]at W5;cases W5
    ·refine pack (es:=es) (C.move (sl:=sl) hi C3 (M6 w) (fun e he b hb=>by rw[touch_mute (hm e he)]at hb;cases hb) (.inl fun e he=>touch_mute (hm e he)) (fun _ h=>h) C.base.sim (fun _ _=>rfl) hq ?_ (fun _ _=>rfl) (.inl rfl) C.gat C.pos (Nat.le_refl _)) (Nat.le_refl _) Iff.rfl fun e=>.inl e;unfold u7;rw[hl,if_neg (by simp),Deaf_own];cases m with
     |last j s=>simp only;rw[if_neg (fun e=>hml s (by rw[e]))];exact hQ
     |_=>exact hQ
  cases m with
  |last j s=>
   simp only at w5;by_cases hij:i=j
   ·subst hij;rw[if_pos rfl]at w5;obtain⟨hc0,_,_,_,hs2⟩:=C.pos;have Xf0:g9 lv (.last i s) i=true:=by unfold g9;simp
    cases hq:q i with
    |zero=>rw[hq]at w5;exact w5.elim
    |succ k=>
     rw[hq]at w5;unfold Lst at w5;obtain⟨hd0,w5⟩:=w5;rcases w5 with⟨g',es,⟨_,hsy,M6⟩,hnm,hL⟩|⟨_,w5⟩
     ·refine pack (es:=es) (C.move (sl:=sl) hi C3 (M6 w _ _ C.gat) (fun e he=>mq0 (hsy e he)) (.inl fun e he=>dh0 (hsy e he)) (fun _ h=>h) C.base.sim (fun _ _=>rfl) hq ?_ (fun _ _=>rfl) (.inl rfl) C.gat C.pos (Nat.le_refl _)) (Nat.le_refl _) Iff.rfl fun e=>.inl e;unfold u7;rw[hl,if_neg (by simp)];simp only[if_true];rw[Deaf_own,deafBehind_still hnm];exact hL
     ·rcases s with _|_|_|s
      ·
       simp only at w5;obtain⟨hwk,g',M6,hQ⟩:=w5;have S4:=M6 w C.gat;refine pack (es:=semEvents (smA G)) (C.move (sl:=sl) (m':=.done) (lv':=lv) hi C3 S4 Dm0 (.inr ⟨Xf0,ts0 hd0⟩) (fun j hj=>by unfold g9 at hj⊢;simp at hj;rw[hj];rfl) (C.Is0 _) (fun b hb=>S3 _ _ hb) hq ?_ (fun _ _=>rfl) (.inr ⟨fun j hj s e=>(by cases e;exact hj rfl),fun j _ s e=>(by cases e)⟩) (C.gat.setSm _) hc0 (Nat.le_refl _)) (Nat.le_refl _) ⟨fun e=>(by cases e),fun e=>(by cases e)⟩ fun _=>.inr fun g0=>?_
       ·unfold u7;rw[hl,if_neg (by simp),Deaf_own,tr0];exact hQ
       ·unfold woken;rw[if_pos];rw[hwk];rcases hQ.status with e|e <;> rw[e] <;> rfl
      ·simp only at w5;obtain⟨g',M6,hL⟩:=w5;have S4:=M6 w C.gat;refine pack (es:=#[wrA (stA G)]) (C.move (sl:=sl) (m':=.last i 0) (lv':=lv) hi C3 S4 Xe0 (.inr ⟨Xf0,fun j _=>by rw[gq0 tt0];omega⟩) (fun j hj=>hj) (C.mr0 _) (fun b hb=>S3 _ _ hb) hq ?_ (fun _ _=>rfl) (.inr ⟨fun j hj s e=>(by cases e;exact hj rfl),fun j hj s e=>(by cases e;exact hj rfl)⟩) (C.gat.setSt _) ⟨hc0,C3,D2,hl,by omega⟩ (Nat.le_refl _)) (Nat.le_refl _) ⟨fun e=>(by cases e),fun e=>(by cases e)⟩ fun e=>by cases e
       unfold u7;rw[hl,if_neg (by simp)];simp only[if_true];rw[Deaf_own,deafBehind_still tt0];exact hL
      ·simp only at w5;obtain⟨g',M6,hL⟩:=w5;have S4:=M6 w C.gat;refine pack (es:=#[rdA (stA G)]) (C.move (sl:=sl) (m':=.last i 1) (lv':=lv) hi C3 S4 zy0 (.inr ⟨Xf0,fun j _=>by rw[gq0 ij0];omega⟩) (fun j hj=>hj) C.base.sim (fun b hb=>rfl) hq ?_ (fun _ _=>rfl) (.inr ⟨fun j hj s e=>(by cases e;exact hj rfl),fun j hj s e=>(by cases e;exact hj rfl)⟩) C.gat ⟨hc0,C3,D2,hl,by omega⟩ (Nat.le_refl _)) (Nat.le_refl _) ⟨fun e=>(by cases e),fun e=>(by cases e)⟩ fun e=>by cases e
       unfold u7;rw[hl,if_neg (by simp)];simp only[if_true];rw[Deaf_own,deafBehind_still ij0];exact hL
      ·omega
   ·rw[if_neg hij]at w5;exact quit w5 fun s' e=>by cases e;exact hij rfl
  |free=>exact quit w5 fun s e=>by cases e
  |wait=>exact quit w5 fun s e=>by cases e
  |done=>exact quit w5 fun s e=>by cases e
end
end
section
attribute [local irreducible] KK
theorem ms0 {lv:Nat->Bool}:∀{n:Nat},0<count lv n->∃i,i<n/\lv i=true
 |0,h=>by simp[count,sumTo]at h
 |n+1,h=>by
  cases e:lv n with
  |true=>exact⟨n,by omega,e⟩
  |false=>
   have:count lv (n+1)=count lv n:=by
    show sumTo n _+(if lv n then 1 else 0)=_;rw[e];rfl
   obtain⟨i,h1,h2⟩:=ms0 (n:=n) (by rw[<- this];exact h);exact⟨i,by omega,h2⟩
theorem mt0 (lv:Nat->Bool):g9 lv .free=lv:=funext fun i=>by unfold g9;simp
section
variable {P:Program}{Post:Value->World->Prop}{X:Gh}{G:X6}{u:World}{lv:Nat->Bool}{m:Md}{d:Nat}{T:Trace}{gs:Array Goroutine}{w:World}{q:Nat->Nat}{K:Goroutine->Prop}
theorem Fin.we (hG:X.J4=some G) (hK:∀g,K g->Fin P Post {X with pend:=0,cap:=0,dn:=0} 0 g u):∀(n d:Nat) (g:Goroutine),WE P G K n d g->Fin P Post {X with pend:=0,cap:=0,dn:=d} 0 g u
 |0,d,g,h=>by obtain⟨rfl,h⟩:=h;exact hK g h
 |n+1,d,g,h=>by
  rcases h with⟨rfl,h⟩|⟨g',es,hr,hes,S4,h⟩
  ·exact hK g h
  ·refine Fin.bi0 hr fun live T gs w sl dd b9 q hg M6 C=>?_;have hat:=(C.J4 G hG).2;have pa0:=C.few;have hc:count live gs.size=0:=by have h1:count live gs.size+0 <=0:=pa0.1;omega
   have hz:(((count live gs.size+0)*KK:Nat):Int)=0:=by rw[hc,Nat.zero_add,Nat.zero_mul];rfl
   have jk1:GAt G 0 0 (w.at dd):=by have h2:GAt G (((count live gs.size+0)*KK:Nat):Int) 0 (w.at dd):=hat;rw[hz]at h2;exact h2
   obtain⟨C',k5⟩:=C.main hG (g:=g) (g':=g') (pend:=0) (cap:=0) hes (w':=w.at dd) C.sim (fun _ _=>rfl) hat pa0;exact Ends.step (M6.trans (runT_crowd_go (sl:=b9) (i:=0) hg (S4 _ jk1))) (Fin.we hG hK n _ g' h _ _ _ _ _ _ k5 C')
theorem Wr.toRing (C:Wr P X G u lv .free d T gs w q) (hc:count lv gs.size=0):Ring P {X with pend:=0,cap:=0,dn:=d} 0 u lv T gs w q:=by
 have B:=C.base;rw[mt0]at B;refine B.ring (fun i g hi hg=>?_) (fun G' e=>?_) ⟨?_,by show(0:Nat) <=65536;omega⟩
 ·have:=C.idle i g hi hg;have D2:i<gs.size:=(Array.getElem?_eq_some_iff.1 hg).1;have hl:lv i=false:=by
   cases e:lv i with
   |false=>rfl
   |true=>have:=count_le D2 e;omega
  unfold u7 at this;unfold Idle;rw[show({X with pend:=0,cap:=0,dn:=d}:Gh).C2 i=none from C.empty i];rw[hl]at this⊢;simp only[Bool.false_eq_true,if_false]at this⊢;exact⟨by omega,this⟩
 ·have e':X.J4=some G':=e;rw[C.J4]at e';obtain rfl:=Option.some.inj e';have:=C.gat;exact this
 ·show count lv gs.size+0 <=0;omega
theorem Wr.at (C:Wr P X G u lv m d T gs w q) (k:Nat):Wr P X G u lv m d T gs (w.at k) q :=
 ⟨⟨let⟨ρ,hs,hl⟩:=C.base.sim;⟨ρ,B6.at hs k,hl⟩,C.base.free,C.base.size,C.base.num,C.base.stays,C.base.chans,C.base.O4,C.base.inj,C.base.w5,C.base.cn0,C.base.el0,C.base.cut,C.base.old,C.base.above,C.base.em0,C.base.bz0,C.base.dfn,C.base.past⟩,C.J4,C.empty,C.idle,C.gat,C.pos,C.few⟩
theorem Wr.awake (C:Wr P X G u lv m d T gs w q) {a:Goroutine} (ha:gs[0]? =some a) (hs:a.status= .running\/a.status= .blocked):∀g∈gs,awake g:=by
 intro g hg;obtain⟨i,hi,rfl⟩:=Array.mem_iff_getElem.1 hg;by_cases e:i=0
 ·subst e;have:gs[0]=a:=by simpa [Array.getElem?_eq_getElem hi]using ha
  rw[this];exact awake_of (hs.elim .inl fun x=>.inr (.inl x))
 ·exact awake_of ((C.idle i _ e (Array.getElem?_eq_getElem hi)).status.elim .inl fun x=>.inr (.inr x))
theorem Wr.main (C:Wr P X G u lv m d T gs w q) {g g':Goroutine} {es:Array Event} {w':World} {m':Md} (hes:∀e∈es,GEv G 0 e) (ke0:∃ρ,B6 ρ (P2 u w'.tape w'.drawn) w'/\∀b,¬X.low b->ρ b=X.L6 b) (Z8:∀b,b≠G.blk->w'.heap[b]? =w.heap[b]?)
  (hm:m'=m\/((∀j s,m≠.last j s)/\∀j s,m'≠.last j s)) (to0:GAt G (Fy0 m' (count lv gs.size)).1 (Fy0 m' (count lv gs.size)).2 w') (tn0:posOf m' lv gs.size) :
  Wr P X G u lv m' (deafBehind d es) (T++MemOp.ofEvents 0 g.frame.fn g.frame.place es) ((gs.map (woken P g g' w')).setIfInBounds 0 g') w' q/\((gs.map (woken P g g' w')).setIfInBounds 0 g')[0]? =some g':=by
 have A2:((gs.map (woken P g g' w')).setIfInBounds 0 g').size=gs.size:=by simp
 have hus:∀j,g9 lv m' j=true->g9 lv m j=true:=fun j hj=>by
  rcases hm with rfl|⟨h1,h2⟩
  ·exact hj
  ·unfold g9 at hj⊢;cases m' with
   |last j s=>exact absurd rfl (h2 j s)
   |_=>simp at hj;rw[hj];rfl
 refine⟨⟨?_,C.J4,C.empty,fun x y hx hy=>?_,by rw[A2];exact to0,by rw[A2];exact tn0,by rw[A2];exact C.few⟩,Array.getElem?_setIfInBounds_self_of_lt (by simpa using C.base.size)⟩
 ·rw[A2];exact C.base.step (fn:=g.frame.fn) (pos:=g.frame.place) (G:=G) C.J4 C.base.size (C.empty 0) hes (.inr (.inl rfl)) hus (fun j hj=>absurd (C.empty j) hj) (by rw[if_pos rfl]) ke0 Z8
 ·rw[Array.getElem?_setIfInBounds_ne (fun z=>hx z.symm),Array.getElem?_map]at hy;obtain⟨y₀,hy₀,rfl⟩:=Option.map_eq_some_iff.1 hy;have h1:=C.idle x y₀ hx hy₀;rw[woken_of_again (again_of_running h1.status w')];exact h1.other (fun z=>hx z.symm) O3 rfl (hm.imp id fun z=>⟨z.1 x,z.2 x⟩)
theorem again_blocked {g:Goroutine} (hr:g.status= .running) (ho:g.offers=none) (w:World):({g with status:=.blocked}:Goroutine).again w=g:=by
 cases g;simp only at hr ho;subst hr;subst ho;rfl
theorem Fin.sem (hG:X.J4=some G) (hK:∀g,K g->Fin P Post {X with pend:=0,cap:=0,dn:=0} 0 g u):∀(μ n d:Nat) (g:Goroutine) (b:Bool) lv m T gs w sl q,μ=3*sumTo gs.size q+3*n+(if b then 1 else 0)->Wr P X G u lv m d T gs w q->m≠.free ->
  (if b then gs[0]? =some g/\WS P G K n d g else m≠.done/\gs[0]? =some {g with status:=.blocked}/\∃k,n=k+1/\0<d/\Uv0 P G K k d g)->Ends P Post (crowd gs w sl) T:=by
 intro μ
 induction μ using Nat.strongRecOn with
 |_ μ ih=>
  intro n d g b lv m T gs w sl q hμ C hmf hb;have Uw0:(∃(i:Nat) (g:Goroutine),gs[i]? =some g/\g.status= .running)/\∀g∈gs,awake g:=by
   cases b with
   |true=>
    obtain⟨h0,hW⟩:=hb;have hr:g.status= .running:=by
     cases n with
     |zero=>exact hW.elim
     |succ n=>
      rcases hW with⟨_,_,hh,_⟩|⟨_,hh⟩
      ·exact hh.1
      ·exact hh.1
    exact⟨⟨0,g,h0,hr⟩,C.awake h0 (.inl hr)⟩
   |false=>
    obtain⟨hmd,h0,k,_,_,_⟩:=hb;refine⟨?_,C.awake h0 (.inr rfl)⟩;cases m with
    |free=>exact absurd rfl hmf
    |done=>exact absurd rfl hmd
    |wait=>
     obtain⟨i,hi,hl⟩:=ms0 (show 0<count lv gs.size from C.pos);have F9:i≠0:=(C.base.em0 i (by unfold g9;rw[hl];rfl)).1;have:=C.idle i gs[i] F9 (Array.getElem?_eq_getElem hi);unfold u7 at this;rw[hl,if_pos rfl]at this;exact⟨i,gs[i],Array.getElem?_eq_getElem hi,this.running⟩
    |last i s=>
     obtain⟨_,F9,hi,hl,_⟩:=C.pos;have:=C.idle i gs[i] F9 (Array.getElem?_eq_getElem hi);unfold u7 at this;rw[hl,if_neg (by simp)]at this;simp only[if_true]at this;exact⟨i,gs[i],Array.getElem?_eq_getElem hi,this.running⟩
  obtain⟨i,gi,dd,b9,hi,hgi,S4⟩:=crowd_pick (P:=P) (w:=w) (sl:=sl) Uw0.2 Uw0.1;have Cd:=C.at dd;by_cases e:i=0
  ·subst e;cases b with
   |false=>obtain⟨_,h0,_⟩:=hb;rw[h0]at hi;obtain rfl:=Option.some.inj hi;cases hgi
   |true=>
    obtain⟨h0,hW⟩:=hb;rw[h0]at hi;obtain rfl:=Option.some.inj hi;cases n with
    |zero=>exact hW.elim
    |succ n=>
     rcases hW with⟨g',es,⟨_,_,hes,M6⟩,hW⟩|⟨hd0,hr,ho,Fz0,g',cx1,hE⟩
     ·obtain⟨C',k5⟩:=Cd.main (g:=g) (g':=g') (m':=m) hes Cd.base.sim (fun _ _=>rfl) (.inl rfl) Cd.gat Cd.pos;exact Ends.step (S4.trans (runT_crowd_go (sl:=b9) (i:=0) h0 (M6 _ _ _ Cd.gat))) (ih _ (by simp only[Array.size_setIfInBounds,Array.size_map];rw[hμ];simp only[if_true];omega) n _ g' true lv m _ _ _ b9 q rfl C' hmf ⟨k5,hW⟩)
     ·have blk:m≠.done->(∃st,GAt G st 0 (w.at dd))->Ends P Post (crowd gs w sl) T:=fun hmd ⟨st,hat⟩=>by
       have hgo:=Fz0 _ _ hat;have hrt:=runT_crowd_go (P:=P) (sl:=b9) (i:=0) h0 hgo;rw[show(MemOp.ofEvents 0 g.frame.fn g.frame.place #[]:Array MemOp)=#[] from rfl]at hrt;obtain⟨C',k5⟩:=Cd.main (g:=g) (g':={g with status:=.blocked}) (es:=#[]) (m':=m) (fun e he=>by simp at he) Cd.base.sim (fun _ _=>rfl) (.inl rfl) Cd.gat Cd.pos;rw[show(MemOp.ofEvents 0 g.frame.fn g.frame.place #[]:Array MemOp)=#[] from rfl]at C';exact Ends.step (S4.trans hrt) (ih _ (by simp only[Array.size_setIfInBounds,Array.size_map];rw[hμ];simp) (n+1) d g false lv m _ _ _ b9 q rfl C' hmf ⟨hmd,k5,n,rfl,hd0,hr,ho,Fz0,g',cx1,hE⟩)
      cases m with
      |free=>exact absurd rfl hmf
      |wait=>exact blk (fun e=>by cases e) ⟨_,Cd.gat⟩
      |last i s=>exact blk (fun e=>by cases e) (by
        have:=Cd.gat;cases s with
        |zero=>exact⟨_,this⟩
        |succ s=>exact⟨_,this⟩)
      |done=>
       obtain⟨C',k5⟩:=Cd.main (g:=g) (g':=g') (es:=semEvents (smA G)) (m':=.free) (w':=(w.at dd).setCell (smA G) (.int .u32 0)) Dm0 (Cd.Is0 0) (fun b hb=>S3 _ _ hb) (.inr ⟨fun j s e=>(by cases e),fun j s e=>(by cases e)⟩)
        (by
         have h1:count lv gs.size=0:=Cd.pos;have h2:GAt G 0 0 _:=Cd.gat.setSm 0;have h3:(((count lv gs.size)*KK:Nat):Int)=0:=by rw[h1,Nat.zero_mul];rfl
         show GAt G (((count lv gs.size)*KK:Nat):Int) 0 _;rw[h3];exact h2) trivial
       rw[tr0]at C';have R:=C'.toRing (by simp only[Array.size_setIfInBounds,Array.size_map];exact Cd.pos);exact Ends.step (S4.trans (runT_crowd_go (sl:=b9) (i:=0) h0 (cx1 _ Cd.gat))) (Fin.we hG hK n d g' hE _ _ _ _ b9 _ k5 R)
  ·obtain⟨Y7,ops,q',w',lv',m',hrt,A2,h0',C',D2,_,Iu0,cy1⟩:=Cd.by (sl:=b9) hi e hgi
   have Xg0:m'≠.free:=fun e=>hmf (Iu0.2 e);refine Ends.step (S4.trans hrt) ?_;cases b with
   |true=>
    obtain⟨h0,hW⟩:=hb;have hr:g.status= .running:=by
     cases n with
     |zero=>exact hW.elim
     |succ n=>
      rcases hW with⟨_,_,hh,_⟩|⟨_,hh⟩
      ·exact hh.1
      ·exact hh.1
    refine ih _ (by rw[hμ];simp only[if_true];omega) n d g true lv' m' _ Y7 w' b9 q' rfl C' Xg0 ⟨?_,hW⟩;rcases h0' g h0 with z|z
    ·exact z
    ·rw[again_of_running (.inl hr)]at z;exact z
   |false=>
    obtain⟨hmd,h0,k,hk,hd0,Qf0⟩:=hb;have hA:Y7[0]? =some (({g with status:=.blocked}:Goroutine).again w')->Ends P Post (crowd Y7 w' b9) (T++ops):=fun z=>by
     rw[again_blocked Qf0.1 Qf0.2.1]at z;exact ih _ (by rw[hμ];simp only[if_true];simp;omega) n d g true lv' m' _ Y7 w' b9 q' rfl C' Xg0 ⟨z,by rw[hk];exact .inr ⟨hd0,Qf0⟩⟩
    by_cases hdn:m'= .done
    ·exact hA ((cy1 hdn).resolve_left hmd _ h0)
    ·rcases h0' _ h0 with z|z
     ·exact ih _ (by rw[hμ];simp;omega) n d g false lv' m' _ Y7 w' b9 q' rfl C' Xg0 ⟨hdn,z,k,hk,hd0,Qf0⟩
     ·exact hA z
end
end
section
attribute [local irreducible] KK
section
variable {P:Program}{Post:Value->World->Prop}{X:Gh}{G:X6}{u:World}{K:Goroutine->Prop}
theorem Fin.head (hG:X.J4=some G) (hK:∀g,K g->Fin P Post {X with pend:=0,cap:=0,dn:=0} 0 g u):∀(μ n:Nat) (o:Option Nat) (V d:Nat) (g:Goroutine) lv T gs w sl q,μ=n+sumTo gs.size q->Wr P X G u lv .free d T gs w q->gs[0]? =some g->WH P G K n o V d g->0<d\/True ->
  (match o with|none=>count lv gs.size <=V|some vs=>0<vs/\count lv gs.size <=vs)->Ends P Post (crowd gs w sl) T:=by
 intro μ
 induction μ using Nat.strongRecOn with
 |_ μ ih=>
  intro n o V d g lv T gs w sl q hμ C h0 hW _ hV;cases n with
  |zero=>exact hW.elim
  |succ n=>
   have hr:g.status= .running:=by
    unfold WH at hW;rcases hW with⟨_,_,hh,_⟩|hh
    ·exact hh.1
    ·exact hh.1
   obtain⟨i,gi,dd,b9,hi,hgi,S4⟩:=crowd_pick (P:=P) (w:=w) (sl:=sl) (C.awake h0 (.inl hr)) ⟨0,g,h0,hr⟩;have Cd:=C.at dd;by_cases e:i=0
   ·subst e;rw[h0]at hi;obtain rfl:=Option.some.inj hi;have hat:GAt G ((count lv gs.size*KK:Nat):Int) 0 (w.at dd):=Cd.gat;unfold WH at hW;rcases hW with⟨g',es,⟨_,_,hes,M6⟩,hW⟩|⟨_,hW⟩
    ·obtain⟨C',k5⟩:=Cd.main (g:=g) (g':=g') (m':=.free) hes Cd.base.sim (fun _ _=>rfl) (.inl rfl) Cd.gat Cd.pos;exact Ends.step (S4.trans (runT_crowd_go (sl:=b9) (i:=0) h0 (M6 _ _ _ Cd.gat))) (ih _ (by simp only[Array.size_setIfInBounds,Array.size_map];omega) n o V _ g' lv _ _ _ b9 q rfl C' k5 hW (.inr trivial) (by simpa using hV))
    ·have Iv0:∀g',stepG P true g (w.at dd)= .go g' (w.at dd) #[rdA (stA G)]->(∀T' Y7,Wr P X G u lv .free d T' Y7 (w.at dd) q->Y7.size=gs.size->Y7[0]? =some g'->Ends P Post (crowd Y7 (w.at dd) b9) T')->Ends P Post (crowd gs w sl) T:=fun g' hgo hk=>by
      obtain⟨C',k5⟩:=Cd.main (g:=g) (g':=g') (es:=#[rdA (stA G)]) (m':=.free) zy0 Cd.base.sim (fun _ _=>rfl) (.inl rfl) Cd.gat Cd.pos;rw[deafBehind_still ij0]at C';exact Ends.step (S4.trans (runT_crowd_go (sl:=b9) (i:=0) h0 hgo)) (hk _ _ C' (by simp) k5)
     cases o with
     |none=>
      have hV':count lv gs.size <=V:=hV;obtain⟨g',M6,hz,hnz⟩:=hW (count lv gs.size) hV';refine Iv0 g' (M6 _ hat) fun T' Y7 C' A2 k5=>?_;by_cases hc:count lv gs.size=0
      ·exact Fin.we hG hK n d g' (hz hc) _ _ _ _ b9 _ k5 (C'.toRing (by rw[A2];exact hc))
      ·exact ih _ (by rw[A2];omega) n (some (count lv gs.size)) V d g' lv T' Y7 _ b9 q rfl C' k5 (hnz hc) (.inr trivial) ⟨by omega,by rw[A2];exact Nat.le_refl _⟩
     |some vs=>
      obtain⟨hvs,hle⟩:=hV;obtain⟨⟨g1,Qg0,hS⟩,cz1⟩:=hW;by_cases hc:count lv gs.size=vs
      ·subst hc;obtain⟨C',k5⟩:=Cd.main (g:=g) (g':=g1) (es:=#[rdA (stA G),wrA (stA G)]) (m':=.wait) es0 (Cd.mr0 ((count lv gs.size*KK+1:Nat):Int)) (fun b hb=>S3 _ _ hb) (.inr ⟨fun j s e=>(by cases e),fun j s e=>(by cases e)⟩) (Cd.gat.setSt _) hvs;rw[pt0]at C';exact Ends.step (S4.trans (runT_crowd_go (sl:=b9) (i:=0) h0 (Qg0 _ hat))) (Fin.sem hG hK _ n d g1 true lv .wait _ _ _ b9 q rfl C' (fun e=>(by cases e)) ⟨k5,hS⟩)
      ·obtain⟨g',M6,hH⟩:=cz1 (count lv gs.size) (by omega);refine Iv0 g' (M6 _ hat) fun T' Y7 C' A2 k5=>?_;exact ih _ (by rw[A2];omega) n none (count lv gs.size) d g' lv T' Y7 _ b9 q rfl C' k5 hH (.inr trivial) (by rw[A2];exact Nat.le_refl _)
   ·obtain⟨Y7,ops,q',w',lv',m',hrt,A2,h0',C',D2,N7,Iu0,_⟩:=Cd.by (sl:=b9) hi e hgi
    have hmf:m'= .free:=Iu0.1 rfl;subst hmf;refine Ends.step (S4.trans hrt) (ih _ (by omega) (n+1) o V d g lv' _ Y7 w' b9 q' rfl C' ?_ hW (.inr trivial) ?_)
    ·rcases h0' g h0 with z|z
     ·exact z
     ·rw[again_of_running (.inl hr)]at z;exact z
    ·cases o with
     |none=>exact Nat.le_trans N7 hV
     |some vs=>exact⟨hV.1,Nat.le_trans N7 hV.2⟩
theorem Fin.wait {g:Goroutine} {n:Nat} (hG:X.J4=some G) (hno:∀i,X.C2 i=none) (hp:X.pend=0) (hd:X.dn=0) (hW:WH P G K n none X.cap 0 g) (hK:∀g,K g->Fin P Post {X with pend:=0,cap:=0,dn:=0} 0 g u):Fin P Post X 0 g u:=by
 intro live T gs w sl q hg C;have hat:=(C.J4 G hG).2;have pa0:=C.few;rw[hp,Nat.add_zero]at hat pa0;have B:=C.base;refine Fin.head hG hK _ n none X.cap 0 g live T gs w sl q rfl ⟨?_,hG,hno,fun i y hi hy=>?_,hat,trivial,by omega⟩ hg hW (.inr trivial) pa0.1
 ·rw[mt0];exact⟨B.sim,B.free,B.size,B.num,B.stays,B.chans,B.O4,B.inj,B.w5,B.cn0,B.el0,B.cut,B.old,B.above,B.em0,B.bz0,B.dfn.trans hd,by
   have:=B.past;refine this.fewer fun x hx=>?_;rcases hx with⟨e,_⟩|hx
   ·exact .inl ⟨e,hd⟩
   ·exact .inr hx⟩
 ·have:=C.idle i y hi hy;unfold Idle at this;rw[hno i]at this;unfold u7;obtain⟨_,this⟩:=this;cases e:live i with
  |true=>
   rw[e]at this;simp only[if_true]at this⊢;obtain⟨G',hG',hL⟩:=this;rw[hG]at hG';obtain rfl:=Option.some.inj hG';exact hL
  |false=>
   rw[e]at this;simp only[Bool.false_eq_true,if_false]at this⊢;exact this
end
end
section
attribute [local irreducible] KK
def et0 (w:World):World:={w with heap:=w.heap.map fun o=>if K4 o then nothing else o}
def X0 (w:World):Gh where
 C2:=fun _=>none
 stay:=fun _=>[]
 J4:=none
 old:=[]
 w5:=fun _=>none
 chs:=fun _=>False
 low:=fun _=>False
 L6:=fun b=>match w.heap[b]? with
  |some o=>if K4 o then .gone o else .all
  |none=>.all
 cap:=0
 pend:=0
 dn:=0
 n:=1
theorem Iw0 (w:World) (n:Nat):(X0 w).co0 n :=
 ⟨fun _ _ h=>(by cases h),fun _ _ h=>(by cases h),fun _ h=>h.elim,fun _ h=>h.elim (fun z=>(by cases z)) fun z=>(by cases z),fun _ h=>h.elim⟩
theorem Do0 {w:World} {b:Nat} (h:w.heap.size <=b):(X0 w).L6 b= .all:=by
 show(match w.heap[b]? with|some o=>if K4 o then p7.gone o else .all|none=>.all)=_;rw[Array.getElem?_eq_none h]
theorem Ix0 {w:World} {b:Nat} {o:Obj} (h:w.heap[b]? =some o) (hv:K4 o=false):(et0 w).heap[b]? =some o:=by
 show(w.heap.map _)[b]? =_;rw[Array.getElem?_map,h];simp[hv]
theorem Iy0 (w:World):B6 (X0 w).L6 (P2 (et0 w) w.tape w.drawn) w:=by
 refine⟨rfl,rfl,rfl,rfl,by simp[P2,et0],fun b x hx=>?_,fun b hb=>Do0 (by simpa [P2,et0]using hb),fun b x hx=>?_⟩
 ·have Z5:(w.heap.map fun o=>if K4 o then nothing else o)[b]? =some x:=hx;rw[Array.getElem?_map]at Z5;obtain⟨o,ho,rfl⟩:=Option.map_eq_some_iff.1 Z5;refine⟨o,ho,?_⟩;show ek0 (match w.heap[b]? with|some o=>if K4 o then p7.gone o else .all|none=>.all) _ _;rw[ho];cases hv:K4 o
  ·simp only[hv,Bool.false_eq_true,if_false];exact .same o
  ·simp only[hv,if_true];exact .gone _ _ _
 ·have Z5:(w.heap.map fun o=>if K4 o then nothing else o)[b]? =some x:=hx;rw[Array.getElem?_map]at Z5;obtain⟨o,ho,rfl⟩:=Option.map_eq_some_iff.1 Z5;cases hv:K4 o
  ·simp[hv]
  ·simp[nothing,K4]
theorem Fin.start {P:Program} {Post:Value->World->Prop} {g:Goroutine} {w:World} (hF:Fin P Post (X0 w) 0 g (et0 w)):Ends P Post (solo g w) #[]:=by
 rw[solo_eq_crowd];have hno:∀i a,touchAt (#[]:Trace) i=some a->False:=fun i a h=>by simp[touchAt,Trace.act?]at h
 refine hF (fun _=>false) #[] #[g] w none (fun _=>0) rfl ⟨⟨_,Iy0 w,fun _ _=>rfl⟩,fun i y hi hy=>?_,rfl,by simp,rfl,fun _ _ h=>(by cases h),fun _ h=>h.elim,fun _ _ h=>(by cases h),fun _ _ _ _ h=>(by cases h),fun _ _ h=>(by cases h),fun _ h=>(by cases h),fun _ h=>h.elim,fun _ h=>(by cases h),fun _ h=>(by cases h),
  fun j hj=>⟨rfl,rfl,rfl,rfl⟩,⟨Nat.le_refl _,by show(0:Nat) <=65536;omega⟩,fun _ h=>(by cases h),fun i hi h=>h.elim (fun z=>absurd rfl z) fun z=>absurd z hi,rfl,⟨fun said=>?_,fun i a h=>(hno i a h).elim,fun i a h=>(hno i a h).elim,fun g' Y8=>rfl,fun i a g' h=>(hno i a h).elim⟩⟩
 ·have:i=0:=by
   have:=(Array.getElem?_eq_some_iff.1 hy).1;simp at this;omega
  exact absurd this hi
 ·rintro⟨i,j,_,⟨a,b,ha,_⟩,_⟩;exact hno i a ha
end
end Go.Yc
end
section
namespace Go.Vy
open Go Go.Conc Go.Yc
inductive Out where
 |val (v:Value)
 |skip
 |enter (f:FuncId) (args:Array Value)
 |panic (v:Value)
def Out.res:Out->World->Result Next
 | .val v,w=>.ok (.value v) w
 | .skip,w=>.ok .skip w
 | .enter f args,w=>.ok (.enter f args) w
 | .panic v,w=>.halt (.panic v) w
def tu0 (P:Program) (S:Sem Next) (u:World) (r:Out) (u':World):Prop :=
 ∀ρ x,B6 ρ u x->Evo u u'/\∃x' es,S.runT P x #[]=(r.res x',es)/\B6 ρ u' x'/\∀e∈es,if0 u e
structure Does (P:Program) (S:Sem Next) (u:World) (r:Out) (u':World):Prop where
 tape:u'.tape=u.tape
 drawn:u'.drawn=u.drawn
 go:∀τ d,tu0 P S (P2 u τ d) r (P2 u' τ d)
theorem Out.tj0 (r:Out) (w:World):tj0 (r.res w):=by cases r <;> trivial
theorem Qh0 (r:Out) (w w':World):atW (r.res w) w'=r.res w':=by cases r <;> rfl
theorem Gb0 (r:Out) (w:World):ig0 (r.res w)=w:=by cases r <;> rfl
theorem gg0 {P:Program} {S:Sem Next} {u u':World} {r:Out} (ht:E1 P S) (hr:S.run P u=r.res u'):tu0 P S u r u':=by
 intro ρ x hs;have h1:(S.runT P u #[]).1=r.res u':=by rw[Sem.runT_eq];exact hr
 have hf:Yc.tj0 (S.runT P u #[]).1:=by rw[h1];exact r.tj0 u'
 obtain⟨⟨x',h2,h3⟩,h4,h5⟩:=r7 ht hs hf;rw[h1,Gb0]at h3 h4;rw[h1,Qh0]at h2;exact⟨h4,x',_,h2,h3,fun e he=>(h5 e he).resolve_left (by simp)⟩
theorem Does.j1 {P:Program} {S:Sem Next} {u u':World} {r:Out} (ht:E1 P S) (h1:u'.tape=u.tape) (h2:u'.drawn=u.drawn) (hr:∀τ d,S.run P (P2 u τ d)=r.res (P2 u' τ d)):Does P S u r u':=⟨h1,h2,fun τ d=>gg0 ht (hr τ d)⟩
structure Cl (P:Program) (main:Bool) (Z:Goroutine->World->Prop):Prop where
 own:∀g u,g.status= .running->(∀τ d,∃g' u' d',l6 P main g (P2 u τ d) g' u'/\Z g' (P2 u' u.tape d'))->Z g u
class Ctx (P:Program) where
 main:Bool
 Zs:(Goroutine->World->Prop)->Prop
 cl:∀Z,Zs Z->Cl P main Z
theorem mf0 {P:Program} {Post:Value->World->Prop} {X:Gh} {h:Nat} {g:Goroutine} {u:World} {τ:Tape} {d:Nat} (hF:Fin P Post X h g (P2 u τ d)):Fin P Post X h g u :=
 fun live T gs w sl q hg C=>hF live T gs w sl q hg ⟨C.sim,C.idle,C.free,C.size,C.num,C.stays,C.chans,C.O4,C.inj,C.w5,C.cn0,C.el0,C.J4,C.old,C.above,C.few,C.em0,C.bz0,C.dfn,C.past⟩
theorem di0 (P:Program) (Post:Value->World->Prop) (X:Gh) (h:Nat):Cl P (h==0) (Fin P Post X h) :=
 ⟨fun _ _ hr hs=>Fin.own hr fun τ d=>by
  obtain⟨g',u',d',hF,hZ⟩:=hs τ d;exact⟨g',u',hF,mf0 hZ⟩⟩
section
variable {P:Program}{main:Bool}{Z:Goroutine->World->Prop}
theorem Cl.ctl (hZ:Cl P main Z) {g g':Goroutine} {u:World} (hr:g.status= .running) (hr':g'.status= .running) (hs:∀w,stepG P main g w= .go g' w #[]) (h:Z g' u):Z g u :=
 hZ.own g u hr fun τ d=>⟨g',P2 u τ d,u.drawn,⟨hr',fun ρ w hw=>⟨Evo.refl _,w,#[],hs w,hw,fun e he=>by simp at he⟩⟩,h⟩
end
def zz0 (Z:Goroutine->World->Prop) (b:Frame) (k:List Item) (cs:List Frame):Exit->Act->World->Prop
 | .normal,a,w=>Z (G (b.at a k) cs) w
 | .exit id,a,w=>∃k',exitTo id k=some k'/\Z (G (b.at a k') cs) w
 | .goto l,a,w=>∃k',gotoIn l k=some k'/\Z (G (b.at a k') cs) w
 | .ret,a,w=>∀todo,Z (G {b.at a todo with mode:=.returning} cs) w
 | .panic ch,a,w=>∀todo,Z (G {b.at a todo with mode:=.panicking ch} cs) w
 | .outgrown,_,_=>False
theorem zz0.push {Z:Goroutine->World->Prop} {b:Frame} {x:Item} {k:List Item} {cs:List Frame} {e:Exit} {a:Act} {w:World} (hx:x.plain=true) (he:e≠.normal) (h:zz0 Z b k cs e a w):zz0 Z b (x::k) cs e a w:=by
 cases e with
 |normal=>exact absurd rfl he
 |exit id=>obtain⟨k',hk,h⟩:=h;exact⟨k',by cases x <;> simp_all [exitTo,Item.plain],h⟩
 |goto l=>obtain⟨k',hk,h⟩:=h;exact⟨k',by cases x <;> simp_all [gotoIn,Item.plain],h⟩
 |ret=>exact h
 |panic ch=>exact h
 |outgrown=>exact h
def bj0 (P:Program) (fn:Func) (tmps:Array Value) (w:World) (v:Value):Prop:=∀τ d ρ x,B6 ρ (P2 w τ d) x->∃x' es,(results fn tmps).runT P x #[]=(.ok v x',es)/\B6 ρ (P2 w τ d) x'/\∀e∈es,if0 (P2 w τ d) e
def Leaves (P:Program) (fr:Frame) (w:World):Ending->Prop
 | .returned v=>fr.mode= .returning/\fr.defers=[]/\fr.kind= .normal/\∃fn,P.funcs[fr.fn]? =some fn/\bj0 P fn fr.tmps w v
 | .panicked chain=>fr.mode= .panicking chain/\fr.defers=[]/\fr.catches P=false
 | .outgrown=>False
def Calls (P:Program) [Ctx P] (f:FuncId) (args:Array Value) (w:World) (R:Ending->World->Prop):Prop :=
 ∀Z,Ctx.Zs P Z->∀cs,(∀e w' fr,R e w'->fr.fn=f->Leaves P fr w' e->Z (G fr cs) w')->Z (G (Frame.enter P f args .normal) cs) w
theorem Calls.mono {P:Program} [Ctx P] {f:FuncId} {args:Array Value} {w:World} {R R':Ending->World->Prop} (h:Calls P f args w R) (hr:∀e w',R e w'->R' e w'):Calls P f args w R' :=
 fun Z hZ cs hk=>h Z hZ cs fun e w' fr he hf hl=>hk e w' fr (hr e w' he) hf hl
theorem aq0 {P:Program} {main:Bool} {Z:Goroutine->World->Prop} (hZ:Cl P main Z) {fr c:Frame} {cs:List Frame} {w:World} {v:Value} (h:Leaves P fr w (.returned v)) (hk:Z (G (c.finish v) cs) w):Z (G fr (c::cs)) w:=by
 obtain⟨hm,hd,hn,fn,hf,hr⟩:=h;refine hZ.own _ _ rfl fun τ d=>⟨G (c.finish v) cs,P2 w τ d,w.drawn,⟨rfl,fun ρ x hx=>?_⟩,hk⟩
 obtain⟨x',es,W5,Z5,hev⟩:=hr τ d ρ x hx;rw[Sem.runT_eq]at W5;obtain⟨h1,h2⟩:=Prod.mk.inj W5;refine⟨Evo.refl _,x',seen P fr.fn es ++ #[],?_,Z5,fun e he=>?_⟩
 ·simp[G,stepG,unwind,doReturn,hm,hd,hn,hf,h1,h2,GStep.after]
 ·have he':e∈seen P fr.fn es:=by simpa using he
  exact hev e (mem_seen he')
theorem eu0 {P:Program} {main:Bool} {Z:Goroutine->World->Prop} (hZ:Cl P main Z) {fr c:Frame} {cs:List Frame} {w:World} {chain:List PanicEntry} (h:Leaves P fr w (.panicked chain)) (hk:Z (G (c.raise chain) cs) w):Z (G fr (c::cs)) w:=by
 obtain⟨hm,hd,hc⟩:=h;exact hZ.ctl rfl rfl (fun w=>by simp[G,stepG,unwind,hm,hd,hc]) hk
section
variable {P:Program}[Ctx P]
def da1 (P:Program) [Ctx P] (o:Oper) (a:Act) (next:Act->World->Prop) (Q:Exit->Act->World->Prop) (r:Out) (w:World):Prop:=match r with
 | .val v=>next (a.put o.dst v) w
 | .skip=>next (a.put o.dst undef) w
 | .enter f args=>Calls P f args w fun
  | .returned v,w''=>next (a.put o.dst v) w''
  | .panicked chain,w''=>Q (.panic chain) a w''
  | .outgrown,_=>False
 | .panic v=>Q (.panic [{v,recovered:=false}]) a w
def pc0 (P:Program) [Ctx P] (o:Oper) (a:Act) (w:World) (next:Act->World->Prop) (Q:Exit->Act->World->Prop):Prop :=
 ∀τ d,∃r w',tu0 P (execOp a.eval o) (P2 w τ d) r w'/\da1 P o a next Q r (P2 w' w.tape w.drawn)
def wpOps (P:Program) [Ctx P] (ops:Array Oper) (Q:Exit->Act->World->Prop):List Nat->Act->World->Prop
 | [],a,w=>Q .normal a w
 |i::rest,a,w=>match ops[i]? with
  |none=>False
  |some o=>if Region.wanted o (yielded ops a.tmps) then pc0 P o a w (wpOps P ops Q rest) Q else wpOps P ops Q rest (a.put o.dst undef) w
def wpList (P:Program) [Ctx P] (ops:Array Oper) (Q:Exit->Act->World->Prop):List Oper->Act->World->Prop
 | [],a,w=>Q .normal a w
 |o::rest,a,w=>if Region.wanted o (yielded ops a.tmps) then pc0 P o a w (wpList P ops Q rest) Q else wpList P ops Q rest (a.put o.dst undef) w
def cwp (P:Program) [Ctx P] (c:Code) (Q:Exit->Act->World->Prop) (a:Act) (w:World):Prop :=
 ∀Z,Ctx.Zs P Z->∀b k cs,b.kind≠.early->(∀e a' w',Q e a' w'->zz0 Z b k cs e a' w')->Z (G (b.at a (.code c::k)) cs) w
variable {Q Q':Exit->Act->World->Prop}{a:Act}{w:World}{ops:Array Oper}
theorem fm0 {o:Oper} {next next':Act->World->Prop} (hn:∀a w,next a w->next' a w) (hq:∀e a w,Q e a w->Q' e a w) (h:pc0 P o a w next Q):pc0 P o a w next' Q':=by
 intro τ d;obtain⟨r,w',h1,h2⟩:=h τ d;refine⟨r,w',h1,?_⟩;cases r with
 |val v=>exact hn _ _ h2
 |skip=>exact hn _ _ h2
 |enter f args=>exact Calls.mono h2 fun e w'' he=>by cases e <;> first|exact hn _ _ he|exact hq _ _ _ he|exact he
 |panic v=>exact hq _ _ _ h2
theorem l9 {o:Oper} {next:Act->World->Prop} {r:Out} {w':World} (h:Does P (execOp a.eval o) w r w') (hk:da1 P o a next Q r w'):pc0 P o a w next Q:=by
 intro τ d;refine⟨r,P2 w' τ d,h.go τ d,?_⟩;have:P2 (P2 w' τ d) w.tape w.drawn=w':=by rw[<- h.tape,<- h.drawn];rfl
 rw[this];exact hk
theorem wp_ops:∀(l:List Nat) (a:Act) (w:World),wpOps P ops Q l a w->∀Z,Ctx.Zs P Z->∀b k cs,b.kind≠.early->(∀e a' w',Q e a' w'->zz0 Z b k cs e a' w')->Z (G (b.at a (.inRegion ops l::k)) cs) w
 | [],a,w,h,Z,hZ,b,k,cs,hb,hk=>(Ctx.cl Z hZ).ctl rfl rfl (fun w=>stepG_region_end) (hk _ _ _ h)
 |i::rest,a,w,h,Z,hZ,b,k,cs,hb,hk=>by
  unfold wpOps at h;cases ho:ops[i]? with
  |none=>rw[ho]at h;exact h.elim
  |some o=>
   rw[ho]at h;simp only at h;cases hw:Region.wanted o (yielded ops a.tmps)with
   |false=>
    rw[hw]at h;exact(Ctx.cl Z hZ).ctl rfl rfl (fun w=>stepG_unwanted ho hw) (wp_ops rest _ _ h Z hZ b k cs hb hk)
   |true=>
    rw[hw,if_pos rfl]at h;have H9:∀v,(b.at a (.inRegion ops (i::rest)::k)).finish v=b.at (a.put o.dst v) (.inRegion ops rest::k):=by
     intro v;rw[Frame.finish_at,ho];rfl
    have Iz0:(b.kind==CallKind.early)=false:=by simpa using hb
    refine(Ctx.cl Z hZ).own _ _ rfl fun τ d=>?_;obtain⟨r,w',hr,hK⟩:=h τ d;have fol:∀g',g'.status= .running->(∀x x' es,(execOp a.eval o).runT P x #[]=(r.res x',es)->stepG P (Ctx.main P) (G (b.at a (.inRegion ops (i::rest)::k)) cs) x= .go g' x' (seen P b.fn es))->l6 P (Ctx.main P) (G (b.at a (.inRegion ops (i::rest)::k)) cs) (P2 w τ d) g' w':=by
     intro g' Y8 hs;refine⟨Y8,fun ρ x hx=>?_⟩;obtain⟨h1,x',es,h2,h3,h4⟩:=hr ρ x hx;exact⟨h1,x',_,hs x x' es h2,h3,fun e he=>h4 e (mem_seen he)⟩
    have split:∀x x' es,(execOp a.eval o).runT P x #[]=(r.res x',es)->(execOp a.eval o).run P x=r.res x'/\(execOp a.eval o).events P x #[]=es:=fun x x' es h=>by
     rw[Sem.runT_eq]at h;exact Prod.mk.inj h
    cases r with
    |val v=>
     refine⟨G (b.at (a.put o.dst v) (.inRegion ops rest::k)) cs,w',w.drawn,fol _ rfl fun x x' es h=>?_,wp_ops rest _ _ hK Z hZ b k cs hb hk⟩;obtain⟨h1,h2⟩:=split x x' es h;rw[stepG_value ho hw hb h1,listed,h2]
    |skip=>
     refine⟨G (b.at (a.put o.dst undef) (.inRegion ops rest::k)) cs,w',w.drawn,fol _ rfl fun x x' es h=>?_,wp_ops rest _ _ hK Z hZ b k cs hb hk⟩;obtain⟨h1,h2⟩:=split x x' es h;rw[stepG_none ho hw hb h1,listed,h2]
    |enter f args=>
     refine⟨G (Frame.enter P f args .normal) (b.at a (.inRegion ops (i::rest)::k)::cs),w',w.drawn,fol _ rfl fun x x' es h=>?_,hK Z hZ _ fun e w'' fr he hf hl=>?_⟩
     ·obtain⟨h1,h2⟩:=split x x' es h;rw[stepG_enter ho hw hb h1,listed,h2]
     ·cases e with
      |returned v=>
       refine U640 ?_;exact wp_ops rest _ _ he Z hZ b k cs hb hk
      |panicked chain=>
       refine U624 ?_;exact hk _ _ _ he _
      |outgrown=>exact he.elim
    |panic v=>
     refine⟨G {b.at a (.inRegion ops (i::rest)::k)with mode:=.panicking [{v,recovered:=false}]} cs,w',w.drawn,fol _ rfl fun x x' es h=>?_,hk _ _ _ hK _⟩;obtain⟨h1,h2⟩:=split x x' es h;have h1':(execOp a.eval o).run P x= .halt (.panic v) x':=h1;rw[stepG_oper ho hw];simp[stepG.apply,h1',h2,G,Frame.at,Iz0,GStep.after,Frame.raise]
theorem wp_mono {c:Code} (h:cwp P c Q a w) (hq:∀e a w,Q e a w->Q' e a w):cwp P c Q' a w:=fun Z hZ b k cs hb hk=>h Z hZ b k cs hb fun e a' w' he=>hk e a' w' (hq e a' w' he)
theorem wp_skip (h:Q .normal a w):cwp P .skip Q a w:=fun Z hZ _b _k _cs _hb hk=>(Ctx.cl Z hZ).ctl rfl rfl (fun _=>stepG_skip) (hk _ _ _ h)
theorem wp_exit {id:Nat} (h:Q (.exit id) a w):cwp P (.exit id) Q a w:=fun Z hZ b k cs hb hk=>by
 obtain⟨k',h1,h2⟩:=hk _ _ _ h;exact(Ctx.cl Z hZ).ctl rfl rfl (fun _=>stepG_exit h1) h2
theorem wp_ret (h:Q .ret a w):cwp P .ret Q a w:=fun Z hZ _b _k _cs _hb hk=>(Ctx.cl Z hZ).ctl rfl rfl (fun _=>stepG_ret') (hk _ _ _ h _)
theorem wp_seq {x y:Code} (h:cwp P x (Exit.then (cwp P y Q) Q) a w):cwp P (.seq x y) Q a w:=by
 intro Z hZ b k cs hb hk;refine(Ctx.cl Z hZ).ctl rfl rfl (fun _=>stepG_seq) (h Z hZ b (.code y::k) cs hb fun e a' w' he=>?_);cases e with
 |normal=>exact he Z hZ b k cs hb hk
 |exit id=>exact(hk _ _ _ he).push rfl (by simp)
 |goto l=>exact(hk _ _ _ he).push rfl (by simp)
 |ret=>exact(hk _ _ _ he).push rfl (by simp)
 |panic ch=>exact(hk _ _ _ he).push rfl (by simp)
 |outgrown=>exact(hk _ _ _ he).push rfl (by simp)
theorem wp_cond {c:Operand} {x y:Code} {t:Bool} (hc:a.eval c= .bool t) (h:cwp P (if t then x else y) Q a w):cwp P (.cond c x y) Q a w :=
 fun Z hZ b k cs hb hk=>(Ctx.cl Z hZ).ctl rfl rfl (fun _=>stepG_cond hc) (h Z hZ b k cs hb hk)
theorem wp_cond_true {c:Operand} {x y:Code} (hc:a.eval c= .bool true) (h:cwp P x Q a w):cwp P (.cond c x y) Q a w:=wp_cond hc h
theorem wp_cond_false {c:Operand} {x y:Code} (hc:a.eval c= .bool false) (h:cwp P y Q a w):cwp P (.cond c x y) Q a w:=wp_cond hc h
theorem wp_block {id:Nat} {c:Code} (h:cwp P c (Exit.inBlock id Q) a w):cwp P (.block id c) Q a w:=by
 intro Z hZ b k cs hb hk;refine(Ctx.cl Z hZ).ctl rfl rfl (fun _=>stepG_block) (h Z hZ b (.inBlock id::k) cs hb fun e a' w' he=>?_);cases e with
 |normal=>exact(Ctx.cl Z hZ).ctl rfl rfl (fun _=>stepG_inBlock) (hk _ _ _ he)
 |exit id'=>
  by_cases w5:id'=id
  ·simp only[Exit.inBlock,w5,if_true]at he;exact⟨k,by simp[exitTo,w5],hk _ _ _ he⟩
  ·simp only[Exit.inBlock,w5,if_false]at he;obtain⟨k',h1,h2⟩:=hk _ _ _ he;have:(id==id')=false:=by simp;exact fun h=>w5 h.symm
   exact⟨k',by simp[exitTo,this,h1],h2⟩
 |goto l=>
  obtain⟨k',h1,h2⟩:=hk _ _ _ he;exact⟨k',by simp[gotoIn,h1],h2⟩
 |ret=>exact hk _ _ _ he
 |panic ch=>exact hk _ _ _ he
 |outgrown=>exact hk _ _ _ he
theorem wp_loop_ghost {c:Code} (I:Nat->Act->World->Prop) (k₀:Nat) (h₀:I k₀ a w) (round:∀n a w,I n a w->cwp P c (Exit.then (fun a' w'=>∃n',n'<n/\I n' a' w') Q) a w):cwp P (.loop c) Q a w:=by
 intro Z hZ b k cs hb hk;have key:∀n a w,I n a w->Z (G (b.at a (.code c :: .inLoop c::k)) cs) w:=by
  intro n
  induction n using Nat.strongRecOn with
  |_ n ih=>
   intro a w hI;refine round n a w hI Z hZ b (.inLoop c::k) cs hb fun e a' w' he=>?_;cases e with
   |normal=>
    obtain⟨n',hn,hI'⟩:=he;exact(Ctx.cl Z hZ).ctl rfl rfl (fun _=>stepG_inLoop) (ih n' hn a' w' hI')
   |exit id=>exact(hk _ _ _ he).push rfl (by simp)
   |goto l=>exact(hk _ _ _ he).push rfl (by simp)
   |ret=>exact(hk _ _ _ he).push rfl (by simp)
   |panic ch=>exact(hk _ _ _ he).push rfl (by simp)
   |outgrown=>exact(hk _ _ _ he).push rfl (by simp)
 exact(Ctx.cl Z hZ).ctl rfl rfl (fun _=>stepG_loop) (key k₀ a w h₀)
theorem mu0 (pre:List Oper):∀(l:List Oper) (a:Act) (w:World),wpList P (pre++l).toArray Q l a w->wpOps P (pre++l).toArray Q ((List.range l.length).map (pre.length + ·)) a w
 | [],_,_,h=>h
 |o::l,a,w,h=>by
  have h0:(pre++o::l).toArray[pre.length]? =some o:=by simp
  have e:(List.range (o::l).length).map (pre.length + ·)=pre.length::(List.range l.length).map ((pre ++ [o]).length + ·):=by
   simp[List.range_succ_eq_map,List.map_map];intro x _;omega
  rw[e];unfold wpOps;rw[h0];simp only;unfold wpList at h;have key:∀a w,wpList P (pre++o::l).toArray Q l a w->wpOps P (pre++o::l).toArray Q ((List.range l.length).map ((pre ++ [o]).length + ·)) a w:=fun a w hh=>by
   have:=mu0 (pre ++ [o]) l a w;rw[List.append_assoc]at this;exact this hh
  split
  ·rename_i hw;rw[if_pos hw]at h;exact fm0 key (fun _ _ _ z=>z) h
  ·rename_i hw;rw[if_neg hw]at h;exact key _ _ h
theorem wp_region_lit {id:Nat} {l:List Oper} (h:wpList P l.toArray Q l a w):cwp P (.region id l.toArray false) Q a w:=by
 intro Z hZ b k cs hb hk;refine(Ctx.cl Z hZ).ctl rfl rfl (fun _=>stepG_region) (wp_ops _ _ _ ?_ Z hZ b k cs hb hk);have:=mu0 (P:=P) (Q:=Q) [] l a w;simp only[List.nil_append,List.length_nil,Nat.zero_add,List.map_id']at this;simpa using this h
theorem wp_region_draw {id:Nat} (h:∀t,wpOps P ops Q (Region.schedule (P.follows .mixedOrders) ops t) a {w with drawn:=w.drawn+1}):cwp P (.region id ops true) Q a w:=by
 intro Z hZ b k cs hb hk;refine(Ctx.cl Z hZ).own _ _ rfl fun τ d=>?_;refine⟨G (b.at a (.inRegion ops (Region.schedule (P.follows .mixedOrders) ops (τ d (.order b.fn id)))::k)) cs,{P2 w τ d with drawn:=d+1},w.drawn+1,⟨rfl,fun ρ x hx=>⟨⟨Nat.le_refl _,fun _ o ho=>⟨o,ho,A4.refl o⟩⟩,{x with drawn:=x.drawn+1},#[],?_,?_,fun e he=>by simp at he⟩⟩,wp_ops _ _ _ (h _) Z hZ b k cs hb hk⟩
 ·rw[stepG_region_draw,hx.tape,hx.drawn];rfl
 ·exact⟨hx.os,hx.output,hx.tape,by show x.drawn+1=d+1;rw[hx.drawn];rfl,hx.size,hx.obj,hx.new,hx.P7⟩
def bodyPost (P:Program) [Ctx P] (fn:Func) (R:Ending->World->Prop):Exit->Act->World->Prop
 | .normal,a,w| .ret,a,w=>a.defers=[]/\∃v,bj0 P fn a.tmps w v/\R (.returned v) w
 | .panic chain,a,w=>a.defers=[]/\R (.panicked chain) w
 |_,_,_=>False
theorem calls_of_wp {f:FuncId} {fn:Func} {c:Code} {args:Array Value} {R:Ending->World->Prop} (hf:P.funcs[f]? =some fn) (hb:fn.body=some c)
  (h:cwp P c (bodyPost P fn R) {tmps:=args++Array.replicate (fn.ntmps-args.size) undef,defers:=[]} w):Calls P f args w R:=by
 intro Z hZ cs hk;rw[enter_at args hf hb];refine h Z hZ (base f) [] cs (by simp[base]) fun e a' w' he=>?_;have db1:∀a' w' todo,(a'.defers=[]/\∃v,bj0 P fn a'.tmps w' v/\R (.returned v) w')->Z (G {(base f).at a' todo with mode:=.returning} cs) w':=fun a' w' todo ⟨hd,v,hr,hR⟩=>
  hk _ _ _ hR rfl ⟨rfl,hd,rfl,fn,hf,hr⟩
 cases e with
 |normal=>exact(Ctx.cl Z hZ).ctl rfl rfl (fun _=>stepG_end) (db1 a' w' [] he)
 |ret=>exact fun todo=>db1 a' w' todo he
 |panic chain=>exact fun todo=>hk _ _ _ he.2 rfl ⟨rfl,he.1,by simp[Frame.catches,Frame.at,base,hf]⟩
 |exit id=>exact he.elim
 |goto l=>exact he.elim
 |outgrown=>exact he.elim
end
end Go.Vy
end
section
namespace Go.Yc
open Go
section
theorem G1 {α:Type} {P:Program} (a:α):E1 P (pure a:Sem α):=trivial
theorem I1 {α β:Type} {P:Program} {s:Sem α} {f:α->Sem β} (h:E1 P s) (hf:∀a,E1 P (f a)):E1 P (s >>=f):=W6 hf h
theorem Ux0 {α β:Type} {P:Program} {s:Sem α} {f:α->β} (h:E1 P s):E1 P (f <$> s):=W6 (f:=fun a=>pure (f a)) (fun _=>trivial) h
theorem L4 {α:Type} {P:Program} (h:Halt):E1 P (.halt h:Sem α):=trivial
theorem Ab0 {P:Program} (a:Addr) (m:Mode):E1 P (load a m):=fun _=>trivial
theorem Dp0 {P:Program} (a:Addr) (v:Value) (m:Mode):E1 P (store a v m):=trivial
theorem Uy0 {P:Program} {o:Obj} (h:K4 o=false):E1 P (newObj o):=⟨h,fun _=>trivial⟩
theorem il0 {P:Program} (q:Question):E1 P (choose q):=fun _=>trivial
theorem fn0 {P:Program}:E1 P program:=trivial
theorem tv0 {P:Program} (r:Nat):E1 P (getObj r):=fun _=>trivial
theorem mg0 {α:Type} {P:Program} (s:String):E1 P (stuck s:Sem α):=trivial
theorem u6 {α:Type} {P:Program} (s:Unsupported):E1 P (unsupported s:Sem α):=trivial
theorem pu0 {P:Program} (n:Nat):E1 P (askRoom n):=by
 unfold askRoom;split
 ·show(if zk0 Mark.noRoom=true then E1 P (Sem.pure ()) else dead P (Sem.pure ()));exact trivial
 ·trivial
theorem Ja0 {α β:Type} {P:Program} {f:α->Sem β} (hf:∀a,E1 P (f a)):∀(l:List α),E1 P (l.mapM f)
 | []=>by rw[List.mapM_nil];trivial
 |x::l=>by
  rw[List.mapM_cons];exact I1 (hf x) fun _=>I1 (Ja0 hf l) fun _=>trivial
theorem L2 {α β:Type} {P:Program} {f:α->Sem β} (hf:∀a,E1 P (f a)) (l:Array α):E1 P (l.mapM f):=by
 rw[Array.mapM_eq_mapM_toList];exact Ux0 (Ja0 hf _)
attribute [local irreducible] E1 dead
theorem ar0 {P:Program} (t:TypeId):E1 P (typeInfo t):=by
 unfold typeInfo
 repeat' (first|exact G1 _|exact L4 _|exact fn0|(refine I1 ?_ (fun _=>?_))|(refine L2 (fun _=>?_) _)|split|(dsimp only))
theorem W2 {P:Program} (t:TypeId):E1 P (underlying t):=by
 unfold underlying
 repeat' (first|exact G1 _|exact L4 _|exact fn0|(refine I1 ?_ (fun _=>?_))|(refine L2 (fun _=>?_) _)|split|(dsimp only))
theorem I9 {P:Program} (t:TypeId):E1 P (zeroValue t):=by
 unfold zeroValue
 repeat' (first|exact G1 _|exact L4 _|exact ar0 _|(refine I1 ?_ (fun _=>?_))|(refine L2 (fun _=>?_) _)|split|(dsimp only))
theorem C6 {P:Program} (t:TypeId):E1 P (sizeOf t):=by
 unfold sizeOf
 repeat' (first|exact G1 _|exact ar0 _|(refine I1 ?_ (fun _=>?_))|(refine L2 (fun _=>?_) _)|split|(dsimp only))
theorem ri0 {P:Program} (t:TypeId):E1 P (isAgg t):=by
 unfold isAgg
 repeat' (first|exact G1 _|exact W2 _|(refine I1 ?_ (fun _=>?_))|(refine L2 (fun _=>?_) _)|split|(dsimp only))
theorem ec0 {P:Program} (a:Addr):∀(n i:Nat) (acc:Array Value),E1 P (loadCellsFrom a i n acc)
 |0,_,_=>by unfold loadCellsFrom;exact G1 _
 |n+1,i,acc=>by
  unfold loadCellsFrom;exact I1 (Ab0 _ _) fun _=>ec0 a n _ _
theorem la0 {P:Program} (a:Addr) (n:Nat):E1 P (loadCells a n):=by
 unfold loadCells
 repeat' (first|exact ec0 _ _ _ _|(refine I1 ?_ (fun _=>?_))|(refine L2 (fun _=>?_) _)|split|(dsimp only))
theorem ah0 {P:Program} (a:Addr):∀(vs:List Value) (i:Nat),E1 P (storeCells a vs i)
 | [],_=>by unfold storeCells;exact G1 _
 |v::vs,i=>by
  unfold storeCells;exact I1 (Dp0 _ _ _) fun _=>ah0 a vs _
theorem pv0 {P:Program} (t:TypeId) (a:Addr):E1 P (loadVar t a):=by
 unfold loadVar
 repeat' (first|exact G1 _|exact la0 _ _|exact ri0 _|exact C6 _|exact Ab0 _ _|(refine I1 ?_ (fun _=>?_))|(refine L2 (fun _=>?_) _)|split|(dsimp only))
theorem mv0 {P:Program} (t:TypeId) (a:Addr) (v:Value):E1 P (storeVar t a v):=by
 unfold storeVar
 repeat' (first|exact L4 _|exact ah0 _ _ _|exact C6 _|(refine I1 ?_ (fun _=>?_))|(refine L2 (fun _=>?_) _)|split|(dsimp only))
theorem im0 {P:Program} (t:TypeId) (c:Array Value):E1 P (newRow t c):=by
 unfold newRow
 repeat' (first|exact G1 _|exact Uy0 rfl|(refine I1 ?_ (fun _=>?_))|(refine L2 (fun _=>?_) _)|split|(dsimp only))
theorem mw0 {P:Program} (t:TypeId) (v:Value):E1 P (newVar t v):=by
 unfold newVar
 repeat' (first|exact im0 _ _|(refine I1 ?_ (fun _=>?_))|(refine L2 (fun _=>?_) _)|split|(dsimp only))
theorem Jb0 {P:Program} (t:TypeId):E1 P (elemOf t):=by
 unfold elemOf
 repeat' (first|exact G1 _|exact L4 _|exact W2 _|(refine I1 ?_ (fun _=>?_))|(refine L2 (fun _=>?_) _)|split|(dsimp only))
theorem Ac0 {P:Program} (t:TypeId) (c:Array Value) (o:Nat):E1 P (part t c o):=by
 unfold part
 repeat' (first|exact G1 _|exact L4 _|exact ri0 _|exact C6 _|(refine I1 ?_ (fun _=>?_))|(refine L2 (fun _=>?_) _)|split|(dsimp only))
theorem P5 {α:Type} {P:Program} (e:RuntimeError):E1 P (runtimePanic e:Sem α):=by
 unfold runtimePanic
 repeat' (first|exact L4 _|exact Jb0 _|exact mw0 _ _|exact fn0|(refine I1 ?_ (fun _=>?_))|(refine L2 (fun _=>?_) _)|split|(dsimp only))
theorem gh0 {α:Type} {P:Program} (k:IntKind) (x y:Int) (c:BoundsCode):E1 P (boundsPanic k x y c:Sem α):=by
 unfold boundsPanic
 repeat' (first|exact G1 _|exact Ux0 (il0 _)|exact P5 _|exact il0 _|(refine I1 ?_ (fun _=>?_))|(refine L2 (fun _=>?_) _)|split|(dsimp only))
theorem kg0 {P:Program} (v:Value):E1 P (asIntOf v):=by
 unfold asIntOf
 repeat' (first|exact G1 _|exact L4 _|(refine I1 ?_ (fun _=>?_))|(refine L2 (fun _=>?_) _)|split|(dsimp only))
theorem rj0 {P:Program} (v:Value):E1 P (asInt v):=by
 unfold asInt
 repeat' (first|exact G1 _|exact kg0 _|(refine I1 ?_ (fun _=>?_))|(refine L2 (fun _=>?_) _)|split|(dsimp only))
theorem Jc0 {P:Program} (v:Value):E1 P (asBool v):=by
 unfold asBool
 repeat' (first|exact G1 _|exact L4 _|(refine I1 ?_ (fun _=>?_))|(refine L2 (fun _=>?_) _)|split|(dsimp only))
theorem Qi0 {P:Program} (v:Value):E1 P (asAgg v):=by
 unfold asAgg
 repeat' (first|exact G1 _|exact L4 _|(refine I1 ?_ (fun _=>?_))|(refine L2 (fun _=>?_) _)|split|(dsimp only))
theorem in0 {P:Program} (v:Value):E1 P (asAddr v):=by
 unfold asAddr
 repeat' (first|exact G1 _|exact L4 _|exact P5 _|(refine I1 ?_ (fun _=>?_))|(refine L2 (fun _=>?_) _)|split|(dsimp only))
theorem Qj0 {P:Program} (t:TypeId) (h:Bool) (o:Value):E1 P (Instr.alloc t h o):=by
 unfold Instr.alloc
 repeat' (first|exact G1 _|exact mw0 _ _|exact mv0 _ _ _|exact I9 _|(refine I1 ?_ (fun _=>?_))|(refine L2 (fun _=>?_) _)|split|(dsimp only))
theorem dd1 {P:Program} (t:TypeId) (v:Value):E1 P (Instr.box t v):=by
 unfold Instr.box
 repeat' (first|exact G1 _|exact mw0 _ _|(refine I1 ?_ (fun _=>?_))|(refine L2 (fun _=>?_) _)|split|(dsimp only))
theorem Qk0 {P:Program} (t:TypeId) (p:Array (Nat×Value)):E1 P (Instr.build t p):=by
 unfold Instr.build
 repeat' (first|exact G1 _|exact L4 _|exact C6 _|exact I9 _|exact W2 _|(refine I1 ?_ (fun _=>?_))|(refine L2 (fun _=>?_) _)|split|(dsimp only))
theorem rk0 {P:Program} (t:TypeId) (n:Nat) (p:Array (Nat×Value)):E1 P (Instr.buildSlice t n p):=by
 unfold Instr.buildSlice
 repeat' (first|exact G1 _|exact L4 _|exact im0 _ _|exact C6 _|exact I9 _|exact W2 _|(refine I1 ?_ (fun _=>?_))|(refine L2 (fun _=>?_) _)|split|(dsimp only))
theorem as0 {P:Program} (v:Value):E1 P (Instr.sureAddr v):=by
 unfold Instr.sureAddr
 repeat' (first|exact G1 _|exact L4 _|(refine I1 ?_ (fun _=>?_))|(refine L2 (fun _=>?_) _)|split|(dsimp only))
theorem Jd0 {P:Program} (t:TypeId) (v:Value):E1 P (Instr.loadAt t v):=by
 unfold Instr.loadAt
 repeat' (first|exact as0 _|exact pv0 _ _|(refine I1 ?_ (fun _=>?_))|(refine L2 (fun _=>?_) _)|split|(dsimp only))
theorem Gc0 {P:Program} (t:TypeId) (v x:Value):E1 P (Instr.storeAt t v x):=by
 unfold Instr.storeAt
 repeat' (first|exact as0 _|exact mv0 _ _ _|(refine I1 ?_ (fun _=>?_))|(refine L2 (fun _=>?_) _)|split|(dsimp only))
theorem Gd0 {P:Program} (t:TypeId) (v x:Value):E1 P (Instr.indexAt t v x):=by
 unfold Instr.indexAt
 repeat' (first|exact G1 _|exact L4 _|exact as0 _|exact kg0 _|exact gh0 _ _ _ _|exact C6 _|exact W2 _|(refine I1 ?_ (fun _=>?_))|(refine L2 (fun _=>?_) _)|split|(dsimp only))
theorem Ge0 {P:Program} (v:Value) (n:Nat):E1 P (Instr.extract v n):=by
 unfold Instr.extract
 repeat' (first|exact G1 _|exact L4 _|(refine I1 ?_ (fun _=>?_))|(refine L2 (fun _=>?_) _)|split|(dsimp only))
theorem Ql0 {P:Program} (t:TypeId) (v:Value) (n:Nat):E1 P (Instr.field t v n):=by
 unfold Instr.field
 repeat' (first|exact L4 _|exact Qi0 _|exact Ac0 _ _ _|exact W2 _|(refine I1 ?_ (fun _=>?_))|(refine L2 (fun _=>?_) _)|split|(dsimp only))
theorem ly0 {P:Program} (t:TypeId) (v:Value):E1 P (Instr.makeInterface t v):=by
 unfold Instr.makeInterface
 repeat' (first|exact G1 _|exact L4 _|exact W2 _|(refine I1 ?_ (fun _=>?_))|(refine L2 (fun _=>?_) _)|split|(dsimp only))
theorem tw0 {P:Program} (t:TypeId) (a b:Value):E1 P (Instr.makeSlice t a b):=by
 unfold Instr.makeSlice
 repeat' (first|exact G1 _|exact L4 _|exact rj0 _|exact P5 _|exact im0 _ _|exact C6 _|exact I9 _|exact W2 _|exact ar0 _|exact pu0 _|exact il0 _|(refine I1 ?_ (fun _=>?_))|(refine L2 (fun _=>?_) _)|split|(dsimp only))
theorem Ad0 {P:Program} (t:TypeId) (a:Value):E1 P (Instr.makeChan t a):=by
 unfold Instr.makeChan
 repeat' (first|exact G1 _|exact L4 _|exact rj0 _|exact P5 _|exact W2 _|exact ar0 _|exact Uy0 rfl|(refine I1 ?_ (fun _=>?_))|(refine L2 (fun _=>?_) _)|split|(dsimp only))
theorem rl0 {P:Program} (x:Value) (y:Nat) (c:BoundsCode):E1 P (Instr.sliceBound x y c):=by
 unfold Instr.sliceBound
 repeat' (first|exact G1 _|exact kg0 _|exact gh0 _ _ _ _|(refine I1 ?_ (fun _=>?_))|(refine L2 (fun _=>?_) _)|split|(dsimp only))
theorem gi0 {P:Program} (b:Bool) (l c:Nat) (x y z:Option Value):E1 P (Instr.sliceBounds b l c x y z):=by
 unfold Instr.sliceBounds
 repeat' (first|exact G1 _|exact L4 _|exact rl0 _ _ _|(refine I1 ?_ (fun _=>?_))|(refine L2 (fun _=>?_) _)|split|(dsimp only))
theorem Qm0 {P:Program} (t:TypeId) (v:Value) (x y z:Option Value):E1 P (Instr.slice t v x y z):=by
 unfold Instr.slice
 repeat' (first|exact G1 _|exact L4 _|exact gi0 _ _ _ _ _ _|exact in0 _|exact C6 _|exact W2 _|(refine I1 ?_ (fun _=>?_))|(refine L2 (fun _=>?_) _)|split|(dsimp only))
theorem Gf0 {P:Program} (t:TypeId) (v:Value) (x y z:Option Value):E1 P (Instr.sliceAt t v x y z):=by
 unfold Instr.sliceAt
 repeat' (first|exact G1 _|exact Qm0 _ _ _ _ _|exact gi0 _ _ _ _ _ _|exact as0 _|exact C6 _|exact W2 _|(refine I1 ?_ (fun _=>?_))|(refine L2 (fun _=>?_) _)|split|(dsimp only))
theorem Qn0 {P:Program} (o:UnOp) (x:Value):E1 P (Op.unary o x):=by
 unfold Op.unary
 repeat' (first|exact G1 _|exact L4 _|(refine I1 ?_ (fun _=>?_))|(refine L2 (fun _=>?_) _)|split|(dsimp only))
theorem Dq0 {P:Program} (x:Value):E1 P (Builtin.lenOf x):=by
 unfold Builtin.lenOf
 repeat' (first|exact G1 _|exact L4 _|(refine I1 ?_ (fun _=>?_))|(refine L2 (fun _=>?_) _)|split|(dsimp only))
theorem io0 {P:Program} (s n:Nat) (x:Value):E1 P (Builtin.firstCells s n x):=by
 unfold Builtin.firstCells
 repeat' (first|exact G1 _|exact L4 _|exact la0 _ _|(refine I1 ?_ (fun _=>?_))|(refine L2 (fun _=>?_) _)|split|(dsimp only))
theorem de1 {P:Program} (a:Array TypeId) (t:TypeId) (x:Array Value):E1 P (Builtin.len_ a t x):=by
 unfold Builtin.len_
 repeat' (first|exact G1 _|exact L4 _|exact W2 _|exact tv0 _|(refine I1 ?_ (fun _=>?_))|(refine L2 (fun _=>?_) _)|split|(dsimp only))
theorem df1 {P:Program} (a:Array TypeId) (t:TypeId) (x:Array Value):E1 P (Builtin.cap_ a t x):=by
 unfold Builtin.cap_
 repeat' (first|exact G1 _|exact L4 _|exact W2 _|exact tv0 _|(refine I1 ?_ (fun _=>?_))|(refine L2 (fun _=>?_) _)|split|(dsimp only))
theorem Xh0 {P:Program} (a:Array TypeId) (t:TypeId) (x:Array Value):E1 P (Builtin.copy_ a t x):=by
 unfold Builtin.copy_
 repeat' (first|exact G1 _|exact L4 _|exact io0 _ _ _|exact Dq0 _|exact ah0 _ _ _|exact C6 _|exact W2 _|(refine I1 ?_ (fun _=>?_))|(refine L2 (fun _=>?_) _)|split|(dsimp only))
end
end Go.Yc
end
