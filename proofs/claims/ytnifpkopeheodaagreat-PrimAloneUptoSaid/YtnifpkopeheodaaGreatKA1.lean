/- What the claim leans on, part 1. Laws. -/
import Derived.Conc.TokenTrace
import GoSem.Claim
import Derived.Below
import Derived.Conc.Token
import Derived.Conc.Listed
import Derived.Orders
import Derived.Deep.LoopGhost
import Derived.Conc.CompanyDraw
import GoSem.Dispatch
import Derived.WalkKit
set_option linter.unusedVariables false
namespace Go
structure B(Q:Prop):Prop where
  v:Q
section
variable{P Q:Prop}
theorem U286(h:P:=by refine T.nrm ?_;exact⟨_,by omega,⟨i+1,rfl,rfl,rfl,rfl,rfl,(by omega),hY,C3,(by rw[eh];exact hH),(by rw[er];exact hR),hb⟩⟩):P:=h
theorem U29(h:P:=by refine AtR.leaveD (j0 _) rfl Tryz.func68 rfl hcm ?_;exact QuitsD.mono hT (by omega)):P:=h
theorem U328(h:P:=by refine T.nrm ?_;exact⟨_,by omega,⟨i+1,a2,q+1,cp2,rfl,rfl,rfl,rfl,rfl,rfl,rfl,(by omega),(by rw[hrl,List.length_append,hq];rfl),(by rw[hrl,List.map_append];simpa [Fx0,hc]using hO2),hb⟩⟩):P:=h
theorem U334(h:P:=by rw[Hs0 h8 hP];exact⟨hp,m7.mem.set hp (sa:=sa) (by decide) (by decide) (Y0 o) (z9.of G3) (.inl rfl) (by unfold Z6;simp only[in0];exact hB) rfl fun _ _ _ _ _ _ h=>Bb0 h⟩):P:=h
theorem U335(h:P:=by rw[Ht0 h8 hP];exact⟨hp,m7.mem.set hp (sa:=sa) (by decide) (by decide) (Y0 o) (z9.of G3) (.inl rfl) (by unfold Z6;simp only[in0];exact hB) rfl fun _ _ _ _ _ _ h=>Bb0 h⟩):P:=h
theorem U336(h:P:=by rw[hm.hit j p t hp hd (P7 j hj)];exact(tl0 e0 ops.toList vals t j p (by rw[hlz];exact hp) hd (fun i' p' hp' I5=>h.one i' j p' p t (by rw[<- hlz];exact hp') hp I5 hd) _ hj).symm):P:=h
theorem U151(h:P:=by refine U62 ?_;exact⟨rfl,u0,F',h',r',⟨hK,I8⟩,hC0,hCn,G3,ht⟩):P:=h
theorem U153(h:P:=by refine AtR.Fh0 B2 rfl Tryz.func70 rfl ?_;exact Qh0 hK):P:=h
theorem U369(h:P:=by refine T.nrm ?_;exact⟨_,by omega,⟨i+1,a,q,cp,rfl,rfl,rfl,rfl,rfl,rfl,rfl,(by omega),(by rw[hrl];exact hq),(by rw[hrl];exact hO),hb⟩⟩):P:=h
theorem U68(h:P:=by refine U62 ?_;exact⟨rfl,aw0⟩):P:=h
theorem U415(h:P:=by refine ZA.done hZ ?_;exact ZA.leaves (fn:=Tryz.f83) (f:=83) rfl func83 rfl (fun fr h8 h9=>hK _ fr h2 h8 h9)):P:=h
theorem U426(h:P:=by refine U358 ?_;exact U286):P:=h
theorem U459(h:P:=by have hZ':Ctx.Zs prog (Fin prog Post {X' with pend:=0,cap:=0,dn:=0} 0):=A4;refine ZA.back (av0 prog Post {X' with pend:=0,cap:=0,dn:=0} 0) (i:=1) rfl rfl ha h9 ?_;exact Lj0 hE hT hJ' (by rw[<- O8];rfl) rfl):P:=h
theorem U253(h:P:=by refine U137 ?_;exact U426):P:=h
theorem U463(h:P:=by rw[if_neg (by omega),if_neg (by omega)];exact h1.new b (by show u.heap.size <=b;omega)):P:=h
theorem U174(h:P:=by refine U95 ?_;exact⟨rfl,hC,G3⟩):P:=h
theorem U490(h:P:=by rw[<- hv];exact next w (hl (fun j=>listed.getD j false) w hDi hVD cw0 hJ)):P:=h
theorem U96(h:P:=by refine U7 ?_;refine U58 ?_;exact⟨_,rfl,by simp only[decide_eq_true_eq];unfold POk;omega,hb⟩):P:=h
theorem U176(h:P:=by refine U34 ?_;exact⟨rfl,hb⟩):P:=h
theorem U523(h:P:=by refine AtR.Fh0 S0 rfl Tryz.func66 rfl ?_;exact Fi0 hK):P:=h
theorem U179(h:P:=by refine U24 ?_;exact⟨s1,r1,m7,p8,hl1,rfl⟩):P:=h
theorem U180(h:P:=by have hH:=I1;exact U253):P:=h
theorem U275(h:P:=by refine U95 ?_;exact⟨rfl,hB1,hg⟩):P:=h
variable(k:Q)
include k
theorem U3(h:Q->P:=by intro O;refine W.seq ?_;exact W.region rfl O):P:=h k
theorem U0(h:Q->P:=by intro O;refine L.nil ?_;show W _ _ _ _ _ _;exact O):P:=h k
theorem U7(h:Q->P:=by intro O;refine L.va (vf0 rfl) ?_;exact U0 O):P:=h k
theorem U193(h:Q->P:=by intro O;refine G0.off (j0 _) rfl rfl ?_;exact G0.off (j0 _) rfl rfl O):P:=h k
theorem U110(h:Q->P:=by intro O;refine T.nrm ?_;show ZA _ _ _ _ _ _ _;exact O):P:=h k
theorem U111(h:Q->P:=by intro O;refine At.seq (j0 _) ?_;exact At.region (j0 _) O):P:=h k
theorem U112(h:Q->P:=by intro O;(repeat(first|refine T.nrm ?_|refine B.nrm ?_|refine N.nrm ?_));exact ends.none (.inl rfl) rfl O):P:=h k
theorem U80(h:Q->P:=by intro O;refine ZA.W hZ hb ?_;exact W.region rfl O):P:=h k
theorem U277(h:Q->P:=by intro O;refine U193 ?_;exact G0.val (j0 _) (W0 _) rfl (v:=.bool false) (bo0 rfl rfl) O):P:=h k
theorem U13(h:Q->P:=by intro O;refine L.va (fv0 rfl) ?_;exact U0 O):P:=h k
theorem U278(h:Q->P:=by intro O;refine F.va rfl rfl (fun w' N2=>(H3 rfl)) ?_;exact F.va rfl rfl (fun w' N2=>(W4 rfl)) O):P:=h k
theorem U56(h:Q->P:=by intro O;refine U3 ?_;exact L.va (K0 rfl underlying52 rfl sz3 (by decide)) O):P:=h k
theorem U1(h:Q->P:=by intro O;refine L.nil ?_;exact U110 O):P:=h k
theorem U14(h:Q->P:=by intro O;refine L.va (H3 rfl) ?_;exact L.va (u1 rfl) O):P:=h k
theorem U279(h:Q->P:=by intro O;refine G0.val (j0 _) (W0 _) rfl (v:=.bool false) (k7 (r:=false) rfl rfl (by decide)) ?_;exact G0.val (j0 _) (W0 _) rfl (v:=.bool false) (I0 rfl) O):P:=h k
theorem U280(h:Q->P:=by intro O;refine D.va (fun w' N2=>(F0 rfl underlying91 rfl ((hA.A0 N2).E0 0 (v:=.p c.cb) rfl))) ?_;exact D.va (fun w' N2=>(u1 rfl)) O):P:=h k
theorem U281(h:Q->P:=by intro O;refine G0.nil (j0 _) ?_;exact At.Q5 (j0 _) rfl O):P:=h k
theorem U282(h:Q->P:=by intro O;refine G0.val W1 (W0 _) rfl (v:=.pointer (some ⟨gr.blk,gr.off,none⟩)) (I0 rfl) ?_;exact G0.val W1 (W0 _) rfl (v:=.pointer (some ⟨gr.blk,gr.off,none⟩)) (A3 rfl) O):P:=h k
theorem U2(h:Q->P:=by intro O;refine ZA.seq hZ ?_;exact U80 O):P:=h k
theorem U194(h:Q->P:=by intro O;refine G0.H8 (j0 _) (W0 _) rfl rfl (v:=.bool false) (cl0 (r:=false) rfl rfl (by decide)) ?_;exact G0.val (j0 _) (W0 _) rfl (v:=.bool false) (S7 rfl rfl) O):P:=h k
theorem U283(h:Q->P:=by intro O;refine L.va (K0 rfl underlying30 rfl Fk0 (by decide)) ?_;exact L.va (F0 rfl underlying26 rfl (C3.E0 0 (v:=.slice R.ea R.evs.length R.ec) rfl)) O):P:=h k
theorem U4(h:Q->P:=by intro O;have hb:Below w0.heap.size w0 w0:=Below.refl _ _;refine U3 ?_;revert hb;exact O):P:=h k
theorem U57(h:Q->P:=by intro O;refine At.seq (O0 _ gr 2) ?_;exact At.region (O0 _ gr 2) O):P:=h k
theorem U284(h:Q->P:=by intro O;refine D.va (fun w' N2=>(K0 rfl underlying47 rfl sz3 (by decide))) ?_;exact D.va (fun w' N2=>(F0 rfl underlying3 rfl ((G4.A0 N2).E0 2 (v:=.int .i64 (nu:Nat)) rfl))) O):P:=h k
theorem U113(h:Q->P:=by intro O;refine U3 ?_;exact L.va (K0 rfl underlying47 rfl sz3 (by decide)) O):P:=h k
theorem U28(h:Q->P:=by intro O;refine At.seq (j0 _) ?_;exact U111 O):P:=h k
theorem U285(h:B Q->P:=by intro O;refine L.va (k9 (i:=i) rfl rfl underlying26 Kv0 hY.run.mem.evs.sl (by omega)) ?_;exact L.va (K0 rfl underlying49 rfl P8 (by decide)) O.1):P:=h ⟨k⟩
theorem U195(h:Q->P:=by intro O;refine U7 ?_;exact W.Q5 rfl O):P:=h k
theorem U114(h:Q->P:=by intro O;refine L.va (P1 (cs:=[.int .i64 obj,.int .i64 num]) rfl underlying107 rfl ji0 rfl (hC.z7 rfl)) ?_;exact L.va (H3 rfl) O):P:=h k
theorem U58(h:Q->P:=by intro O;refine W.ret ?_;(repeat(first|refine T.ret ?_|refine B.ret ?_|refine N.ret ?_));exact ends.one (.inr rfl) rfl O):P:=h k
theorem U287(h:Q->P:=by intro O;refine W.skip ?_;show W _ _ _ _ _ _;exact O):P:=h k
theorem U196(h:Q->P:=by intro O;refine U281 ?_;exact At.skip (j0 _) O):P:=h k
theorem U197(h:Q->P:=by intro O;(repeat(first|refine T.exit ?_|refine N.exit ?_|refine B.fg1 (by decide) ?_));exact B.Pr0 O):P:=h k
theorem U288(h:B Q->P:=by intro O;refine G0.val (j0 _) (W0 _) rfl (v:=.int .i32 (((v:Nat):Int))) (Z2 (r:=((v:Nat):Int)) rfl Tryz.underlying136 Tryz.underlying21 (bp0 v (by omega))) ?_;exact G0.val (j0 _) (W0 _) rfl (v:=.int .i32 (((v:Nat):Int))) (P0 rfl) O.1):P:=h ⟨k⟩
theorem U18(h:Q->P:=by intro O;refine L.off rfl ?_;exact L.off rfl O):P:=h k
theorem U289(h:Q->P:=by intro O;refine B.nrm ?_;show W _ _ _ _ _ _;exact O):P:=h k
theorem U81(h:Q->P:=by intro O;refine G0.off (O0 _ gr 2) rfl rfl ?_;exact G0.off (O0 _ gr 2) rfl rfl O):P:=h k
theorem U59(h:Q->P:=by intro O;refine L.va (F0 rfl underlying111 rfl (hM.E0 0 (v:=(.iface 193 (.pointer (some ⟨sb,0,none⟩)))) rfl)) ?_;exact L.va (H3 rfl) O):P:=h k
theorem U115(h:Q->P:=by intro O;refine W.ev0 6 (fun w'=>Below w.heap.size w w') (by kernel_rfl) (by kernel_rfl) (by kernel_rfl) (by kernel_rfl) ((Below.refl w.heap.size w).drew) ?_;exact D.va (fun w' N2=>(K0 rfl underlying47 rfl sz3 (by decide))) O):P:=h k
theorem U6(h:Q->P:=by intro O;refine At.seq W1 ?_;exact At.region W1 O):P:=h k
theorem U82(h:Q->P:=by intro O;refine At.seq (m3 _ gr) ?_;exact At.region (m3 _ gr) O):P:=h k
theorem U116(h:Q->P:=by intro O;refine G0.val (O0 _ gr 2) (W0 _) rfl (v:=.pointer (some ⟨gr.blk,gr.off,none⟩)) (I0 rfl) ?_;exact G0.val (O0 _ gr 2) (W0 _) rfl (v:=.pointer (some ⟨gr.blk,gr.off,none⟩)) (A3 rfl) O):P:=h k
theorem U117(h:Q->P:=by intro O;refine L.va (zw0 rfl) ?_;exact U0 O):P:=h k
theorem U290(h:Q->P:=by intro O;refine G0.val (j0 _) (W0 _) rfl (v:=.int .u32 0) (Z2 (r:=0) rfl Tryz.underlying136 Tryz.underlying139 (by decide)) ?_;exact G0.val (j0 _) (W0 _) rfl (v:=.int .u32 0) (P0 rfl) O):P:=h k
theorem U43(h:Q->P:=by intro O;refine L.va (H3 rfl) ?_;exact L.va (W4 rfl) O):P:=h k
theorem U198(h:Q->P:=by intro O;refine G0.val (m3 _ gr) (W0 _) rfl (v:=.pointer (some ⟨gr.blk,gr.off,none⟩)) (I0 rfl) ?_;exact G0.val (m3 _ gr) (W0 _) rfl (v:=.pointer (some ⟨gr.blk,gr.off,none⟩)) (A3 rfl) O):P:=h k
theorem U21(h:Q->P:=by intro O;refine W.block ?_;exact U3 O):P:=h k
theorem U199(h:Q->P:=by intro O;refine L.va (ai0 rfl) ?_;refine L.on rfl ?_;exact L.va (K0 rfl underlying47 rfl sz3 (by decide)) O):P:=h k
theorem U291(h:Q->P:=by intro O;refine W.Q5 rfl ?_;exact U287 O):P:=h k
theorem U200(h:Q->P:=by intro O;refine At.Q5 (O0 _ gr 2) rfl ?_;exact At.skip (O0 _ gr 2) O):P:=h k
theorem U30(h:Q->P:=by intro O;refine AtR.leave0 (j0 _) E5 rfl Tryz.func66 rfl ?_;exact G0.nil (j0 _) O):P:=h k
theorem U201(h:Q->P:=by intro O;refine At.seq S0 ?_;exact At.region S0 O):P:=h k
theorem U118(h:Q->P:=by intro O;refine D.va (fun w' N2=>(K0 rfl underlying153 rfl Nz0 (by decide))) ?_;exact D.va (fun w' N2=>(F0 rfl underlying150 rfl ((hg.m.run.A0 N2).E0 7 (v:=.chan (some R.yb)) rfl))) O):P:=h k
theorem U60(h:Q->P:=by intro O;refine U57 ?_;exact G0.val (O0 _ gr 2) (W0 _) rfl (v:=.int .u64 (((0*4294967296+1:Nat):Int))) (I0 rfl) O):P:=h k
theorem U292(h:B Q->P:=by intro O;refine L.va (qa0 rfl rfl (by omega)) ?_;exact L.va (W4 rfl) O.1):P:=h ⟨k⟩
theorem U119(h:Q->P:=by intro O;refine G0.H8 (O0 _ gr 2) (W0 _) rfl rfl (v:=.bool false) (cl0 (r:=false) rfl rfl (by decide)) ?_;exact G0.val (O0 _ gr 2) (W0 _) rfl (v:=.bool false) (S7 rfl rfl) O):P:=h k
theorem U5(h:Q->P:=by intro O;refine U195 ?_;exact U3 O):P:=h k
theorem U83(h:Q->P:=by intro O;refine U7 ?_;exact W.P4 rfl O):P:=h k
theorem U44(h:Q->P:=by intro O;refine U14 ?_;exact L.va (K0 rfl underlying149 rfl sz4 (by decide)) O):P:=h k
theorem U120(h:Q->P:=by intro O;refine G0.off S0 rfl rfl ?_;exact G0.off S0 rfl rfl O):P:=h k
theorem U84(h:Q->P:=by intro O;refine L.va (u1 rfl) ?_;exact L.va (K0 rfl underlying149 rfl sz4 (by decide)) O):P:=h k
theorem U121(h:Q->P:=by intro O;refine U282 ?_;exact G0.val W1 (W0 _) rfl (v:=.pointer (some ⟨gr.blk,gr.off,none⟩)) (l3 (s:=1) gr.off gr.off rfl Tryz.underlying138 rfl lq0 (by decide) rfl) O):P:=h k
theorem U122(h:Q->P:=by intro O;refine U282 ?_;exact G0.val W1 (W0 _) rfl (v:=.pointer (some ⟨gr.blk,gr.off,none⟩)) (l3 (s:=1) gr.off gr.off rfl Tryz.underlying141 rfl lr0 (by decide) rfl) O):P:=h k
theorem U293(h:Q->P:=by intro O;refine L.va (F0 rfl underlying193 rfl (g6.E0 0 (v:=.pointer (some ⟨sb,0,none⟩)) rfl)) ?_;exact L.va (u1 rfl) O):P:=h k
theorem U294(h:Q->P:=by intro O;refine L.va (F0 rfl underlying56 rfl (hC.E0 2 (v:=.pointer (some ⟨wb,0,none⟩)) rfl)) ?_;exact L.call (W2 rfl func44 rfl ya0 rfl) (go0 wb w hW) O):P:=h k
theorem U202(h:Q->P:=by intro O;refine G0.val S0 (W0 _) rfl (v:=.bool false) (k7 (r:=false) rfl rfl (by decide)) ?_;exact G0.val S0 (W0 _) rfl (v:=.bool false) (I0 rfl) O):P:=h k
theorem U15(h:Q->P:=by intro O;refine W.seq ?_;exact U3 O):P:=h k
theorem U295(h:Q->P:=by intro O;refine L.va (F0 rfl underlying3 rfl (G4.E0 2 (v:=.int .i64 (nu:Nat)) rfl)) ?_;exact L.va (Z1 (i:=nu) (n:=2) rfl rfl underlying36 sz3 hnu) O):P:=h k
theorem U123(h:Q->P:=by intro O;refine U289 ?_;exact W.region rfl O):P:=h k
theorem U203(h:Q->P:=by intro O;refine L.va (fv0 rfl) ?_;exact L.nil O):P:=h k
theorem U124(h:Q->P:=by intro O;refine G0.val (j0 _) (W0 _) rfl (v:=.bool true) (I0 rfl) ?_;exact G0.H8 (j0 _) (W0 _) rfl rfl (v:=.int .i64 (-1)) (I0 rfl) O):P:=h k
theorem U22(h:Q->P:=by intro O;refine At.seq B2 ?_;exact At.region B2 O):P:=h k
theorem U85(h:Q->P:=by intro O;refine L.va (u1 rfl) ?_;exact L.va (K0 rfl underlying153 rfl ic0 (by decide)) O):P:=h k
theorem U125(h:Q->P:=by intro O;refine G0.val (j0 _) (W0 _) rfl (v:=.bool true) (I0 rfl) ?_;exact G0.H8 (j0 _) (W0 _) rfl rfl (v:=.i (-1)) (I0 rfl) O):P:=h k
theorem U16(h:Q->P:=by intro O;refine At.seq A2 ?_;exact At.region A2 O):P:=h k
theorem U126(h:Q->P:=by intro O;refine U280 ?_;exact D.va (fun w' N2=>(K0 rfl underlying149 rfl Fp0 (by decide))) O):P:=h k
theorem U61(h:Q->P:=by intro O;refine G0.val (O0 _ gr 2) (W0 _) rfl (v:=.bool false) (I0 rfl) ?_;exact U81 O):P:=h k
theorem U127(h:Q->P:=by intro O;refine U280 ?_;exact D.va (fun w' N2=>(K0 rfl underlying149 rfl sz3 (by decide))) O):P:=h k
theorem U204(h:Q->P:=by intro O;refine G0.val (j0 _) (W0 _) rfl (v:=.int .u64 (((0*4294967296+0:Nat):Int))) (P0 rfl) ?_;exact G0.nil (j0 _) O):P:=h k
theorem U205(h:Q->P:=by intro O;refine U28 ?_;exact G0.val (j0 _) (W0 _) rfl (v:=.int .u32 0) (I0 rfl) O):P:=h k
theorem U62(h:Q->P:=by intro O;refine L.nil ?_;exact U112 O):P:=h k
theorem U128(h:Q->P:=by intro O;refine U2 ?_;exact L.va (F0 rfl underlying91 rfl (hA.E0 0 (v:=.p c.cb) rfl)) O):P:=h k
theorem U63(h:Q->P:=by intro O;refine U120 ?_;exact G0.val S0 (W0 _) rfl (v:=.bool false) (bo0 rfl rfl) O):P:=h k
theorem U206(h:Q->P:=by intro O;refine W.quiet (fun w'=>Below w.heap.size w w') (by kernel_rfl) (by kernel_rfl) ((Below.refl w.heap.size w).drew) ?_;exact D.va (fun w' N2=>(K0 rfl underlying47 rfl sz3 (by decide))) O):P:=h k
theorem U207(h:Q->P:=by intro O;refine D.va (fun w' N2=>(K0 rfl underlying30 rfl Ku0 (by decide))) ?_;exact D.va (fun w' N2=>(F0 rfl underlying23 rfl ((hR.A0 N2).E0 3 (v:=.slice (pt R.eb) R.m R.m) rfl))) O):P:=h k
theorem U208(h:Q->P:=by intro O;refine W.ev0 9 (fun w'=>Below w.heap.size w w') (by kernel_rfl) (by kernel_rfl) (by kernel_rfl) (by kernel_rfl) ((Below.refl w.heap.size w).drew) ?_;exact D.va (fun w' N2=>(H3 rfl)) O):P:=h k
theorem U129(h:Q->P:=by intro O;refine L.va (ai0 rfl) ?_;exact L.on rfl O):P:=h k
theorem U17(h:Q->P:=by intro O;refine U1 ?_;exact ZA.seq hZ O):P:=h k
theorem U296(h:Q->P:=by intro O;refine D.va (fun w' N2=>(u1 rfl)) ?_;exact D.va (fun w' N2=>(K0 rfl underlying153 rfl ic0 (by decide))) O):P:=h k
theorem U209(h:Q->P:=by intro O;refine At.region m4 ?_;exact G0.val m4 (W0 _) rfl (v:=.pointer (some ⟨gr.blk,gr.off,none⟩)) (I0 rfl) O):P:=h k
theorem U210(h:Q->P:=by intro O;refine D.va (fun w' N2=>(Z1 (i:=1) (n:=6) rfl rfl underlying35 Vk0 (by decide))) ?_;exact D.va (fun w' N2=>(Z1 (i:=nu) (n:=2) rfl rfl underlying34 sz4 hnu)) O):P:=h k
theorem U130(h:Q->P:=by intro O;refine L.va (K5 rfl) ?_;exact L.nil O):P:=h k
theorem U211(h:Q->P:=by intro O;refine L.va (L5 rfl) ?_;exact L.nil O):P:=h k
theorem U131(h:Q->P:=by intro O;refine U111 ?_;exact G0.val (j0 _) (W0 _) rfl (v:=.int .u64 (((v*4294967296+0:Nat):Int))) (I0 rfl) O):P:=h k
theorem U132(h:Q->P:=by intro O;refine U111 ?_;exact G0.val (j0 _) (W0 _) rfl (v:=.int .u64 (((v*4294967296+1:Nat):Int))) (I0 rfl) O):P:=h k
theorem U212(h:Q->P:=by intro O;refine D.va (fun w' N2=>(F0 rfl underlying3 rfl ((hC.A0 N2).E0 0 (v:=.i (i:Int)) rfl))) ?_;exact D.va (fun w' N2=>r9 (i:=i) rfl rfl underlying23 sz3 hi) O):P:=h k
theorem U31(h:Q->P:=by intro O;refine U0 ?_;exact W.P4 rfl O):P:=h k
theorem U133(h:Q->P:=by intro O;refine U111 ?_;exact G0.val (j0 _) (W0 _) rfl (v:=.int .u64 (((0*4294967296+0:Nat):Int))) (I0 rfl) O):P:=h k
theorem U213(h:Q->P:=by intro O;refine D.va (fun w' N2=>(F0 rfl underlying146 rfl (((hg.m.blk i _ (S5 hc)).A0 N2).E0 1 (v:=.p R.rb) rfl))) ?_;exact D.va (fun w' N2=>(u1 rfl)) O):P:=h k
theorem U297(h:Q->P:=by intro O;refine L.va (k9 (i:=i) rfl rfl underlying22 Kw0 hBo.sl C2) ?_;exact L.va (F0 (v:=.slice (oa i) (bo i).length (oc i)) rfl underlying50 rfl (hBo.row i C2)) O):P:=h k
theorem U214(h:Q->P:=by intro O;refine U1 ?_;exact ZA.ev0 hZ hb 11 (fun w'=>Below w.heap.size w w') (by kernel_rfl) (by kernel_rfl) (by kernel_rfl) (by kernel_rfl) (Below.refl w.heap.size w).drew O):P:=h k
theorem U45(h:Q->P:=by intro O;refine At.seq (O0 _ gr 2) ?_;exact U57 O):P:=h k
theorem U23(h:Q->P:=by intro O;refine G0.nil (j0 _) ?_;exact U28 O):P:=h k
theorem U298(h:B Q->P:=by intro O;refine G0.val (O0 _ gr 2) (W0 _) rfl (v:=.int .u64 (((0:Nat):Int))) (cm0 (r:=((0:Nat):Int)) rfl rfl (by decide) (lp0 0 1 (by omega))) ?_;exact G0.val (O0 _ gr 2) (W0 _) rfl (v:=.int .i32 (((0:Nat):Int))) (Z2 (r:=((0:Nat):Int)) rfl Tryz.underlying136 Tryz.underlying21 (bp0 0 (by omega))) O.1):P:=h ⟨k⟩
theorem U299(h:B Q->P:=by intro O;refine G0.val W1 (W0 _) rfl (v:=.int .u64 (((v*4294967296+1:Nat):Int))) (xy0 (r:=((v*4294967296+1:Nat):Int)) rfl rfl (add1 v (by omega))) ?_;refine G0.call W1 (W0 _) [.pointer (some ⟨gr.blk,gr.off,none⟩),.int .u64 (((v*4294967296+0:Nat):Int)),.int .u64 (((v*4294967296+1:Nat):Int))] 13 rfl Tryz.func102 Wp0 rfl rfl rfl (fun cs2 hb2=>?_);revert cs2 hb2;exact O.1):P:=h ⟨k⟩
theorem U300(h:B Q->P:=by intro O;refine G0.val (j0 _) (W0 _) rfl (v:=.int .u64 (((0:Nat):Int))) (cm0 (r:=((0:Nat):Int)) rfl rfl (by decide) (lp0 0 0 (by omega))) ?_;exact G0.val (j0 _) (W0 _) rfl (v:=.int .i32 (((0:Nat):Int))) (Z2 (r:=((0:Nat):Int)) rfl Tryz.underlying136 Tryz.underlying21 (bp0 0 (by omega))) O.1):P:=h ⟨k⟩
theorem U46(h:Q->P:=by intro O;refine W.seq ?_;exact U56 O):P:=h k
theorem U215(h:Q->P:=by intro O;refine W.ev0 13 (fun w'=>Below w.heap.size w w') (by kernel_rfl) (by kernel_rfl) (by kernel_rfl) (by kernel_rfl) ((Below.refl w.heap.size w).drew) ?_;exact U126 O):P:=h k
theorem U301(h:Q->P:=by intro O;refine G0.val (m3 _ gr) (W0 _) rfl (v:=.int .u64 18446744073709551615) (Z2 (r:=18446744073709551615) rfl Tryz.underlying3 Tryz.underlying136 (by decide)) ?_;exact G0.val (m3 _ gr) (W0 _) rfl (v:=.int .u64 18446744069414584320) (Fa0 (r:=18446744069414584320) rfl rfl (by decide) (by decide)) O):P:=h k
theorem U216(h:Q->P:=by intro O;refine G0.val hY hb rfl (ln0 rfl underlying153 rfl Nz0 (by decide)) ?_;exact G0.stay (v:=.chan (some R.yb)) hb rfl (by simp) rfl underlying150 rfl O):P:=h k
theorem U134(h:Q->P:=by intro O;refine U6 ?_;exact G0.val W1 (W0 _) rfl (v:=.int .u64 (((v*4294967296+0:Nat):Int))) (I0 rfl) O):P:=h k
theorem U86(h:Q->P:=by intro O;refine U0 ?_;exact U291 O):P:=h k
theorem U302(h:B Q->P:=by intro O;refine G0.val W1 (W0 _) rfl (v:=.int .u64 (((v:Nat):Int))) (cm0 (r:=((v:Nat):Int)) rfl rfl (by decide) (lp0 v 0 (by omega))) ?_;exact G0.val W1 (W0 _) rfl (v:=.int .i32 (((v:Nat):Int))) (Z2 (r:=((v:Nat):Int)) rfl Tryz.underlying136 Tryz.underlying21 (bp0 v (by omega))) O.1):P:=h ⟨k⟩
theorem U303(h:Q->P:=by intro O;have T5:=O7.dh0 c7 hg;have hb:=P3 hb hb.size hg lt6;revert T5 hb;exact O):P:=h k
theorem U8(h:Q->P:=by intro O;refine F.nil ?_;show L _ _ _ _ _ _ _;exact O):P:=h k
theorem U304(h:Q->P:=by intro O;refine G0.val (O0 _ gr 0) (W0 _) rfl (v:=.pointer (some ⟨gr.blk,gr.off,none⟩)) (A3 rfl) ?_;exact G0.val (O0 _ gr 0) (W0 _) rfl (v:=.pointer (some ⟨gr.blk,gr.off+1,none⟩)) (l3 (s:=1) gr.off (gr.off+1) rfl Tryz.underlying141 rfl Fo0 (by decide) rfl) O):P:=h k
theorem U135(h:Q->P:=by intro O;refine U45 ?_;exact G0.val (O0 _ gr 2) (W0 _) rfl (v:=.int .i32 (((0:Nat):Int))) (I0 rfl) O):P:=h k
theorem U136(h:Q->P:=by intro O;refine ZA.skip hZ ?_;exact ZA.seq hZ O):P:=h k
theorem U305(h:Q->P:=by intro O;refine L.va (K0 rfl underlying52 rfl sz3 (by decide)) ?_;refine L.on rfl ?_;exact L.va (F0 rfl underlying3 rfl (hB1.E0 2 (v:=.int .i64 o.call) rfl)) O):P:=h k
theorem U306(h:Q->P:=by intro O;refine U277 ?_;exact U196 O):P:=h k
theorem U217(h:Q->P:=by intro O;have neA:=E1.ne hA (hg.m.blk i c hc) (by decide);refine L.stC (i:=i) (o:=9) (vs:=[.bool false]) hg {c with wt:=false} hc rfl rfl rfl rfl sz4 rfl rfl (by decide) rfl (fun w hg G3=>?_);revert neA w hg G3;exact O):P:=h k
theorem U218(h:Q->P:=by intro O;refine U114 ?_;exact L.va (Q3 (l:=[.tmp 2]) (vs:=[.pointer (some ⟨b2,0,none⟩)]) rfl) O):P:=h k
theorem U87(h:Q->P:=by intro O;refine U43 ?_;exact L.va (u1 rfl) O):P:=h k
theorem U307(h:Q->P:=by intro O;refine G0.val (O0 _ gr 1) (W0 _) rfl (v:=.pointer (some ⟨gr.blk,gr.off,none⟩)) (l3 (s:=1) gr.off gr.off rfl Tryz.underlying141 rfl lr0 (by decide) rfl) ?_;refine G0.call (O0 _ gr 1) (W0 _) [.pointer (some ⟨gr.blk,gr.off,none⟩),.int .u64 0] 9 rfl Tryz.func97 da1 rfl rfl rfl (fun cs4 hb4=>?_);revert cs4 hb4;exact O):P:=h k
theorem U219(h:Q->P:=by intro O;refine U127 ?_;exact D.va (fun w' N2=>(F0 rfl underlying3 rfl (((hg.m.blk i _ (S5 hc)).A0 N2).E0 0 (v:=.i (i:Int)) rfl))) O):P:=h k
theorem U308(h:Q->P:=by intro O;refine G0.val (m3 _ gr) (W0 _) rfl (v:=.pointer (some ⟨gr.blk,gr.off,none⟩)) (l3 (s:=1) gr.off gr.off rfl Tryz.underlying138 rfl lq0 (by decide) rfl) ?_;exact G0.val (m3 _ gr) (W0 _) rfl (v:=.int .u64 18446744069414584320) (I0 rfl) O):P:=h k
theorem U47(h:Q->P:=by intro O;refine At.seq S2 ?_;exact At.region S2 O):P:=h k
theorem U137(h:Q->P:=by intro O;refine L.nil ?_;exact B.nrm O):P:=h k
theorem U24(h:Q->P:=by intro O;refine U13 ?_;exact U58 O):P:=h k
theorem U309(h:B Q->P:=by intro O;refine G0.val (O0 _ gr 2) (W0 _) rfl (v:=.int .u64 1) (I6 (r:=1) rfl rfl (fb0 0 1 (by omega) (by omega))) ?_;exact G0.val (O0 _ gr 2) (W0 _) rfl (v:=.int .u32 1) (Z2 (r:=1) rfl Tryz.underlying136 Tryz.underlying139 (by decide)) O.1):P:=h ⟨k⟩
theorem U310(h:Q->P:=by intro O;refine G0.val (O0 _ gr 2) (W0 _) rfl (v:=.pointer (some ⟨gr.blk,gr.off,none⟩)) (l3 (s:=1) gr.off gr.off rfl Tryz.underlying141 rfl lr0 (by decide) rfl) ?_;refine G0.call (O0 _ gr 2) (W0 _) [.pointer (some ⟨gr.blk,gr.off,none⟩)] 7 rfl Tryz.func96 Ky0 rfl rfl rfl (fun cs3 hb3=>?_);revert cs3 hb3;exact O):P:=h k
theorem U311(h:B Q->P:=by intro O;refine G0.val (j0 _) (W0 _) rfl (v:=.int .u64 1) (I6 (r:=1) rfl rfl (fb0 v 1 (by omega) (by omega))) ?_;exact G0.val (j0 _) (W0 _) rfl (v:=.int .u32 1) (Z2 (r:=1) rfl Tryz.underlying136 Tryz.underlying139 (by decide)) O.1):P:=h ⟨k⟩
theorem U88(h:Q->P:=by intro O;refine At.seq S0 ?_;exact U201 O):P:=h k
theorem U138(h:Q->P:=by intro O;refine L.va (F0 rfl underlying3 rfl (C3.E0 0 (v:=.int .i64 2) rfl)) ?_;exact U0 O):P:=h k
theorem U312(h:Q->P:=by intro O;refine G0.val (O0 _ gr 1) (W0 _) rfl (v:=.pointer (some ⟨gr.blk,gr.off,none⟩)) (l3 (s:=1) gr.off gr.off rfl Tryz.underlying138 rfl lq0 (by decide) rfl) ?_;exact G0.val (O0 _ gr 1) (W0 _) rfl (v:=.int .u64 0) (I0 rfl) O):P:=h k
theorem U313(h:B Q->P:=by intro O;refine U285 ?_;exact L.va (P1 (cs:=[.int .i64 4,.int .i64 2,.int .i64 (nu:Nat)]) rfl underlying47 rfl P8 rfl (fun q v hq=>by have h9:=(hY).fh0 he (1+q) v (by rw[Nat.add_comm];exact hq);rw[<- Nat.add_assoc]at h9;exact h9)) O.1):P:=h ⟨k⟩
theorem U139(h:Q->P:=by intro O;refine U21 ?_;exact L.va (L2 (r:=false) (by decide) (O4 (m:=3) (k:=1) rfl rfl)) O):P:=h k
theorem U140(h:Q->P:=by intro O;refine L.va (L2 (r:=false) (by decide) (O4 (m:=3) (k:=2) rfl rfl)) ?_;exact U5 O):P:=h k
theorem U314(h:Q->P:=by intro O;refine G0.val (O0 _ gr 2) (W0 _) rfl (v:=.pointer (some ⟨gr.blk,gr.off,none⟩)) (l3 (s:=1) gr.off gr.off rfl Tryz.underlying138 rfl lq0 (by decide) rfl) ?_;exact G0.Ks0 (W0 _) rfl Tryz.func110 vw0 rfl rfl vx0 rfl O):P:=h k
theorem U141(h:Q->P:=by intro O;refine L.va (L2 (r:=true) (by decide) (O4 (m:=3) (k:=3) rfl rfl)) ?_;exact U83 O):P:=h k
theorem U315(h:B Q->P:=by intro O;refine G0.val W1 (W0 _) rfl (v:=.int .u64 0) (I6 (r:=0) rfl rfl (fb0 v 0 (by omega) (by omega))) ?_;exact G0.val W1 (W0 _) rfl (v:=.int .u32 0) (Z2 (r:=0) rfl Tryz.underlying136 Tryz.underlying139 (by decide)) O.1):P:=h ⟨k⟩
theorem U25(h:Q->P:=by intro O;refine L.va (vf0 rfl) ?_;exact U1 O):P:=h k
theorem U220(h:Q->P:=by intro O;refine D.va (fun w' N2=>(F0 rfl underlying3 rfl ((G4.A0 N2).E0 1 (v:=.int .i64 1) rfl))) ?_;exact U284 O):P:=h k
theorem U142(h:Q->P:=by intro O;have hY:=hY.off hg hH ⟨by decide,by decide⟩ nf8;have C3:=Q0.other C3 hg (Q0.ne C3 hH (by decide));revert hY C3;exact O):P:=h k
theorem U221(h:Q->P:=by intro O;refine U283 ?_;exact L.va (W4 rfl) O):P:=h k
theorem U316(h:B Q->P:=by intro O;refine G0.val (j0 _) (W0 _) rfl (v:=.int .u64 (((v*4294967296+0:Nat):Int))) (I0 rfl) ?_;exact G0.val (j0 _) (W0 _) rfl (v:=.int .u64 0) (I6 (r:=0) rfl rfl (lo0 v 0 (by omega) (by omega))) O.1):P:=h ⟨k⟩
theorem U317(h:B Q->P:=by intro O;refine G0.val (j0 _) (W0 _) rfl (v:=.int .u64 (((v*4294967296+1:Nat):Int))) (I0 rfl) ?_;exact G0.val (j0 _) (W0 _) rfl (v:=.int .u64 0) (I6 (r:=0) rfl rfl (lo0 v 1 (by omega) (by omega))) O.1):P:=h ⟨k⟩
theorem U89(h:Q->P:=by intro O;refine L.va (W4 rfl) ?_;exact L.va (W4 rfl) O):P:=h k
theorem U318(h:B Q->P:=by intro O;refine G0.val (j0 _) (W0 _) rfl (v:=.int .u64 (((0*4294967296+0:Nat):Int))) (I0 rfl) ?_;exact G0.val (j0 _) (W0 _) rfl (v:=.int .u64 0) (I6 (r:=0) rfl rfl (lo0 0 0 (by omega) (by omega))) O.1):P:=h ⟨k⟩
theorem U319(h:B Q->P:=by intro O;refine G0.val (O0 _ gr 2) (W0 _) rfl (v:=.int .u64 0) (I6 (r:=0) rfl rfl (lo0 0 1 (by omega) (by omega))) ?_;exact G0.val (O0 _ gr 2) (W0 _) rfl (v:=.bool false) (k7 (r:=false) rfl rfl (by decide)) O.1):P:=h ⟨k⟩
theorem U222(h:Q->P:=by intro O;refine L.on rfl ?_;exact L.va (O4 rfl rfl) O):P:=h k
theorem U223(h:Q->P:=by intro O;refine L.on rfl ?_;exact L.va (F0 rfl underlying26 rfl (H7.E0 0 (v:=.slice R.ea R.evs.length R.ec) rfl)) O):P:=h k
theorem U320(h:Q->P:=by intro O;refine AtR.leave1 (O0 _ gr 2) hb2 rfl Tryz.func94 rfl (.int .u64 (((0*4294967296+1:Nat):Int))) rfl ?_;exact G0.val (O0 _ gr 2) (W0 _) rfl (v:=.int .u64 (((0*4294967296+1:Nat):Int))) (P0 rfl) O):P:=h k
theorem U90(h:Q->P:=by intro O;have hE:=hE.A0 Y1;have hc:=hc.A0 Y1;revert hE hc;exact O):P:=h k
theorem U321(h:Q->P:=by intro O;refine U199 ?_;refine L.on rfl ?_;refine L.va (F0 rfl underlying3 rfl (G4.E0 2 (v:=.int .i64 (nu:Nat)) rfl)) ?_;exact L.on rfl O):P:=h k
theorem U322(h:Q->P:=by intro O;refine L.on rfl ?_;exact L.va (u1 rfl) O):P:=h k
theorem U323(h:Q->P:=by intro O;refine AtR.leave1 (j0 _) hb2 rfl Tryz.func94 rfl (.int .u64 (((v*4294967296+0:Nat):Int))) rfl ?_;exact G0.val (j0 _) (W0 _) rfl (v:=.int .u64 (((v*4294967296+0:Nat):Int))) (P0 rfl) O):P:=h k
theorem U324(h:Q->P:=by intro O;refine AtR.leave1 (j0 _) hb2 rfl Tryz.func94 rfl (.int .u64 (((v*4294967296+1:Nat):Int))) rfl ?_;exact G0.val (j0 _) (W0 _) rfl (v:=.int .u64 (((v*4294967296+1:Nat):Int))) (P0 rfl) O):P:=h k
theorem U64(h:Q->P:=by intro O;refine U13 ?_;exact U3 O):P:=h k
theorem U224(h:Q->P:=by intro O;refine D.va (fun w' N2=>(F0 rfl underlying146 rfl ((hC.A0 N2).E0 1 (v:=.p R.rb) rfl))) ?_;exact U296 O):P:=h k
theorem U325(h:Q->P:=by intro O;refine U295 ?_;exact L.va (F0 (v:=.int .i64 ((st i).I4 nu)) rfl underlying3 rfl (uq0 hR hnu rfl)) O):P:=h k
theorem U326(h:Q->P:=by intro O;refine G0.toUnsafe Vg0 (W0 _) rfl rfl (.inr rfl) Tryz.underlying172 Tryz.underlying128 Ol0 ?_;exact G0.tr0 r4 (W0 _) .write (by simp) (.inr (.inr rfl)) rfl Tryz.func103 Wq0 rfl rfl Xb0 rfl O):P:=h k
theorem U225(h:Q->P:=by intro O;refine At.seq r4 ?_;exact At.region r4 O):P:=h k
theorem U327(h:B Q->P:=by intro O;refine G0.val r4 (W0 _) rfl (v:=.int .u64 (((v*4294967296+0:Nat):Int))) (I0 rfl) ?_;exact G0.val r4 (W0 _) rfl (v:=.int .u64 0) (I6 (r:=0) rfl rfl (lo0 v 0 (by omega) (by omega))) O.1):P:=h ⟨k⟩
theorem U19(h:Q->P:=by intro O;have lt2:=F2.lq hb.size;have hb:=N0 hb F2.below;revert lt2 hb;exact O):P:=h k
theorem U143(h:Q->P:=by intro O;refine U14 ?_;exact L.va (K0 rfl underlying153 rfl Fq0 (by decide)) O):P:=h k
theorem U48(h:Q->P:=by intro O;refine U2 ?_;exact L.va (j9 rfl) O):P:=h k
theorem U329(h:Q->P:=by intro O;refine G0.toUnsafe Vh0 (W0 _) rfl rfl (.inl rfl) Tryz.underlying165 Tryz.underlying128 Ai0 ?_;exact G0.tr0 B2 (W0 _) .acquire (by simp) (.inl rfl) rfl Tryz.func100 Oa0 rfl rfl Oi0 rfl O):P:=h k
theorem U144(h:Q->P:=by intro O;refine L.va (H3 rfl) ?_;exact L.va (x7 rfl rfl underlying63) O):P:=h k
theorem U145(h:Q->P:=by intro O;refine At.seq m4 ?_;exact At.region m4 O):P:=h k
theorem U146(h:Q->P:=by intro O;refine U14 ?_;exact L.va (K0 rfl underlying125 rfl Nw0 (by decide)) O):P:=h k
theorem U49(h:Q->P:=by intro O;refine U2 ?_;exact L.va (H3 rfl) O):P:=h k
theorem U32(h:Q->P:=by intro O;refine U15 ?_;exact L.va (W4 rfl) O):P:=h k
theorem U147(h:Q->P:=by intro O;refine L.va (F0 rfl underlying193 rfl (H7.E0 0 (v:=.pointer (some ⟨sb,0,none⟩)) rfl)) ?_;refine L.va (u1 rfl) ?_;exact L.va (K0 rfl underlying195 rfl ji0 (by decide)) O):P:=h k
theorem U330(h:Q->P:=by intro O;refine L.va (es0 rfl rfl) ?_;exact U17 O):P:=h k
theorem U331(h:Q->P:=by intro O;have V4:=V4.mod T5 rfl;have J5:=J5.mod T5 rfl;revert V4 J5;exact O):P:=h k
theorem U226(h:Q->P:=by intro O;have h5:=(Goes.af0 hg C3 (Nat.zero_lt_succ _) hF5).2;have hgn:Gn K w0 m F T4 u F':=Gn.n5 ⟨hK,Goes.down y9 hg⟩ G3 ⟨lt5,h5⟩;revert h5 hgn;exact O):P:=h k
theorem U148(h:Q->P:=by intro O;refine U293 ?_;exact L.va (K0 rfl underlying195 rfl sz4 (by decide)) O):P:=h k
theorem U332(h:Q->P:=by intro O;refine G0.val S0 (W0 _) rfl (v:=.int .u32 0) (Z2 (r:=0) rfl Tryz.underlying136 Tryz.underlying139 (by decide)) ?_;exact G0.val S0 (W0 _) rfl (v:=.int .u32 0) (P0 rfl) O):P:=h k
theorem U333(h:Q->P:=by intro O;refine AtR.leave1 W1 E5 rfl Tryz.func96 rfl (.int .u64 (((v*4294967296+0:Nat):Int))) rfl ?_;exact G0.val W1 (W0 _) rfl (v:=.int .u64 (((v*4294967296+0:Nat):Int))) (P0 rfl) O):P:=h k
theorem U227(h:Q->P:=by intro O;refine U84 ?_;exact L.va (F0 rfl underlying4 rfl ((hg.m.blk i c hc).E0 10 (v:=.bool c.st) rfl)) O):P:=h k
theorem U337(h:Q->P:=by intro O;refine G0.val S2 (W0 _) rfl (v:=.pointer (some ⟨gr.blk,gr.off,none⟩)) (I0 rfl) ?_;exact G0.val S2 (W0 _) rfl (v:=.pointer (some ⟨gr.blk,gr.off,none⟩)) (A3 rfl) O):P:=h k
theorem U338(h:Q->P:=by intro O;refine G0.H8 S0 (W0 _) rfl rfl (v:=.i 1) (I0 rfl) ?_;exact G0.H8 S0 (W0 _) rfl rfl (v:=.int .i32 1) (Z2 (r:=1) rfl Tryz.underlying3 Tryz.underlying21 (by decide)) O):P:=h k
theorem U65(h:Q->P:=by intro O;refine G0.nil B2 ?_;exact At.seq B2 O):P:=h k
theorem U339(h:Q->P:=by intro O;refine G0.val B2 (W0 _) rfl (v:=.pointer (some ⟨gr.blk,gr.off,none⟩)) (I0 rfl) ?_;exact G0.val B2 (W0 _) rfl (v:=.pointer (some ⟨gr.blk,gr.off,none⟩)) (A3 rfl) O):P:=h k
theorem U340(h:Q->P:=by intro O;refine G0.val W1 (W0 _) rfl (v:=.int .u64 (((v*4294967296+0:Nat):Int))) (I0 rfl) ?_;exact G0.val W1 (W0 _) rfl (v:=.int .u64 (((v*4294967296+0:Nat):Int))) (I0 rfl) O):P:=h k
theorem U341(h:Q->P:=by intro O;refine G0.val W1 (W0 _) rfl (v:=.int .u64 (((v*4294967296+0:Nat):Int))) (I0 rfl) ?_;exact G0.val W1 (W0 _) rfl (v:=.int .u64 (((v*4294967296+1:Nat):Int))) (I0 rfl) O):P:=h k
theorem U228(h:Q->P:=by intro O;refine G0.val hY hb rfl (v:=.p R.rb) (I0 rfl) ?_;exact G0.val hY hb rfl (A3 rfl) O):P:=h k
theorem U149(h:Q->P:=by intro O;refine L.va (ai0 rfl) ?_;exact U18 O):P:=h k
theorem U342(h:Q->P:=by intro O;refine G0.H8 B2 (W0 _) rfl rfl (v:=.int .u64 0) (I6 (r:=0) rfl rfl (by decide)) ?_;exact G0.H8 B2 (W0 _) rfl rfl (v:=.bool false) (k7 (r:=false) rfl rfl (by decide)) O):P:=h k
theorem U229(h:Q->P:=by intro O;refine F.va rfl rfl (fun w' N2=>(H3 rfl)) ?_;exact F.va rfl rfl (fun w' N2=>(u1 rfl)) O):P:=h k
theorem U343(h:B Q->P:=by intro O;refine G0.val W1 (W0 _) rfl (v:=.int .i32 (((v:Nat):Int))) (I0 rfl) ?_;exact G0.val W1 (W0 _) rfl (v:=.bool false) (w9 (r:=false) rfl rfl (decide_eq_false (by omega))) O.1):P:=h ⟨k⟩
theorem U344(h:Q->P:=by intro O;refine G0.H8 (O0 _ gr 2) (W0 _) rfl rfl (v:=.int .u32 1) (I0 rfl) ?_;exact G0.H8 (O0 _ gr 2) (W0 _) rfl rfl (v:=.bool false) (w9 (r:=false) rfl rfl (by decide)) O):P:=h k
theorem U150(h:Q->P:=by intro O;refine U4 ?_;intro hb;refine L.box (cs:=#[.pointer (some ⟨sb,0,none⟩)]) rfl rfl (fun w b2 F2=>?_);revert hb w b2 F2;exact O):P:=h k
theorem U345(h:Q->P:=by intro O;refine G0.H8 (j0 _) (W0 _) rfl rfl (v:=.int .u32 0) (I0 rfl) ?_;exact G0.H8 (j0 _) (W0 _) rfl rfl (v:=.bool true) (w9 (r:=true) rfl rfl (by decide)) O):P:=h k
theorem U346(h:Q->P:=by intro O;refine G0.val (j0 _) (W0 _) rfl (v:=.bool false) (I0 rfl) ?_;refine U193 ?_;exact U306 O):P:=h k
theorem U347(h:B Q->P:=by intro O;refine L.va (W4 rfl) ?_;refine L.va (qa0 rfl rfl (by omega)) ?_;exact U203 O.1):P:=h ⟨k⟩
theorem U348(h:Q->P:=by intro O;refine G0.val (O0 _ gr 2) (W0 _) rfl (v:=.bool false) (cl0 (r:=false) rfl rfl (by decide)) ?_;exact G0.val (O0 _ gr 2) (W0 _) rfl (v:=.bool false) (I0 rfl) O):P:=h k
theorem U349(h:Q->P:=by intro O;refine U198 ?_;exact G0.val (m3 _ gr) (W0 _) rfl (v:=.pointer (some ⟨gr.blk,gr.off,none⟩)) (l3 (s:=1) gr.off gr.off rfl Tryz.underlying141 rfl lr0 (by decide) rfl) O):P:=h k
theorem U33(h:Q->P:=by intro O;refine U31 ?_;exact W.region rfl O):P:=h k
theorem U350(h:Q->P:=by intro O;refine G0.val (O0 _ gr 2) (W0 _) rfl (v:=.int .u32 1) (I0 rfl) ?_;exact G0.val (O0 _ gr 2) (W0 _) rfl (v:=.bool true) (k7 (r:=true) rfl rfl (by decide)) O):P:=h k
theorem U351(h:Q->P:=by intro O;refine G0.val (O0 _ gr 0) (W0 _) rfl (v:=.int .u32 1) (I0 rfl) ?_;exact G0.val (O0 _ gr 0) (W0 _) rfl (v:=.bool true) (k7 (r:=true) rfl rfl (by decide)) O):P:=h k
theorem U352(h:Q->P:=by intro O;have Q4:=Q4.mod T5 rfl;have o5:=o5.mod T5 rfl;revert Q4 o5;exact O):P:=h k
theorem U353(h:B Q->P:=by intro O;refine G0.val S0 (W0 _) rfl (v:=.bool true) (cl0 (r:=true) rfl rfl (decide_eq_true (by omega))) ?_;exact G0.val S0 (W0 _) rfl (v:=.bool true) (I0 rfl) O.1):P:=h ⟨k⟩
theorem U230(h:Q->P:=by intro O;refine G0.val B2 (W0 _) rfl (v:=.int .u64 0) (P0 rfl) ?_;exact G0.nil B2 O):P:=h k
theorem U231(h:Q->P:=by intro O;refine G0.val m4 (W0 _) rfl (v:=.int .u64 0) (P0 rfl) ?_;exact G0.nil m4 O):P:=h k
theorem U232(h:Q->P:=by intro O;refine U1 ?_;exact ZA.Q5 hZ rfl O):P:=h k
theorem U66(h:Q->P:=by intro O;refine G0.nil S0 ?_;refine At.Q5 S0 rfl ?_;exact At.skip S0 O):P:=h k
theorem U354(h:Q->P:=by intro O;refine G0.val (j0 _) (W0 _) rfl (v:=.int .u32 1) (I0 rfl) ?_;exact G0.val (j0 _) (W0 _) rfl (v:=.bool true) (k7 (r:=true) rfl rfl (by decide)) O):P:=h k
theorem U355(h:Q->P:=by intro O;refine G0.val (j0 _) (W0 _) rfl (v:=.bool false) (cl0 (r:=false) rfl rfl (by decide)) ?_;exact G0.val (j0 _) (W0 _) rfl (v:=.bool false) (I0 rfl) O):P:=h k
theorem U152(h:Q->P:=by intro O;have hR:=Q0.other hR hg (Q0.ne hR hH (by decide));have hb:=P3 hb hb.size hg lt8;revert hR hb;exact O):P:=h k
theorem U356(h:Q->P:=by intro O;refine G0.val (j0 _) (W0 _) rfl (v:=.int .u32 0) (Qf0 (r:=0) rfl rfl (by decide)) ?_;exact G0.val (j0 _) (W0 _) rfl (v:=.int .u32 0) (P0 rfl) O):P:=h k
theorem U357(h:Q->P:=by intro O;refine G0.toUnsafe Zt0 (W0 _) rfl rfl (.inl rfl) Tryz.underlying165 Tryz.underlying128 Ai0 ?_;exact G0.Zu0 (W0 _) rfl Tryz.func100 Oa0 rfl rfl Oi0 rfl O):P:=h k
theorem U67(h:Q->P:=by intro O;refine L.va (es0 rfl rfl) ?_;exact U0 O):P:=h k
theorem U154(h:Q->P:=by intro O;rw[K1 s0,K1 s7,K1 s8,K1 s9];exact O):P:=h k
theorem U155(h:Q->P:=by intro O;refine G0.nil (m3 _ gr) ?_;exact U82 O):P:=h k
theorem U358(h:B Q->P:=by intro O;refine U123 ?_;exact U347 O.1):P:=h ⟨k⟩
theorem U359(h:Q->P:=by intro O;refine D.va (fun w' N2=>(F0 (v:=.bool false) rfl underlying4 rfl (sx0 (hH.A0 N2) (by decide) hnu hfr))) ?_;exact D.va (fun w' N2=>(ai0 rfl)) O):P:=h k
theorem U360(h:Q->P:=by intro O;refine G0.val r4 (W0 _) rfl (v:=.bool false) (k7 (r:=false) rfl rfl (by decide)) ?_;exact G0.val r4 (W0 _) rfl (v:=.bool false) (I0 rfl) O):P:=h k
theorem U233(h:Q->P:=by intro O;refine D.va (fun w' N2=>(H3 rfl)) ?_;exact D.va (fun w' N2=>(u1 rfl)) O):P:=h k
theorem U91(h:Q->P:=by intro O;show L _ _ _ _ _ _ _;exact L.va (H3 rfl) O):P:=h k
theorem U234(h:Q->P:=by intro O;refine L.on rfl ?_;exact L.va (K0 rfl underlying149 rfl Qk0 (by decide)) O):P:=h k
theorem U361(h:Q->P:=by intro O;refine L.va (F0 rfl underlying3 rfl (G4.E0 1 (v:=.int .i64 1) rfl)) ?_;exact L.va (L2 (r:=false) (by decide) (df0 (m:=1) (k:=1) rfl rfl)) O):P:=h k
theorem U235(h:Q->P:=by intro O;refine D.va (fun w' N2=>(W4 rfl)) ?_;exact D.va (fun w' N2=>(u1 rfl)) O):P:=h k
theorem U362(h:Q->P:=by intro O;refine G0.val (O0 _ gr 2) (W0 _) rfl (v:=.bool true) (I0 rfl) ?_;exact G0.H8 (O0 _ gr 2) (W0 _) rfl rfl (v:=.int .i64 (-1)) (I0 rfl) O):P:=h k
theorem U363(h:B Q->P:=by intro O;refine G0.val (j0 _) (W0 _) rfl (v:=.int .u64 (((v:Nat):Int))) (cm0 (r:=((v:Nat):Int)) rfl rfl (by decide) (lp0 v 1 (by omega))) ?_;exact U288 O.1):P:=h ⟨k⟩
theorem U364(h:B Q->P:=by intro O;refine G0.val (j0 _) (W0 _) rfl (v:=.int .u64 (((v:Nat):Int))) (cm0 (r:=((v:Nat):Int)) rfl rfl (by decide) (lp0 v 0 (by omega))) ?_;exact U288 O.1):P:=h ⟨k⟩
theorem U365(h:Q->P:=by intro O;refine G0.val B2 (W0 _) rfl (v:=.int .u32 0) (I0 rfl) ?_;exact G0.val B2 (W0 _) rfl (v:=.bool true) (w9 (r:=true) rfl rfl (by decide)) O):P:=h k
theorem U236(h:Q->P:=by intro O;have lt5:=F5.lq hb.size;have hb:=N0 hb F5.below;revert lt5 hb;exact O):P:=h k
theorem U366(h:Q->P:=by intro O;refine L.va (K0 rfl underlying115 rfl ji0 (by decide)) ?_;exact L.va (P1 (cs:=[.i obj,.i num]) rfl underlying107 rfl ji0 rfl (hC.z7 rfl)) O):P:=h k
theorem U367(h:Q->P:=by intro O;refine U129 ?_;exact L.va (H3 rfl) O):P:=h k
theorem U9(h:Q->P:=by intro O;refine U0 ?_;exact U3 O):P:=h k
theorem U368(h:Q->P:=by intro O;refine G0.val (O0 _ gr 2) (W0 _) rfl (v:=.bool true) (I0 rfl) ?_;exact G0.H8 (O0 _ gr 2) (W0 _) rfl rfl (v:=.i (-1)) (I0 rfl) O):P:=h k
theorem U50(h:Q->P:=by intro O;refine U0 ?_;exact W.region rfl O):P:=h k
theorem U34(h:Q->P:=by intro O;refine U7 ?_;exact U58 O):P:=h k
theorem U92(h:Q->P:=by intro O;refine U117 ?_;exact U3 O):P:=h k
theorem U237(h:B Q->P:=by intro O;refine ZA.Q5 hZ (rb (decide_eq_false (by omega))) ?_;exact ZA.exit hZ rfl O.1):P:=h ⟨k⟩
theorem U93(h:Q->P:=by intro O;refine ZA.Y2 hZ ?_;exact ZA.seq hZ O):P:=h k
theorem U370(h:Q->P:=by intro O;refine U16 ?_;exact G0.jr0 (W0 _) rfl (v:=.pointer (some ⟨bx,0,none⟩)) rfl Tryz.underlying86 rfl (.inr ⟨_,_,(.tail _ (.head _)),rfl,rfl⟩) O):P:=h k
theorem U371(h:Q->P:=by intro O;refine L.va (F0 rfl underlying151 rfl (hM.run.E0 0 (v:=.slice R.ca R.cl.length R.cc) rfl)) ?_;exact L.va (M7 rfl underlying151 rfl) O):P:=h k
theorem U372(h:Q->P:=by intro O;refine L.va (k9 (i:=i) rfl rfl underlying151 Fn0 hM.cls.sl C2) ?_;exact L.va (F0 (v:=.p c.cb) rfl underlying91 rfl (Fw0 hM hc)) O):P:=h k
theorem U238(h:Q->P:=by intro O;refine G0.nil r4 ?_;exact At.P4 r4 rfl O):P:=h k
theorem U156(h:Q->P:=by intro O;refine L.va (ai0 rfl) ?_;exact L.va (lc0 rfl) O):P:=h k
theorem U157(h:Q->P:=by intro O;refine L.va (j9 rfl) ?_;exact L.va (W4 rfl) O):P:=h k
theorem U373(h:Q->P:=by intro O;refine At.region (O0 _ gr 0) ?_;exact G0.val (O0 _ gr 0) (W0 _) rfl (v:=.pointer (some ⟨gr.blk,gr.off,none⟩)) (I0 rfl) O):P:=h k
theorem U374(h:B Q->P:=by intro O;refine W.fl 7 [4] [0,1,2,3,5,6,4] (fun w'=>True) (by kernel_rfl) (by kernel_rfl) (by kernel_rfl) (by kernel_rfl) (by kernel_rfl) trivial ?_;have u6:Below w.heap.size w w.drew:=(Below.refl w.heap.size w).drew;have hb:=N0 hb u6;have hW:=hW.A0 u6;have c7:=c7.A0 u6;revert u6 hb hW c7;exact O.1):P:=h ⟨k⟩
theorem U239(h:Q->P:=by intro O;refine U14 ?_;exact L.va (K0 rfl underlying153 rfl ic0 (by decide)) O):P:=h k
theorem U375(h:Q->P:=by intro O;refine G0.val B2 (W0 _) rfl (v:=.bool false) (S7 rfl rfl) ?_;exact G0.val B2 (W0 _) rfl (v:=.bool false) (I0 rfl) O):P:=h k
theorem U376(h:Q->P:=by intro O;refine L.on rfl ?_;exact L.va (F0 rfl underlying25 rfl (((hM.A0 hb).blk i _ hc).E0 6 (v:=.func (.func f) #[] caps) rfl)) O):P:=h k
theorem U377(h:Q->P:=by intro O;refine G0.val (O0 _ gr 2) (W0 _) rfl (v:=.bool false) (ao0 (r:=false) rfl rfl (by decide)) ?_;exact G0.nil (O0 _ gr 2) O):P:=h k
theorem U378(h:Q->P:=by intro O;refine G0.val B2 (W0 _) rfl (v:=.bool true) (I0 rfl) ?_;exact G0.H8 B2 (W0 _) rfl rfl (v:=.int .u64 0) (I0 rfl) O):P:=h k
theorem U379(h:Q->P:=by intro O;refine G0.val r4 (W0 _) rfl (v:=.bool false) (I0 rfl) ?_;exact G0.Vi0 (W0 _) rfl Tryz.func104 Wr0 rfl rfl Xe0 rfl O):P:=h k
theorem U380(h:Q->P:=by intro O;refine U197 ?_;show W _ _ _ _ _ _;exact O):P:=h k
theorem U240(h:Q->P:=by intro O;refine U129 ?_;exact L.va (K0 rfl underlying30 rfl Fk0 (by decide)) O):P:=h k
theorem U381(h:Q->P:=by intro O;refine U114 ?_;exact L.va (Q3 (l:=[.tmp 2,.tmp 5]) (vs:=[.pointer (some ⟨b2,0,none⟩),.pointer (some ⟨b5,0,none⟩)]) rfl) O):P:=h k
theorem U382(h:Q->P:=by intro O;refine G0.val S0 (W0 _) rfl (v:=.bool true) (I0 rfl) ?_;exact G0.H8 S0 (W0 _) rfl rfl (v:=.i 1) (I0 rfl) O):P:=h k
theorem U383(h:B Q->P:=by intro O;refine G0.val (j0 _) (W0 _) rfl (v:=.int .u64 0) (I6 (r:=0) rfl rfl (fb0 v 0 (by omega) (by omega))) ?_;exact U290 O.1):P:=h ⟨k⟩
theorem U384(h:B Q->P:=by intro O;refine G0.val (j0 _) (W0 _) rfl (v:=.int .u64 0) (I6 (r:=0) rfl rfl (fb0 0 0 (by omega) (by omega))) ?_;exact U290 O.1):P:=h ⟨k⟩
theorem U241(h:B Q->P:=by intro O;(have hF5:¬F b5:=fun z=>by have:=hK.tlt hT z;omega);(have hF2:¬F b2:=fun z=>by have:=hK.tlt hT z;omega);revert hF5 hF2;exact O.1):P:=h ⟨k⟩
theorem U385(h:Q->P:=by intro O;refine L.va (F0 rfl underlying67 rfl (H7.E0 0 (v:=.pointer (some ⟨cb,0,none⟩)) rfl)) ?_;exact L.va (u1 rfl) O):P:=h k
theorem U386(h:Q->P:=by intro O;refine L.va (F0 rfl underlying67 rfl (hB3.E0 0 (v:=.pointer (some ⟨cb,0,none⟩)) rfl)) ?_;exact L.va (u1 rfl) O):P:=h k
theorem U387(h:Q->P:=by intro O;refine L.va (F0 rfl underlying65 rfl (H7.E0 0 (v:=.pointer (some ⟨cb,0,none⟩)) rfl)) ?_;exact L.va (u1 rfl) O):P:=h k
theorem U388(h:Q->P:=by intro O;refine L.va (F0 rfl underlying65 rfl (hB3.E0 0 (v:=.pointer (some ⟨cb,0,none⟩)) rfl)) ?_;exact L.va (u1 rfl) O):P:=h k
theorem U389(h:Q->P:=by intro O;have V4:=V4.A0 Y1;have J5:=J5.A0 Y1;revert V4 J5;exact O):P:=h k
theorem U390(h:Q->P:=by intro O;refine L.va (F0 rfl underlying86 rfl (H7.E0 0 (v:=.pointer (some ⟨bx,0,none⟩)) rfl)) ?_;exact L.va (u1 rfl) O):P:=h k
theorem U391(h:Q->P:=by intro O;have hb:=N0 hb Y1;have hW:=hW.A0 Y1;have c7:=c7.A0 Y1;revert hb hW c7;exact O):P:=h k
theorem U242(h:Q->P:=by intro O;refine L.va (j9 rfl) ?_;exact L.va (M7 rfl underlying22 rfl) O):P:=h k
theorem U35(h:Q->P:=by intro O;refine U352 ?_;intro Q4 o5;have p5:=p5.mod T5 rfl;revert Q4 o5 p5;exact O):P:=h k
theorem U36(h:B Q->P:=by intro O;have W7:=P3 F11.below F11.below.size hg (by have:=F11.here;omega);have hY:=dt0.A0 W7;have C3:=jt0.A0 W7;have hH:=xb0.A0 W7;have hR:=xc0.A0 W7;have hb:=N0 Z9 W7;revert W7 hY C3 hH hR hb;exact O.1):P:=h ⟨k⟩
theorem U392(h:Q->P:=by intro O;refine G0.val (O0 _ gr 2) (W0 _) rfl (v:=.int .i32 (((0:Nat):Int))) (P0 rfl) ?_;exact G0.nil (O0 _ gr 2) O):P:=h k
theorem U26(h:Q->P:=by intro O;refine U303 ?_;intro T5 hb;have hW:=hW.mod T5 rfl;refine U331 ?_;intro V4 J5;revert T5 hb hW V4 J5;exact O):P:=h k
theorem U20(h:Q->P:=by intro O;refine U278 ?_;refine U278 ?_;exact F.va rfl rfl (fun w' N2=>(u1 rfl)) O):P:=h k
theorem U393(h:B Q->P:=by intro O;refine G0.val S0 (W0 _) rfl (v:=.bool false) (ao0 (r:=false) rfl rfl (decide_eq_false (by omega))) ?_;exact U66 O.1):P:=h ⟨k⟩
theorem U394(h:Q->P:=by intro O;refine G0.call (m3 _ gr) (W0 _) [.pointer (some ⟨gr.blk,gr.off,none⟩),.int .u64 18446744069414584320] 10 rfl Tryz.func94 Wo0 rfl rfl rfl (fun cs2 hb2=>?_);refine U82 ?_;revert cs2 hb2;exact O):P:=h k
theorem U158(h:Q->P:=by intro O;refine At.region (O0 _ gr 1) ?_;refine G0.val (O0 _ gr 1) (W0 _) rfl (v:=.pointer (some ⟨gr.blk,gr.off,none⟩)) (I0 rfl) ?_;exact G0.val (O0 _ gr 1) (W0 _) rfl (v:=.pointer (some ⟨gr.blk,gr.off,none⟩)) (A3 rfl) O):P:=h k
theorem U243(h:Q->P:=by intro O;refine U346 ?_;refine U28 ?_;exact G0.val (j0 _) (W0 _) rfl (v:=.int .i32 (((v:Nat):Int))) (I0 rfl) O):P:=h k
theorem U159(h:Q->P:=by intro O;refine U0 ?_;refine W.seq ?_;exact U113 O):P:=h k
theorem U395(h:Q->P:=by intro O;refine G0.val (j0 _) (W0 _) rfl (v:=.int .i32 (((0:Nat):Int))) (P0 rfl) ?_;exact G0.nil (j0 _) O):P:=h k
theorem U396(h:Q->P:=by intro O;refine At.region B2 ?_;exact G0.val B2 (W0 _) rfl (v:=.pointer (some ⟨gr.blk,gr.off,none⟩)) (I0 rfl) O):P:=h k
theorem U397(h:Q->P:=by intro O;refine G0.qu0 (m3 _ gr) (W0 _) (.bool false) rfl Tryz.func90 Wn0 rfl rfl Xc0 ?_;exact G0.nil (m3 _ gr) O):P:=h k
theorem U398(h:Q->P:=by intro O;refine At.region W1 ?_;exact G0.vt0 W1 (W0 _) .disable (by simp) (.inl rfl) rfl Tryz.func88 Qr0 rfl rfl Qs0 O):P:=h k
theorem U399(h:Q->P:=by intro O;refine W.region rfl ?_;exact L.va (F0 rfl underlying67 rfl (g6.E0 0 (v:=.pointer (some ⟨cb,0,none⟩)) rfl)) O):P:=h k
theorem U94(h:Q->P:=by intro O;refine G0.nil S0 ?_;exact U88 O):P:=h k
theorem U160(h:Q->P:=by intro O;refine W.region rfl ?_;exact L.va cg0 O):P:=h k
theorem U400(h:Q->P:=by intro O;refine D.va (fun w' N2=>(u1 rfl)) ?_;exact D.va (fun w' N2=>(K0 rfl underlying123 rfl sz2 (by decide))) O):P:=h k
theorem U401(h:Q->P:=by intro O;refine D.va (fun w' N2=>(u1 rfl)) ?_;exact D.va (fun w' N2=>(K0 rfl underlying195 rfl sz3 (by decide))) O):P:=h k
theorem U402(h:Q->P:=by intro O;refine AtR.leave1 (j0 _) hb2 rfl Tryz.func94 rfl (.int .u64 (((0*4294967296+0:Nat):Int))) rfl ?_;exact U204 O):P:=h k
theorem U403(h:Q->P:=by intro O;refine W.region rfl ?_;refine L.va (K0 rfl underlying52 rfl sz3 (by decide)) ?_;exact L.va (F0 rfl underlying3 rfl (hB1.E0 2 (v:=.int .i64 o.call) rfl)) O):P:=h k
theorem U27(h:B Q->P:=by intro O;refine U374 ?_;intro u6 hb hW c7;have V4:=V4.A0 u6;have J5:=J5.A0 u6;revert u6 hb hW c7 V4 J5;exact O.1):P:=h ⟨k⟩
theorem U404(h:Q->P:=by intro O;refine U289 ?_;exact U3 O):P:=h k
theorem U405(h:Q->P:=by intro O;refine U201 ?_;exact G0.val S0 (W0 _) rfl (v:=.int .u64 ((((v+1)*4294967296+0:Nat):Int))) (I0 rfl) O):P:=h k
theorem U406(h:Q->P:=by intro O;refine U201 ?_;exact G0.val S0 (W0 _) rfl (v:=.int .u64 ((((0+1)*4294967296+0:Nat):Int))) (I0 rfl) O):P:=h k
theorem U244(h:Q->P:=by intro O;refine U287 ?_;exact W.seq O):P:=h k
theorem U407(h:Q->P:=by intro O;refine U44 ?_;exact L.va (F0 rfl underlying4 rfl (((hM.A0 hb).blk i _ hc).E0 9 (v:=.bool true) rfl)) O):P:=h k
theorem U245(h:Q->P:=by intro O;refine ZA.region hZ ?_;refine ZA.recover hZ (i:=0) (rest:=[]) rfl rfl rfl rfl hmd (fun c45 v hsv=>?_);revert c45 v hsv;exact O):P:=h k
theorem U408(h:Q->P:=by intro O;refine G0.val (j0 _) (W0 _) rfl (v:=.bool false) (ao0 (r:=false) rfl rfl (by decide)) ?_;exact U196 O):P:=h k
theorem U161(h:Q->P:=by intro O;refine At.seq (O0 _ gr 0) ?_;refine At.seq (O0 _ gr 0) ?_;exact At.region (O0 _ gr 0) O):P:=h k
theorem U409(h:Q->P:=by intro O;refine U209 ?_;exact G0.val m4 (W0 _) rfl (v:=.pointer (some ⟨gr.blk,gr.off,none⟩)) (A3 rfl) O):P:=h k
theorem U10(h:Q->P:=by intro O;refine U90 ?_;intro hE hc;have C3:=C3.A0 Y1;refine U13 ?_;refine U46 ?_;revert hE hc C3;exact O):P:=h k
theorem U410(h:Q->P:=by intro O;refine G0.val (O0 _ gr 2) (W0 _) rfl (v:=.int .u32 1) (P0 rfl) ?_;exact G0.nil (O0 _ gr 2) O):P:=h k
theorem U411(h:Q->P:=by intro O;refine G0.val (O0 _ gr 2) (W0 _) rfl (v:=.int .u64 0) (P0 rfl) ?_;exact G0.nil (O0 _ gr 2) O):P:=h k
theorem U412(h:Q->P:=by intro O;refine G0.val (O0 _ gr 1) (W0 _) rfl (v:=.int .u64 1) (P0 rfl) ?_;exact G0.nil (O0 _ gr 1) O):P:=h k
theorem U413(h:Q->P:=by intro O;refine G0.val A2 (W0 _) rfl (v:=.bool true) (ao0 (r:=true) rfl rfl (by decide)) ?_;exact G0.nil A2 O):P:=h k
theorem U414(h:Q->P:=by intro O;refine G0.val (j0 _) (W0 _) rfl (v:=.bool false) (k7 (r:=false) rfl rfl (by decide)) ?_;exact U281 O):P:=h k
theorem U51(h:Q->P:=by intro O;refine U117 ?_;exact U58 O):P:=h k
theorem U416(h:Q->P:=by intro O;refine L.va (W4 rfl) ?_;exact L.call (N7 rfl rfl rfl func81 rfl cv1 rfl) (Cs0 wb obj num _ hW) O):P:=h k
theorem U11(h:Q->P:=by intro O;refine Calls.V5 (n:=146) func39 rfl rfl ?_;have V8:=hc.os;have k6:=hc.output;refine U3 ?_;revert V8 k6;exact O):P:=h k
theorem U417(h:Q->P:=by intro O;refine G0.val (j0 _) (W0 _) rfl (v:=.bool true) (bo0 rfl rfl) ?_;exact G0.nil (j0 _) O):P:=h k
theorem U418(h:Q->P:=by intro O;refine G0.val (O0 _ gr 0) (W0 _) rfl (v:=.bool false) (I0 rfl) ?_;exact G0.nil (O0 _ gr 0) O):P:=h k
theorem U419(h:Q->P:=by intro O;have Q4:=Q4.A0 u6;have o5:=o5.A0 u6;revert Q4 o5;exact O):P:=h k
theorem U420(h:Q->P:=by intro O;have Q4:=Q4.A0 Y1;have o5:=o5.A0 Y1;revert Q4 o5;exact O):P:=h k
theorem U421(h:Q->P:=by intro O;refine G0.Fd0 (W0 _) rfl Tryz.func111 Wu0 rfl rfl Xd0 rfl rfl ?_;exact G0.nil (O0 _ gr 0) O):P:=h k
theorem U422(h:Q->P:=by intro O;refine U22 ?_;exact G0.vt0 B2 (W0 _) .enable (by simp) (.inl rfl) rfl Tryz.func89 jx0 rfl rfl jy0 O):P:=h k
theorem U423(h:Q->P:=by intro O;refine U145 ?_;exact G0.vt0 m4 (W0 _) .enable (by simp) (.inl rfl) rfl Tryz.func89 jx0 rfl rfl jy0 O):P:=h k
theorem U424(h:Q->P:=by intro O;refine FP.va rfl rfl (fun w' N2=>(F0 rfl underlying31 rfl (N2.1.E0 0 (v:=.slice (some ⟨p.lgb,0,none⟩) p.m p.m) rfl))) ?_;refine FP.va rfl rfl (fun w' N2=>(H3 rfl)) ?_;exact FP.call rfl rfl (fun w' N2=>W2 rfl func47 rfl ck1 rfl) (fun w' N2=>vs0) O):P:=h k
theorem U37(h:Q->P:=by intro O;rw[hw];exact O):P:=h k
theorem U38(h:Q->P:=by intro O;refine G0.val (O0 _ gr 2) (W0 _) rfl (v:=.bool false) (bo0 rfl rfl) ?_;refine G0.nil (O0 _ gr 2) ?_;exact U200 O):P:=h k
theorem U95(h:Q->P:=by intro O;exact U62 O):P:=h k
theorem U425(h:Q->P:=by intro O;refine U155 ?_;exact G0.vt0 (m3 _ gr) (W0 _) .disable (by simp) rfl rfl Tryz.func88 Qr0 rfl rfl Qs0 O):P:=h k
theorem U246(h:B Q->P:=by intro O;refine U321 ?_;refine L.va (L2 (r:=false) (decide_eq_false (by omega)) (es0 rfl rfl)) ?_;refine L.va (L5 rfl) ?_;refine U321 ?_;refine L.va (L2 (r:=false) (decide_eq_false (by omega)) (zy0 rfl rfl)) ?_;refine L.va (L5 rfl) ?_;refine U86 ?_;exact U113 O.1):P:=h ⟨k⟩
theorem U427(h:Q->P:=by intro O;refine At.region (j0 _) ?_;exact G0.val (j0 _) (W0 _) rfl (v:=.int .u32 1) (I0 rfl) O):P:=h k
theorem U428(h:Q->P:=by intro O;refine G0.val W1 (W0 _) rfl (v:=.int .i32 (((v:Nat):Int))) (P0 rfl) ?_;exact G0.nil W1 O):P:=h k
theorem U429(h:Q->P:=by intro O;refine F.va rfl rfl (fun w' N2=>(K0 rfl underlying72 rfl Vm0 (by decide))) ?_;exact F.doo rfl rfl O):P:=h k
theorem U430(h:Q->P:=by intro O;refine F.va rfl rfl (fun w' N2=>(K0 rfl underlying72 rfl Vn0 (by decide))) ?_;exact F.doo rfl rfl O):P:=h k
theorem U431(h:Q->P:=by intro O;refine F.va rfl rfl (fun w' N2=>(K0 rfl underlying72 rfl Qn0 (by decide))) ?_;exact F.doo rfl rfl O):P:=h k
theorem U432(h:Q->P:=by intro O;refine F.va rfl rfl (fun w' N2=>(K0 rfl underlying72 rfl Qo0 (by decide))) ?_;exact F.doo rfl rfl O):P:=h k
theorem U433(h:Q->P:=by intro O;refine F.va rfl rfl (fun w' N2=>(K0 rfl underlying72 rfl Qp0 (by decide))) ?_;exact F.doo rfl rfl O):P:=h k
theorem U434(h:Q->P:=by intro O;refine G0.off r4 rfl rfl ?_;exact G0.val r4 (W0 _) rfl (v:=.bool false) (bo0 rfl rfl) O):P:=h k
theorem U69(h:Q->P:=by intro O;refine U13 ?_;exact W.block O):P:=h k
theorem U12(h:Q->P:=by intro O;have lt5:=Nat.le_refl w.heap.size;have hE:=hE.A0 F5.below;have hc:=hc.A0 F5.below;have C3:=F5.blk;refine U64 ?_;revert lt5 hE hc C3;exact O):P:=h k
theorem U435(h:Q->P:=by intro O;refine G0.val (m3 _ gr) (W0 _) rfl (v:=.bool false) (P0 rfl) ?_;exact G0.nil (m3 _ gr) O):P:=h k
theorem U162(h:Q->P:=by intro O;refine ZA.block hZ ?_;exact ZA.loop hZ O):P:=h k
theorem U436(h:Q->P:=by intro O;refine L.va (F0 rfl underlying69 rfl (H7.E0 0 (v:=.p cb) rfl)) ?_;exact L.va (u1 rfl) O):P:=h k
theorem U437(h:Q->P:=by intro O;refine L.va (F0 rfl underlying69 rfl (hB3.E0 0 (v:=.p cb) rfl)) ?_;exact L.va (u1 rfl) O):P:=h k
theorem U39(h:Q->P:=by intro O;refine U391 ?_;intro hb hW c7;refine U389 ?_;intro V4 J5;revert hb hW c7 V4 J5;exact O):P:=h k
theorem U438(h:Q->P:=by intro O;refine G0.off B2 rfl rfl ?_;exact G0.val B2 (W0 _) rfl (v:=.bool false) (bo0 rfl rfl) O):P:=h k
theorem U439(h:Q->P:=by intro O;refine U44 ?_;exact L.va (F0 rfl underlying4 rfl ((hM.blk i c hc).E0 9 (v:=.bool c.wt) rfl)) O):P:=h k
theorem U70(h:Q->P:=by intro O;have W5:=W5.mod T5 rfl;have X5:=X5.mod T5 rfl;revert W5 X5;exact O):P:=h k
theorem U163(h:Q->P:=by intro O;refine U86 ?_;exact U3 O):P:=h k
theorem U440(h:Q->P:=by intro O;refine U88 ?_;exact G0.val S0 (W0 _) rfl (v:=.int .i32 ((((v+1):Nat):Int))) (I0 rfl) O):P:=h k
theorem U441(h:Q->P:=by intro O;refine L.va (F0 rfl underlying4 rfl (hC.E0 2 (v:=.bool h) rfl)) ?_;exact L.va (lc0 rfl) O):P:=h k
theorem U40(h:Q->P:=by intro O;refine U404 ?_;exact U24 O):P:=h k
theorem U52(h:Q->P:=by intro O;refine D.nil (fun w Y1=>?_);have hb:=N0 hb Y1;have hY:=hY.A0 Y1;have C3:=C3.A0 Y1;have hH:=hH.A0 Y1;have hR:=hR.A0 Y1;revert w Y1 hb hY C3 hH hR;exact O):P:=h k
theorem U247(h:Q->P:=by intro O;have neE:=E1.ne hE hg.m.ends (by decide);refine L.stE (i:=i) hg hi rfl rfl sz3 (fun w hg G3=>?_);revert neE w hg G3;exact O):P:=h k
theorem U442(h:Q->P:=by intro O;refine G0.Qg0 (W0 _) rfl Tryz.func99 db1 rfl rfl dd1 rfl ?_;exact G0.nil (j0 _) O):P:=h k
theorem U248(h:Q->P:=by intro O;refine L.va (j9 rfl) ?_;exact L.va (j9 rfl) O):P:=h k
theorem U443(h:Q->P:=by intro O;refine L.va (F0 rfl underlying3 rfl (G4.E0 0 (v:=.int .i64 1) rfl)) ?_;exact U0 O):P:=h k
theorem U444(h:Q->P:=by intro O;refine L.va (F0 rfl underlying3 rfl (G4.E0 0 (v:=.int .i64 4) rfl)) ?_;exact U0 O):P:=h k
theorem U445(h:Q->P:=by intro O;refine L.va (F0 rfl underlying3 rfl (G4.E0 0 (v:=.int .i64 2) rfl)) ?_;exact U0 O):P:=h k
theorem U446(h:Q->P:=by intro O;refine U218 ?_;exact L.va (Q3 (l:=[.tmp 2]) (vs:=[.pointer (some ⟨b2,0,none⟩)]) rfl) O):P:=h k
theorem U447(h:Q->P:=by intro O;refine L.va (F0 rfl underlying2 rfl (C3.E0 0 (v:=.int .i64 (x tt)) rfl)) ?_;exact U24 O):P:=h k
theorem U164(h:Q->P:=by intro O;refine L.va (fv0 rfl) ?_;exact U1 O):P:=h k
theorem U165(h:Q->P:=by intro O;refine U2 ?_;exact L.va (W4 rfl) O):P:=h k
theorem U448(h:Q->P:=by intro O;refine AtR.leave0 (O0 _ gr 0) hb4 rfl Tryz.func97 rfl ?_;exact G0.nil (O0 _ gr 0) O):P:=h k
theorem U449(h:Q->P:=by intro O;refine G0.val r4 (W0 _) rfl (v:=.bool false) (P0 rfl) ?_;exact G0.nil r4 O):P:=h k
theorem U166(h:Q->P:=by intro O;have hZ:Ctx.Zs prog (Fin prog Post X 0):=A4;have hb:=W0 80;revert hZ hb;exact O):P:=h k
theorem U249(h:Q->P:=by intro O;refine ZA.Y2 hZ ?_;exact ZA.inBlock hZ O):P:=h k
theorem U167(h:Q->P:=by intro O;have hZ:Ctx.Zs prog (Fin prog Post X 0):=A4;have hb:=W0 48;revert hZ hb;exact O):P:=h k
theorem U450(h:Q->P:=by intro O;rw[K1 s6,K1 s39,K1 s40,K1 s41,K1 s4,K1 s1];exact O):P:=h k
theorem U451(h:Q->P:=by intro O;refine G0.val W1 (W0 _) rfl (v:=.int .u32 0) (P0 rfl) ?_;exact G0.nil W1 O):P:=h k
theorem U452(h:Q->P:=by intro O;refine G0.val W1 (W0 _) rfl (v:=.bool false) (P0 rfl) ?_;exact G0.nil W1 O):P:=h k
theorem U453(h:Q->P:=by intro O;refine L.va (u1 rfl) ?_;exact L.va (K0 rfl underlying115 rfl sz2 (by decide)) O):P:=h k
theorem U454(h:Q->P:=by intro O;refine L.va (u1 rfl) ?_;exact L.va (K0 rfl underlying132 rfl sz2 (by decide)) O):P:=h k
theorem U455(h:Q->P:=by intro O;refine U1 ?_;refine ZA.call (i:=1) (rest:=[]) hZ hb (f:=80) (args:=#[.p R.rb]) rfl rfl (W2 rfl func80 rfl cu1 rfl) (fun a ha=>?_);revert a ha;exact O):P:=h k
theorem U168(h:Q->P:=by intro O;refine L.va (W4 rfl) ?_;exact U1 O):P:=h k
theorem U250(h:Q->P:=by intro O;refine D.va (fun w' N2=>(H3 rfl)) ?_;refine D.va (fun w' N2=>(K0 rfl underlying52 rfl sz2 (by decide))) ?_;exact D.va (fun w' N2=>(F0 rfl underlying2 rfl ((C3.A0 N2).E0 3 (v:=.int .i64 vv) rfl))) O):P:=h k
theorem U53(h:Q->P:=by intro O;refine U21 ?_;refine L.va (L2 (r:=false) (by decide) (O4 (m:=2) (k:=1) rfl rfl)) ?_;refine U5 ?_;refine L.va (L2 (r:=true) (by decide) (O4 (m:=2) (k:=2) rfl rfl)) ?_;exact U83 O):P:=h k
theorem U456(h:Q->P:=by intro O;refine xz0 (Q:=fun _ _ _=>False) hZ hb (fun _ _ _ hx=>hx.elim) ho ?_;show nh0 P _ a w _ _;exact O):P:=h k
theorem U251(h:Q->P:=by intro O;refine At.Y2 hY ?_;exact At.region hY O):P:=h k
theorem U457(h:Q->P:=by intro O;show B1 P (callFunc f (#[] ++ #[x,y].map ρ ++ #[]));exact Hl0 hf H2 hb hn he O):P:=h k
theorem U458(h:Q->P:=by intro O;refine G0.val (j0 _) (W0 _) rfl (v:=.int .u32 1) (P0 rfl) ?_;exact U23 O):P:=h k
theorem U71(h:B Q->P:=by intro O;refine U221 ?_;exact U285 O.1):P:=h ⟨k⟩
theorem U252(h:Q->P:=by intro O;refine U194 ?_;exact U243 O):P:=h k
theorem U460(h:Q->P:=by intro O;refine G0.val W1 (W0 _) rfl (v:=.int .u64 0) (P0 rfl) ?_;exact G0.nil W1 O):P:=h k
theorem U461(h:Q->P:=by intro O;refine U89 ?_;exact L.va (L3 (parts:=[(0,.tmp 10),(1,.tmp 11)]) rfl (za0 obj num)) O):P:=h k
theorem U462(h:Q->P:=by intro O;refine AtR.leave1 (O0 _ gr 1) hb3 rfl Tryz.func96 rfl (.int .u64 1) rfl ?_;refine G0.val (O0 _ gr 1) (W0 _) rfl (v:=.int .u64 (((0*4294967296+1:Nat):Int))) (I0 rfl) ?_;exact G0.val (O0 _ gr 1) (W0 _) rfl (v:=.bool false) (k7 (r:=false) rfl rfl (by decide)) O):P:=h k
theorem U464(h:Q->P:=by intro O;refine L.va (F0 rfl underlying3 rfl (C3.E0 0 (v:=.int .i64 1) rfl)) ?_;exact U0 O):P:=h k
theorem U465(h:Q->P:=by intro O;refine L.va (F0 rfl underlying3 rfl (C3.E0 0 (v:=.int .i64 3) rfl)) ?_;exact U0 O):P:=h k
theorem U466(h:Q->P:=by intro O;refine L.va (F0 rfl underlying3 rfl (C3.E0 0 (v:=.int .i64 4) rfl)) ?_;exact U0 O):P:=h k
theorem U467(h:Q->P:=by intro O;refine L.va (F0 rfl underlying3 rfl (C3.E0 0 (v:=.int .i64 5) rfl)) ?_;exact U0 O):P:=h k
theorem U468(h:Q->P:=by intro O;refine U56 ?_;exact L.va (F0 rfl underlying3 rfl (C3.E0 2 (v:=.int .i64 1) rfl)) O):P:=h k
theorem U469(h:Q->P:=by intro O;refine U56 ?_;exact L.va (F0 rfl underlying3 rfl (C3.E0 2 (v:=.int .i64 2) rfl)) O):P:=h k
theorem U470(h:Q->P:=by intro O;refine U46 ?_;exact L.va (F0 rfl underlying3 rfl (C3.E0 2 (v:=.int .i64 5) rfl)) O):P:=h k
theorem U72(h:Q->P:=by intro O;refine U279 ?_;exact U306 O):P:=h k
theorem U169(h:Q->P:=by intro O;refine G0.nil B2 ?_;refine At.Q5 B2 rfl ?_;exact At.skip B2 O):P:=h k
theorem U254(h:Q->P:=by intro O;refine G0.nil W1 ?_;refine At.Q5 W1 rfl ?_;exact At.skip W1 O):P:=h k
theorem U170(h:B Q->P:=by intro O;have y9:=hb;(have hF2:¬F b2:=fun z=>by have:=hK.tlt hT z;omega);revert y9 hF2;exact O.1):P:=h ⟨k⟩
theorem U471(h:Q->P:=by intro O;refine G0.val A2 (W0 _) rfl (v:=.bool false) (P0 rfl) ?_;exact G0.nil A2 O):P:=h k
theorem U255(h:Q->P:=by intro O;refine At.seq r4 ?_;exact U225 O):P:=h k
theorem U472(h:Q->P:=by intro O;refine G0.val A2 (W0 _) rfl (v:=.bool true) (P0 rfl) ?_;exact G0.nil A2 O):P:=h k
theorem U54(h:Q->P:=by intro O;refine U0 ?_;exact U15 O):P:=h k
theorem U473(h:Q->P:=by intro O;refine U21 ?_;exact L.va (L2 (r:=false) (by decide) (O4 (m:=5) (k:=1) rfl rfl)) O):P:=h k
theorem U474(h:Q->P:=by intro O;refine L.va (L2 (r:=false) (by decide) (O4 (m:=5) (k:=4) rfl rfl)) ?_;exact U5 O):P:=h k
theorem U475(h:Q->P:=by intro O;refine L.va (L2 (r:=false) (by decide) (O4 (m:=5) (k:=3) rfl rfl)) ?_;exact U5 O):P:=h k
theorem U476(h:Q->P:=by intro O;refine L.va (L2 (r:=false) (by decide) (O4 (m:=5) (k:=2) rfl rfl)) ?_;exact U5 O):P:=h k
theorem U477(h:Q->P:=by intro O;refine U419 ?_;intro Q4 o5;have p5:=p5.A0 u6;revert Q4 o5 p5;exact O):P:=h k
theorem U478(h:Q->P:=by intro O;refine U420 ?_;intro Q4 o5;have p5:=p5.A0 Y1;revert Q4 o5 p5;exact O):P:=h k
theorem U256(h:Q->P:=by intro O;refine G0.nil m4 ?_;exact At.seq m4 O):P:=h k
theorem U479(h:Q->P:=by intro O;refine L.va (L2 (r:=true) (by decide) (O4 (m:=5) (k:=5) rfl rfl)) ?_;exact U83 O):P:=h k
theorem U480(h:Q->P:=by intro O;refine G0.val (m3 _ gr) (W0 _) rfl (v:=.int .u64 0) (P0 rfl) ?_;exact U155 O):P:=h k
theorem U481(h:Q->P:=by intro O;refine G0.call W1 (W0 _) [.pointer (some ⟨gr.blk,gr.off,none⟩)] 7 rfl Tryz.func96 Ky0 rfl rfl rfl (fun cs1 E5=>?_);refine U6 ?_;revert cs1 E5;exact O):P:=h k
theorem U482(h:Q->P:=by intro O;refine G0.H8 r4 (W0 _) rfl rfl (v:=.int .u32 0) (I0 rfl) ?_;refine G0.H8 r4 (W0 _) rfl rfl (v:=.bool true) (w9 (r:=true) rfl rfl (by decide)) ?_;exact G0.val r4 (W0 _) rfl (v:=.bool true) (S7 rfl rfl) O):P:=h k
theorem U171(h:Q->P:=by intro O;refine U149 ?_;exact L.off rfl O):P:=h k
theorem U483(h:Q->P:=by intro O;refine AtR.leave1 W1 hb2 rfl Tryz.func102 rfl (.bool false) rfl ?_;exact U254 O):P:=h k
theorem U484(h:Q->P:=by intro O;refine L.va (F0 rfl underlying2 rfl (hC.E0 3 (v:=.int .i64 x) rfl)) ?_;refine L.pu 0 [.int .i64 x] #[.int .i64 x] sz2 hB1 (fun w I1 hg D2=>?_);revert w I1 hg D2;exact O):P:=h k
theorem U485(h:Q->P:=by intro O;refine AtR.leave1 r4 hb2 rfl Tryz.func102 rfl (.bool true) rfl ?_;exact U238 O):P:=h k
theorem U486(h:Q->P:=by intro O;refine L.va (H3 rfl) ?_;refine L.lj0 (cs:=#[.p cb]) rfl rfl underlying151 Fn0 rfl ⟨_,Vp0⟩ (by decide) (fun w b35 F35=>?_);revert w b35 F35;exact O):P:=h k
theorem U172(h:Q->P:=by intro O;refine W.block ?_;exact W.seq O):P:=h k
theorem U257(h:Q->P:=by intro O;refine L.va (bk0 rfl) ?_;exact L.nil O):P:=h k
theorem U487(h:Q->P:=by intro O;refine G0.val S0 (W0 _) rfl (v:=.bool false) (I0 rfl) ?_;exact U120 O):P:=h k
theorem U488(h:Q->P:=by intro O;refine G0.val S0 (W0 _) rfl (v:=.int .u32 0) (I0 rfl) ?_;exact U202 O):P:=h k
theorem U489(h:Q->P:=by intro O;refine U22 ?_;exact G0.val B2 (W0 _) rfl (v:=.bool false) (I0 rfl) O):P:=h k
theorem U173(h:Q->P:=by intro O;refine W.region rfl ?_;refine U87 ?_;exact L.va (K0 rfl underlying72 rfl Vn0 (by decide)) O):P:=h k
theorem U491(h:Q->P:=by intro O;refine L.on rfl ?_;exact L.va (K0 rfl underlying105 rfl sz4 (by decide)) O):P:=h k
theorem U41(h:Q->P:=by intro O;refine L.alloc (cs:=#[.int .i64 0,.int .i64 0,.int .i64 0]) bd1 rfl (fun w b11 F11=>?_);have pb0:=F11.lq hb.size;have G4:=F11.blk;revert w b11 F11 pb0 G4;exact O):P:=h k
theorem U492(h:Q->P:=by intro O;refine G0.H8 S0 (W0 _) rfl rfl (v:=.bool true) (cl0 (r:=true) rfl rfl (by decide)) ?_;refine G0.val S0 (W0 _) rfl (v:=.bool true) (S7 rfl rfl) ?_;exact G0.val S0 (W0 _) rfl (v:=.bool true) (I0 rfl) O):P:=h k
theorem U73(h:Q->P:=by intro O;refine U380 ?_;exact U3 O):P:=h k
theorem U493(h:Q->P:=by intro O;refine U255 ?_;exact G0.val r4 (W0 _) rfl (v:=.bool true) (I0 rfl) O):P:=h k
theorem U494(h:Q->P:=by intro O;refine At.region (m3 _ gr) ?_;exact G0.defer (m3 _ gr) (W0 _) [] rfl O):P:=h k
theorem U495(h:Q->P:=by intro O;refine L.on rfl ?_;exact L.va (K0 rfl underlying49 rfl sz3 (by decide)) O):P:=h k
theorem U258(h:Q->P:=by intro O;show L _ _ _ _ _ _ _;exact U14 O):P:=h k
theorem U496(h:Q->P:=by intro O;refine U4 ?_;intro hb;refine L.box (cs:=#[.int .i64 o.c5,.int .i64 o.jn0,.int .i64 o.call,.int .i64 o.val]) rfl rfl (fun w b1 F1=>?_);revert hb w b1 F1;exact O):P:=h k
theorem U497(h:Q->P:=by intro O;refine U22 ?_;exact G0.val B2 (W0 _) rfl (v:=.int .u64 0) (I0 rfl) O):P:=h k
theorem U498(h:Q->P:=by intro O;refine U145 ?_;exact G0.val m4 (W0 _) rfl (v:=.int .u64 0) (I0 rfl) O):P:=h k
theorem U74(h:Q->P:=by intro O;refine U2 ?_;exact U330 O):P:=h k
theorem U175(h:Q->P:=by intro O;exact L.nil O):P:=h k
theorem U499(h:Q->P:=by intro O;refine L.va (K0 rfl underlying47 rfl sz3 (by decide)) ?_;exact U325 O):P:=h k
theorem U500(h:Q->P:=by intro O;have m9:=m9.other hg (Q0.ne m9 bc0 (by decide));have Y5:=Y5.grown hg (fun r e=>by cases e;exact⟨_,_,_,R3 bc0⟩);revert m9 Y5;exact O):P:=h k
theorem U501(h:Q->P:=by intro O;refine L.va (K0 rfl underlying153 rfl Nx0 (by decide)) ?_;exact U1 O):P:=h k
theorem U502(h:Q->P:=by intro O;refine U258 ?_;exact L.va (K0 rfl underlying149 rfl Ny0 (by decide)) O):P:=h k
theorem U259(h:Q->P:=by intro O;refine G0.val S0 (W0 _) rfl (v:=.bool true) (S7 rfl rfl) ?_;refine G0.nil S0 ?_;exact At.P4 S0 rfl O):P:=h k
theorem U42(h:Q->P:=by intro O;refine U4 ?_;intro hb;refine U92 ?_;revert hb;exact O):P:=h k
theorem U97(h:B Q->P:=by intro O;refine U123 ?_;refine U292 ?_;exact L.nil O.1):P:=h ⟨k⟩
theorem U98(h:B Q->P:=by intro O;refine U159 ?_;refine L.va (F0 rfl underlying3 rfl (G4.E0 1 (v:=.int .i64 2) rfl)) ?_;refine L.va (L2 (r:=true) (by decide) (df0 (m:=2) (k:=1) rfl rfl)) ?_;refine U199 ?_;refine L.on rfl ?_;refine L.va (F0 rfl underlying3 rfl (G4.E0 1 (v:=.int .i64 2) rfl)) ?_;refine L.on rfl ?_;refine L.va (L2 (r:=false) (by decide) (df0 (m:=2) (k:=2) rfl rfl)) ?_;refine L.va (K5 rfl) ?_;exact U246 O.1):P:=h ⟨k⟩
theorem U503(h:Q->P:=by intro O;refine L.va (H3 rfl) ?_;exact L.va (x7 rfl rfl underlying56) O):P:=h k
theorem U504(h:Q->P:=by intro O;refine L.va (H3 rfl) ?_;exact L.va (x7 rfl rfl underlying61) O):P:=h k
theorem U99(h:Q->P:=by intro O;have e7:=e7.mod T5 rfl;have W8:=W8.mod T5 rfl;revert e7 W8;exact O):P:=h k
theorem U505(h:Q->P:=by intro O;refine U14 ?_;exact L.va (K0 rfl underlying113 rfl Nw0 (by decide)) O):P:=h k
theorem U75(h:Q->P:=by intro O;refine U236 ?_;intro lt5 hb;have hW:=hW.A0 F5.below;have hC:=hC.A0 F5.below;revert lt5 hb hW hC;exact O):P:=h k
theorem U76(h:Q->P:=by intro O;refine U7 ?_;exact U3 O):P:=h k
theorem U506(h:Q->P:=by intro O;refine L.va (K0 rfl underlying132 rfl Fm0 (by decide)) ?_;exact U294 O):P:=h k
theorem U507(h:Q->P:=by intro O;refine L.va (K0 rfl underlying123 rfl Fm0 (by decide)) ?_;exact U294 O):P:=h k
theorem U508(h:Q->P:=by intro O;refine U85 ?_;exact L.va (K0 rfl underlying30 rfl sz4 (by decide)) O):P:=h k
theorem U509(h:Q->P:=by intro O;refine L.va (K0 rfl underlying115 rfl Fm0 (by decide)) ?_;refine L.va (F0 rfl underlying56 rfl (hC.E0 2 (v:=.p wb) rfl)) ?_;exact L.call (W2 rfl func44 rfl ya0 rfl) (go0 wb w hW) O):P:=h k
theorem U510(h:B Q->P:=by intro O;have hσ:=xr0 (V:=V) h (.cons hi0 hl) i (by omega) hs P7 (fun j hj=>hkf j hj) bj0 hV;rw[hσ];revert hσ;exact O.1):P:=h ⟨k⟩
theorem U511(h:Q->P:=by intro O;refine G0.nil (O0 _ gr 1) ?_;exact At.Q5 (O0 _ gr 1) rfl O):P:=h k
theorem U512(h:Q->P:=by intro O;refine At.Q5 (O0 _ gr 0) rfl ?_;exact At.skip (O0 _ gr 0) O):P:=h k
theorem U513(h:Q->P:=by intro O;refine G0.nil (O0 _ gr 0) ?_;exact At.P4 (O0 _ gr 0) rfl O):P:=h k
theorem U260(h:Q->P:=by intro O;refine ZD.seq hZ ?_;exact ZD.region hZ O):P:=h k
theorem U55(h:Q->P:=by intro O;have hC:=hC.A0 F2.below;have H7:=F2.blk;revert hC H7;exact O):P:=h k
theorem U514(h:Q->P:=by intro O;refine U14 ?_;exact L.va (K0 rfl underlying149 rfl sz3 (by decide)) O):P:=h k
theorem U515(h:Q->P:=by intro O;refine U87 ?_;exact L.va (K0 rfl underlying72 rfl Vm0 (by decide)) O):P:=h k
theorem U516(h:Q->P:=by intro O;refine L.va (F0 rfl underlying65 rfl (g6.E0 0 (v:=.pointer (some ⟨cb,0,none⟩)) rfl)) ?_;refine L.va (u1 rfl) ?_;exact L.va (K0 rfl underlying123 rfl sz2 (by decide)) O):P:=h k
theorem U100(h:B Q->P:=by intro O;refine U80 ?_;refine U292 ?_;refine U1 ?_;exact ZA.inLoop hZ O.1):P:=h ⟨k⟩
theorem U261(h:Q->P:=by intro O;refine At.seq (m3 _ gr) ?_;exact U82 O):P:=h k
theorem U101(h:Q->P:=by intro O;refine U18 ?_;exact U211 O):P:=h k
theorem U517(h:Q->P:=by intro O;refine dd0 (Ctx.cl Z hZ) hl ?_;rw[Frame.raise_at];exact O):P:=h k
theorem U262(h:Q->P:=by intro O;refine U1 ?_;exact ZA.P4 hZ rfl O):P:=h k
theorem U102(h:Q->P:=by intro O;refine U367 ?_;exact U322 O):P:=h k
theorem U518(h:Q->P:=by intro O;refine At.block (O0 _ gr 0) ?_;exact At.loop (O0 _ gr 0) O):P:=h k
theorem U519(h:Q->P:=by intro O;refine L.va (j9 rfl) ?_;exact L.va (M7 rfl underlying90 rfl) O):P:=h k
theorem U520(h:Q->P:=by intro O;refine At.seq (O0 _ gr 0) ?_;exact At.block (O0 _ gr 0) O):P:=h k
theorem U521(h:Q->P:=by intro O;refine G0.nil (O0 _ gr 2) ?_;exact At.seq (O0 _ gr 2) O):P:=h k
theorem U522(h:Q->P:=by intro O;refine At.skip (O0 _ gr 1) ?_;exact At.seq (O0 _ gr 1) O):P:=h k
theorem U263(h:Q->P:=by intro O;refine L.va (zw0 rfl) ?_;exact U1 O):P:=h k
theorem U103(h:Q->P:=by intro O;refine U21 ?_;refine L.va (L2 (r:=true) (by decide) (O4 (m:=1) (k:=1) rfl rfl)) ?_;exact U83 O):P:=h k
theorem U177(h:B Q->P:=by intro O;refine U358 ?_;exact T.nrm O.1):P:=h ⟨k⟩
theorem U264(h:Q->P:=by intro O;refine L.va (Ee0 rfl) ?_;refine L.va (C9 rfl rfl) ?_;exact L.va (C9 rfl rfl) O):P:=h k
theorem U104(h:Q->P:=by intro O;refine U244 ?_;exact U21 O):P:=h k
theorem U105(h:Q->P:=by intro O;refine U21 ?_;refine L.va (L2 (r:=false) (by decide) (O4 (m:=4) (k:=1) rfl rfl)) ?_;refine U5 ?_;refine L.va (L2 (r:=false) (by decide) (O4 (m:=4) (k:=2) rfl rfl)) ?_;refine U5 ?_;refine L.va (L2 (r:=false) (by decide) (O4 (m:=4) (k:=3) rfl rfl)) ?_;refine U5 ?_;refine L.va (L2 (r:=true) (by decide) (O4 (m:=4) (k:=4) rfl rfl)) ?_;exact U83 O):P:=h k
theorem U524(h:B Q->P:=by intro O;refine U1 ?_;exact ZA.Q5 hZ (rb (decide_eq_false (by omega))) O.1):P:=h ⟨k⟩
theorem U178(h:Q->P:=by intro O;exact U137 O):P:=h k
theorem U525(h:Q->P:=by intro O;refine At.Q5 (m3 _ gr) rfl ?_;exact At.skip (m3 _ gr) O):P:=h k
theorem U181(h:Q->P:=by intro O;refine U18 ?_;exact U130 O):P:=h k
theorem U106(h:Q->P:=by intro O;refine U232 ?_;exact U136 O):P:=h k
theorem U265(h:Q->P:=by intro O;refine L.va (H3 rfl) ?_;exact U51 O):P:=h k
theorem U182(h:Q->P:=by intro O;refine U305 ?_;refine U222 ?_;exact U211 O):P:=h k
theorem U526(h:Q->P:=by intro O;refine G0.nil (j0 _) ?_;exact At.inLoop (j0 _) O):P:=h k
theorem U527(h:Q->P:=by intro O;refine D.on rfl ?_;exact D.va (fun w' N2=>(ai0 rfl)) O):P:=h k
theorem U77(h:Q->P:=by intro O;refine U0 ?_;exact W.seq O):P:=h k
theorem U528(h:Q->P:=by intro O;have hY:=hY.off hg hR ⟨by decide,by decide⟩ nf9;have C3:=Q0.other C3 hg (Q0.ne C3 hR (by decide));revert hY C3;exact O):P:=h k
theorem U266(h:Q->P:=by intro O;have hex:=cd0 (h.sel i o ho) hlk;have hwa:=ce0 hlk;revert hex hwa;exact O):P:=h k
theorem U183(h:Q->P:=by intro O;refine U86 ?_;exact U15 O):P:=h k
theorem U184(h:Q->P:=by intro O;refine U403 ?_;refine L.va (O4 rfl rfl) ?_;exact L.va (ai0 rfl) O):P:=h k
theorem U107(h:Q->P:=by intro O;refine U37 ?_;exact U163 O):P:=h k
theorem U529(h:Q->P:=by intro O;refine M9 (Ctx.cl Z hZ) hl ?_;rw[cv0];exact O):P:=h k
theorem U267(h:Q->P:=by intro O;refine W.seq ?_;exact W.seq O):P:=h k
theorem U185(h:Q->P:=by intro O;refine D.va (fun w' N2=>(F0 rfl underlying3 rfl ((G4.A0 N2).E0 1 (v:=.int .i64 2) rfl))) ?_;refine U284 ?_;refine D.va (fun w' N2=>(Z1 (i:=2) (n:=6) rfl rfl underlying35 Vk0 (by decide))) ?_;exact D.va (fun w' N2=>(Z1 (i:=nu) (n:=2) rfl rfl underlying34 sz4 hnu)) O):P:=h k
theorem U186(h:B Q->P:=by intro O;refine U252 ?_;refine G0.val (j0 _) (W0 _) rfl (v:=.bool false) (ao0 (r:=false) rfl rfl (decide_eq_false (by omega))) ?_;exact U196 O.1):P:=h ⟨k⟩
theorem U187(h:B Q->P:=by intro O;refine G0.val (j0 _) (W0 _) rfl (v:=.bool true) (cl0 (r:=true) rfl rfl (decide_eq_true (by omega))) ?_;refine G0.val (j0 _) (W0 _) rfl (v:=.bool true) (I0 rfl) ?_;refine U193 ?_;refine G0.val (j0 _) (W0 _) rfl (v:=.bool true) (S7 rfl rfl) ?_;refine G0.nil (j0 _) ?_;exact At.P4 (j0 _) rfl O.1):P:=h ⟨k⟩
theorem U108(h:Q->P:=by intro O;refine D.nil (fun w Y1=>?_);have hg:=hg.A0 Y1;revert w Y1 hg;exact O):P:=h k
theorem U268(h:Q->P:=by intro O;refine U110 ?_;exact ZA.inBlock hZ O):P:=h k
theorem U530(h:Q->P:=by intro O;refine U49 ?_;exact L.va (k5 rfl rfl underlying91) O):P:=h k
theorem U531(h:Q->P:=by intro O;refine L.va (k5 rfl rfl underlying65) ?_;exact U183 O):P:=h k
theorem U532(h:B Q->P:=by intro O;have h1:=Int.emod_nonneg e (b:=(n:Int)) (by omega);have h2:=Int.emod_lt_of_pos e (b:=(n:Int)) (by omega);revert h1 h2;exact O.1):P:=h ⟨k⟩
theorem U269(h:Q->P:=by intro O;refine U0 ?_;exact W.Q5 rfl O):P:=h k
theorem U270(h:Q->P:=by intro O;show W _ _ _ _ _ _;exact U291 O):P:=h k
theorem U533(h:Q->P:=by intro O;refine U48 ?_;exact L.va (M7 rfl underlying151 rfl) O):P:=h k
theorem U271(h:Q->P:=by intro O;refine D.on rfl ?_;refine D.va (fun w' N2=>(K0 rfl underlying47 rfl sz3 (by decide))) ?_;exact D.on rfl O):P:=h k
theorem U188(h:Q->P:=by intro O;refine W.region rfl ?_;refine L.va (O4 rfl rfl) ?_;exact U7 O):P:=h k
theorem U272(h:B Q->P:=by intro O;refine ZA.P4 hZ (rb (decide_eq_true (by omega))) ?_;refine U136 ?_;exact ZA.block hZ O.1):P:=h ⟨k⟩
theorem U189(h:Q->P:=by intro O;refine U205 ?_;refine U279 ?_;exact U277 O):P:=h k
theorem U273(h:Q->P:=by intro O;have hZ:Ctx.Zs prog (Fin prog Post X g):=A4;have hb:=bkd 113;revert hZ hb;exact O):P:=h k
theorem U109(h:Q->P:=by intro O;refine ZA.W hZ hb ?_;have hR:=hg.m.run;(have hC:=(hg.m.blk i c hc));revert hR hC;exact O):P:=h k
theorem U274(h:Q->P:=by intro O;have hZ:Ctx.Zs prog (Fin prog Post X 0):=A4;have hb:=W0 76;revert hZ hb;exact O):P:=h k
theorem U190(h:Q->P:=by intro O;refine L.on rfl ?_;refine L.va (zx0 rfl rfl) ?_;exact U130 O):P:=h k
theorem U191(h:Q->P:=by intro O;refine At.region r4 ?_;refine G0.val r4 (W0 _) rfl (v:=.pointer (some ⟨gr.blk,gr.off,none⟩)) (I0 rfl) ?_;refine G0.val r4 (W0 _) rfl (v:=.pointer (some ⟨gr.blk,gr.off,none⟩)) (A3 rfl) ?_;exact G0.val r4 (W0 _) rfl (v:=.pointer (some ⟨gr.blk,gr.off+1,none⟩)) (l3 (s:=1) gr.off (gr.off+1) rfl Tryz.underlying141 rfl Fo0 (by decide) rfl) O):P:=h k
theorem U534(h:Q->P:=by intro O;refine U297 ?_;exact L.va (M7 rfl underlying50 rfl) O):P:=h k
theorem U192(h:Q->P:=by intro O;refine U346 ?_;refine U28 ?_;exact G0.val (j0 _) (W0 _) rfl (v:=.int .i32 (((0:Nat):Int))) (I0 rfl) O):P:=h k
theorem U78(h:Q->P:=by intro O;refine U477 ?_;intro Q4 o5 p5;have W5:=W5.A0 u6;revert Q4 o5 p5 W5;exact O):P:=h k
theorem U79(h:Q->P:=by intro O;refine U478 ?_;intro Q4 o5 p5;have W5:=W5.A0 Y1;revert Q4 o5 p5 W5;exact O):P:=h k
theorem U535(h:Q->P:=by intro O;refine G0.nil S2 ?_;exact At.Q5 S2 rfl O):P:=h k
theorem U536(h:Q->P:=by intro O;refine G0.nil r4 ?_;exact At.Q5 r4 rfl O):P:=h k
theorem U537(h:Q->P:=by intro O;refine At.inBlock W1 ?_;exact At.inLoop W1 O):P:=h k
theorem U538(h:Q->P:=by intro O;refine W.region rfl ?_;exact L.va (j9 rfl) O):P:=h k
theorem U276(h:Q->P:=by intro O;refine ZA.block hZ ?_;exact U128 O):P:=h k
end
abbrev Value.i(x:Int):Value:=.int .i64 x
abbrev Value.p(b:Nat):Value:=.pointer (some ⟨b,0,none⟩)
abbrev pt(b:Nat):Option Addr:=some ⟨b,0,none⟩
end Go
section
namespace Go.Yc
open Go Go.Conc
structure Past (Sh:Loc->Prop) (Us:Nat->Prop) (St:Nat->Loc->Prop) (Mem Lo:Nat->Prop) (K:Nat->Prop) (t:Trace):Prop where
 clean:∀said,¬Race said t
 known:∀i a,touchAt t i=some a->a.loc.isMemory=true->¬Sh a.loc->K i\/(a.write=false/\∃g,t.g? i=some g/\Lo g/\St g a.loc)
 wrote:∀i a,touchAt t i=some a->a.write=true->∀g,Mem g->St g a.loc->Knows t g i
 hears:∀g,Mem g->Deaf t g=0
 cy0:∀i a g,touchAt t i=some a->Sh a.loc->t.g? i=some g->(∀g',Us g'->Knows t g' i)\/(a.kind≠.plain/\(g≠0->a.kind= .atomic/\¬t.heard i))
def PastH (Sh:Loc->Prop) (Us:Nat->Prop) (St:Nat->Loc->Prop) (Mem Lo:Nat->Prop) (h:Nat) (t:Trace):Prop:=Past Sh Us St Mem Lo (Knows t h) t
section
variable {Sh:Loc->Prop}{Us Us':Nat->Prop}{St St':Nat->Loc->Prop}{Mem Mem' Lo Lo':Nat->Prop}{h:Nat}{K K':Nat->Prop}{t u:Trace}
theorem Past.fewer (H:Past Sh Us St Mem Lo K t) (hM:∀g,Mem' g->Mem g):Past Sh Us St Mem' Lo K t :=
 ⟨H.clean,H.known,fun i a ha hw g hg hS=>H.wrote i a ha hw g (hM g hg) hS,fun g hg=>H.hears g (hM g hg),H.cy0⟩
theorem Past.loosen (H:Past Sh Us St Mem Lo K t) (hL:∀g,Lo g->Lo' g):Past Sh Us St Mem Lo' K t :=
 ⟨H.clean,fun i a ha hm hs=>(H.known i a ha hm hs).imp id fun⟨x,g,hg,hl,hS⟩=>⟨x,g,hg,hL g hl,hS⟩,H.wrote,H.hears,H.cy0⟩
theorem Past.old_known (H:Past Sh Us St Mem Lo K t) (hK:∀i,K i->K' i) {i:Nat} {a:Touch} {x:MemOp} (V3:t[i]? =some x) (C5:x.act.touch? =some a) (hm:a.loc.isMemory=true) (hs:¬Sh a.loc) :
  K' i\/(a.write=false/\∃g,(t++u).g? i=some g/\Lo g/\St g a.loc) :=
 (H.known i a (by rw[touchAt_of V3];exact C5) hm hs).imp (hK i) fun⟨p,g,hg,hl,hS⟩=>⟨p,g,by rw[g?_old (lt_size_of_getElem? V3)];exact hg,hl,hS⟩
theorem Past.old_hears {g:Nat} (H:Past Sh Us St Mem Lo K t) (hu:∀op∈u,op.g=g) (hd:Mem g->Deaf (t++u) g=Deaf t g):∀g',Mem g'->Deaf (t++u) g'=0:=fun g' K6=>by
 by_cases e:g'=g
 ·subst e;exact(hd K6).trans (H.hears g' K6)
 ·exact(Deaf_other t (fun x=>e x.symm) u hu).trans (H.hears g' K6)
theorem Past.I7 (H:Past Sh Us St Mem Lo K t) {i g:Nat} {a:Touch} {x:MemOp} (V3:t[i]? =some x) (C5:x.act.touch? =some a) (hs:Sh a.loc) (hg:(t++u).g? i=some g) :
  (∀g',Us g'->Knows (t++u) g' i)\/(a.kind≠.plain/\(g≠0->a.kind= .atomic/\¬(t++u).heard i)):=by
 have C2:=lt_size_of_getElem? V3;rw[g?_old C2]at hg;rcases H.cy0 i a g (by rw[touchAt_of V3];exact C5) hs hg with this|this
 ·exact .inl fun g' K6=>(this g' K6).app u
 ·exact .inr ⟨this.1,fun n3=>⟨(this.2 n3).1,fun hh=>(this.2 n3).2 ((heard_old C2).1 hh)⟩⟩
theorem Past.leave (H:Past Sh Us St Mem Lo K t) (hU:∀g,Us' g->Us g):Past Sh Us' St Mem Lo K t :=
 ⟨H.clean,H.known,H.wrote,H.hears,fun i a g ha hs hg=>(H.cy0 i a g ha hs hg).imp (fun z g' K6=>z g' (hU g' K6)) id⟩
theorem PastH.Dd0 {Sh':Loc->Prop} (H:PastH Sh Us St Mem Lo h t) (hS:∀l,Sh l->Sh' l) (hLo:∀g l,Lo g->St g l->¬Sh' l) (hm:∀l,Sh' l->l.isMemory=true) (hU:∀g,Us g->g=h):PastH Sh' Us St Mem Lo h t :=
 ⟨H.clean,fun i a ha hm hs=>H.known i a ha hm fun z=>hs (hS _ z),H.wrote,H.hears,fun i a g ha hs hg=>by
  by_cases e:Sh a.loc
  ·exact H.cy0 i a g ha e hg
  ·rcases H.known i a ha (hm _ hs) e with hk|⟨_,g',_,hl,hS'⟩
   ·exact .inl fun g'' al1=>by rw[hU g'' al1];exact hk
   ·exact absurd hs (hLo g' _ hl hS')⟩
theorem Past.appMute {g:Nat} (H:Past Sh Us St Mem Lo K t) (hK:∀i,K i->K' i) (hn:∀op∈u,op.act.touch? =none) (hh:∀g',Mem g'->Deaf (t++u) g'=0):Past Sh Us St Mem Lo K' (t++u):=by
 refine⟨fun said=>noRace_appendMute (H.clean said) hn,fun i a ha hm hs=>?_,fun i a ha hw g' K6 hS=>?_,hh,fun i a g' ha hs K6=>?_⟩
 ·obtain⟨x,hx,C5⟩:=touch_of ha;rcases getElem?_append_cases hx with⟨_,V3⟩|⟨_,N8⟩
  ·exact H.old_known hK V3 C5 hm hs
  ·rw[hn x N8]at C5;cases C5
 ·obtain⟨x,hx,C5⟩:=touch_of ha;rcases getElem?_append_cases hx with⟨_,V3⟩|⟨_,N8⟩
  ·exact(H.wrote i a (by rw[touchAt_of V3];exact C5) hw g' K6 hS).app u
  ·rw[hn x N8]at C5;cases C5
 ·obtain⟨x,hx,C5⟩:=touch_of ha;rcases getElem?_append_cases hx with⟨_,V3⟩|⟨_,N8⟩
  ·exact H.I7 V3 C5 hs K6
  ·rw[hn x N8]at C5;cases C5
theorem Past.appRead {g:Nat} (H:Past Sh Us St Mem Lo K t) (hK:∀i,K i->K' i) (hg:Mem g) (hL:Lo g) (hu:∀op∈u,op.g=g) (hr:∀op∈u,∀b,op.act.touch? =some b->b.write=false/\St g b.loc/\¬Sh b.loc) (hd:Deaf (t++u) g=Deaf t g) :
  Past Sh Us St Mem Lo K' (t++u):=by
 refine⟨fun said=>noRace_append (H.clean said) hu fun i a ha op M5 b hb hc=>?_,fun i a ha hm hs=>?_,fun i a ha hw g' K6 hS=>?_,H.old_hears hu (fun _=>hd),fun i a g' ha hs K6=>?_⟩
 ·obtain⟨hb0,hbS,_⟩:=hr op M5 b hb;rcases hc.2.2.1 with x|x
  ·exact H.wrote i a ha x g hg (hc.1▸hbS)
  ·rw[hb0]at x;cases x
 ·obtain⟨x,hx,C5⟩:=touch_of ha;rcases getElem?_append_cases hx with⟨_,V3⟩|⟨_,N8⟩
  ·exact H.old_known hK V3 C5 hm hs
  ·exact .inr ⟨(hr x N8 a C5).1,g,by rw[g?_of hx,hu x N8],hL,(hr x N8 a C5).2.1⟩
 ·obtain⟨x,hx,C5⟩:=touch_of ha;rcases getElem?_append_cases hx with⟨_,V3⟩|⟨_,N8⟩
  ·exact(H.wrote i a (by rw[touchAt_of V3];exact C5) hw g' K6 hS).app u
  ·rw[(hr x N8 a C5).1]at hw;cases hw
 ·obtain⟨x,hx,C5⟩:=touch_of ha;rcases getElem?_append_cases hx with⟨_,V3⟩|⟨_,N8⟩
  ·exact H.I7 V3 C5 hs K6
  ·exact absurd hs (hr x N8 a C5).2.2
def HOk (Sh:Loc->Prop) (St:Nat->Loc->Prop) (h:Nat) (op:MemOp):Prop:=∀b,op.act.touch? =some b->¬Sh b.loc/\(b.write=true->∀g,g≠h->¬St g b.loc)
theorem PastH.appH (H:PastH Sh Us St Mem Lo h t) (hLo:¬Lo h) (hu:∀op∈u,op.g=h) (hs:∀op∈u,HOk Sh St h op) (hd:Deaf (t++u) h=Deaf t h):PastH Sh Us St Mem Lo h (t++u):=by
 refine⟨fun said=>noRace_append (H.clean said) hu fun i a ha op M5 b hb hc=>?_,fun i a ha hm hns=>?_,fun i a ha hw g hg hS=>?_,H.old_hears hu (fun _=>hd),fun i a g' ha hsh K6=>?_⟩
 ·obtain⟨h1,h2⟩:=hs op M5 b hb;rcases H.known i a ha hc.2.1 (hc.1▸h1)with hk|⟨hw,g,_,hl,hS⟩
  ·exact hk
  ·rcases hc.2.2.1 with x|x
   ·rw[hw]at x;cases x
   ·exact absurd (hc.1▸hS) (h2 x g fun e=>hLo (e▸hl))
 ·obtain⟨x,hx,C5⟩:=touch_of ha;rcases getElem?_append_cases hx with⟨_,V3⟩|⟨_,N8⟩
  ·exact H.old_known (fun i=>Knows.app u) V3 C5 hm hns
  ·have:=knows_own hx;rw[hu x N8]at this;exact .inl this
 ·obtain⟨x,hx,C5⟩:=touch_of ha;rcases getElem?_append_cases hx with⟨_,V3⟩|⟨_,N8⟩
  ·exact(H.wrote i a (by rw[touchAt_of V3];exact C5) hw g hg hS).app u
  ·by_cases e:g=h
   ·have:=knows_own hx;rw[hu x N8]at this;rw[e];exact this
   ·exact absurd hS ((hs x N8 a C5).2 hw g e)
 ·obtain⟨x,hx,C5⟩:=touch_of ha;rcases getElem?_append_cases hx with⟨_,V3⟩|⟨_,N8⟩
  ·exact H.I7 V3 C5 hsh K6
  ·exact absurd hsh (hs x N8 a C5).1
def GOk (Sh:Loc->Prop) (g:Nat) (op:MemOp):Prop:=∀b,op.act.touch? =some b->Sh b.loc/\b.kind≠.plain/\(g≠0->b.kind= .atomic)
theorem Past.Nl0 {g:Nat} (H:Past Sh Us St Mem Lo K t) (hUs:Us g) (Ud0:∀g l,St g l->¬Sh l) (hK:∀i,K i->K' i) (hu:∀op∈u,op.g=g) (hs:∀op∈u,GOk Sh g op) (hdf:g≠0->∀i,t.size <=i->i<t.size+u.size->(t++u).deaf g i≠0)
  (hh:∀g',Mem g'->Deaf (t++u) g'=0):Past Sh Us St Mem Lo K' (t++u):=by
 refine⟨fun said=>noRace_append (H.clean said) hu fun i a ha op M5 b hb hc=>?_,fun i a ha hm hns=>?_,fun i a ha hw g' K6 hS=>?_,hh,fun i a g' ha hsh K6=>?_⟩
 ·obtain⟨h1,h2,h3⟩:=hs op M5 b hb;obtain⟨x,hx,C5⟩:=touch_of ha;rcases H.cy0 i a x.g ha (hc.1▸h1) (g?_of hx)with hsx|hsx
  ·exact hsx g hUs
  rcases hc.2.2.2 with y|y|⟨_,y1,y2⟩
  ·exact absurd y hsx.1
  ·exact absurd y h2
  ·have e1:g=0:=Classical.byContradiction fun e=>by have:=h3 e;rw[y2]at this;cases this
   have e2:x.g=0:=Classical.byContradiction fun e=>by have:=(hsx.2 e).1;rw[y1]at this;cases this
   have:=knows_own hx;rw[e2]at this;rw[e1];exact this
 ·obtain⟨x,hx,C5⟩:=touch_of ha;rcases getElem?_append_cases hx with⟨_,V3⟩|⟨_,N8⟩
  ·exact H.old_known hK V3 C5 hm hns
  ·exact absurd (hs x N8 a C5).1 hns
 ·obtain⟨x,hx,C5⟩:=touch_of ha;rcases getElem?_append_cases hx with⟨_,V3⟩|⟨_,N8⟩
  ·exact(H.wrote i a (by rw[touchAt_of V3];exact C5) hw g' K6 hS).app u
  ·exact absurd (hs x N8 a C5).1 (Ud0 _ _ hS)
 ·obtain⟨x,hx,C5⟩:=touch_of ha;rcases getElem?_append_cases hx with⟨_,V3⟩|⟨hi,N8⟩
  ·exact H.I7 V3 C5 hsh K6
  ·obtain⟨h1,h2,h3⟩:=hs x N8 a C5;have hgx:g'=g:=by rw[g?_of hx]at K6;rw[<- hu x N8];exact(Option.some.inj K6).symm
   subst hgx;refine .inr ⟨h2,fun n3=>⟨h3 n3,?_⟩⟩;rintro⟨g2,hg2,hd2⟩;rw[K6]at hg2;obtain rfl:=Option.some.inj hg2;exact hdf n3 i hi (by have:=lt_size_of_getElem? hx;simpa using this) hd2
theorem PastH.still (H:PastH Sh Us St Mem Lo h t) (hLo:¬Lo h) (hSt:∀g,g≠h->∀l,St' g l↔St g l) (hS:∀l,St' h l->l.isMemory=true/\¬Sh l) (hM:∀g,Mem' g->Mem g\/g=h) (hd:Mem' h->Deaf t h=0):PastH Sh Us St' Mem' Lo h t :=
 ⟨H.clean,fun i a ha hm hs=>(H.known i a ha hm hs).imp id fun⟨x,g,hg,hl,hS'⟩=>⟨x,g,hg,hl,(hSt g (fun e=>hLo (e▸hl)) _).2 hS'⟩,
  fun i a ha hw g hg hl=>by
   by_cases e:g=h
   ·subst e;obtain⟨h1,h2⟩:=hS _ hl;rcases H.known i a ha h1 h2 with hk|⟨N2,_⟩
    ·exact hk
    ·rw[hw]at N2;cases N2
   ·exact H.wrote i a ha hw g ((hM g hg).resolve_right e) ((hSt g e _).1 hl),
  fun g hg=>by
   by_cases e:g=h
   ·subst e;exact hd hg
   ·exact H.hears g ((hM g hg).resolve_right e),H.cy0⟩
end
section
variable {Sh:Loc->Prop}{Us:Nat->Prop}{St:Nat->Loc->Prop}{Mem Lo:Nat->Prop}{h j:Nat}{t:Trace}
theorem PastH.give (H:PastH Sh Us St Mem Lo h t) (hh:Mem h) (hj:Mem j) (fh:FuncId) (ph:String) (fj:FuncId) (pj:String) (c k cap:Nat) :
  PastH Sh Us St Mem (fun g=>Lo g/\g≠j) j (t++met h j fh ph fj pj c k cap):=by
 have hn:=met_mute h j fh ph fj pj c k cap;have hq:=fun g=>met_quiet h j fh ph fj pj c k cap g;have e0:(t++met h j fh ph fj pj c k cap)[t.size]? =some {g:=h,fn:=fh,pos:=ph,act:=.send c k}:=by simp[met]
 have e3:(t++met h j fh ph fj pj c k cap)[t.size+3]? =some {g:=j,fn:=fj,pos:=pj,act:=.recvDone c k}:=by simp[met]
 have Bi0:HappensBefore (t++met h j fh ph fj pj c k cap) t.size (t.size+3) :=
  Relation.TransGen.single (.inr ⟨.handOver (act?_of e0) (act?_of e3),⟨h,g?_of e0,by rw[deaf_old (Nat.le_refl _)];exact H.hears h hh⟩,⟨j,g?_of e3,by rw[deaf_quiet (hq j) 3 (by simp[met])];exact H.hears j hj⟩⟩)
 refine⟨fun said=>noRace_appendMute (H.clean said) hn,fun i a ha hm hs=>?_,fun i a ha hw g hg hS=>?_,fun g hg=>(Deaf_quiet (hq g)).trans (H.hears g hg),fun i a g' ha hsh K6=>?_⟩
 ·obtain⟨x,hx,C5⟩:=touch_of ha;rcases getElem?_append_cases hx with⟨hi,V3⟩|⟨_,N8⟩
  ·rcases H.known i a (by rw[touchAt_of V3];exact C5) hm hs with hk|⟨p,g,hg,hl,hS⟩
   ·exact .inl ⟨t.size+3,_,e3,rfl,.inr ((hk.hb_new (Nat.le_refl _) e0 rfl).trans Bi0)⟩
   ·by_cases e:g=j
    ·subst e;have:=knows_own hx;rw[show x.g=g from by have:=g?_of V3;rw[hg]at this;exact(Option.some.inj this).symm]at this;exact .inl this
    ·exact .inr ⟨p,g,by rw[g?_old hi];exact hg,⟨hl,e⟩,hS⟩
  ·rw[hn x N8]at C5;cases C5
 ·obtain⟨x,hx,C5⟩:=touch_of ha;rcases getElem?_append_cases hx with⟨_,V3⟩|⟨_,N8⟩
  ·exact(H.wrote i a (by rw[touchAt_of V3];exact C5) hw g hg hS).app _
  ·rw[hn x N8]at C5;cases C5
 ·obtain⟨x,hx,C5⟩:=touch_of ha;rcases getElem?_append_cases hx with⟨_,V3⟩|⟨_,N8⟩
  ·exact H.I7 V3 C5 hsh K6
  ·rw[hn x N8]at C5;cases C5
theorem PastH.born {c:Nat} (H:PastH Sh Us St Mem Lo h t) (hh:Mem h) (hc0:Deaf t c=0) (hSt:∀l,¬St c l) (hUs:Us h) (fh:FuncId) (ph:String) (fc:FuncId) :
  PastH Sh (fun g=>Us g\/g=c) St (fun g=>Mem g\/g=c) Lo c (t ++ #[{g:=h,fn:=fh,pos:=ph,act:=.go c},{g:=c,fn:=fc,pos:=ph,act:=.start}]):=by
 generalize hu:(#[{g:=h,fn:=fh,pos:=ph,act:=.go c},{g:=c,fn:=fc,pos:=ph,act:=.start}]:Trace)=u;have hn:∀op∈u,op.act.touch? =none:=by
  intro op M5;subst hu;simp only[List.mem_toArray,List.mem_cons,List.not_mem_nil,or_false]at M5;rcases M5 with rfl|rfl <;> rfl
 have hq:∀g,∀op∈u,∀d,deafStep g d op=d:=by
  intro g op M5 d;subst hu;simp only[List.mem_toArray,List.mem_cons,List.not_mem_nil,or_false]at M5;rcases M5 with rfl|rfl <;> rfl
 have e0:(t++u)[t.size]? =some {g:=h,fn:=fh,pos:=ph,act:=.go c}:=by subst hu;simp
 have e1:(t++u)[t.size+1]? =some {g:=c,fn:=fc,pos:=ph,act:=.start}:=by subst hu;simp
 have Bi0:HappensBefore (t++u) t.size (t.size+1) :=
  Relation.TransGen.single (.inr ⟨.spawn (act?_of e0) (act?_of e1) (g?_of e1),⟨h,g?_of e0,by rw[deaf_old (Nat.le_refl _)];exact H.hears h hh⟩,⟨c,g?_of e1,by rw[deaf_quiet (hq c) 1 (by subst hu;simp)];exact hc0⟩⟩)
 refine⟨fun said=>noRace_appendMute (H.clean said) hn,fun i a ha hm hs=>?_,fun i a ha hw g hg hS=>?_,fun g hg=>(Deaf_quiet (hq g)).trans (hg.elim (H.hears g) fun e=>e▸hc0),fun i a g' ha hsh K6=>?_⟩
 ·obtain⟨x,hx,C5⟩:=touch_of ha;rcases getElem?_append_cases hx with⟨hi,V3⟩|⟨_,N8⟩
  ·rcases H.known i a (by rw[touchAt_of V3];exact C5) hm hs with hk|⟨p,g,hg,hl,hS⟩
   ·exact .inl ⟨t.size+1,_,e1,rfl,.inr ((hk.hb_new (Nat.le_refl _) e0 rfl).trans Bi0)⟩
   ·exact .inr ⟨p,g,by rw[g?_old hi];exact hg,hl,hS⟩
  ·rw[hn x N8]at C5;cases C5
 ·obtain⟨x,hx,C5⟩:=touch_of ha;rcases getElem?_append_cases hx with⟨_,V3⟩|⟨_,N8⟩
  ·rcases hg with hg|rfl
   ·exact(H.wrote i a (by rw[touchAt_of V3];exact C5) hw g hg hS).app u
   ·exact absurd hS (hSt _)
  ·rw[hn x N8]at C5;cases C5
 ·obtain⟨x,hx,C5⟩:=touch_of ha;rcases getElem?_append_cases hx with⟨_,V3⟩|⟨_,N8⟩
  ·have C2:=lt_size_of_getElem? V3;rcases H.cy0 i a g' (by rw[touchAt_of V3];exact C5) hsh (by rw[<- g?_old (u:=u) C2];exact K6)with y|y
   ·refine .inl fun g2 hg2=>?_;rcases hg2 with hg2|rfl
    ·exact(y g2 hg2).app u
    ·exact⟨t.size+1,_,e1,rfl,.inr (((y h hUs).hb_new (Nat.le_refl _) e0 rfl).trans Bi0)⟩
   ·exact .inr ⟨y.1,fun n3=>⟨(y.2 n3).1,fun hh=>(y.2 n3).2 ((heard_old C2).1 hh)⟩⟩
  ·rw[hn x N8]at C5;cases C5
theorem PastH.over (H:PastH Sh Us St Mem Lo 0 t) (hU:Us 0) (hL:∀g,¬Lo g):t.HandedOver:=by
 rintro i g hg n3 ⟨x,hx,hm,fi0⟩;by_cases hs:Sh x.loc
 ·rcases H.cy0 i x g hx hs hg with hk|this
  ·obtain⟨q,z,hq,hz,hb⟩:=hk 0 hU;rcases hb with rfl|hb
   ·rw[g?_of hq,hz]at hg;exact absurd (Option.some.inj hg).symm n3
   ·exact⟨q,by rw[g?_of hq,hz],hb⟩
  ·exact(fi0.elim (fun z=>absurd (this.2 n3).1 z) fun z=>absurd z (this.2 n3).2)
 ·rcases H.known i x hx hm hs with⟨q,z,hq,hz,hb⟩|⟨_,g',_,hl,_⟩
  ·rcases hb with rfl|hb
   ·rw[g?_of hq,hz]at hg;exact absurd (Option.some.inj hg).symm n3
   ·exact⟨q,by rw[g?_of hq,hz],hb⟩
  ·exact absurd hl (hL g')
end
end Go.Yc
end
section
namespace Go.Yc
open Go
def xf0:Mark->Bool
 | .acquire _| .release _| .releaseMerge _| .disable| .enable| .read _| .write _=>false
 |_=>true
def S3:Obj->Bool
 | .view ..=>true
 |_=>false
def n6:Obj->Bool
 | .cells ..=>true
 |_=>false
def dead {α:Type} (P:Program):Sem α->Prop
 | .pure _=>False
 | .load _ _ k=>∀v,dead P (k v)
 | .store _ _ _ k=>dead P k
 | .new _ k=>∀r,dead P (k r)
 | .shape _ k=>∀s,dead P (k s)
 | .freeze _ _ k=>dead P k
 | .frozen _ k=>∀b,dead P (k b)
 | .getObj _ k=>∀o,dead P (k o)
 | .setObj _ _ k=>dead P k
 | .choose _ k=>∀n,dead P (k n)
 | .sys _ k=>∀r,dead P (k r)
 | .program k=>dead P (k P)
 | .mark _ k=>dead P k
 | .halt h=>∀v,h≠.panic v
def B1 {α:Type} (P:Program):Sem α->Prop
 | .pure _=>True
 | .load _ _ k=>∀v,B1 P (k v)
 | .store _ _ _ k=>B1 P k
 | .new o k=>S3 o=false/\∀r,B1 P (k r)
 | .shape _ k=>∀s,dead P (k s)
 | .freeze _ _ k=>dead P k
 | .frozen _ k=>∀b,dead P (k b)
 | .getObj _ k=>∀o,B1 P (k o)
 | .setObj _ o k=>(S3 o=false/\n6 o=false)/\B1 P k
 | .choose _ k=>∀n,B1 P (k n)
 | .sys _ k=>∀r,dead P (k r)
 | .program k=>B1 P (k P)
 | .mark m k=>if xf0 m then B1 P k else dead P k
 | .halt _=>True
theorem M3 {α β:Type} {P:Program} (f:α->Sem β):∀{s:Sem α},dead P s->dead P (s.bind f)
 | .pure _,h=>h.elim
 | .load _ _ k,h=>fun v=>M3 f (h v)
 | .store _ _ _ k,h=>M3 f (s:=k) h
 | .new _ k,h=>fun r=>M3 f (h r)
 | .shape _ k,h=>fun s=>M3 f (h s)
 | .freeze _ _ k,h=>M3 f (s:=k) h
 | .frozen _ k,h=>fun b=>M3 f (h b)
 | .getObj _ k,h=>fun o=>M3 f (h o)
 | .setObj _ _ k,h=>M3 f (s:=k) h
 | .choose _ k,h=>fun n=>M3 f (h n)
 | .sys _ k,h=>fun r=>M3 f (h r)
 | .program k,h=>M3 f (s:=k P) h
 | .mark _ k,h=>M3 f (s:=k) h
 | .halt _,h=>h
theorem l6 {α β:Type} {P:Program} {f:α->Sem β} (hf:∀a,B1 P (f a)):∀{s:Sem α},B1 P s->B1 P (s.bind f)
 | .pure a,_=>hf a
 | .load _ _ k,h=>fun v=>l6 hf (h v)
 | .store _ _ _ k,h=>l6 hf (s:=k) h
 | .new _ k,h=>⟨h.1,fun r=>l6 hf (h.2 r)⟩
 | .shape _ k,h=>fun s=>M3 f (h s)
 | .freeze _ _ k,h=>M3 f (s:=k) h
 | .frozen _ k,h=>fun b=>M3 f (h b)
 | .getObj _ k,h=>fun o=>l6 hf (h o)
 | .setObj _ _ k,h=>⟨h.1,l6 hf (s:=k) h.2⟩
 | .choose _ k,h=>fun n=>l6 hf (h n)
 | .sys _ k,h=>fun r=>M3 f (h r)
 | .program k,h=>l6 hf (s:=k P) h
 | .mark m k,h=>by
  unfold B1 at h;show B1 P (Sem.mark m (k.bind f));unfold B1;split at h
  ·rename_i hm;rw[if_pos hm];exact l6 hf (s:=k) h
  ·rename_i hm;rw[if_neg hm];exact M3 f (s:=k) h
 | .halt _,_=>trivial
def inR (f:Nat×Nat) (i:Nat):Prop:=f.1 <=i/\i<f.2
inductive w6 where
 |all
 |cut (rest:Array Value) (f:Nat×Nat)
 |gone (o:Obj)
inductive cb0:w6->Obj->Obj->Prop
 |same (o:Obj):cb0 .all o o
 |cut (c rest:Array Value) (T:TypeId) (f f':Nat×Nat) (h:∀i,inR f i->inR f' i):cb0 (.cut rest f) (.cells c T f') (.cells (c++rest) T f)
 |gone (T:TypeId) (f:Nat×Nat) (o:Obj):cb0 (.gone o) (.cells #[] T f) o
structure N5 (ρ:Nat->w6) (u w:World):Prop where
 os:w.os=u.os
 output:w.output=u.output
 tape:w.tape=u.tape
 drawn:w.drawn=u.drawn
 size:w.heap.size=u.heap.size
 obj:∀(b:Nat) (x:Obj),u.heap[b]? =some x->∃y,w.heap[b]? =some y/\cb0 (ρ b) x y
 new:∀b,u.heap.size <=b->ρ b= .all
 A6:∀(b:Nat) (x:Obj),u.heap[b]? =some x->S3 x=false
def J3 (x y:Obj):Prop:=match x,y with
 | .cells c T f,.cells c' T' f'=>c'.size=c.size/\T'=T/\f'=f/\∀i,inR f i->c'[i]? =c[i]?
 | .cells ..,_=>False
 |_,y=>n6 y=false
structure X8 (u u':World):Prop where
 size:u.heap.size <=u'.heap.size
 obj:∀(b:Nat) (x:Obj),u.heap[b]? =some x->∃y,u'.heap[b]? =some y/\J3 x y
theorem J3.refl:∀x,J3 x x
 | .cells ..=>⟨rfl,rfl,rfl,fun _ _=>rfl⟩
 | .pending ..=>rfl
 | .view ..=>rfl
 | .number ..=>rfl
 | .map ..=>rfl
 | .chan ..=>rfl
 | .stringIter ..=>rfl
 | .mapIter ..=>rfl
 | .loop ..=>rfl
 | .deferred ..=>rfl
 | .coro ..=>rfl
 | .finalizers ..=>rfl
theorem J3.trans {x y z:Obj} (h:J3 x y) (h':J3 y z):J3 x z:=by
 cases x <;> cases y <;> first|exact h.elim|skip
 case cells.cells=>
  cases z <;> first|exact h'.elim|skip
  obtain⟨h1,rfl,rfl,h2⟩:=h;obtain⟨h3,rfl,rfl,h4⟩:=h';exact⟨h3.trans h1,rfl,rfl,fun i hi=>(h4 i hi).trans (h2 i hi)⟩
 all_goals (first|(cases z <;> simp_all [J3,n6]))
theorem X8.refl (u:World):X8 u u:=⟨Nat.le_refl _,fun _ x h=>⟨x,h,J3.refl x⟩⟩
theorem X8.trans {u v x:World} (h:X8 u v) (h':X8 v x):X8 u x :=
 ⟨Nat.le_trans h.size h'.size,fun b o ho=>by
  obtain⟨o',h1,h2⟩:=h.obj b o ho;obtain⟨o'',h3,h4⟩:=h'.obj b o' h1;exact⟨o'',h3,h2.trans h4⟩⟩
def fj0 (u:World) (e:Event):Prop:=match e.loc with
 | .cell a=>a.block<u.heap.size->(∃v,u.cell? a=some v)/\(e.write=true->u.frozen? a=false)
 | .obj r=>r<u.heap.size->∃x,u.heap[r]? =some x/\n6 x=false
 | .mark m=>xf0 m=true
 |_=>False
theorem H4 {u:World} {a:Addr} {v:Value} (h:u.cell? a=some v):∃c T f,u.heap[a.block]? =some (.cells c T f)/\a.spot=none/\c[a.off]? =some v:=by
 unfold World.cell? at h;split at h
 ·rename_i c T f hb;split at h
  ·cases h
  ·rename_i hs;exact⟨c,T,f,hb,by cases hh:a.spot <;> simp_all,h⟩
 ·cases h
section
variable {ρ:Nat->w6}{u w u':World}{a:Addr}{v:Value}
theorem N5.cell (h:N5 ρ u w) (hc:u.cell? a=some v):w.cell? a=some v:=by
 obtain⟨c,T,f,hb,hs,hv⟩:=H4 hc;obtain⟨y,hy,hl⟩:=h.obj _ _ hb;unfold World.cell?;generalize ρ a.block=p at hl;cases hl with
 |same=>rw[hy];simp[hs,hv]
 |cut _ rest _ f0 _ hf=>
  rw[hy];simp only[hs,Option.isSome_none,Bool.false_eq_true,if_false];rw[Array.getElem?_append_left (Array.getElem?_eq_some_iff.1 hv).1];exact hv
 |gone=>simp at hv
theorem N5.frozen (h:N5 ρ u w) (hc:u.cell? a=some v) (hf:u.frozen? a=false):w.frozen? a=false:=by
 obtain⟨c,T,f,hb,hs,hv⟩:=H4 hc;obtain⟨y,hy,hl⟩:=h.obj _ _ hb;unfold World.frozen? at hf⊢;rw[hb]at hf;generalize ρ a.block=p at hl;cases hl with
 |same=>rw[hy];exact hf
 |cut _ rest _ f0 _ hf0=>
  rw[hy];simp only[Bool.and_eq_false_imp,decide_eq_true_eq,decide_eq_false_iff_not]at hf⊢;intro h1 h2;exact hf (hf0 _ ⟨h1,h2⟩).1 (hf0 _ ⟨h1,h2⟩).2
 |gone=>simp at hv
theorem heap_setCell (u:World) (a:Addr) (v:Value) (b:Nat):(u.setCell a v).heap[b]? =(u.heap[b]?).map fun o=>if b=a.block then(match o with| .cells c T f=>.cells (if a.spot.isSome then c else c.setIfInBounds a.off v) T f|o=>o) else o:=by
 unfold World.setCell;simp only[Array.getElem?_modify];by_cases h:a.block=b
 ·subst h;simp only[if_true];cases u.heap[a.block]? with
  |none=>rfl
  |some o=>cases o <;> rfl
 ·simp[h,Ne.symm h]
theorem N5.setCell (h:N5 ρ u w) (hc:u.cell? a=some v) (x:Value):N5 ρ (u.setCell a x) (w.setCell a x):=by
 obtain⟨c,T,f,hb,hs,hv⟩:=H4 hc;have C2:=(Array.getElem?_eq_some_iff.1 hv).1;refine⟨h.os,h.output,h.tape,h.drawn,by simp[World.setCell,h.size],fun b o ho=>?_,fun b hb=>h.new b (by simpa [World.setCell]using hb),fun b o ho=>?_⟩
 ·rw[heap_setCell]at ho⊢;obtain⟨o1,h1,rfl⟩:=Option.map_eq_some_iff.1 ho;obtain⟨y,hy,hl⟩:=h.obj b o1 h1;refine⟨_,by rw[hy];rfl,?_⟩;by_cases hba:b=a.block
  ·subst hba;rw[hb]at h1;obtain rfl:=Option.some.inj h1;simp only[if_true,hs,Option.isSome_none,Bool.false_eq_true,if_false];generalize ρ a.block=p at hl⊢;cases hl with
   |same=>exact .same _
   |cut _ rest _ f0 _ hf0=>
    show cb0 _ _ (.cells ((c++rest).setIfInBounds a.off x) T f0);rw[show(c++rest).setIfInBounds a.off x=c.setIfInBounds a.off x++rest by
     rw[Array.setIfInBounds_append_left C2]]
    exact .cut _ _ _ _ _ hf0
   |gone=>simp at hv
  ·simp only[hba,if_false];exact hl
 ·rw[heap_setCell]at ho;obtain⟨o1,h1,rfl⟩:=Option.map_eq_some_iff.1 ho;have:=h.A6 b o1 h1;by_cases hba:b=a.block
  ·simp only[hba,if_true];cases o1 <;> simp_all [S3]
  ·simp only[hba,if_false];exact this
theorem ur0 (u:World) (a:Addr) (x:Value) (hz:u.frozen? a=false):X8 u (u.setCell a x):=by
 refine⟨by simp[World.setCell],fun b o ho=>?_⟩;rw[heap_setCell,ho];refine⟨_,rfl,?_⟩;by_cases hba:b=a.block
 ·subst hba;unfold World.frozen? at hz;rw[ho]at hz;simp only[if_true];cases o <;> simp only[J3,n6]
  rename_i c T f;split
  ·simp
  ·refine⟨by simp,trivial,trivial,fun i hi=>?_⟩;rw[Array.getElem?_setIfInBounds_ne];rintro rfl;obtain⟨lo,hi'⟩:=f;simp only[Bool.and_eq_false_imp,decide_eq_true_eq,decide_eq_false_iff_not]at hz;exact hz hi.1 hi.2
 ·simp only[hba,if_false];exact J3.refl o
theorem De0 (u:World) (o:Obj):X8 u {u with heap:=u.heap.push o}:=by
 refine⟨by simp,fun b x hx=>⟨x,?_,J3.refl x⟩⟩;have:=(Array.getElem?_eq_some_iff.1 hx).1;show(u.heap.push o)[b]? =some x;rw[Array.getElem?_push,if_neg (by omega)];exact hx
theorem N5.push (h:N5 ρ u w) {o:Obj} (ho:S3 o=false):N5 ρ {u with heap:=u.heap.push o} {w with heap:=w.heap.push o}:=by
 refine⟨h.os,h.output,h.tape,h.drawn,by simp[h.size],fun b x hx=>?_,fun b hb=>h.new b (by simp at hb;omega),fun b x hx=>?_⟩
 ·have V3:(u.heap.push o)[b]? =some x:=hx;show ∃y,(w.heap.push o)[b]? =some y/\_;rw[Array.getElem?_push]at V3⊢;rw[h.size];split at V3
  ·rename_i hb;rw[if_pos hb];cases V3;exact⟨_,rfl,by rw[h.new b (by omega)];exact .same _⟩
  ·rename_i hb;rw[if_neg hb];exact h.obj b x V3
 ·have V3:(u.heap.push o)[b]? =some x:=hx;rw[Array.getElem?_push]at V3;split at V3
  ·cases V3;exact ho
  ·exact h.A6 b x V3
theorem xg0 {r:Nat} {x:Obj} (hr:u.heap[r]? =some x) (hx:n6 x=false) {o:Obj} (ho:n6 o=false):X8 u {u with heap:=u.heap.setIfInBounds r o}:=by
 refine⟨by simp,fun b y hy=>?_⟩;show ∃z,(u.heap.setIfInBounds r o)[b]? =some z/\_;rw[Array.getElem?_setIfInBounds];by_cases h:r=b
 ·subst h;have C2:=(Array.getElem?_eq_some_iff.1 hr).1;rw[hr]at hy;obtain rfl:=Option.some.inj hy;refine⟨o,by simp[C2],?_⟩;cases x <;> simp_all [J3,n6]
 ·exact⟨y,by simp[h,hy],J3.refl y⟩
theorem N5.setObj (h:N5 ρ u w) {r:Nat} {o x:Obj} (hr:u.heap[r]? =some x) (hx:n6 x=false) (ho:S3 o=false):N5 ρ {u with heap:=u.heap.setIfInBounds r o} {w with heap:=w.heap.setIfInBounds r o}:=by
 have hal:ρ r= .all:=by
  obtain⟨y,_,hl⟩:=h.obj r x hr;generalize ρ r=p at hl⊢;cases hl <;> first|rfl|cases hx
 refine⟨h.os,h.output,h.tape,h.drawn,by simp[h.size],fun b x hx=>?_,fun b hb=>h.new b (by simpa using hb),fun b x hx=>?_⟩
 ·have V3:(u.heap.setIfInBounds r o)[b]? =some x:=hx;show ∃y,(w.heap.setIfInBounds r o)[b]? =some y/\_;rw[Array.getElem?_setIfInBounds]at V3⊢;by_cases O8:r=b
  ·subst O8;simp only[if_true]at V3⊢;rw[h.size];split at V3
   ·rename_i hb;rw[if_pos hb];cases V3;exact⟨_,rfl,by rw[hal];exact .same _⟩
   ·cases V3
  ·simp only[O8,if_false]at V3⊢;exact h.obj b x V3
 ·have V3:(u.heap.setIfInBounds r o)[b]? =some x:=hx;rw[Array.getElem?_setIfInBounds]at V3;by_cases O8:r=b
  ·subst O8;simp only[if_true]at V3;split at V3
   ·cases V3;exact ho
   ·cases V3
  ·simp only[O8,if_false]at V3;exact h.A6 b x V3
theorem fj0.back (he:X8 u u') {e:Event} (h:fj0 u' e):fj0 u e:=by
 obtain⟨l,wr,sy⟩:=e;cases l with
 |cell a=>
  intro C2;obtain⟨⟨v,hv⟩,hw⟩:=h (Nat.lt_of_lt_of_le C2 he.size);have hx:u.heap[a.block]? =some u.heap[a.block]:=Array.getElem?_eq_getElem C2;obtain⟨y,hy,hk⟩:=he.obj _ _ hx;obtain⟨c,T,f,hb,hs,hc⟩:=H4 hv;rw[hb]at hy;obtain rfl:=Option.some.inj hy;generalize u.heap[a.block]=x at hx hk;cases x <;> simp only[J3,n6,Bool.true_eq_false]at hk
  rename_i c0 T0 f0;obtain⟨h1,rfl,rfl,_⟩:=hk;have fk1:=(Array.getElem?_eq_some_iff.1 hc).1;refine⟨⟨c0[a.off]'(by omega),by unfold World.cell?;rw[hx];simp[hs,show a.off<c0.size by omega]⟩,fun hwr=>?_⟩;have:=hw hwr;unfold World.frozen? at this⊢;rw[hb]at this;rw[hx];exact this
 |obj r=>
  intro C2;obtain⟨x',V3,hc⟩:=h (Nat.lt_of_lt_of_le C2 he.size);have hx:u.heap[r]? =some u.heap[r]:=Array.getElem?_eq_getElem C2;obtain⟨y,hy,hk⟩:=he.obj _ _ hx;rw[V3]at hy;obtain rfl:=Option.some.inj hy;refine⟨_,hx,?_⟩;generalize u.heap[r]=x at hk;cases x <;> first|rfl|(cases x' <;> simp_all [J3,n6])
 |output=>exact h
 |goroutines=>exact h
 |mark m=>exact h
def us0 {α:Type}:Result α->Prop
 | .ok _ _=>True
 | .halt (.panic _) _=>True
 |_=>False
def atW {α:Type}:Result α->World->Result α
 | .ok a _,w=>.ok a w
 | .halt h _,w=>.halt h w
def fk0 {α:Type}:Result α->World
 | .ok _ w=>w
 | .halt _ w=>w
def one:Value->Bool
 | .agg _=>false
 | .tuple _=>false
 |_=>true
theorem H9 {α:Type} {P:Program} {m:Mode} {a:Addr} {v:Value} {k:Sem α} (h:one v=true) (u:World) (es:Array Event):(Sem.store m a v k).runT P u es=match u.cell? a with
  |some _=>if u.frozen? a then(.halt (.unsupported (.unsafePointer "a write to bytes that a string shares")) u,es) else k.runT P (u.setCell a v) (es.push ⟨.cell a,true,m== .atomic⟩)
  |none=>match u.farStore P a v (m== .atomic)with
   | .ok (u,Jr0)=>k.runT P u (es++Jr0.toArray.map (⟨.cell ·,true,m== .atomic⟩))
   | .error h=>(.halt h u,es):=by
 cases v <;> first|rfl|cases h
theorem cz0 {α:Type} {P:Program} {m:Mode} {a:Addr} {v:Value} {k:Sem α} (h:one v=false) (u:World) (es:Array Event):(Sem.store m a v k).runT P u es=(.halt (.stuck "store: not the value of one cell") u,es):=by
 cases v <;> first|rfl|cases h
theorem it0 {P:Program} {u:World} {a:Addr} {b:Bool} {h:Halt} (he:u.farLoad P a b= .error h):∀v,h≠.panic v:=by
 unfold World.farLoad at he;split at he
 ·split at he
  ·cases he
  ·cases he;intro v;simp
 ·cases he;unfold World.noCell;split <;> intro v <;> simp
theorem fl0 {P:Program} {u:World} {a:Addr} {x:Value} {b:Bool} {h:Halt} (he:u.farStore P a x b= .error h):∀v,h≠.panic v:=by
 unfold World.farStore at he;split at he
 ·split at he
  ·cases he
  ·cases he;intro v;simp
 ·cases he;unfold World.noCell;split <;> intro v <;> simp
theorem bh0 {α:Type} {h:Halt} {w:World} (hf:us0 (α:=α) (.halt h w)):∃v,h= .panic v:=by
 cases h <;> first|exact⟨_,rfl⟩|exact hf.elim
theorem N1 {α:Type} {P:Program}:∀{s:Sem α},dead P s->∀(u:World) (es:Array Event),¬us0 (s.runT P u es).1
 | .pure _,h,_,_=>h.elim
 | .load m a k,h,u,es=>by
  unfold Sem.runT;split
  ·exact N1 (h _) _ _
  ·split
   ·exact N1 (h _) _ _
   ·rename_i he;intro hf;obtain⟨v,hv⟩:=bh0 hf;exact it0 he v hv
 | .store m a v k,h,u,es=>by
  cases ho:one v
  ·rw[cz0 ho];exact id
  ·rw[H9 ho];split
   ·split
    ·exact id
    ·exact N1 (s:=k) h _ _
   ·split
    ·exact N1 (s:=k) h _ _
    ·rename_i he;intro hf;obtain⟨v,hv⟩:=bh0 hf;exact fl0 he v hv
 | .new _ k,h,u,es=>N1 (h _) _ _
 | .shape _ k,h,u,es=>N1 (h _) _ _
 | .freeze _ _ k,h,u,es=>N1 (s:=k) h _ _
 | .frozen _ k,h,u,es=>N1 (h _) _ _
 | .getObj _ k,h,u,es=>by
  unfold Sem.runT;split
  ·exact id
  ·exact N1 (h _) _ _
  ·exact id
 | .setObj _ _ k,h,u,es=>by
  unfold Sem.runT;split
  ·exact id
  ·exact N1 (s:=k) h _ _
  ·exact id
 | .choose _ k,h,u,es=>by
  unfold Sem.runT;split
  ·exact N1 (h _) _ _
  ·exact N1 (h _) _ _
 | .sys _ k,h,u,es=>N1 (h _) _ _
 | .program k,h,u,es=>N1 (s:=k P) h _ _
 | .mark _ k,h,u,es=>N1 (s:=k) h _ _
 | .halt hh,h,u,es=>by
  intro hf;obtain⟨v,hv⟩:=bh0 hf;exact h v hv
structure ut0 {α:Type} (P:Program) (ρ:Nat->w6) (s:Sem α) (u w:World) (es:Array Event):Prop where
 out:∃w',s.runT P w es=(atW (s.runT P u es).1 w',(s.runT P u es).2)/\N5 ρ (fk0 (s.runT P u es).1) w'
 evo:X8 u (fk0 (s.runT P u es).1)
 evs:∀e∈(s.runT P u es).2,e∈es\/fj0 u e
theorem ut0.of {α β:Type} {P:Program} {ρ:Nat->w6} {s:Sem α} {t:Sem β} {u w u' w':World} {es es':Array Event} {f:Result β->Result α} (h:ut0 P ρ t u' w' es') (hu:s.runT P u es=(f (t.runT P u' es').1,(t.runT P u' es').2)) (hw:s.runT P w es=(f (t.runT P w' es').1,(t.runT P w' es').2))
  (hf:∀r w,f (atW r w)=atW (f r) w) (hfw:∀r,fk0 (f r)=fk0 r) (he:X8 u u') (I9:∀e∈es',e∈es\/fj0 u e):ut0 P ρ s u w es:=by
 obtain⟨⟨w2,h1,h2⟩,h3,h4⟩:=h;refine⟨⟨w2,?_,?_⟩,?_,?_⟩
 ·rw[hw,h1,hu];simp only[hf]
 ·rw[hu];simp only[hfw];exact h2
 ·rw[hu];simp only[hfw];exact he.trans h3
 ·rw[hu];intro e hee;rcases h4 e hee with h5|h5
  ·exact I9 e h5
  ·exact .inr (h5.back he)
theorem ut0.go {α:Type} {P:Program} {ρ:Nat->w6} {s t:Sem α} {u w u' w':World} {es es':Array Event} (h:ut0 P ρ t u' w' es') (hu:s.runT P u es=t.runT P u' es') (hw:s.runT P w es=t.runT P w' es') (he:X8 u u') (I9:∀e∈es',e∈es\/fj0 u e):ut0 P ρ s u w es :=
 ut0.of (f:=id) h hu hw (fun _ _=>rfl) (fun _=>rfl) he I9
theorem uu0 {o:Obj} (h:n6 o=true):∃c T f,o= .cells c T f:=by
 cases o <;> first|exact⟨_,_,_,rfl⟩|cases h
theorem z8 {u:World} {es:Array Event} {x:Event} (hx:fj0 u x):∀e∈es.push x,e∈es\/fj0 u e:=by
 intro e he;rcases Array.mem_push.1 he with h|rfl
 ·exact .inl h
 ·exact .inr hx
theorem N5.ask {ρ:Nat->w6} {u w:World} (h:N5 ρ u w) (d:Nat):N5 ρ {u with drawn:=d} {w with drawn:=d}:=⟨h.os,h.output,h.tape,rfl,h.size,h.obj,h.new,h.A6⟩
theorem B6 {α:Type} {P:Program} {ρ:Nat->w6}:∀{s:Sem α},B1 P s->∀{u w:World} {es:Array Event},N5 ρ u w->us0 (s.runT P u es).1->ut0 P ρ s u w es
 | .pure a,_,u,w,es,hs,_=>⟨⟨w,rfl,hs⟩,X8.refl u,fun e he=>.inl he⟩
 | .halt hh,_,u,w,es,hs,_=>⟨⟨w,rfl,hs⟩,X8.refl u,fun e he=>.inl he⟩
 | .load m a k,h,u,w,es,hs,hf=>by
  cases hc:u.cell? a with
  |some v=>
   have hu:(Sem.load m a k).runT P u es=(k v).runT P u (es.push ⟨.cell a,false,m== .atomic⟩):=by
    conv=>lhs;unfold Sem.runT
    rw[hc]
   have hw:(Sem.load m a k).runT P w es=(k v).runT P w (es.push ⟨.cell a,false,m== .atomic⟩):=by
    conv=>lhs;unfold Sem.runT
    rw[hs.cell hc]
   rw[hu]at hf;exact(B6 (h v) hs hf).go hu hw (X8.refl u) (z8 (fun _=>⟨⟨v,hc⟩,fun h9=>by cases h9⟩))
  |none=>
   exfalso;unfold Sem.runT at hf;rw[hc]at hf;have:∃hh,u.farLoad P a (m== .atomic)= .error hh:=by
    unfold World.farLoad;cases hb:u.heap[a.block]? with
    |none=>exact⟨_,rfl⟩
    |some o=>
     cases o
     case view at_ t=>exact absurd (hs.A6 _ _ hb) (by simp[S3])
     all_goals exact⟨_,rfl⟩
   obtain⟨hh,he⟩:=this;rw[he]at hf;obtain⟨v,hv⟩:=bh0 hf;exact it0 he v hv
 | .store m a x k,h,u,w,es,hs,hf=>by
  cases ho:one x
  ·rw[cz0 ho]at hf;exact hf.elim
  ·cases hc:u.cell? a with
   |some v=>
    cases hz:u.frozen? a
    ·have hu:(Sem.store m a x k).runT P u es=k.runT P (u.setCell a x) (es.push ⟨.cell a,true,m== .atomic⟩):=by
      rw[H9 ho,hc,hz];rfl
     have hw:(Sem.store m a x k).runT P w es=k.runT P (w.setCell a x) (es.push ⟨.cell a,true,m== .atomic⟩):=by
      rw[H9 ho,hs.cell hc,hs.frozen hc hz];rfl
     rw[hu]at hf;exact(B6 (s:=k) h (hs.setCell hc x) hf).go hu hw (ur0 u a x hz) (z8 (fun _=>⟨⟨v,hc⟩,fun _=>hz⟩))
    ·rw[H9 ho,hc,hz]at hf;exact hf.elim
   |none=>
    exfalso;rw[H9 ho,hc]at hf;have:∃hh,u.farStore P a x (m== .atomic)= .error hh:=by
     unfold World.farStore;cases hb:u.heap[a.block]? with
     |none=>exact⟨_,rfl⟩
     |some o=>
      cases o
      case view at_ t=>exact absurd (hs.A6 _ _ hb) (by simp[S3])
      all_goals exact⟨_,rfl⟩
    obtain⟨hh,he⟩:=this;rw[he]at hf;obtain⟨v,hv⟩:=bh0 hf;exact fl0 he v hv
 | .new o k,h,u,w,es,hs,hf=>by
  refine(B6 (h.2 u.heap.size) (hs.push h.1) hf).go rfl ?_ (De0 u o) (fun e he=>.inl he);show(k w.heap.size).runT P _ es=_;rw[hs.size]
 | .shape _ k,h,u,w,es,hs,hf=>absurd hf (N1 (h _) _ _)
 | .freeze _ _ k,h,u,w,es,hs,hf=>absurd hf (N1 (s:=k) h _ _)
 | .frozen _ k,h,u,w,es,hs,hf=>absurd hf (N1 (h _) _ _)
 | .getObj r k,h,u,w,es,hs,hf=>by
  cases hb:u.heap[r]? with
  |none=>unfold Sem.runT at hf;rw[hb]at hf;exact hf.elim
  |some o=>
   cases hco:n6 o
   ·obtain⟨y,hy,hl⟩:=hs.obj r o hb;have hyo:y=o:=by generalize ρ r=p at hl;cases hl <;> first|rfl|cases hco
    subst hyo;have hu:(Sem.getObj r k).runT P u es=(k y).runT P u (es.push ⟨.obj r,false,y.isChan⟩):=by
     conv=>lhs;unfold Sem.runT
     rw[hb];cases y <;> first|rfl|cases hco
    have hw:(Sem.getObj r k).runT P w es=(k y).runT P w (es.push ⟨.obj r,false,y.isChan⟩):=by
     conv=>lhs;unfold Sem.runT
     rw[hy];cases y <;> first|rfl|cases hco
    rw[hu]at hf;exact(B6 (h y) hs hf).go hu hw (X8.refl u) (z8 (fun _=>⟨y,hb,hco⟩))
   ·obtain⟨c,T,f,rfl⟩:=uu0 hco;unfold Sem.runT at hf;rw[hb]at hf;exact hf.elim
 | .setObj r o k,h,u,w,es,hs,hf=>by
  cases hb:u.heap[r]? with
  |none=>unfold Sem.runT at hf;rw[hb]at hf;exact hf.elim
  |some y=>
   cases hco:n6 y
   ·obtain⟨y',hy,hl⟩:=hs.obj r y hb;have hyo:y'=y:=by generalize ρ r=p at hl;cases hl <;> first|rfl|cases hco
    subst hyo;have hu:(Sem.setObj r o k).runT P u es=k.runT P {u with heap:=u.heap.setIfInBounds r o} (es.push ⟨.obj r,true,o.isChan⟩):=by
     conv=>lhs;unfold Sem.runT
     rw[hb];cases y' <;> first|rfl|cases hco
    have hw:(Sem.setObj r o k).runT P w es=k.runT P {w with heap:=w.heap.setIfInBounds r o} (es.push ⟨.obj r,true,o.isChan⟩):=by
     conv=>lhs;unfold Sem.runT
     rw[hy];cases y' <;> first|rfl|cases hco
    rw[hu]at hf;exact(B6 (s:=k) h.2 (hs.setObj hb hco h.1.1) hf).go hu hw (xg0 hb hco h.1.2) (z8 (fun _=>⟨y',hb,hco⟩))
   ·obtain⟨c,T,f,rfl⟩:=uu0 hco;unfold Sem.runT at hf;rw[hb]at hf;exact hf.elim
 | .choose q k,h,u,w,es,hs,hf=>by
  cases hq:q.forced
  ·have hu:(Sem.choose q k).runT P u es=(k (q.cut (u.tape u.drawn q))).runT P {u with drawn:=u.drawn+1} es:=by
    conv=>lhs;unfold Sem.runT
    rw[hq];rfl
   have hw:(Sem.choose q k).runT P w es=(k (q.cut (u.tape u.drawn q))).runT P {w with drawn:=u.drawn+1} es:=by
    conv=>lhs;unfold Sem.runT
    rw[hq,hs.tape,hs.drawn];rfl
   rw[hu]at hf;exact(B6 (h _) (hs.ask _) hf).go hu hw ⟨Nat.le_refl _,fun _ x hx=>⟨x,hx,J3.refl x⟩⟩ (fun e he=>.inl he)
  ·have hu:(Sem.choose q k).runT P u es=(k 0).runT P u es:=by
    conv=>lhs;unfold Sem.runT
    rw[hq];rfl
   have hw:(Sem.choose q k).runT P w es=(k 0).runT P w es:=by
    conv=>lhs;unfold Sem.runT
    rw[hq];rfl
   rw[hu]at hf;exact(B6 (h 0) hs hf).go hu hw (X8.refl u) (fun e he=>.inl he)
 | .sys _ k,h,u,w,es,hs,hf=>absurd hf (N1 (h _) _ _)
 | .program k,h,u,w,es,hs,hf=>(B6 (s:=k P) h hs hf).go rfl rfl (X8.refl u) (fun e he=>.inl he)
 | .mark m k,h,u,w,es,hs,hf=>by
  unfold B1 at h;split at h
  ·rename_i hm;exact(B6 (s:=k) h hs hf).go rfl rfl (X8.refl u) (z8 hm)
  ·exact absurd hf (N1 (s:=k) h _ _)
end
end Go.Yc
end
section
namespace Go.Yc
open Go Go.Conc
open Go.ConcN (sumTo upd sumTo_upd upd_ne upd_same sumTo_congr)
section
def P2 (u:World) (τ:Tape) (d:Nat):World:={u with tape:=τ,drawn:=d}
theorem cb0.uniq {p:w6} {x y y':Obj} (h:cb0 p x y) (h':cb0 p x y'):y=y':=by
 cases h <;> cases h' <;> rfl
theorem v7 {c:Array Value} {T:TypeId} {f:Nat×Nat} {y:Obj} (hk:J3 (.cells c T f) y):∃c',y= .cells c' T f/\c'.size=c.size/\∀i,inR f i->c'[i]? =c[i]?:=by
 cases y <;> try(exact hk.elim)
 obtain⟨h1,rfl,rfl,h2⟩:=hk;exact⟨_,rfl,h1,h2⟩
def cc0 (u:World) (b:Nat):Prop:=∃T f,u.heap[b]? =some (.cells #[] T f)
theorem cc0.evo {u u':World} {b:Nat} (h:cc0 u b) (he:X8 u u'):cc0 u' b:=by
 obtain⟨T,f,hb⟩:=h;obtain⟨y,hy,hk⟩:=he.obj _ _ hb;obtain⟨c,rfl,h1,_⟩:=v7 hk;have:c=#[]:=by simpa using h1
 subst this;exact⟨_,_,hy⟩
theorem cc0.kept {ρ:Nat->w6} {u u' w w':World} {b:Nat} (h:cc0 u b) (he:X8 u u') (hs:N5 ρ u w) (hs':N5 ρ u' w'):w'.heap[b]? =w.heap[b]?:=by
 obtain⟨T,f,hb⟩:=h;obtain⟨y,hy,hk⟩:=he.obj _ _ hb;obtain⟨c,rfl,h1,_⟩:=v7 hk;have:c=#[]:=by simpa using h1
 subst this;obtain⟨z,hz,hl⟩:=hs.obj _ _ hb;obtain⟨z',hz',w5⟩:=hs'.obj _ _ hy;rw[hz,hz',hl.uniq w5]
theorem xh0 {u u':World} {a:Addr} {v:Value} (hc:u.cell? a=some v) (hf:u.frozen? a=true) (he:X8 u u'):u'.cell? a=some v/\u'.frozen? a=true:=by
 obtain⟨c,T,f,hb,hs,hv⟩:=H4 hc;obtain⟨y,hy,hk⟩:=he.obj _ _ hb;obtain⟨c',rfl,h1,h2⟩:=v7 hk;unfold World.frozen? at hf⊢;unfold World.cell?;rw[hb]at hf;rw[hy];obtain⟨lo,hi⟩:=f;refine⟨?_,hf⟩;simp only[hs,Option.isSome_none,Bool.false_eq_true,if_false];simp only[Bool.and_eq_true,decide_eq_true_eq]at hf;rw[h2 _ hf];exact hv
structure M4 where
 blk:Nat
 off:Nat
def stA (G:M4):Addr:=⟨G.blk,G.off,none⟩
def smA (G:M4):Addr:=⟨G.blk,G.off+1,none⟩
def KK:Nat:=4294967296
attribute [local irreducible] KK
def w7 (G:M4) (st sm:Int) (w:World):Prop:=∃c T,w.heap[G.blk]? =some (.cells (c ++ #[.int .u64 st,.int .u32 sm]) T (0,0))/\c.size=G.off
def Cut (u:World) (G:M4):Prop:=∃c T f,u.heap[G.blk]? =some (.cells c T f)/\c.size=G.off
theorem Cut.evo {u u':World} {G:M4} (h:Cut u G) (he:X8 u u'):Cut u' G:=by
 obtain⟨c,T,f,hb,hc⟩:=h;obtain⟨y,hy,hk⟩:=he.obj _ _ hb;obtain⟨c',rfl,h1,_⟩:=v7 hk;exact⟨_,_,_,hy,h1.trans hc⟩
theorem Cut.kept {ρ:Nat->w6} {u u' w w':World} {G:M4} {st sm:Int} (h:Cut u G) (he:X8 u u') (hs:N5 ρ u w) (hs':N5 ρ u' w') (hg:w7 G st sm w):w7 G st sm w':=by
 obtain⟨c,T,f,hb,hc⟩:=h;obtain⟨y,hy,hk⟩:=he.obj _ _ hb;obtain⟨c',rfl,h1,_⟩:=v7 hk;obtain⟨z,hz,hl⟩:=hs.obj _ _ hb;obtain⟨z',hz',w5⟩:=hs'.obj _ _ hy;obtain⟨c0,T0,hg,hc0⟩:=hg;rw[hz]at hg;obtain rfl:=Option.some.inj hg;generalize ρ G.blk=p at hl w5;generalize hz0:(Obj.cells (c0 ++ #[.int .u64 st,.int .u32 sm]) T0 (0,0))=z0 at hl;cases hl with
 |same=>
  obtain⟨rfl,_,_⟩:=Obj.cells.inj hz0;simp at hc;omega
 |cut _ rest _ f1 _ _=>
  obtain⟨h2,rfl,h3⟩:=Obj.cells.inj hz0;have D2:c.size=c0.size:=by omega
  have:rest=#[.int .u64 st,.int .u32 sm]:=(Array.append_inj_right h2 D2.symm).symm;subst this;cases w5 with
  |cut _ _ _ _ _ _=>exact⟨c',T0,by rw[hz',<- h3],h1.trans hc⟩
 |gone=>
  subst hz0;cases w5 with
  |gone=>exact⟨c0,T0,hz',hc0⟩
theorem w7.cells {G:M4} {st sm:Int} {w:World} (h:w7 G st sm w):w.cell? (stA G)=some (.int .u64 st)/\w.cell? (smA G)=some (.int .u32 sm)/\w.frozen? (stA G)=false/\w.frozen? (smA G)=false:=by
 obtain⟨c,T,hb,hc⟩:=h;refine⟨?_,?_,?_,?_⟩
 ·simp[World.cell?,stA,hb,<- hc]
 ·simp only[World.cell?,smA,hb,Option.isSome_none,Bool.false_eq_true,if_false];rw[Array.getElem?_append_right (by omega)];simp[<- hc]
 ·simp[World.frozen?,stA,hb]
 ·simp[World.frozen?,smA,hb]
def x5 (P:Program) (main:Bool) (g:Goroutine) (u:World) (g':Goroutine) (u':World):Prop :=
 g'.status= .running/\∀ρ w,N5 ρ u w->X8 u u'/\∃w' es,stepG P main g w= .go g' w' es/\N5 ρ u' w'/\∀e∈es,fj0 u e
structure H5 where
 ch:Nat
 z:Value
 me:Goroutine
def gy0 (P:Program) (main:Bool) (s:H5) (g:Goroutine):Prop :=
 g.status= .running/\g.frame=s.me.frame/\g.callers=s.me.callers/\g.dying=s.me.dying/\∀w,stepG P main g w= .comm s.me #[rcase s.ch s.z] true (.recv false) w #[]
abbrev N3:=List (Addr×Value)
def Way (P:Program) (main:Bool) (l:N3) (s:H5):Nat->Goroutine->Prop
 |0,g=>g=parked s.me #[rcase s.ch s.z] (.recv false)/\∃g₀,gy0 P main s g₀
 |n+1,g=>gy0 P main s g\/(0<n/\g.status= .running/\∃g' es,(∀e∈es,∃p∈l,e=⟨.cell p.1,false,false⟩)/\(∀w,(∀p∈l,w.cell? p.1=some p.2)->stepG P main g w= .go g' w es)/\Way P main l s n g')
theorem Way.status {P:Program} {main:Bool} {l:N3} {s:H5}:∀{n:Nat} {g:Goroutine},Way P main l s n g->(g.status= .running/\0<n)\/(g.status= .blocked/\n=0)
 |0,_,h=>.inr ⟨by have:=h.1;subst this;rfl,rfl⟩
 |_+1,_,h=>.inl ⟨h.elim (fun x=>x.1) fun x=>x.2.1,by omega⟩
def xi0 (e:Event):Bool:=match e.loc with
 | .mark (.read _)| .mark (.write _)| .mark (.release _)=>false
 | .mark _=>true
 |_=>false
def Y8 (a:Addr):Event:=⟨.cell a,false,true⟩
def wrA (a:Addr):Event:=⟨.cell a,true,true⟩
def Ue0 (P:Program) (G:M4) (g:Goroutine) (g':Goroutine) (es:Array Event):Prop :=
 g.status= .running/\(∀e∈es,xi0 e=true)/\∀w st sm,w7 G st sm w->stepG P false g w= .go g' w es
def Lst (P:Program) (G:M4):Nat->Nat->Nat->Goroutine->Prop
 |0,_,_,_=>False
 |n+1,s,d,g=>0<d/\((∃g' es,Ue0 P G g g' es/\(∀e∈es,e.loc≠.mark .disable/\e.loc≠.mark .enable)/\Lst P G n s d g')\/(g.status= .running/\match s with
  |2=>∃g',(∀w,w7 G 1 0 w->stepG P false g w= .go g' w #[Y8 (stA G)])/\Lst P G n 1 d g'
  |1=>∃g',(∀w,w7 G 1 0 w->stepG P false g w= .go g' (w.setCell (stA G) (.int .u64 0)) #[wrA (stA G)])/\Lst P G n 0 d g'
  |_=>mayWake P g=true/\∃g',(∀w,w7 G 0 0 w->stepG P false g w= .go g' (w.setCell (smA G) (.int .u32 1)) (semEvents (smA G)))/\QuitsD P n d g'))
def Lt (P:Program) (G:M4):Nat->Nat->Goroutine->Prop
 |0,_,_=>False
 |n+1,d,g=>(∃g' es,Ue0 P G g g' es/\Lt P G n (deafBehind d es) g')\/(g.status= .running/\0<d/\∀v wt:Nat,wt <=1->v<2147483647->∃g',
   (∀w,w7 G (((v+1)*KK+wt:Nat):Int) 0 w->stepG P false g w= .go g' (w.setCell (stA G) (.int .u64 ((v*KK+wt:Nat):Int))) #[Y8 (stA G),wrA (stA G)])/\(¬(v=0/\wt=1)->QuitsD P n d g')/\(v=0/\wt=1->Lst P G n 2 d g'))
theorem Lt.running {P:Program} {G:M4}:∀{n d:Nat} {g:Goroutine},Lt P G n d g->g.status= .running:=by
 intro n d g h;cases n with
 |zero=>exact h.elim
 |succ n=>
  unfold Lt at h;rcases h with⟨_,_,x,_⟩|x
  ·exact x.1
  ·exact x.1
theorem Lst.running {P:Program} {G:M4}:∀{n s d:Nat} {g:Goroutine},Lst P G n s d g->g.status= .running:=by
 intro n s d g h;cases n with
 |zero=>exact h.elim
 |succ n=>
  unfold Lst at h;rcases h with⟨_,⟨_,_,x,_⟩|x⟩
  ·exact x.1
  ·exact x.1
end
section
attribute [local irreducible] KK
structure Gh where
 C1:Nat->Option H5
 stay:Nat->N3
 K2:Option M4
 old:List M4
 X3:Nat->Option Obj
 J7:Nat->Prop
 low:Nat->Prop
 N4:Nat->w6
 cap:Nat
 pend:Nat
 dn:Nat
 n:Nat
def Gh.Sh (X:Gh) (l:Loc):Prop:=∃a G,(X.K2=some G\/G∈X.old)/\l= .cell a/\a.block=G.blk/\G.off <=a.off
def Us (live:Nat->Bool) (g:Nat):Prop:=g=0\/live g=true
def Gh.St (X:Gh) (i:Nat) (l:Loc):Prop:=∃p∈X.stay i,l= .cell p.1
def Gh.Mem (X:Gh) (h g:Nat):Prop:=(g=h/\X.dn=0)\/X.C1 g≠none
def Gh.Lo (X:Gh) (h g:Nat):Prop:=g≠h/\X.C1 g≠none
def count (live:Nat->Bool) (n:Nat):Nat:=sumTo n fun i=>if live i then 1 else 0
def Idle (P:Program) (X:Gh) (live:Nat->Bool) (T:Trace) (i n:Nat) (g:Goroutine):Prop:=match X.C1 i with
 |some s=>Way P (i==0) (X.stay i) s n g
 |none=>0<i/\if live i then ∃G,X.K2=some G/\Lt P G n (Deaf T i) g else QuitsD P n (Deaf T i) g
def Gh.Sep (X:Gh):Prop:=∀G,(X.K2=some G\/G∈X.old)->¬X.J7 G.blk/\X.X3 G.blk=none
structure Ring (P:Program) (X:Gh) (h:Nat) (u:World) (live:Nat->Bool) (T:Trace) (gs:Array Goroutine) (w:World) (q:Nat->Nat):Prop where
 sim:∃ρ,N5 ρ (P2 u w.tape w.drawn) w/\∀b,¬X.low b->ρ b=X.N4 b
 idle:∀i g,i≠h->gs[i]? =some g->Idle P X live T i (q i) g
 free:X.C1 h=none
 size:h<gs.size
 num:gs.size=X.n
 stays:∀i p,p∈X.stay i->u.cell? p.1=some p.2/\u.frozen? p.1=true
 chans:∀c,X.J7 c->cc0 u c/\X.X3 c=none/\∃k,w.heap[c]? =some (.chan 0 #[] false k k false)
 O3:∀i s,X.C1 i=some s->X.J7 s.ch
 inj:∀i j s s',X.C1 i=some s->X.C1 j=some s'->s.ch=s'.ch->i=j
 X3:∀b o,X.X3 b=some o->cc0 u b/\S3 o=false/\∃p y,w.heap[b]? =some y/\cb0 p o y
 aa0:∀G,X.K2=some G->X.low G.blk
 K7:(∀c,X.J7 c->X.low c)/\X.Sep
 K2:∀G,X.K2=some G->Cut u G/\w7 G (((count live gs.size+X.pend)*KK:Nat):Int) 0 w
 old:∀G∈X.old,Cut u G
 above:∀j,gs.size <=j->Deaf T j=0/\X.C1 j=none/\live j=false/\X.stay j=[]
 few:count live gs.size+X.pend <=X.cap/\X.cap <=65536
 cu0:∀i,live i=true->i≠0/\X.K2≠none
 ar0:∀i,i≠0->(X.C1 i≠none\/i=h)->live i=true
 dfn:Deaf T h=X.dn
 past:PastH X.Sh (Us live) X.St (X.Mem h) (X.Lo h) h T
theorem Uf0 {X:Gh} {u:World} {h:Nat} (E2:∀i p,p∈X.stay i->u.cell? p.1=some p.2/\u.frozen? p.1=true) (hg:∀G,(X.K2=some G\/G∈X.old)->Cut u G) {e:Event} (he:fj0 u e) (fn:FuncId) (pos:String) :
  HOk X.Sh X.St h {g:=h,fn,pos,act:=.ofEvent e}/\e.loc≠.mark .disable/\e.loc≠.mark .enable:=by
 obtain⟨l,wr,sy⟩:=e;cases l with
 |cell a=>
  refine⟨fun b hb=>?_,by simp,by simp⟩;simp only[ofEvent_cell0,MemAct.touch?,Option.some.injEq]at hb;subst hb;refine⟨?_,fun hwr g _=>?_⟩
  ·rintro⟨a',G,hG,ha,hb,ho⟩;simp only[Loc.cell.injEq]at ha;subst ha;obtain⟨c,T,f,hc,hs⟩:=hg G hG;obtain⟨⟨v,hv⟩,_⟩:=he (by rw[hb];exact(Array.getElem?_eq_some_iff.1 hc).1);obtain⟨c',T',f',L6,_,hv'⟩:=H4 hv;rw[hb,hc]at L6;cases L6;have:=(Array.getElem?_eq_some_iff.1 hv').1;omega
  ·rintro⟨p,hp,ha⟩;simp only[Loc.cell.injEq]at ha;subst ha;obtain⟨h1,h2⟩:=E2 g p hp;obtain⟨c',T',f',L6,_,_⟩:=H4 h1;have:=(he (Array.getElem?_eq_some_iff.1 L6).1).2 hwr;rw[h2]at this;cases this
 |obj r=>
  refine⟨fun b hb=>?_,by simp,by simp⟩;have:b.loc= .obj r:=by
   cases wr <;> cases sy <;> simp[MemAct.ofEvent,MemAct.touch?]at hb <;> (try(subst hb;rfl))
  refine⟨?_,fun _ g _=>?_⟩
  ·rintro⟨a',G,_,ha,_⟩;rw[this]at ha;cases ha
  ·rintro⟨p,_,ha⟩;rw[this]at ha;cases ha
 |output=>exact he.elim
 |goroutines=>exact he.elim
 |mark m=>
  have hm:xf0 m=true:=he;cases m <;> first|(cases hm;done)|exact⟨fun b hb=>by simp[MemAct.ofEvent,MemAct.touch?]at hb,by simp,by simp⟩
section
variable {P:Program}{X:Gh}{h:Nat}{u:World}{live:Nat->Bool}{T:Trace}{gs:Array Goroutine}{w:World}{q:Nat->Nat}
theorem Way.again {main:Bool} {l:N3} {s:H5} {n:Nat} {g:Goroutine} (hw:Way P main l s n g) (hc:∃k,w.heap[s.ch]? =some (.chan 0 #[] false k k false)):g.again w=g:=by
 rcases hw.status with⟨h1,_⟩|⟨_,rfl⟩
 ·exact again_of_running (.inl h1) w
 ·obtain⟨rfl,_⟩:=hw;obtain⟨k,hk⟩:=hc;exact again_recv_open hk
theorem Idle.again {i n:Nat} {g:Goroutine} (hi:Idle P X live T i n g) (hc:∀s,X.C1 i=some s->∃k,w.heap[s.ch]? =some (.chan 0 #[] false k k false)):g.again w=g:=by
 unfold Idle at hi;cases e:X.C1 i with
 |some s=>rw[e]at hi;exact Way.again hi (hc s e)
 |none=>
  rw[e]at hi;obtain⟨_,hi⟩:=hi;split at hi
  ·obtain⟨G,_,hl⟩:=hi;exact again_of_running (.inl hl.running) w
  ·exact again_of_running hi.status w
theorem Idle.other {i n g':Nat} {g:Goroutine} (hi:Idle P X live T i n g) (n3:g'≠i) {ops:Trace} (ej0:∀op∈ops,op.g=g'):Idle P X live (T++ops) i n g:=by
 unfold Idle at hi⊢;rw[Deaf_other T n3 ops ej0];exact hi
theorem Idle.awake {i n:Nat} {g:Goroutine} (hi:Idle P X live T i n g):awake g:=by
 unfold Idle at hi;cases e:X.C1 i with
 |some s=>rw[e]at hi;exact awake_of (hi.status.elim (fun x=>.inl x.1) fun x=>.inr (.inl x.1))
 |none=>
  rw[e]at hi;obtain⟨_,hi⟩:=hi;split at hi
  ·obtain⟨G,_,hl⟩:=hi;exact awake_of (.inl hl.running)
  ·exact awake_of (hi.status.elim .inl fun x=>.inr (.inr x))
theorem Ring.awake (C:Ring P X h u live T gs w q) {a:Goroutine} (ha:gs[h]? =some a) (hs:a.status= .running\/a.status= .blocked):∀g∈gs,awake g:=by
 intro g hg;obtain⟨i,hi,rfl⟩:=Array.mem_iff_getElem.1 hg;by_cases e:i=h
 ·subst e;have:gs[i]=a:=by simpa [Array.getElem?_eq_getElem hi]using ha
  rw[this];exact awake_of (hs.elim .inl fun x=>.inr (.inl x))
 ·exact(C.idle i _ e (Array.getElem?_eq_getElem hi)).awake
theorem N5.at {ρ:Nat->w6} (hs:N5 ρ (P2 u w.tape w.drawn) w) (d:Nat):N5 ρ (P2 u (w.at d).tape (w.at d).drawn) (w.at d):=⟨hs.os,hs.output,rfl,rfl,hs.size,hs.obj,hs.new,hs.A6⟩
theorem Ring.at (C:Ring P X h u live T gs w q) (d:Nat):Ring P X h u live T gs (w.at d) q :=
 ⟨let⟨ρ,hs,hl⟩:=C.sim;⟨ρ,N5.at hs d,hl⟩,C.idle,C.free,C.size,C.num,C.stays,C.chans,C.O3,C.inj,C.X3,C.aa0,C.K7,C.K2,C.old,C.above,C.few,C.cu0,C.ar0,C.dfn,C.past⟩
theorem Ring.own (C:Ring P X h u live T gs w q) {g g':Goroutine} {u':World} (ha:gs[h]? =some g) (hF:x5 P (h==0) g (P2 u w.tape w.drawn) g' u') :
  ∃w' es,stepG P (h==0) g w= .go g' w' es/\Ring P X h u' live (T++MemOp.ofEvents h g.frame.fn g.frame.place es) ((gs.map (woken P g g' w')).setIfInBounds h g') w' q/\((gs.map (woken P g g' w')).setIfInBounds h g')[h]? =some g':=by
 obtain⟨hr,hF⟩:=hF;obtain⟨ρ,hs,hlw⟩:=C.sim;obtain⟨hE,w',es,E2,hs',hev⟩:=hF ρ w hs;have hE:X8 u u':=⟨hE.size,hE.obj⟩
 have hs1:N5 ρ {u with tape:=w.tape,drawn:=w.drawn} w:=hs;have G3:∀G,(X.K2=some G\/G∈X.old)->Cut u G:=fun G hG=>hG.elim (fun e=>(C.K2 G e).1) (C.old G);have Ug0:=fun e he=>Uf0 (X:=X) (h:=h) C.stays G3 (hev e he);have ej0:∀op∈MemOp.ofEvents h g.frame.fn g.frame.place es,op.g=h:=fun op M5=>by obtain⟨e,_,rfl⟩:=Go.Conc.mem_ofEvents M5;rfl
 have hd:Deaf (T++MemOp.ofEvents h g.frame.fn g.frame.place es) h=Deaf T h:=by
  rw[Deaf_own];exact deafBehind_still (fun e he=>(Ug0 e he g.frame.fn g.frame.place).2) _
 have Y5:∀c,X.J7 c->∃k,w'.heap[c]? =some (.chan 0 #[] false k k false):=fun c e=>by
  obtain⟨hg,_,k,hk⟩:=C.chans c e;exact⟨k,by rw[cc0.kept (u:=P2 u w.tape w.drawn) hg ⟨hE.size,hE.obj⟩ hs hs'];exact hk⟩
 refine⟨w',es,E2,⟨⟨ρ,?_,hlw⟩,fun i y hi hy=>?_,C.free,by simpa using C.size,by simpa using C.num,fun i p hp=>xh0 (C.stays i p hp).1 (C.stays i p hp).2 hE,
  fun c e=>⟨(C.chans c e).1.evo hE,(C.chans c e).2.1,Y5 c e⟩,C.O3,C.inj,fun b o e=>?_,C.aa0,C.K7,fun G e=>⟨(C.K2 G e).1.evo hE,?_⟩,fun G hG=>(C.old G hG).evo hE,fun j hj=>?_,by simpa using C.few,C.cu0,C.ar0,hd.trans C.dfn,?_⟩,Array.getElem?_setIfInBounds_self_of_lt (by simpa using C.size)⟩
 ·rw[hs'.tape,hs'.drawn];exact hs'
 ·rw[Array.getElem?_setIfInBounds_ne (fun e=>hi e.symm),Array.getElem?_map]at hy;obtain⟨y₀,hy₀,rfl⟩:=Option.map_eq_some_iff.1 hy;have X3:=C.idle i y₀ hi hy₀;rw[woken_of_again (X3.again fun s e=>Y5 _ (C.O3 i s e))];exact X3.other (fun z=>hi z.symm) ej0
 ·obtain⟨h1,h2,p,y,hy,hl⟩:=C.X3 b o e;exact⟨h1.evo hE,h2,p,y,by rw[cc0.kept (u:=P2 u w.tape w.drawn) h1 ⟨hE.size,hE.obj⟩ hs hs'];exact hy,hl⟩
 ·have:=Cut.kept (u:=P2 u w.tape w.drawn) (C.K2 G e).1 ⟨hE.size,hE.obj⟩ hs hs' (C.K2 G e).2;simpa using this
 ·simp only[Array.size_setIfInBounds,Array.size_map]at hj;rw[Deaf_other T (g':=h) (by have:=C.size;omega) _ ej0];exact C.above j hj
 ·exact PastH.appH C.past (fun z=>z.1 rfl) ej0 (fun op M5=>by obtain⟨e,he,rfl⟩:=Go.Conc.mem_ofEvents M5;exact(Ug0 e he _ _).1) hd
end
end
section
attribute [local irreducible] KK
theorem A1 (w:World) {a:Addr} (v:Value) {b:Nat} (h:b≠a.block):(w.setCell a v).heap[b]? =w.heap[b]?:=by
 rw[heap_setCell];cases w.heap[b]? with
 |none=>rfl
 |some o=>simp[h]
theorem N5.K2 {ρ:Nat->w6} {u w:World} {G:M4} {st sm:Int} (hs:N5 ρ (P2 u w.tape w.drawn) w) (hc:Cut u G) (hg:w7 G st sm w) (st' sm':Int) {w':World} (hw:w'.heap[G.blk]? =some (.cells ((let c:=w.heap[G.blk]?;match c with|some (.cells c _ _)=>c.extract 0 G.off|_=>#[]) ++ #[.int .u64 st',.int .u32 sm']) (match w.heap[G.blk]? with|some (.cells _ T _)=>T|_=>0) (0,0)))
  (ho:∀b,b≠G.blk->w'.heap[b]? =w.heap[b]?) (hz:w'.heap.size=w.heap.size) (h1:w'.os=w.os) (h2:w'.output=w.output):∃ρ',N5 ρ' (P2 u w'.tape w'.drawn) w'/\∀b,b≠G.blk->ρ' b=ρ b:=by
 obtain⟨c,T,f,hb,hcs⟩:=hc;obtain⟨c0,T0,hg,hc0⟩:=hg;obtain⟨z,hz0,hl⟩:=hs.obj _ _ (show(P2 u w.tape w.drawn).heap[G.blk]? =some _ from hb);rw[hz0]at hg;obtain rfl:=Option.some.inj hg;rw[hz0]at hw;simp only at hw;have ht:(c0 ++ #[Value.int .u64 st,Value.int .u32 sm]).extract 0 G.off=c0:=by rw[<- hc0];simp[Array.extract_append]
 rw[ht]at hw;obtain⟨p',hp'⟩:∃p',cb0 p' (.cells c T f) (.cells (c0 ++ #[.int .u64 st',.int .u32 sm']) T0 (0,0)):=by
  generalize ρ G.blk=p at hl;generalize hq:(Obj.cells (c0 ++ #[.int .u64 st,.int .u32 sm]) T0 (0,0))=z1 at hl;cases hl with
  |same=>
   obtain⟨rfl,_,_⟩:=Obj.cells.inj hq;simp at hcs;omega
  |cut _ rest _ f1 _ hf=>
   obtain⟨h3,rfl,h4⟩:=Obj.cells.inj hq;have D2:c.size=c0.size:=by omega
   have:c=c0:=(Array.append_inj_left h3 D2.symm).symm;subst this;rw[<- h4]at hf;exact⟨_,.cut _ _ _ _ _ hf⟩
  |gone=>exact⟨_,.gone _ _ _⟩
 refine⟨fun b=>if b=G.blk then p' else ρ b,⟨h1.trans hs.os,h2.trans hs.output,rfl,rfl,hz.trans hs.size,fun b x hx=>?_,fun b L7=>?_,hs.A6⟩,fun b hb=>if_neg hb⟩
 ·by_cases e:b=G.blk
  ·subst e;have V3:u.heap[G.blk]? =some x:=hx;rw[hb]at V3;obtain rfl:=Option.some.inj V3;exact⟨_,hw,by rw[if_pos rfl];exact hp'⟩
  ·rw[ho b e,if_neg e];exact hs.obj b x hx
 ·have C2:G.blk<u.heap.size:=(Array.getElem?_eq_some_iff.1 hb).1;have hb2:u.heap.size <=b:=L7;rw[if_neg (by omega)];exact hs.new b L7
theorem w7.setSt {G:M4} {st sm:Int} {w:World} (h:w7 G st sm w) (v:Int):w7 G v sm (w.setCell (stA G) (.int .u64 v)):=by
 obtain⟨c,T,hb,hc⟩:=h;refine⟨c,T,?_,hc⟩;rw[heap_setCell];simp only[stA,hb,Option.map_some,if_true,Option.isSome_none,Bool.false_eq_true,if_false];congr 2;apply Array.ext_getElem?;intro i;rw[Array.getElem?_setIfInBounds];by_cases hi:G.off=i
 ·subst hi;simp[<- hc]
 ·rw[if_neg hi];rcases Nat.lt_or_ge i c.size with h1|h1
  ·rw[Array.getElem?_append_left h1,Array.getElem?_append_left h1]
  ·rw[Array.getElem?_append_right h1,Array.getElem?_append_right h1];obtain⟨k,hk⟩:∃k,i-c.size=k+1:=⟨i-c.size-1,by omega⟩
   rw[hk];cases k <;> rfl
theorem w7.setSm {G:M4} {st sm:Int} {w:World} (h:w7 G st sm w) (v:Int):w7 G st v (w.setCell (smA G) (.int .u32 v)):=by
 obtain⟨c,T,hb,hc⟩:=h;refine⟨c,T,?_,hc⟩;rw[heap_setCell];simp only[smA,hb,Option.map_some,if_true,Option.isSome_none,Bool.false_eq_true,if_false];congr 2;apply Array.ext_getElem?;intro i;rw[Array.getElem?_setIfInBounds];by_cases hi:G.off+1=i
 ·subst hi;rw[if_pos rfl,if_pos (by simp;omega),Array.getElem?_append_right (by omega)];simp[<- hc]
 ·rw[if_neg hi];rcases Nat.lt_or_ge i c.size with h1|h1
  ·rw[Array.getElem?_append_left h1,Array.getElem?_append_left h1]
  ·rw[Array.getElem?_append_right h1,Array.getElem?_append_right h1];rcases Nat.eq_zero_or_pos (i-c.size)with h2|h2
   ·rw[h2];rfl
   ·obtain⟨k,hk⟩:∃k,i-c.size=k+2:=⟨i-c.size-2,by omega⟩
    rw[hk];cases k <;> rfl
structure zq0 (G:M4) (w w':World):Prop where
 other:∀b,b≠G.blk->w'.heap[b]? =w.heap[b]?
 size:w'.heap.size=w.heap.size
 os:w'.os=w.os
 output:w'.output=w.output
theorem zq0.setCell {G:M4} {w:World} {a:Addr} (ha:a.block=G.blk) (v:Value):zq0 G w (w.setCell a v) :=
 ⟨fun b hb=>A1 w v (by rw[ha];exact hb),by simp[World.setCell],rfl,rfl⟩
theorem w7.extract {G:M4} {st sm:Int} {w:World} (h:w7 G st sm w):w.heap[G.blk]? =some (.cells ((let c:=w.heap[G.blk]?;match c with|some (.cells c _ _)=>c.extract 0 G.off|_=>#[]) ++ #[.int .u64 st,.int .u32 sm]) (match w.heap[G.blk]? with|some (.cells _ T _)=>T|_=>0) (0,0)):=by
 obtain⟨c,T,hb,hc⟩:=h;have ht:(c ++ #[Value.int .u64 st,Value.int .u32 sm]).extract 0 G.off=c:=by rw[<- hc];simp[Array.extract_append]
 rw[hb];simp only[ht]
theorem da0 {G:M4} {st sm:Int} {w:World} (h:w7 G st sm w) {a:Addr} (ha:a.block=G.blk) (hs:a.spot=none) (ho:G.off <=a.off) (v:Value) :
  (let c:=(w.setCell a v).heap[G.blk]?;match c with|some (.cells c _ _)=>c.extract 0 G.off|_=>#[])=(let c:=w.heap[G.blk]?;match c with|some (.cells c _ _)=>c.extract 0 G.off|_=>#[]) /\
  (match(w.setCell a v).heap[G.blk]? with|some (.cells _ T _)=>T|_=>0)=(match w.heap[G.blk]? with|some (.cells _ T _)=>T|_=>0):=by
 obtain⟨c,T,hb,hc⟩:=h;rw[heap_setCell,hb];simp only[Option.map_some,ha,if_true,hs,Option.isSome_none,Bool.false_eq_true,if_false,and_true];apply Array.ext_getElem?;intro i;simp only[Array.getElem?_extract,Array.getElem?_setIfInBounds,Nat.zero_add,Array.size_setIfInBounds];by_cases hi:i<G.off
 ·have:a.off≠i:=by omega
  simp[this]
 ·have:¬i<min G.off (c ++ #[Value.int .u64 st,Value.int .u32 sm]).size-0:=by omega
  rw[if_neg this,if_neg this]
theorem N5.setSt {ρ:Nat->w6} {u w:World} {G:M4} {st sm:Int} (hs:N5 ρ (P2 u w.tape w.drawn) w) (hc:Cut u G) (hg:w7 G st sm w) (v:Int):∃ρ',N5 ρ' (P2 u (w.setCell (stA G) (.int .u64 v)).tape (w.setCell (stA G) (.int .u64 v)).drawn) (w.setCell (stA G) (.int .u64 v))/\∀b,b≠G.blk->ρ' b=ρ b:=by
 have h1:=(hg.setSt v).extract;have h2:=da0 hg (a:=stA G) rfl rfl (Nat.le_refl _) (.int .u64 v);rw[h2.1,h2.2]at h1;have t:=zq0.setCell (G:=G) (w:=w) (a:=stA G) rfl (.int .u64 v);exact N5.K2 hs hc hg v sm h1 t.other t.size rfl rfl
theorem N5.setSm {ρ:Nat->w6} {u w:World} {G:M4} {st sm:Int} (hs:N5 ρ (P2 u w.tape w.drawn) w) (hc:Cut u G) (hg:w7 G st sm w) (v:Int):∃ρ',N5 ρ' (P2 u (w.setCell (smA G) (.int .u32 v)).tape (w.setCell (smA G) (.int .u32 v)).drawn) (w.setCell (smA G) (.int .u32 v))/\∀b,b≠G.blk->ρ' b=ρ b:=by
 have h1:=(hg.setSm v).extract;have h2:=da0 hg (a:=smA G) rfl rfl (Nat.le_succ _) (.int .u32 v);rw[h2.1,h2.2]at h1;have t:=zq0.setCell (G:=G) (w:=w) (a:=smA G) rfl (.int .u32 v);exact N5.K2 hs hc hg st v h1 t.other t.size rfl rfl
section
variable {P:Program}{X:Gh}{h:Nat}{u:World}{live:Nat->Bool}{T:Trace}{gs:Array Goroutine}{w:World}{q:Nat->Nat}
def as0 (X:Gh) (w w':World):Prop:=w'.tape=w.tape/\w'.drawn=w.drawn/\(∀c,X.J7 c->w'.heap[c]? =w.heap[c]?)
theorem as0.refl (w:World):as0 X w w:=⟨rfl,rfl,fun _ _=>rfl⟩
theorem Ring.put (C:Ring P X h u live T gs w q) {i n':Nat} {g':Goroutine} {ops:Array MemOp} {J4:Array Goroutine} {ag0:Nat->Bool} {w':World} (C2:i<gs.size) (hih:i≠h) (D2:J4.size=gs.size) (Ph0:∀x,x≠i->J4[x]? =gs[x]?) (r2:J4[i]? =some g')
  (ej0:∀op∈ops,op.g=i) (ko0:Idle P X ag0 (T++ops) i n' g') (hl:∀x,x≠i->ag0 x=live x) (hli:ag0 i=true->live i=true) (hls:X.C1 i≠none->ag0 i=live i) (zr0:PastH X.Sh (Us ag0) X.St (X.Mem h) (X.Lo h) h (T++ops))
  (gz0:∃ρ,N5 ρ (P2 u w'.tape w'.drawn) w'/\∀b,¬X.low b->ρ b=X.N4 b) (A8:∀b,(X.J7 b\/X.X3 b≠none)->w'.heap[b]? =w.heap[b]?) (Js0:∀G,X.K2=some G->w7 G (((count ag0 J4.size+X.pend)*KK:Nat):Int) 0 w') (mz0:count ag0 gs.size <=count live gs.size):Ring P X h u ag0 (T++ops) J4 w' (upd q i n'):=by
 refine⟨gz0,fun x y hx hy=>?_,C.free,by rw[D2];exact C.size,by rw[D2];exact C.num,C.stays,fun c e=>⟨(C.chans c e).1,(C.chans c e).2.1,?_⟩,C.O3,C.inj,fun b o e=>?_,C.aa0,C.K7,fun G e=>⟨(C.K2 G e).1,Js0 G e⟩,C.old,fun j hj=>?_,⟨by rw[D2];exact Nat.le_trans (Nat.add_le_add_right mz0 _) C.few.1,C.few.2⟩,fun j hj=>?_,fun j hj hs=>?_,(Deaf_other T hih ops ej0).trans C.dfn,zr0⟩
 ·by_cases e:x=i
  ·subst e;rw[r2]at hy;obtain rfl:=Option.some.inj hy;rw[upd_same];exact ko0
  ·rw[Ph0 x e]at hy;rw[upd_ne q n' e];have:=(C.idle x y hx hy).other (fun z=>e z.symm) ej0;unfold Idle at this⊢;rw[hl x e];exact this
 ·obtain⟨k,hk⟩:=(C.chans c e).2.2;exact⟨k,by rw[A8 _ (.inl e)];exact hk⟩
 ·obtain⟨h1,h2,p,y,hy,hk⟩:=C.X3 b o e;exact⟨h1,h2,p,y,by rw[A8 b (.inr (by have e':X.X3 b=some o:=e;rw[e'];simp))];exact hy,hk⟩
 ·rw[D2]at hj;rw[Deaf_other T (g':=i) (by omega) ops ej0,hl j (by omega)];exact C.above j hj
 ·by_cases e:j=i
  ·subst e;exact C.cu0 j (hli hj)
  ·rw[hl j e]at hj;exact C.cu0 j hj
 ·by_cases e:j=i
  ·subst e;rcases hs with hs|hs
   ·rw[hls hs];exact C.ar0 j hj (.inl hs)
   ·exact absurd hs hih
  ·rw[hl j e];exact C.ar0 j hj hs
end
end
section
attribute [local irreducible] KK
theorem pn0 {live:Nat->Bool} {i n:Nat} (hi:live i=true) (hn:i<n):count live n=count (upd live i false) n+1:=by
 have:=sumTo_upd live false (fun b=>if b then 1 else 0) hn;simp only[hi,if_true,Bool.false_eq_true,if_false]at this;unfold count;omega
theorem Bj0 {live:Nat->Bool} {i n:Nat} (x:Bool) (hn:n <=i):count (upd live i x) n=count live n:=by
 unfold count;exact sumTo_congr fun j hj=>by rw[upd_ne live x (by omega)]
theorem V1 {g:Nat} {fn:FuncId} {pos:String} {es:Array Event}:∀op∈MemOp.ofEvents g fn pos es,op.g=g:=fun op M5=>by obtain⟨e,_,rfl⟩:=Go.Conc.mem_ofEvents M5;rfl
theorem e8 {e:Event} (h:xi0 e=true):(MemAct.ofEvent e).touch? =none:=by
 obtain⟨l,wr,sy⟩:=e;cases l with
 |mark m=>cases m <;> first|(cases h;done)|rfl
 |_=>cases h
section
variable {P:Program}{X:Gh}{h:Nat}{u:World}{live:Nat->Bool}{T:Trace}{gs:Array Goroutine}{w:World}{q:Nat->Nat}
theorem Idle.noSend {i n:Nat} {y:Goroutine} (hi:Idle P X live T i n y) (c:Nat):offersAt y c true=[]:=by
 unfold Idle at hi;cases e:X.C1 i with
 |some s=>
  rw[e]at hi;rcases hi.status with⟨h1,_⟩|⟨_,rfl⟩
  ·exact offersAt_of_not_blocked (by rw[h1];simp) _ _
  ·obtain⟨rfl,_⟩:=hi;exact offersAt_parked_recv' _ _ _ _ _
 |none=>
  rw[e]at hi;obtain⟨_,hi⟩:=hi;split at hi
  ·obtain⟨G,_,hl⟩:=hi;exact offersAt_of_not_blocked (by rw[hl.running];simp) _ _
  ·exact offersAt_of_not_blocked (fun hb=>by rcases hi.status with z|z <;> rw[z]at hb <;> cases hb) _ _
theorem Idle.Pi0 {i n:Nat} {y:Goroutine} (hi:Idle P X live T i n y) {c:Nat} (hc:∀s,X.C1 i=some s->s.ch≠c):offersAt y c false=[]:=by
 unfold Idle at hi;cases e:X.C1 i with
 |some s=>
  rw[e]at hi;rcases hi.status with⟨h1,_⟩|⟨_,rfl⟩
  ·exact offersAt_of_not_blocked (by rw[h1];simp) _ _
  ·obtain⟨rfl,_⟩:=hi;rw[offersAt_parked_recv,if_neg (hc s e)]
 |none=>
  rw[e]at hi;obtain⟨_,hi⟩:=hi;split at hi
  ·obtain⟨G,_,hl⟩:=hi;exact offersAt_of_not_blocked (by rw[hl.running];simp) _ _
  ·exact offersAt_of_not_blocked (fun hb=>by rcases hi.status with z|z <;> rw[z]at hb <;> cases hb) _ _
theorem Ring.by_step (C:Ring P X h u live T gs w q) {i:Nat} {g gh:Goroutine} {sl:Option (Nat×Nat)} (hi:gs[i]? =some g) (n3:i≠h) (Y3:g.status= .running) (hh:gs[h]? =some gh)
  (hA:∀w',as0 X w w'->gh.again w'=gh) (hO:∀s,X.C1 i=some s->gy0 P (i==0) s g->offersAt gh s.ch true=[]) :
  ∃(J4:Array Goroutine) (ops:Array MemOp) (q':Nat->Nat) (w':World) (ag0:Nat->Bool),runT P (crowd gs w sl) i=(.next (crowd J4 w' sl),ops)/\J4.size=gs.size/\J4[h]? =some gh/\(∀x,x≠i->q' x=q x) /\
   (∀s,X.C1 i=some s->q' i=0->gy0 P (i==0) s g)/\Ring P X h u ag0 (T++ops) J4 w' q'/\sumTo gs.size q'<sumTo gs.size q/\as0 X w w':=by
 have C2:i<gs.size:=(Array.getElem?_eq_some_iff.1 hi).1;have ju0:∀(w':World),as0 X w w'->∀(a a':Goroutine) (x:Nat) (y:Goroutine),gs[x]? =some y->woken P a a' w' y=y:=fun w' hS a a' x y hy=>woken_of_again (by
  by_cases hx:x=h
  ·subst hx;rw[hh]at hy;obtain rfl:=Option.some.inj hy;exact hA w' hS
  ·exact(C.idle x y hx hy).again fun s e=>by obtain⟨k,hk⟩:=(C.chans _ (C.O3 x s e)).2.2;exact⟨k,by rw[hS.2.2 _ (C.O3 x s e)];exact hk⟩)
 have uv0:∀(w':World),as0 X w w'->∀(a' g':Goroutine) (x:Nat),x≠i->((gs.map (woken P g a' w')).setIfInBounds i g')[x]? =gs[x]?:=by
  intro w' hS a' g' x hx;rw[Array.getElem?_setIfInBounds_ne (fun e=>hx e.symm),Array.getElem?_map];cases e:gs[x]? with
  |none=>rfl
  |some y=>simp[ju0 w' hS g a' x y e]
 have r2:∀(w':World) (a' g':Goroutine),((gs.map (woken P g a' w')).setIfInBounds i g')[i]? =some g':=fun w' a' g'=>Array.getElem?_setIfInBounds_self_of_lt (by simpa using C2);have Jt0:∀k,q i=k+1->sumTo gs.size (upd q i k)<sumTo gs.size q:=by
  intro k hqi;have h2:sumTo gs.size (upd q i k)+(k+1)=sumTo gs.size q+k:=by
   have:=sumTo_upd q k id C2;simpa [hqi]using this
  omega
 have X3:=C.idle i g n3 hi;unfold Idle at X3;cases e:X.C1 i with
 |none=>
  rw[e]at X3;obtain⟨uw0,hq⟩:=X3;have hi0:(i==0)=false:=by simp;omega
  have hMi:¬X.Mem h i:=fun z=>z.elim (fun z=>n3 z.1) fun z=>z e;cases hl:live i with
  |false=>
   rw[hl]at hq;simp only[Bool.false_eq_true,if_false]at hq;cases hqi:q i with
   |zero=>rw[hqi]at hq;rw[hq.1]at Y3;cases Y3
   |succ k=>
    rw[hqi]at hq;rcases hq with⟨hf,_⟩|⟨_,g',es,hm,j3,hq'⟩
    ·rw[hf]at Y3;cases Y3
    have hS:=as0.refl (X:=X) w;refine⟨_,_,upd q i k,w,live,runT_crowd_go (sl:=sl) hi (by rw[hi0];exact j3 w),by simp,(uv0 w hS _ _ h (Ne.symm n3)).trans hh,fun x hx=>upd_ne q k hx,fun s hs=>(by cases hs),?_,Jt0 k hqi,hS⟩;refine C.put C2 n3 (by simp) (uv0 w hS _ _) (r2 w _ _) V1 (by unfold Idle;rw[e];simp only[hl,Bool.false_eq_true,if_false];exact⟨uw0,by rw[Deaf_own];exact hq'⟩) (fun _ _=>rfl) id (fun _=>rfl) ?_ C.sim (fun _ _=>rfl) (fun G hG=>by simpa using(C.K2 G hG).2) (Nat.le_refl _);exact C.past.appMute (g:=i) (fun x=>Knows.app _) (fun op M5=>by obtain⟨e',he,rfl⟩:=Go.Conc.mem_ofEvents M5;exact touch_mute (hm e' he)) (C.past.old_hears V1 (fun z=>absurd z hMi))
  |true=>
   rw[hl]at hq;simp only[if_true]at hq;obtain⟨G,hG,hq⟩:=hq;obtain⟨na0,ek0⟩:=C.K2 G hG;cases hqi:q i with
   |zero=>rw[hqi]at hq;exact hq.elim
   |succ k=>
    rw[hqi]at hq;unfold Lt at hq;rcases hq with⟨g',es,⟨_,hsy,j3⟩,hq'⟩|⟨_,hd0,ux0⟩
    ·have hS:=as0.refl (X:=X) w;refine⟨_,_,upd q i k,w,live,runT_crowd_go (sl:=sl) hi (by rw[hi0];exact j3 w _ _ ek0),by simp,(uv0 w hS _ _ h (Ne.symm n3)).trans hh,fun x hx=>upd_ne q k hx,fun s hs=>(by cases hs),?_,Jt0 k hqi,hS⟩;refine C.put C2 n3 (by simp) (uv0 w hS _ _) (r2 w _ _) V1 (by unfold Idle;rw[e];simp only[hl,if_true];exact⟨uw0,G,hG,by rw[Deaf_own];exact hq'⟩) (fun _ _=>rfl) id (fun _=>rfl) ?_ C.sim (fun _ _=>rfl) (fun G hG=>by simpa using(C.K2 G hG).2) (Nat.le_refl _);exact C.past.appMute (g:=i) (fun x=>Knows.app _) (fun op M5=>by obtain⟨e',he,rfl⟩:=Go.Conc.mem_ofEvents M5;exact e8 (hsy e' he)) (C.past.old_hears V1 (fun z=>absurd z hMi))
    ·have fi0:=pn0 hl C2;generalize hv0:count (upd live i false) gs.size=v0 at fi0;obtain⟨v,hv⟩:∃v,v=v0+X.pend:=⟨_,rfl⟩
     have fi0:count live gs.size+X.pend=v+1:=by omega
     have hvb:v<2147483647:=by have:=C.few;omega
     obtain⟨g',j3,fm0,_⟩:=ux0 v 0 (by omega) hvb;have Uh0:w7 G (((v+1)*KK+0:Nat):Int) 0 w:=by rw[Nat.add_zero,<- fi0];exact ek0
     have E2:=j3 w Uh0;rw[Nat.add_zero]at E2;have hgv:=ek0.setSt ((v*KK:Nat):Int);have kp0:stepG P (i==0) g w= .go g' (w.setCell (stA G) (.int .u64 ((v*KK:Nat):Int))) #[Y8 (stA G),wrA (stA G)]:=by rw[hi0];exact E2
     have hgn:∀b,(X.J7 b\/X.X3 b≠none)->(w.setCell (stA G) (.int .u64 ((v*KK:Nat):Int))).heap[b]? =w.heap[b]?:=fun b hb=>A1 w _ (fun e=>by
      have e:b=G.blk:=e;subst e;have:=C.K7.2 G (.inl hG);exact hb.elim this.1 fun z=>z this.2)
     have hS:as0 X w (w.setCell (stA G) (.int .u64 ((v*KK:Nat):Int))):=⟨rfl,rfl,fun c hc=>hgn _ (.inl hc)⟩
     have hdq:∀t:Trace,∀j,j <=(MemOp.ofEvents i g.frame.fn g.frame.place #[Y8 (stA G),wrA (stA G)]).size->(t++MemOp.ofEvents i g.frame.fn g.frame.place #[Y8 (stA G),wrA (stA G)]).deaf i (t.size+j)=Deaf t i:=fun t=>deaf_quiet (fun op M5 d=>by
      obtain⟨e',he,rfl⟩:=Go.Conc.mem_ofEvents M5;simp only[List.mem_toArray,List.mem_cons,List.not_mem_nil,or_false]at he;rcases he with rfl|rfl <;> rfl)
     have hdd:Deaf (T++MemOp.ofEvents i g.frame.fn g.frame.place #[Y8 (stA G),wrA (stA G)]) i=Deaf T i:=by
      rw[Deaf_own];exact deafBehind_still (fun e' he=>by
       simp only[List.mem_toArray,List.mem_cons,List.not_mem_nil,or_false]at he;rcases he with rfl|rfl <;> exact⟨by simp[Y8,wrA],by simp[Y8,wrA]⟩) _
     refine⟨_,_,upd q i k,_,upd live i false,runT_crowd_go (sl:=sl) hi kp0,by simp,(uv0 _ hS _ _ h (Ne.symm n3)).trans hh,fun x hx=>upd_ne q k hx,fun s hs=>(by cases hs),?_,Jt0 k hqi,hS⟩;refine C.put C2 n3 (by simp) (uv0 _ hS _ _) (r2 _ _ _) V1 (by unfold Idle;rw[e];simp only[upd_same,Bool.false_eq_true,if_false];exact⟨uw0,by rw[hdd];exact fm0 (by omega)⟩) (fun x hx=>upd_ne live false hx) (fun z=>by rw[upd_same]at z;cases z) (fun z=>absurd e z) ?_ ?_ hgn (fun G' hG'=>?_) (by omega)
     ·refine Past.leave (Us:=Us live) ?_ (fun x hx=>?_)
      ·refine Past.Nl0 (g:=i) C.past (.inr hl) (fun g' l w5 hsh=>?_) (fun x=>Knows.app _) V1 (fun op M5=>?_) (fun _ j hj1 hj2=>?_) (C.past.old_hears V1 (fun z=>absurd z hMi))
       ·obtain⟨p,hp,rfl⟩:=w5;obtain⟨a',G',hG',ha,hb,ho⟩:=hsh;simp only[Loc.cell.injEq]at ha;subst ha;have hc:Cut u G':=hG'.elim (fun z=>(C.K2 G' z).1) (C.old G');obtain⟨c,T1,f,hc,hs⟩:=hc;obtain⟨c',T',f',L6,_,hv'⟩:=H4 (C.stays g' p hp).1;rw[hb,hc]at L6;cases L6;have:=(Array.getElem?_eq_some_iff.1 hv').1;omega
       ·obtain⟨e',he,rfl⟩:=Go.Conc.mem_ofEvents M5;intro b hb;simp only[List.mem_toArray,List.mem_cons,List.not_mem_nil,or_false]at he;rcases he with rfl|rfl <;> simp[Y8,wrA,MemAct.ofEvent,MemAct.touch?]at hb <;> subst hb <;> exact⟨⟨stA G,G,.inl hG,rfl,rfl,Nat.le_refl _⟩,by simp,fun _=>rfl⟩
       ·obtain⟨m,rfl⟩:∃m,j=T.size+m:=⟨j-T.size,by omega⟩
        rw[hdq T m (by omega)];omega
      ·rcases hx with hx|hx
       ·exact .inl hx
       ·by_cases ex:x=i
        ·subst ex;rw[upd_same]at hx;cases hx
        ·rw[upd_ne live false ex]at hx;exact .inr hx
     ·obtain⟨ρ,hs,hlw⟩:=C.sim;obtain⟨ρ',h1,h2⟩:=N5.setSt hs na0 ek0 ((v*KK:Nat):Int);exact⟨ρ',h1,fun b hb=>(h2 b fun e=>hb (e▸C.aa0 G hG)).trans (hlw b hb)⟩
     ·rw[hG]at hG';obtain rfl:=Option.some.inj hG';simp only[Array.size_setIfInBounds,Array.size_map,hv0,<- hv];exact hgv
 |some s=>
  rw[e]at X3;have hM:X.Mem h i:=.inr (by rw[e];simp);have hLo:X.Lo h i:=⟨n3,by rw[e];simp⟩
  have hS:=as0.refl (X:=X) w;obtain⟨n,hqi⟩:∃n,q i=n+1:=by
   rcases X3.status with⟨_,h2⟩|⟨h1,_⟩
   ·exact⟨q i-1,by omega⟩
   ·rw[Y3]at h1;cases h1
  rw[hqi]at X3;have Ui0:gy0 P (i==0) s g\/(0<n/\∃g' es,(∀e'∈es,∃p∈X.stay i,e'=⟨.cell p.1,false,false⟩)/\(∀w,(∀p∈X.stay i,w.cell? p.1=some p.2)->stepG P (i==0) g w= .go g' w es)/\Way P (i==0) (X.stay i) s n g') :=
   X3.elim .inl fun z=>.inr ⟨z.1,z.2.2⟩
  rcases Ui0 with hat|⟨hn0,g',es,I9,j3,sz0⟩
  ·obtain⟨k,hk⟩:=(C.chans _ (C.O3 i s e)).2.2;have hw:∀cc∈#[rcase s.ch s.z],NoWays w (gs.setIfInBounds i ph) cc:=by
    intro cc hcc;simp only[List.mem_toArray,List.mem_cons,List.not_mem_nil,or_false]at hcc;subst hcc;refine ways_recv_none hk (partners_nil fun x y hy=>?_);rcases getElem?_stand gs i x y hy with⟨_,rfl⟩|⟨hx,hy'⟩
    ·exact offersAt_ph _ _
    ·by_cases hxh:x=h
     ·subst hxh;rw[hh]at hy';obtain rfl:=Option.some.inj hy';exact hO s e hat
     ·exact(C.idle x y hxh hy').noSend _
   refine⟨_,_,upd q i 0,w,live,crowd_waits (sl:=sl) hi (hat.2.2.2.2 w) hw,by simp,(Array.getElem?_setIfInBounds_ne n3).trans hh,fun x hx=>upd_ne q 0 hx,fun s' hs' _=>by rw[<- Option.some.inj hs'];exact hat,?_,?_,hS⟩
   ·refine C.put C2 n3 (by simp) (fun x hx=>Array.getElem?_setIfInBounds_ne (fun z=>hx z.symm)) (Array.getElem?_setIfInBounds_self_of_lt C2) V1 (by unfold Idle;rw[e];exact⟨rfl,g,hat⟩) (fun _ _=>rfl) id (fun _=>rfl) ?_ C.sim (fun _ _=>rfl) (fun G hG=>by simpa using(C.K2 G hG).2) (Nat.le_refl _);exact C.past.appMute (g:=i) (fun x=>Knows.app _) (fun op M5=>by obtain⟨e',he,rfl⟩:=Go.Conc.mem_ofEvents M5;simp at he) (C.past.old_hears V1 (fun _=>by rw[Deaf_own];rfl))
   ·have h2:sumTo gs.size (upd q i 0)+(n+1)=sumTo gs.size q+0:=by
     have:=sumTo_upd q 0 id C2;simpa [hqi]using this
    omega
  ·obtain⟨ρ,hs,_⟩:=C.sim;have E2:=j3 w fun p hp=>hs.cell (u:=P2 u w.tape w.drawn) (C.stays i p hp).1;refine⟨_,_,upd q i n,w,live,runT_crowd_go (sl:=sl) hi E2,by simp,(uv0 w hS _ _ h (Ne.symm n3)).trans hh,fun x hx=>upd_ne q n hx,fun s' _ hz=>by rw[upd_same]at hz;omega,?_,Jt0 n hqi,hS⟩;refine C.put C2 n3 (by simp) (uv0 w hS _ _) (r2 w _ _) V1 (by unfold Idle;rw[e];exact sz0) (fun _ _=>rfl) id (fun _=>rfl) ?_ C.sim (fun _ _=>rfl) (fun G hG=>by simpa using(C.K2 G hG).2) (Nat.le_refl _);refine C.past.appRead (g:=i) (fun x=>Knows.app _) hM hLo V1 (fun op M5 b hb=>?_) ?_
   ·obtain⟨e',he,rfl⟩:=Go.Conc.mem_ofEvents M5;obtain⟨p,hp,rfl⟩:=I9 e' he;simp only[ofEvent_cell0,MemAct.touch?,Option.some.injEq]at hb;subst hb;refine⟨rfl,⟨p,hp,rfl⟩,?_⟩;rintro⟨a',G',hG',ha,hb,ho⟩;simp only[Loc.cell.injEq]at ha;subst ha;have hc:Cut u G':=hG'.elim (fun z=>(C.K2 G' z).1) (C.old G');obtain⟨c,T1,f,hc,hs⟩:=hc;obtain⟨c',T',f',L6,_,hv'⟩:=H4 (C.stays i p hp).1;rw[hb,hc]at L6;cases L6;have:=(Array.getElem?_eq_some_iff.1 hv').1;omega
   ·rw[Deaf_own];exact deafBehind_still (fun e' he=>by obtain⟨p,_,rfl⟩:=I9 e' he;exact⟨by simp,by simp⟩) _
end
end
section
attribute [local irreducible] KK
def Ends (P:Program) (Post:Value->World->Prop) (m:Machine) (t:Trace):Prop :=
 ∃N last o w' t',runNT P (N+1) m t=(.ended o w',t')/\runN P N m= .next last/\step P last= .ended o w'/\Conc.Good P Post last o w' t'
theorem en0 {P:Program}:∀{N:Nat} {m m':Machine} {t t':Trace},runNT P N m t=(.next m',t')->runN P N m= .next m'
 |0,m,m',t,t',h=>by simp only[runNT,Prod.mk.injEq]at h;simp only[runN];exact h.1
 |N+1,m,m',t,t',h=>by
  simp only[runNT]at h;unfold runN step;cases e:stepT P m with
  |mk s ops=>
   rw[e]at h;cases s with
   |next m1=>exact en0 h
   |ended o w=>simp at h
theorem pp0 {P:Program}:∀(a b:Nat) (m m':Machine),runN P a m= .next m'->runN P (a+b) m=runN P b m'
 |0,b,m,m',h=>by simp only[runN,Stepped.next.injEq]at h;rw[Nat.zero_add,h]
 |a+1,b,m,m',h=>by
  rw[show a+1+b=(a+b)+1 by omega];have h':(match step P m with| .next m=>runN P a m|e=>e)= .next m':=h;show(match step P m with| .next m=>runN P (a+b) m|e=>e)=_;cases e:step P m with
  |next m1=>rw[e]at h';exact pp0 a b m1 m' h'
  |ended o w=>rw[e]at h';cases h'
section
variable {P:Program}{Post:Value->World->Prop}
theorem Ends.steps {N:Nat} {m m':Machine} {t t':Trace} (h:runNT P N m t=(.next m',t')) (hE:Ends P Post m' t'):Ends P Post m t:=by
 obtain⟨M,last,o,w',t2,h1,h2,h3,h4⟩:=hE;exact⟨N+M,last,o,w',t2,by rw[Nat.add_assoc,runNT_add,h];exact h1,by rw[pp0 N M m m' (en0 h)];exact h2,h3,h4⟩
theorem Ends.step {m m':Machine} {t:Trace} {ops:Array MemOp} (h:stepT P m=(.next m',ops)) (hE:Ends P Post m' (t++ops)):Ends P Post m t :=
 Ends.steps (N:=1) (by simp only[runNT,h]) hE
end
def Fin (P:Program) (Post:Value->World->Prop) (X:Gh) (h:Nat) (g:Goroutine) (u:World):Prop :=
 ∀live T gs w sl q,gs[h]? =some g->Ring P X h u live T gs w q->Ends P Post (crowd gs w sl) T
section
variable {P:Program}{Post:Value->World->Prop}{X:Gh}{h:Nat}{u:World}
theorem Ring.Uj0 {g:Goroutine} (Y3:g.status= .running) (K:Machine->Trace->Prop) (hK:∀m m' t ops,stepT P m=(.next m',ops)->K m' (t++ops)->K m t)
  (kq0:∀live T gs w sl d Y4 q,gs[h]? =some g->stepT P (crowd gs w sl)=runT P (crowd gs (w.at d) Y4) h->Ring P X h u live T gs (w.at d) q->K (crowd gs w sl) T) :
  ∀(μ:Nat) live T gs w sl q,sumTo gs.size q=μ->gs[h]? =some g->Ring P X h u live T gs w q->K (crowd gs w sl) T:=by
 intro μ
 induction μ using Nat.strongRecOn with
 |_ μ ih=>
  intro live T gs w sl q hμ hg C;obtain⟨i,gi,d,Y4,hi,hgi,E2⟩:=crowd_pick (P:=P) (w:=w) (sl:=sl) (C.awake hg (.inl Y3)) ⟨h,g,hg,Y3⟩;have Cd:=C.at d;by_cases e:i=h
  ·subst e;exact kq0 live T gs w sl d Y4 q hg E2 Cd
  ·obtain⟨J4,ops,q',w',ag0,hrt,D2,hgh,_,_,C',C2,_⟩:=Cd.by_step (sl:=Y4) hi e hgi hg (fun w' _=>again_of_running (.inl Y3) w') (fun s _ _=>offersAt_of_not_blocked (by rw[Y3];simp) _ _);exact hK _ _ _ _ (E2.trans hrt) (ih _ (by rw[D2,<- hμ];exact C2) ag0 (T++ops) J4 w' Y4 q' rfl hgh C')
theorem Fin.o9 {g:Goroutine} (Y3:g.status= .running) (kq0:∀live T gs w sl d Y4 q,gs[h]? =some g->stepT P (crowd gs w sl)=runT P (crowd gs (w.at d) Y4) h->Ring P X h u live T gs (w.at d) q->Ends P Post (crowd gs w sl) T):Fin P Post X h g u :=
 fun live T gs w sl q hg C=>Ring.Uj0 Y3 (Ends P Post) (fun _ _ _ _ h=>Ends.step h) kq0 _ live T gs w sl q rfl hg C
theorem Fin.own {g:Goroutine} (Y3:g.status= .running) (hs:∀τ d,∃g' u',x5 P (h==0) g (P2 u τ d) g' u'/\Fin P Post X h g' u'):Fin P Post X h g u:=by
 refine Fin.o9 Y3 fun live T gs w sl d Y4 q hg E2 C=>?_;obtain⟨g',u',hF,hK⟩:=hs (w.at d).tape (w.at d).drawn;obtain⟨w',es,hgo,C',r2⟩:=C.own hg hF;exact Ends.step (E2.trans (runT_crowd_go (sl:=Y4) hg hgo)) (hK _ _ _ _ _ _ r2 C')
theorem Fin.Ju0 {g:Goroutine} {X':Gh} {u':World} (hw:∀live T gs w q,Ring P X h u live T gs w q->Ring P X' h u' live T gs w q) (hF:Fin P Post X' h g u'):Fin P Post X h g u :=
 fun live T gs w sl q hg C=>hF live T gs w sl q hg (hw live T gs w q C)
end
def G2 (u:World) (b:Nat) (o:Obj):World:={u with heap:=u.heap.setIfInBounds b o}
theorem iu0 (u:World) (b:Nat) (o:Obj) (k:Nat):(G2 u b o).heap[k]? =if b=k then(if b<u.heap.size then some o else none) else u.heap[k]?:=by
 simp only[G2,Array.getElem?_setIfInBounds]
theorem D5 (u:World) {b k:Nat} (o:Obj) (h:b≠k):(G2 u b o).heap[k]? =u.heap[k]?:=by rw[iu0,if_neg h]
theorem M6 (u:World) {b:Nat} {o x:Obj} (h:u.heap[b]? =some x):(G2 u b o).heap[b]? =some o:=by
 rw[iu0,if_pos rfl,if_pos (Array.getElem?_eq_some_iff.1 h).1]
theorem y5 {u u':World} {a:Addr} (h:u'.heap[a.block]? =u.heap[a.block]?):u'.cell? a=u.cell? a/\u'.frozen? a=u.frozen? a:=by
 unfold World.cell? World.frozen?;rw[h];exact⟨rfl,rfl⟩
theorem N5.replace {ρ:Nat->w6} {u w:World} {b:Nat} {x x' y:Obj} {p:w6} (hs:N5 ρ (P2 u w.tape w.drawn) w) (hb:u.heap[b]? =some x) (hv:S3 x'=false) (hy:w.heap[b]? =some y) (hl:cb0 p x' y):∃ρ',N5 ρ' (P2 (G2 u b x') w.tape w.drawn) w/\∀k,k≠b->ρ' k=ρ k:=by
 have C2:=(Array.getElem?_eq_some_iff.1 hb).1;refine⟨fun k=>if k=b then p else ρ k,⟨hs.os,hs.output,rfl,rfl,by have:=hs.size;simpa [G2,P2]using this,fun k z hz=>?_,fun k hk=>?_,fun k z hz=>?_⟩,fun k hk=>if_neg hk⟩
 ·have hz':(G2 u b x').heap[k]? =some z:=hz;by_cases e:k=b
  ·subst e;rw[M6 u hb]at hz';obtain rfl:=Option.some.inj hz';exact⟨y,hy,by rw[if_pos rfl];exact hl⟩
  ·rw[D5 u x' (Ne.symm e)]at hz';obtain⟨y',h1,h2⟩:=hs.obj k z hz';exact⟨y',h1,by rw[if_neg e];exact h2⟩
 ·have hk':u.heap.size <=k:=by simpa [G2,P2]using hk
  rw[if_neg (by omega)];exact hs.new k hk'
 ·have hz':(G2 u b x').heap[k]? =some z:=hz;by_cases e:k=b
  ·subst e;rw[M6 u hb]at hz';obtain rfl:=Option.some.inj hz';exact hv
  ·rw[D5 u x' (Ne.symm e)]at hz';exact hs.A6 k z hz'
structure J9 (X:Gh) (b:Nat):Prop where
 stay:∀i p,p∈X.stay i->p.1.block≠b
 X3:X.X3 b=none
 J7:¬X.J7 b
 K2:∀G,(X.K2=some G\/G∈X.old)->G.blk≠b
structure Gh.Z8 (X:Gh) (n:Nat):Prop where
 stay:∀i p,p∈X.stay i->p.1.block<n
 X3:∀b o,X.X3 b=some o->b<n
 J7:∀b,X.J7 b->b<n
 K2:∀G,(X.K2=some G\/G∈X.old)->G.blk<n
 low:∀b,X.low b->b<n
theorem Gh.Z8.mono {X:Gh} {n m:Nat} (h:X.Z8 n) (hm:n <=m):X.Z8 m :=
 ⟨fun i p hp=>Nat.lt_of_lt_of_le (h.stay i p hp) hm,fun b o e=>Nat.lt_of_lt_of_le (h.X3 b o e) hm,fun b e=>Nat.lt_of_lt_of_le (h.J7 b e) hm,fun G e=>Nat.lt_of_lt_of_le (h.K2 G e) hm,fun b e=>Nat.lt_of_lt_of_le (h.low b e) hm⟩
theorem Gh.Z8.at0 {X:Gh} {n b:Nat} (h:X.Z8 n) (hb:n <=b):J9 X b :=
 ⟨fun i p hp=>by have:=h.stay i p hp;omega,by
  cases e:X.X3 b with
  |none=>rfl
  |some o=>have:=h.X3 b o e;omega,fun e=>by have:=h.J7 b e;omega,fun G hG=>by have:=h.K2 G hG;omega⟩
def Gh.lower (X:Gh) (b:Nat):Gh:={X with low:=fun k=>X.low k\/k=b}
theorem Ring.swap {P:Program} {X:Gh} {h:Nat} {u:World} {live:Nat->Bool} {T:Trace} {gs:Array Goroutine} {w:World} {q:Nat->Nat} (C:Ring P X h u live T gs w q) {b:Nat} {x x':Obj} (hl:J9 X b) (hb:u.heap[b]? =some x) (hv:S3 x'=false)
  (hlk:∀p y,cb0 p x y->∃p',cb0 p' x' y):Ring P (X.lower b) h (G2 u b x') live T gs w q:=by
 obtain⟨ρ,hs,hlw⟩:=C.sim;obtain⟨y,hy,hl0⟩:=hs.obj b x hb;obtain⟨p',hp'⟩:=hlk _ _ hl0;have na0:∀G,(X.K2=some G\/G∈X.old)->Cut u G->Cut (G2 u b x') G:=fun G hG ⟨c,T,f,hc,hcs⟩=>⟨c,T,f,by rw[D5 u x' (Ne.symm (hl.K2 G hG))];exact hc,hcs⟩
 have A8:∀k,k≠b->cc0 u k->cc0 (G2 u b x') k:=fun k hk ⟨T,f,hc⟩=>⟨T,f,by rw[D5 u x' (Ne.symm hk)];exact hc⟩
 refine⟨?_,C.idle,C.free,C.size,C.num,fun i p hp=>?_,fun c hc=>⟨A8 c (fun e=>hl.J7 (e▸hc)) (C.chans c hc).1,(C.chans c hc).2⟩,C.O3,C.inj,fun k o e=>?_,fun G e=>.inl (C.aa0 G e),⟨fun c e=>.inl (C.K7.1 c e),C.K7.2⟩,fun G e=>⟨na0 G (.inl e) (C.K2 G e).1,(C.K2 G e).2⟩,fun G e=>na0 G (.inr e) (C.old G e),C.above,C.few,C.cu0,C.ar0,C.dfn,C.past⟩
 ·obtain⟨ρ',h1,h2⟩:=N5.replace hs hb hv hy hp';exact⟨ρ',h1,fun k hk=>by
   have hkb:k≠b:=fun e=>hk (.inr e);rw[h2 k hkb];exact hlw k fun e=>hk (.inl e)⟩
 ·have:=y5 (u:=u) (u':=G2 u b x') (a:=p.1) (D5 u x' (Ne.symm (hl.stay i p hp)));rw[this.1,this.2];exact C.stays i p hp
 ·have hk:k≠b:=fun z=>by subst z;have e2:X.X3 k=some o:=e;rw[hl.X3]at e2;cases e2
  exact⟨A8 k hk (C.X3 k o e).1,(C.X3 k o e).2⟩
section
variable {P:Program}{Post:Value->World->Prop}{X:Gh}{h:Nat}{u:World}{g:Goroutine}{b:Nat}
theorem Fin.freeze {c:Array Value} {T:TypeId} {f f':Nat×Nat} (hl:J9 X b) (hb:u.heap[b]? =some (.cells c T f)) (hf:∀i,inR f i->inR f' i) (hF:Fin P Post (X.lower b) h g (G2 u b (.cells c T f'))):Fin P Post X h g u:=by
 refine Fin.Ju0 (fun live Tr gs w q C=>C.swap hl hb rfl fun p y hp=>?_) hF;cases hp with
 |same=>exact⟨.cut #[] f,by have:=cb0.cut c #[] T f f' hf;simpa using this⟩
 |cut _ rest _ f0 _ h0=>exact⟨.cut rest f0,.cut c rest T f0 f' fun i hi=>hf i (h0 i hi)⟩
 |gone=>exact⟨.gone y,.gone _ _ _⟩
def nothing:Obj:=.cells #[] 0 (0,0)
theorem Fin.chan (hl:J9 X b) (hw:¬X.low b) (K9:X.N4 b= .all) {k:Nat} (hb:u.heap[b]? =some (.chan 0 #[] false k k false)) (hF:Fin P Post {X.lower b with J7:=fun c=>X.J7 c\/c=b} h g (G2 u b nothing)):Fin P Post X h g u:=by
 refine Fin.Ju0 (fun live Tr gs w q C=>?_) hF;have C':=C.swap (x':=nothing) hl hb rfl fun p y hp=>⟨.gone y,.gone _ _ _⟩
 obtain⟨ρ,hs,hlw⟩:=C.sim;obtain⟨y,hy,hl0⟩:=hs.obj b _ hb;rw[hlw b hw,K9]at hl0;have hyb:y= .chan 0 #[] false k k false:=by cases hl0;rfl
 subst hyb;refine⟨C'.sim,C'.idle,C'.free,C'.size,C'.num,C'.stays,fun c hc=>?_,fun i s e=>.inl (C'.O3 i s e),C'.inj,C'.X3,C'.aa0,⟨fun c e=>e.elim (C'.K7.1 c) fun e=>.inr e,fun G hG=>⟨fun e=>e.elim (C'.K7.2 G hG).1 (hl.K2 G hG),(C'.K7.2 G hG).2⟩⟩,C'.K2,C'.old,C'.above,C'.few,C'.cu0,C'.ar0,C'.dfn,C'.past⟩;rcases hc with hc|rfl
 ·exact C'.chans c hc
 ·exact⟨⟨0,(0,0),M6 u hb⟩,hl.X3,k,hy⟩
theorem Fin.stay {l:N3} (hl:∀p∈l,u.cell? p.1=some p.2/\u.frozen? p.1=true) (hF:Fin P Post {X with stay:=upd X.stay h l} h g u):Fin P Post X h g u:=by
 refine Fin.Ju0 (fun live Tr gs w q C=>?_) hF;have Jv0:∀i,i≠h->upd X.stay h l i=X.stay i:=fun i hi=>upd_ne _ _ hi;refine⟨C.sim,fun i y hi hy=>?_,C.free,C.size,C.num,fun i p hp=>?_,C.chans,C.O3,C.inj,C.X3,C.aa0,C.K7,C.K2,C.old,fun j hj=>?_,C.few,C.cu0,C.ar0,C.dfn,?_⟩
 ·have:=C.idle i y hi hy;unfold Idle at this⊢;show(match X.C1 i with|some s=>Way P (i==0) (upd X.stay h l i) s (q i) y|none=>_);rw[Jv0 i hi];exact this
 ·have hp':p∈upd X.stay h l i:=hp;by_cases e:i=h
  ·subst e;rw[upd_same]at hp';exact hl p hp'
  ·rw[Jv0 i e]at hp';exact C.stays i p hp'
 ·have:=C.above j hj;refine⟨this.1,this.2.1,this.2.2.1,?_⟩;show upd X.stay h l j=[];rw[Jv0 j (by have:=C.size;omega)];exact this.2.2.2
 ·refine PastH.still C.past (fun z=>z.1 rfl) (fun i hi l'=>?_) (fun l' w5=>?_) (fun i hi=>.inl hi) (fun hi=>C.past.hears h hi)
  ·show(∃p∈upd X.stay h l i,_)↔_;rw[Jv0 i hi];exact Iff.rfl
  ·obtain⟨p,hp,rfl⟩:=(w5:∃p∈upd X.stay h l h,l'= .cell p.1)
   have hp:p∈l:=by have hp':p∈upd X.stay h l h:=hp;rwa [upd_same]at hp'
   refine⟨rfl,?_⟩;rintro⟨a',G,hG,ha,hb,ho⟩;simp only[Loc.cell.injEq]at ha;subst ha;have hc:Cut u G:=hG.elim (fun e=>(C.K2 G e).1) (C.old G);obtain⟨c,T,f,hc,hs⟩:=hc;obtain⟨c',T',f',L6,_,hv'⟩:=H4 (hl p hp).1;rw[hb,hc]at L6;cases L6;have:=(Array.getElem?_eq_some_iff.1 hv').1;omega
end
end
section
attribute [local irreducible] KK
theorem count_le {live:Nat->Bool} {i:Nat}:∀{n:Nat},i<n->live i=true->0<count live n:=by
 intro n hn hl;have:=Go.ConcN.le_sumTo (f:=fun i=>if live i then 1 else 0) hn;simp only[hl,if_true]at this;exact this
theorem w7.of_block {G:M4} {st sm:Int} {w w':World} (h:w7 G st sm w) (e:w'.heap[G.blk]? =w.heap[G.blk]?):w7 G st sm w':=by
 obtain⟨c,T,hb,hc⟩:=h;exact⟨c,T,e.trans hb,hc⟩
section
variable {P:Program}{Post:Value->World->Prop}{X:Gh}{u:World}{g:Goroutine}
theorem Fin.Df0 {f':Nat×Nat} {b:Nat} {c:Array Value} {T:TypeId} (ex0:X.cap=0) (hl:J9 X b) (hw:¬X.low b) (K9:X.N4 b= .all) (hb:u.heap[b]? =some (.cells (c ++ #[.int .u64 0,.int .u32 0]) T (0,0))) (_h0:0 <=c.size)
  (hF:Fin P Post {X.lower b with K2:=some ⟨b,c.size⟩,old:=X.K2.toList++X.old} 0 g (G2 u b (.cells c T f'))):Fin P Post X 0 g u:=by
 refine Fin.Ju0 (fun live Tr gs w q C=>?_) hF;have C':=C.swap (x':=.cells c T f') hl hb rfl fun p y hp=>by
  generalize hq:(Obj.cells (c ++ #[.int .u64 0,.int .u32 0]) T (0,0))=z at hp;cases hp with
  |same=>subst hq;exact⟨_,.cut c _ T (0,0) f' fun _ h=>by unfold inR at h;omega⟩
  |cut c' rest T' f f2 hf=>
   obtain⟨rfl,rfl,rfl⟩:=Obj.cells.inj hq;exact⟨.cut (#[.int .u64 0,.int .u32 0]++rest) f,by rw[Array.append_assoc];exact .cut c _ _ f f' fun i hi=>by have:=hf i hi;unfold inR at this;omega⟩
  |gone T' f o=>
   obtain⟨h1,_,_⟩:=Obj.cells.inj hq;have:=congrArg Array.size h1;simp at this
 obtain⟨ρ,hs,hlw⟩:=C.sim;obtain⟨y,hy,hl0⟩:=hs.obj b _ hb;rw[hlw b hw,K9]at hl0;have hyb:y= .cells (c ++ #[.int .u64 0,.int .u32 0]) T (0,0):=by cases hl0;rfl
 subst hyb;have hz:count live gs.size+X.pend=0:=by have:=C.few;omega
 have kr0:∀i,live i=false:=fun i=>by
  rcases Nat.lt_or_ge i gs.size with hi|hi
  ·cases e:live i with
   |false=>rfl
   |true=>have:=count_le hi e;omega
  ·exact(C.above i hi).2.2.1
 refine⟨C'.sim,fun i y hi hy=>?_,C'.free,C'.size,C'.num,C'.stays,C'.chans,C'.O3,C'.inj,C'.X3,fun G e=>?_,⟨C'.K7.1,fun G hG=>?_⟩,fun G e=>?_,fun G e=>?_,C'.above,C'.few,fun i e=>absurd e (by rw[kr0 i];simp),C'.ar0,C'.dfn,?_⟩
 ·have:=C'.idle i y hi hy;unfold Idle at this⊢;simp only[kr0,Bool.false_eq_true,if_false]at this⊢;exact this
 ·cases e;exact .inr rfl
 ·rcases hG with hG|hG
  ·cases hG;exact⟨hl.J7,hl.X3⟩
  ·have hG':G∈X.K2.toList++X.old:=hG;exact C.K7.2 G ((List.mem_append.1 hG').imp (fun z=>by simpa using z) id)
 ·cases e;refine⟨⟨c,T,f',M6 u hb,rfl⟩,c,T,?_,rfl⟩;rw[hy];have:(((count live gs.size+X.pend)*KK:Nat):Int)=0:=by rw[hz,Nat.zero_mul];rfl
  show _=some (Obj.cells (c ++ #[.int .u64 (((count live gs.size+X.pend)*KK:Nat):Int),.int .u32 0]) T (0,0));rw[this]
 ·have e':G∈X.K2.toList++X.old:=e;rcases List.mem_append.1 e' with e'|e'
  ·exact(C'.K2 G (show X.K2=some G by simpa using e')).1
  ·exact C'.old G e'
 ·refine PastH.Dd0 C'.past (fun l w5=>?_) (fun i l hi hS=>?_) (fun l w5=>by obtain⟨a,G,_,rfl,_⟩:=w5;rfl) (fun i hi=>hi.elim id fun z=>by rw[kr0 i]at z;cases z)
  ·obtain⟨a,G,hG,ha,L7,ho⟩:=w5;refine⟨a,G,.inr ?_,ha,L7,ho⟩;show G∈X.K2.toList++X.old;rcases hG with hG|hG
   ·exact List.mem_append_left _ (by have hG:X.K2=some G:=hG;simpa using hG)
   ·exact List.mem_append_right _ hG
  ·rintro⟨a,G,hG,ha,L7,ho⟩;obtain⟨p,hp,rfl⟩:=hS;simp only[Loc.cell.injEq]at ha;subst ha;have hp0:p∈X.stay i:=hp;rcases hG with hG|hG
   ·cases hG;exact hl.stay i p hp0 L7
   ·have hG':G∈X.K2.toList++X.old:=hG;have hc:Cut u G:=(List.mem_append.1 hG').elim (fun z=>(C.K2 G (by simpa using z)).1) (C.old G);obtain⟨c1,T1,f1,hc,hs1⟩:=hc;obtain⟨c',T',f',L6,_,hv'⟩:=H4 (C.stays i p hp0).1;rw[L7,hc]at L6;cases L6;have:=(Array.getElem?_eq_some_iff.1 hv').1;omega
end
def Gh.pass (X:Gh) (h j:Nat) (sh:Option H5):Gh:={X with C1:=upd (upd X.C1 j none) h sh}
section
variable {P:Program}{X:Gh}{h:Nat}{u:World}{live:Nat->Bool}{T:Trace}{gs:Array Goroutine}{w:World}{q:Nat->Nat}
theorem Ring.pass (C:Ring P X h u live T gs w q) {j k:Nat} {s:H5} (hj:X.C1 j=some s) (hjh:j≠h) (fn0:X.dn=0) (hk:w.heap[s.ch]? =some (.chan 0 #[] false k k false)) {J4:Array Goroutine} {T':Trace} {H':Goroutine} (D2:J4.size=gs.size)
  (Pj0:∀x,x≠h->x≠j->J4[x]? =gs[x]?) (hH:J4[h]? =some H') (Nm0:∀x,Deaf T' x=Deaf T x) {sh:Option H5} (hsh:∀s',sh=some s'->X.J7 s'.ch/\∀i s2,i≠j->X.C1 i=some s2->s2.ch≠s'.ch) {nh:Nat} (Pk0:Idle P (X.pass h j sh) live T' h nh H')
  (zr0:PastH X.Sh (Us live) X.St (X.Mem h) (fun g=>X.Lo h g/\g≠j) j T'):Ring P (X.pass h j sh) j u live T' J4 (w.setChan s.ch 0 #[] false (k+1) (k+1) false) (upd q h nh):=by
 obtain⟨ρ,hs,hlw⟩:=C.sim;obtain⟨A8,Dg0,_⟩:=C.chans s.ch (C.O3 j s hj);have n3:∀b,b≠s.ch->(w.setChan s.ch 0 #[] false (k+1) (k+1) false).heap[b]? =w.heap[b]?:=fun b hb=>heap_setChan_ne w _ _ _ _ _ _ (Ne.symm hb);have r2:(w.setChan s.ch 0 #[] false (k+1) (k+1) false).heap[s.ch]? =some (.chan 0 #[] false (k+1) (k+1) false):=heap_setChan_self w hk _ _ _ _ _ _;have o6:∀i,i≠h->i≠j->(X.pass h j sh).C1 i=X.C1 i:=fun i h1 h2=>by
  show upd (upd X.C1 j none) h sh i=_;rw[upd_ne _ _ h1,upd_ne _ _ h2]
 have Pl0:(X.pass h j sh).C1 h=sh:=upd_same _ _ _;have Dh0:(X.pass h j sh).C1 j=none:=by
  show upd (upd X.C1 j none) h sh j=_;rw[upd_ne _ _ hjh,upd_same]
 have nb0:j<gs.size:=by
  rcases Nat.lt_or_ge j gs.size with z|z
  ·exact z
  ·have:=(C.above j z).2.1;rw[hj]at this;cases this
 have hgb:∀G,X.K2=some G->G.blk≠s.ch:=fun G hG e=>(C.K7.2 G (.inl hG)).1 (e▸C.O3 j s hj);have hold:∀i s2,(X.pass h j sh).C1 i=some s2->(i≠h/\i≠j/\X.C1 i=some s2)\/(i=h/\sh=some s2):=fun i s2 e=>by
  by_cases e1:i=h
  ·subst e1;rw[Pl0]at e;exact .inr ⟨rfl,e⟩
  ·by_cases e2:i=j
   ·subst e2;rw[Dh0]at e;cases e
   ·rw[o6 i e1 e2]at e;exact .inl ⟨e1,e2,e⟩
 refine⟨⟨fun b=>if b=s.ch then .gone (.chan 0 #[] false (k+1) (k+1) false) else ρ b,⟨hs.os,hs.output,rfl,rfl,by have:=hs.size;simpa [World.setChan,P2]using this,fun b x hx=>?_,fun b hb=>?_,hs.A6⟩,fun b hb=>?_⟩,
  fun x y hx hy=>?_,Dh0,by rw[D2];exact nb0,by rw[D2];exact C.num,C.stays,fun c hc=>⟨(C.chans c hc).1,(C.chans c hc).2.1,?_⟩,fun i s2 e=>?_,fun i i' s1 s2 e1 e2 hc=>?_,fun b o e=>?_,C.aa0,C.K7,fun G e=>⟨(C.K2 G e).1,?_⟩,C.old,fun i hi=>?_,by rw[D2];exact C.few,C.cu0,fun i hi hor=>?_,(zr0.hears j (.inr (by rw[hj];simp))).trans fn0.symm,?_⟩
 ·by_cases e:b=s.ch
  ·subst e;obtain⟨T0,f0,hg⟩:=A8;have V3:u.heap[s.ch]? =some x:=hx;rw[hg]at V3;obtain rfl:=Option.some.inj V3;exact⟨_,r2,by rw[if_pos rfl];exact .gone _ _ _⟩
  ·obtain⟨y,h1,h2⟩:=hs.obj b x hx;exact⟨y,(n3 b e).trans h1,by rw[if_neg e];exact h2⟩
 ·obtain⟨T0,f0,hg⟩:=A8;have h1:s.ch<u.heap.size:=(Array.getElem?_eq_some_iff.1 hg).1;have h2:u.heap.size <=b:=hb;rw[if_neg (by omega)];exact hs.new b hb
 ·have:b≠s.ch:=fun e=>hb (e▸C.K7.1 s.ch (C.O3 j s hj));show(if b=s.ch then _ else ρ b)=_;rw[if_neg this];exact hlw b hb
 ·by_cases e:x=h
  ·subst e;rw[hH]at hy;obtain rfl:=Option.some.inj hy;rw[upd_same];exact Pk0
  ·rw[Pj0 x e hx]at hy;have X3:=C.idle x y e hy;unfold Idle at X3⊢;rw[o6 x e hx,Nm0,upd_ne q nh e];exact X3
 ·by_cases e:c=s.ch
  ·subst e;exact⟨k+1,r2⟩
  ·obtain⟨k',hk'⟩:=(C.chans c hc).2.2;exact⟨k',(n3 c e).trans hk'⟩
 ·rcases hold i s2 e with⟨_,_,e⟩|⟨_,e⟩
  ·exact C.O3 i s2 e
  ·exact(hsh s2 e).1
 ·rcases hold i s1 e1 with⟨_,a2,f1⟩|⟨f0,f1⟩ <;> rcases hold i' s2 e2 with⟨_,b2,f2⟩|⟨f3,f2⟩
  ·exact C.inj i i' s1 s2 f1 f2 hc
  ·exact absurd hc ((hsh s2 f2).2 i s1 a2 f1)
  ·exact absurd hc.symm ((hsh s1 f1).2 i' s2 b2 f2)
  ·rw[f0,f3]
 ·obtain⟨h1,h2,p,y,h3,h4⟩:=C.X3 b o e;have:b≠s.ch:=fun e2=>by subst e2;have e':X.X3 s.ch=some o:=e;rw[Dg0]at e';cases e'
  exact⟨h1,h2,p,y,(n3 b this).trans h3,h4⟩
 ·rw[D2];exact(C.K2 G e).2.of_block (n3 _ (hgb G e))
 ·rw[D2]at hi;have:=C.above i hi;refine⟨by rw[Nm0];exact this.1,?_,this.2.2⟩;rw[o6 i (by have:=C.size;omega) (by omega)];exact this.2.1
 ·rcases hor with hor|rfl
  ·cases e:(X.pass h j sh).C1 i with
   |none=>exact absurd e hor
   |some s2=>
    rcases hold i s2 e with⟨_,_,e⟩|⟨rfl,_⟩
    ·exact C.ar0 i hi (.inl (by rw[e];simp))
    ·exact C.ar0 i hi (.inr rfl)
  ·exact C.ar0 i hi (.inl (by rw[hj];simp))
 ·refine(zr0.fewer (Mem':=(X.pass h j sh).Mem j) fun x hx=>?_).loosen fun x hx=>?_
  ·rcases hx with⟨rfl,_⟩|hx
   ·exact .inr (by rw[hj];simp)
   ·cases e:(X.pass h j sh).C1 x with
    |none=>exact absurd e hx
    |some s2=>
     rcases hold x s2 e with⟨_,_,e⟩|⟨rfl,_⟩
     ·exact .inr (by rw[e];simp)
     ·exact .inl ⟨rfl,fn0⟩
  ·exact⟨hx.2,by rw[o6 x hx.1.1 hx.2];exact hx.1.2⟩
end
section
variable {P:Program}{Post:Value->World->Prop}{X:Gh}{h:Nat}{u:World}
def ta0 (P:Program) (X:Gh) (h:Nat) (sh:Option H5) (n:Nat) (g:Goroutine):Prop:=match sh with
 |some s'=>Way P (h==0) (X.stay h) s' n g
 |none=>0<h/\∃G,X.K2=some G/\Lt P G n 0 g
theorem Fin.give {g a₂:Goroutine} {s:H5} {j nh:Nat} {v z':Value} (Y3:g.status= .running) (hj:X.C1 j=some s) (hjh:j≠h) (fn0:X.dn=0) (hsend:∀w,stepG P (h==0) g w= .comm a₂ #[scase s.ch v z'] true .send w #[])
  (sh:Option H5) (hsh:∀s',sh=some s'->X.J7 s'.ch/\∀i s2,i≠j->X.C1 i=some s2->s2.ch≠s'.ch) (Pm0:ta0 P X h sh nh (Go.Conc.served a₂ undef)) (hF:Fin P Post (X.pass h j sh) j (Go.Conc.served s.me (recvd false v true)) u):Fin P Post X h g u:=by
 have Pk0:∀{live:Nat->Bool} {T T':Trace} {gs:Array Goroutine} {w:World} {q:Nat->Nat},Ring P X h u live T gs w q->Deaf T' h=0->Idle P (X.pass h j sh) live T' h nh (Go.Conc.served a₂ undef):=by
  intro live T T' gs w q C hd;unfold Idle;have:(X.pass h j sh).C1 h=sh:=upd_same _ _ _;rw[this];unfold ta0 at Pm0;cases sh with
  |some s'=>exact Pm0
  |none=>
   obtain⟨h0,G,hG,hL⟩:=Pm0;refine⟨h0,?_⟩;rw[C.ar0 h (by omega) (.inr rfl)];simp only[if_true];exact⟨G,hG,by rw[hd];exact hL⟩
 have fin:∀live T gs J4 w q k (g₁:Nat->Nat) (ops:Array MemOp) (fh fj:FuncId) (ph pj:String) sl,Ring P X h u live (T++ops) gs w q->w.heap[s.ch]? =some (.chan 0 #[] false k k false)->J4.size=gs.size->(∀x,x≠h->x≠j->J4[x]? =gs[x]?) ->
   J4[h]? =some (Go.Conc.served a₂ undef)->J4[j]? =some (Go.Conc.served s.me (recvd false v true))->Ends P Post (crowd J4 (w.setChan s.ch 0 #[] false (k+1) (k+1) false) sl) (T++(ops++met h j fh ph fj pj s.ch k 0)):=by
  intro live T gs J4 w q k g₁ ops fh fj ph pj sl C hk D2 Pj0 hH hJ;have hMh:X.Mem h h:=.inl ⟨rfl,fn0⟩;have hMj:X.Mem h j:=.inr (by rw[hj];simp);have p2:=PastH.give C.past hMh hMj fh ph fj pj s.ch k 0;have hD:∀x,Deaf ((T++ops)++met h j fh ph fj pj s.ch k 0) x=Deaf (T++ops) x:=fun x=>Deaf_quiet (met_quiet _ _ _ _ _ _ _ _ _ x);have:=Ring.pass C hj hjh fn0 hk D2 Pj0 hH hD hsh (Pk0 C (by rw[hD];exact C.past.hears h hMh)) p2;rw[<- Array.append_assoc];exact hF _ _ _ _ _ _ hJ this
 have await:∀(μ:Nat) live T gs w sl q,sumTo gs.size q=μ->gs[h]? =some (parked a₂ #[scase s.ch v z'] .send)->0<q j->Ring P X h u live T gs w q->Ends P Post (crowd gs w sl) T:=by
  intro μ
  induction μ using Nat.strongRecOn with
  |_ μ ih=>
   intro live T gs w sl q hμ hg hqj C;have nb0:j<gs.size:=by
    rcases Nat.lt_or_ge j gs.size with z|z
    ·exact z
    ·have:=(C.above j z).2.1;rw[hj]at this;cases this
   have uy0:Way P (j==0) (X.stay j) s (q j) gs[j]:=by
    have:=C.idle j gs[j] hjh (Array.getElem?_eq_getElem nb0);unfold Idle at this;rw[hj]at this;exact this
   have Uk0:gs[j].status= .running:=uy0.status.elim (·.1) fun z=>by omega
   obtain⟨i,gi,d,Y4,hi,hgi,E2⟩:=crowd_pick (P:=P) (w:=w) (sl:=sl) (C.awake hg (.inr rfl)) ⟨j,gs[j],Array.getElem?_eq_getElem nb0,Uk0⟩;have Cd:=C.at d;obtain⟨k,hk⟩:=(Cd.chans s.ch (Cd.O3 j s hj)).2.2;have hih:i≠h:=by rintro rfl;rw[hg]at hi;obtain rfl:=Option.some.inj hi;cases hgi
   by_cases ej:i=j/\gy0 P (i==0) s gi
   ·obtain⟨rfl,hat⟩:=ej;have hp:partners (gs.setIfInBounds i ph) s.ch true=[(h,0)]:=by
     rw[partners_one (stand_get (Ne.symm hih) hg) fun x y hxh hy=>by
      rcases getElem?_stand gs i x y hy with⟨_,rfl⟩|⟨_,hy'⟩
      ·exact offersAt_ph _ _
      ·exact(C.idle x y hxh hy').noSend _]
     simp[offersAt_parked_send]
    have hrt:=crowd_recv_meets (sl:=Y4) hi (hat.2.2.2.2 (w.at d)) hk (Ne.symm hih) hg hp;refine Ends.step (E2.trans hrt) ?_;rw[show(MemOp.ofEvents i gi.frame.fn gi.frame.place #[]:Array MemOp)=#[] from rfl];refine fin live T gs _ (w.at d) q k (fun _=>0) #[] _ _ _ _ Y4 (by simpa using Cd) hk (by simp) (fun x hx hxj=>by rw[Array.getElem?_setIfInBounds_ne (fun z=>hxj z.symm),Array.getElem?_setIfInBounds_ne (fun z=>hx z.symm)]) ?_ ?_
    ·rw[Array.getElem?_setIfInBounds_ne hih,Array.getElem?_setIfInBounds_self_of_lt C.size,finishComm_send]
    ·rw[Array.getElem?_setIfInBounds_self_of_lt (by simpa using nb0),finishComm_recv]
   ·obtain⟨J4,ops,q',w',ag0,hrt,D2,hgh,hqo,hq0,C',C2,_⟩:=Cd.by_step (sl:=Y4) hi hih hgi hg (fun w' hS=>again_send_open (by rw[hS.2.2 s.ch (Cd.O3 j s hj)];exact hk))
     (fun s' hs' hat=>by
      rw[offersAt_parked_send,if_neg];intro ec;have hij:=C.inj i j s' s hs' hj ec.symm;subst hij;rw[hj]at hs';obtain rfl:=Option.some.inj hs';exact ej ⟨rfl,hat⟩)
    refine Ends.step (E2.trans hrt) (ih _ (by rw[D2,<- hμ];exact C2) ag0 _ J4 w' Y4 q' rfl hgh ?_ C');by_cases hij:j=i
    ·subst hij;rcases Nat.eq_zero_or_pos (q' j)with h0|h0
     ·exact absurd ⟨rfl,hq0 s hj h0⟩ ej
     ·exact h0
    ·rw[hqo j hij];exact hqj
 refine Fin.o9 Y3 fun live T gs w sl d Y4 q hg E2 C=>?_;have nb0:j<gs.size:=by
  rcases Nat.lt_or_ge j gs.size with z|z
  ·exact z
  ·have:=(C.above j z).2.1;rw[hj]at this;cases this
 have uy0:Way P (j==0) (X.stay j) s (q j) gs[j]:=by
  have:=C.idle j gs[j] hjh (Array.getElem?_eq_getElem nb0);unfold Idle at this;rw[hj]at this;exact this
 obtain⟨k,hk⟩:=(C.chans s.ch (C.O3 j s hj)).2.2;have Jw0:∀(x:Nat) (y:Goroutine),x≠j->(gs.setIfInBounds h ph)[x]? =some y->offersAt y s.ch false=[]:=by
  intro x y hxj hy;rcases getElem?_stand gs h x y hy with⟨_,rfl⟩|⟨hx,hy'⟩
  ·exact offersAt_ph _ _
  ·exact(C.idle x y hx hy').Pi0 fun s' hs' L6=>hxj (C.inj x j s' s hs' hj L6)
 rcases uy0.status with⟨hjr,hqj⟩|⟨_,hq0⟩
 ·have hp:partners (gs.setIfInBounds h ph) s.ch false=[]:=partners_nil fun x y hy=>by
   by_cases hxj:x=j
   ·subst hxj;rw[stand_get hjh (Array.getElem?_eq_getElem nb0)]at hy;obtain rfl:=Option.some.inj hy;exact offersAt_of_not_blocked (by rw[hjr];simp) _ _
   ·exact Jw0 x y hxj hy
  have hw:∀cc∈#[scase s.ch v z'],NoWays (w.at d) (gs.setIfInBounds h ph) cc:=by
   intro cc hcc;simp only[List.mem_toArray,List.mem_cons,List.not_mem_nil,or_false]at hcc;subst hcc;exact ways_send_none hk (Nat.le_refl _) hp
  have hrt:=crowd_waits (sl:=Y4) hg (hsend (w.at d)) hw;refine Ends.step (E2.trans hrt) ?_;rw[show(MemOp.ofEvents h g.frame.fn g.frame.place #[]:Array MemOp)=#[] from rfl,Array.append_empty];refine await _ live T _ (w.at d) Y4 q rfl (Array.getElem?_setIfInBounds_self_of_lt C.size) hqj ?_;exact⟨C.sim,fun x y hx hy=>C.idle x y hx (by rwa [Array.getElem?_setIfInBounds_ne (fun e=>hx e.symm)]at hy),C.free,by simpa using C.size,by simpa using C.num,C.stays,C.chans,C.O3,C.inj,C.X3,C.aa0,C.K7,by simpa using C.K2,C.old,fun x hx=>C.above x (by simpa using hx),by simpa using C.few,C.cu0,C.ar0,C.dfn,C.past⟩
 ·have hpk:gs[j]=parked s.me #[rcase s.ch s.z] (.recv false):=by rw[hq0]at uy0;exact uy0.1
  have hgj:gs[j]? =some (parked s.me #[rcase s.ch s.z] (.recv false)):=by rw[<- hpk];exact Array.getElem?_eq_getElem nb0
  have hp:partners (gs.setIfInBounds h ph) s.ch false=[(j,0)]:=by
   rw[partners_one (stand_get hjh hgj) fun x y hxj hy=>Jw0 x y hxj hy,offersAt_parked_recv,if_pos rfl];rfl
  have hrt:=crowd_send_meets (sl:=Y4) hg (hsend (w.at d)) hk hjh hgj hp;refine Ends.step (E2.trans hrt) ?_;rw[show(MemOp.ofEvents h g.frame.fn g.frame.place #[]:Array MemOp)=#[] from rfl];refine fin live T gs _ (w.at d) q k (fun _=>0) #[] _ _ _ _ Y4 (by simpa using C) hk (by simp) (fun x hx hxj=>by rw[Array.getElem?_setIfInBounds_ne (fun z=>hx z.symm),Array.getElem?_setIfInBounds_ne (fun z=>hxj z.symm)]) ?_ ?_
  ·rw[Array.getElem?_setIfInBounds_self_of_lt (by simpa using C.size),finishComm_send]
  ·rw[Array.getElem?_setIfInBounds_ne (Ne.symm hjh),Array.getElem?_setIfInBounds_self_of_lt nb0,finishComm_recv]
end
end
section
attribute [local irreducible] KK
section
variable {P:Program}{Post:Value->World->Prop}{X:Gh}{u:World}
def Gh.hire (X:Gh) (s:H5):Gh:={X with C1:=upd X.C1 0 (some s),pend:=0,n:=X.n+1}
theorem Fin.spawn {g g' child:Goroutine} {s:H5} {nh:Nat} {G:M4} (Y3:g.status= .running) (fn0:X.dn=0) (iv0:X.pend=1) (hG:X.K2=some G) (hgo:∀w,stepG P true g w= .spawn g' child w #[])
  (Y5:X.J7 s.ch) (v8:∀i s2,X.C1 i=some s2->s2.ch≠s.ch) (sz0:Way P true (X.stay 0) s nh g') (hF:Fin P Post (X.hire s) X.n child u):Fin P Post X 0 g u:=by
 refine Fin.o9 Y3 fun live T gs w sl d Y4 q hg E2 C=>?_;have hrt:=runT_crowd_spawn (P:=P) (sl:=Y4) (i:=0) hg (hgo (w.at d));have Di0:(((MemOp.ofEvents 0 g.frame.fn g.frame.place #[]:Array MemOp).push {g:=0,fn:=g.frame.fn,pos:=g.frame.place,act:=.go gs.size}).push {g:=gs.size,fn:=child.frame.fn,pos:=g.frame.place,act:=.start})=
   #[{g:=0,fn:=g.frame.fn,pos:=g.frame.place,act:=.go gs.size},{g:=gs.size,fn:=child.frame.fn,pos:=g.frame.place,act:=.start}]:=rfl
 rw[Di0]at hrt;refine Ends.step (E2.trans hrt) ?_;have h0:=C.size;have tb0:=C.above gs.size (Nat.le_refl _);have hc0:gs.size≠0:=by omega
 have hD:∀x,Deaf (T ++ #[{g:=0,fn:=g.frame.fn,pos:=g.frame.place,act:=.go gs.size},{g:=gs.size,fn:=child.frame.fn,pos:=g.frame.place,act:=.start}]) x=Deaf T x:=fun x=>Deaf_quiet (fun op M5 d=>by
  simp only[List.mem_toArray,List.mem_cons,List.not_mem_nil,or_false]at M5;rcases M5 with rfl|rfl <;> rfl)
 have p:=PastH.born (c:=gs.size) C.past (.inl ⟨rfl,fn0⟩) tb0.1 (fun l ⟨p,hp,_⟩=>by rw[tb0.2.2.2]at hp;cases hp) (.inl rfl) g.frame.fn g.frame.place child.frame.fn;have o6:∀i,i≠0->(X.hire s).C1 i=X.C1 i:=fun i hi=>upd_ne X.C1 _ hi;have tc0:(X.hire s).C1 0=some s:=upd_same X.C1 0 (some s);have fi0:count (upd live gs.size true) (gs.size+1)=count live gs.size+1:=by
  show sumTo gs.size _+_=_;rw[show sumTo gs.size (fun i=>if upd live gs.size true i=true then 1 else 0)=count live gs.size from Bj0 true (Nat.le_refl _)];show _+(if upd live gs.size true gs.size=true then 1 else 0)=_;rw[upd_same];rfl
 have D2:((gs.setIfInBounds 0 g').push child).size=gs.size+1:=by simp
 refine hF (upd live gs.size true) _ _ _ Y4 (upd q 0 nh) (by rw[<- C.num,Array.getElem?_push,if_pos (by simp)]) ?_;rw[<- C.num];refine⟨C.sim,fun x y hx hy=>?_,by rw[o6 _ hc0];exact tb0.2.1,by rw[D2];omega,by rw[D2,C.num];rfl,C.stays,C.chans,fun i s2 e=>?_,fun i i' s1 s2 e1 e2 hc=>?_,C.X3,C.aa0,C.K7,fun G' e=>⟨(C.K2 G' e).1,?_⟩,C.old,fun x hx=>?_,?_,fun i hi=>?_,fun i hi hor=>?_,((hD _).trans tb0.1).trans fn0.symm,?_⟩
 ·have hxl:x<gs.size:=by
   have:=(Array.getElem?_eq_some_iff.1 hy).1;rw[D2]at this;omega
  rw[Array.getElem?_push,if_neg (by simp;omega)]at hy;unfold Idle;by_cases e:x=0
  ·subst e;rw[Array.getElem?_setIfInBounds_self_of_lt h0]at hy;obtain rfl:=Option.some.inj hy;rw[tc0,upd_same];exact sz0
  ·rw[Array.getElem?_setIfInBounds_ne (fun z=>e z.symm)]at hy;rw[o6 x e,hD,upd_ne q nh e,upd_ne live true (show x≠gs.size by omega)];have:=C.idle x y e hy;unfold Idle at this;exact this
 ·by_cases e0:i=0
  ·subst e0;rw[tc0]at e;obtain rfl:=Option.some.inj e;exact Y5
  ·rw[o6 i e0]at e;exact C.O3 i s2 e
 ·by_cases a:i=0 <;> by_cases b:i'=0
  ·rw[a,b]
  ·subst a;rw[tc0]at e1;rw[o6 i' b]at e2;obtain rfl:=Option.some.inj e1;exact absurd hc.symm (v8 i' s2 e2)
  ·subst b;rw[tc0]at e2;rw[o6 i a]at e1;obtain rfl:=Option.some.inj e2;exact absurd hc (v8 i s1 e1)
  ·rw[o6 i a]at e1;rw[o6 i' b]at e2;exact C.inj i i' s1 s2 e1 e2 hc
 ·have:=(C.K2 G' e).2;rw[iv0]at this;rw[D2,fi0];exact this
 ·rw[D2]at hx;have:=C.above x (by omega);exact⟨by rw[hD];exact this.1,by rw[o6 x (by omega)];exact this.2.1,by rw[upd_ne live true (by omega)];exact this.2.2.1,this.2.2.2⟩
 ·rw[D2,fi0];have:=C.few;rw[iv0]at this;exact this
 ·by_cases e:i=gs.size
  ·subst e;exact⟨hc0,by show X.K2≠none;rw[hG];simp⟩
  ·rw[upd_ne live true e]at hi;exact C.cu0 i hi
 ·by_cases e:i=gs.size
  ·subst e;exact upd_same _ _ _
  ·rw[upd_ne live true e];rw[o6 i hi]at hor;exact C.ar0 i hi (.inl (hor.resolve_right e))
 ·refine((p.leave (Us':=Us (upd live gs.size true)) fun x hx=>?_).fewer (Mem':=(X.hire s).Mem gs.size) fun x hx=>?_).loosen fun x hx=>?_
  ·rcases hx with hx|hx
   ·exact .inl (.inl hx)
   ·by_cases e:x=gs.size
    ·exact .inr e
    ·rw[upd_ne live true e]at hx;exact .inl (.inr hx)
  ·rcases hx with⟨e,_⟩|hx
   ·exact .inr e
   ·by_cases e:x=0
    ·exact .inl (.inl ⟨e,fn0⟩)
    ·rw[o6 x e]at hx;exact .inl (.inr hx)
  ·refine⟨fun e=>?_,?_⟩
   ·subst e;exact hx.2 tb0.2.1
   ·rw[o6 x hx.1];exact hx.2
end
end
section
attribute [local irreducible] KK
structure Base (X:Gh) (u:World) (use:Nat->Bool) (T:Trace) (n:Nat) (w:World):Prop where
 sim:∃ρ,N5 ρ (P2 u w.tape w.drawn) w/\∀b,¬X.low b->ρ b=X.N4 b
 free:X.C1 0=none
 size:0<n
 num:n=X.n
 stays:∀i p,p∈X.stay i->u.cell? p.1=some p.2/\u.frozen? p.1=true
 chans:∀c,X.J7 c->cc0 u c/\X.X3 c=none/\∃k,w.heap[c]? =some (.chan 0 #[] false k k false)
 O3:∀i s,X.C1 i=some s->X.J7 s.ch
 inj:∀i j s s',X.C1 i=some s->X.C1 j=some s'->s.ch=s'.ch->i=j
 X3:∀b o,X.X3 b=some o->cc0 u b/\S3 o=false/\∃p y,w.heap[b]? =some y/\cb0 p o y
 aa0:∀G,X.K2=some G->X.low G.blk
 K7:(∀c,X.J7 c->X.low c)/\X.Sep
 cut:∀G,X.K2=some G->Cut u G
 old:∀G∈X.old,Cut u G
 above:∀j,n <=j->Deaf T j=0/\X.C1 j=none/\use j=false/\X.stay j=[]
 cu0:∀i,use i=true->i≠0/\X.K2≠none
 ar0:∀i,X.C1 i≠none->i≠0->use i=true
 dfn:Deaf T 0=X.dn
 past:PastH X.Sh (Us use) X.St (X.Mem 0) (X.Lo 0) 0 T
section
variable {P:Program}{X:Gh}{u:World}{live use use':Nat->Bool}{T:Trace}{gs:Array Goroutine}{w w':World}{q:Nat->Nat}{n:Nat}
theorem Ring.base (C:Ring P X 0 u live T gs w q):Base X u live T gs.size w :=
 ⟨C.sim,C.free,C.size,C.num,C.stays,C.chans,C.O3,C.inj,C.X3,C.aa0,C.K7,fun G e=>(C.K2 G e).1,C.old,C.above,C.cu0,fun i h hi=>C.ar0 i hi (.inl h),C.dfn,C.past⟩
theorem Base.ring (B:Base X u live T gs.size w) (hi:∀i g,i≠0->gs[i]? =some g->Idle P X live T i (q i) g) (hg:∀G,X.K2=some G->w7 G (((count live gs.size+X.pend)*KK:Nat):Int) 0 w) (hf:count live gs.size+X.pend <=X.cap/\X.cap <=65536):Ring P X 0 u live T gs w q :=
 ⟨B.sim,hi,B.free,B.size,B.num,B.stays,B.chans,B.O3,B.inj,B.X3,B.aa0,B.K7,fun G e=>⟨B.cut G e,hg G e⟩,B.old,B.above,hf,B.cu0,fun i hi h=>h.elim (fun z=>B.ar0 i z hi) fun z=>absurd z hi,B.dfn,B.past⟩
theorem Base.Dj0 (B:Base X u use T n w) {i:Nat} {l:Loc} (hl:X.St i l):l.isMemory=true/\¬X.Sh l:=by
 obtain⟨p,hp,rfl⟩:=hl;refine⟨rfl,?_⟩;rintro⟨a',G,hG,ha,hb,ho⟩;simp only[Loc.cell.injEq]at ha;subst ha;have hc:Cut u G:=hG.elim (B.cut G) (B.old G);obtain⟨c,T1,f,hc,hs⟩:=hc;obtain⟨c',T',f',L6,_,hv'⟩:=H4 (B.stays i p hp).1;rw[hb,hc]at L6;cases L6;have:=(Array.getElem?_eq_some_iff.1 hv').1;omega
def GEv (G:M4) (x:Nat) (e:Event):Prop:=(∀b,(MemAct.ofEvent e).touch? =some b->(∃a,b.loc= .cell a/\a.block=G.blk/\G.off <=a.off)/\b.kind≠.plain/\(x≠0->b.kind= .atomic))/\∀a,e.loc≠.mark (.release a)
theorem db0 {G:M4} {x:Nat} {e:Event} (h:xi0 e=true):GEv G x e:=⟨fun b hb=>(by rw[e8 h]at hb;cases hb),fun a ha=>by unfold xi0 at h;rw[ha]at h;cases h⟩
theorem uz0 {G:M4} {x:Nat} {e:Event} (h:Event.mute e=true):GEv G x e:=⟨fun b hb=>(by rw[touch_mute h]at hb;cases hb),fun a ha=>by
 obtain⟨l,w,s⟩:=e;cases ha;cases h⟩
theorem Base.step (B:Base X u use T n w) {x:Nat} {fn:FuncId} {pos:String} {es:Array Event} {G:M4} (hG:X.K2=some G) (hx:x<n) (hsx:X.C1 x=none) (I9:∀e∈es,GEv G x e) (hu:(∀e∈es,(MemAct.ofEvent e).touch? =none)\/(x=0\/use x=true/\∀k,k<es.size->deafBehind (Deaf T x) (es.extract 0 k)≠0))
  (hus:∀i,use' i=true->use i=true) (hls:∀i,X.C1 i≠none->i≠0->use' i=true) {pend cap dn:Nat} (c9:dn=if x=0 then deafBehind X.dn es else X.dn) (gz0:∃ρ,N5 ρ (P2 u w'.tape w'.drawn) w'/\∀b,¬X.low b->ρ b=X.N4 b) (A8:∀b,b≠G.blk->w'.heap[b]? =w.heap[b]?) :
  Base {X with pend:=pend,cap:=cap,dn:=dn} u use' (T++MemOp.ofEvents x fn pos es) n w':=by
 have hgn:∀b,(X.J7 b\/X.X3 b≠none)->w'.heap[b]? =w.heap[b]?:=fun b hb=>A8 b (fun e=>by
  subst e;have:=B.K7.2 G (.inl hG);exact hb.elim this.1 fun z=>z this.2)
 have ej0:∀op∈MemOp.ofEvents x fn pos es,op.g=x:=V1;have hd0:Deaf (T++MemOp.ofEvents x fn pos es) 0=dn:=by
  by_cases e:x=0
  ·subst e;rw[Deaf_own,B.dfn,c9,if_pos rfl]
  ·rw[Deaf_other T e _ ej0,B.dfn,c9,if_neg e]
 refine⟨gz0,B.free,B.size,B.num,B.stays,fun c hc=>⟨(B.chans c hc).1,(B.chans c hc).2.1,?_⟩,B.O3,B.inj,fun b o e=>?_,B.aa0,B.K7,B.cut,B.old,fun j hj=>?_,fun i hi=>B.cu0 i (hus i hi),hls,hd0,?_⟩
 ·obtain⟨k,hk⟩:=(B.chans c hc).2.2;exact⟨k,(hgn c (.inl hc)).trans hk⟩
 ·obtain⟨h1,h2,p,y,h3,h4⟩:=B.X3 b o e;exact⟨h1,h2,p,y,(hgn b (.inr (by have e':X.X3 b=some o:=e;rw[e'];simp))).trans h3,h4⟩
 ·have:=B.above j hj;refine⟨by rw[Deaf_other T (g':=x) (by omega) _ ej0];exact this.1,this.2.1,?_,this.2.2.2⟩;cases e:use' j with
  |false=>rfl
  |true=>have:=hus j e;rw[this]at *;simp_all
 ·have H0:Past X.Sh (Us use) X.St (fun g=>X.C1 g≠none) (X.Lo 0) (Knows T 0) T:=B.past.fewer fun g hg=>.inr hg;have hh:∀g',X.C1 g'≠none->Deaf (T++MemOp.ofEvents x fn pos es) g'=0:=fun g' K6=>by
   rw[Deaf_other T (show x≠g' from fun e=>K6 (by rw[<- e];exact hsx)) _ ej0];exact H0.hears g' K6
  have p1:Past X.Sh (Us use) X.St (fun g=>X.C1 g≠none) (X.Lo 0) (Knows (T++MemOp.ofEvents x fn pos es) 0) (T++MemOp.ofEvents x fn pos es):=by
   rcases hu with hu|hu
   ·exact H0.appMute (g:=x) (fun i=>Knows.app _) (fun op M5=>by obtain⟨e,he,rfl⟩:=Go.Conc.mem_ofEvents M5;exact hu e he) hh
   ·refine H0.Nl0 (g:=x) (hu.elim (fun e=>.inl e) fun e=>.inr e.1) (fun g l hl=>(B.Dj0 hl).2) (fun i=>Knows.app _) ej0 (fun op M5 b hb=>?_) (fun n3 i hi1 hi2=>?_) hh
    ·obtain⟨e,he,rfl⟩:=Go.Conc.mem_ofEvents M5;obtain⟨⟨a,h1,h2,h3⟩,h4⟩:=(I9 e he).1 b hb;exact⟨⟨a,G,.inl hG,h1,h2,h3⟩,h4⟩
    ·obtain⟨m,rfl⟩:∃m,i=T.size+m:=⟨i-T.size,by omega⟩
     have hm:m<es.size:=by
      have D2:(MemOp.ofEvents x fn pos es).size=es.size:=by rw[ofEvents_eq];simp
      omega
     rw[Go.Conc.deaf_inside T x fn pos es m (Nat.le_of_lt hm)];exact(hu.resolve_left n3).2 m hm
  refine PastH.still (p1.leave (Us':=Us use') fun g hg=>hg.imp id (hus g)) (fun z=>z.1 rfl) (fun _ _ _=>Iff.rfl) (fun l hl=>B.Dj0 hl) (fun g hg=>?_) (fun hg=>?_)
  ·rcases hg with⟨e,_⟩|hg
   ·exact .inr e
   ·exact .inl hg
  ·rcases hg with⟨_,e⟩|hg
   ·exact hd0.trans e
   ·exact absurd B.free hg
end
end
section
attribute [local irreducible] KK
def pv0 (P:Program) (G:M4) (g g':Goroutine) (es:Array Event):Prop :=
 g.status= .running/\g'.status= .running/\(∀e∈es,GEv G 0 e)/\∀w st sm,w7 G st sm w->stepG P true g w= .go g' w es
def Jx0 (P:Program) (G:M4) (K:Goroutine->Prop):Nat->Nat->Goroutine->Prop
 |0,d,g=>d=0/\K g
 |n+1,d,g=>(d=0/\K g)\/∃g' es,pv0 P G g g' es/\Jx0 P G K n (deafBehind d es) g'
def Dk0 (P:Program) (G:M4) (K:Goroutine->Prop):Nat->Nat->Goroutine->Prop
 |0,_,_=>False
 |n+1,d,g=>(∃g' es,pv0 P G g g' es/\Dk0 P G K n (deafBehind d es) g')\/(g.status= .running/\∀v:Nat,v<2147483647->∃g',g'.status= .running /\
   (∀w,w7 G ((v*KK:Nat):Int) 0 w->stepG P true g w= .go g' (w.setCell (stA G) (.int .u64 (((v+1)*KK:Nat):Int))) #[Y8 (stA G),wrA (stA G)])/\Jx0 P G K n d g')
section
variable {P:Program}{Post:Value->World->Prop}{X:Gh}{u:World}{live:Nat->Bool}{T:Trace}{gs:Array Goroutine}{w w':World}{q:Nat->Nat}
theorem Ring.main (C:Ring P X 0 u live T gs w q) {G:M4} (hG:X.K2=some G) {g g':Goroutine} {es:Array Event} (I9:∀e∈es,GEv G 0 e) {pend cap:Nat} (gz0:∃ρ,N5 ρ (P2 u w'.tape w'.drawn) w'/\∀b,¬X.low b->ρ b=X.N4 b) (A8:∀b,b≠G.blk->w'.heap[b]? =w.heap[b]?)
  (hat:w7 G (((count live gs.size+pend)*KK:Nat):Int) 0 w') (hf:count live gs.size+pend <=cap/\cap <=65536) :
  Ring P {X with pend:=pend,cap:=cap,dn:=deafBehind X.dn es} 0 u live (T++MemOp.ofEvents 0 g.frame.fn g.frame.place es) ((gs.map (woken P g g' w')).setIfInBounds 0 g') w' q/\((gs.map (woken P g g' w')).setIfInBounds 0 g')[0]? =some g':=by
 have D2:((gs.map (woken P g g' w')).setIfInBounds 0 g').size=gs.size:=by simp
 refine⟨?_,Array.getElem?_setIfInBounds_self_of_lt (by simpa using C.size)⟩;have B:=C.base.step (fn:=g.frame.fn) (pos:=g.frame.place) (use':=live) (pend:=pend) (cap:=cap) hG C.size C.free I9 (.inr (.inl rfl)) (fun _ h=>h) (fun i h hi=>C.ar0 i hi (.inl h)) (dn:=deafBehind X.dn es) (by rw[if_pos rfl]) gz0 A8;rw[<- D2]at B;refine B.ring (fun i y hi hy=>?_) (fun G' e=>?_) (by rw[D2];exact hf)
 ·rw[Array.getElem?_setIfInBounds_ne (fun e=>hi e.symm),Array.getElem?_map]at hy;obtain⟨y₀,hy₀,rfl⟩:=Option.map_eq_some_iff.1 hy;have X3:=C.idle i y₀ hi hy₀;rw[woken_of_again (X3.again (w:=w') fun s e=>?_)]
  ·exact X3.other (fun z=>hi z.symm) V1
  ·obtain⟨k,hk⟩:=(C.chans _ (C.O3 i s e)).2.2;exact⟨k,(A8 _ fun e2=>(C.K7.2 G (.inl hG)).1 (e2▸C.O3 i s e)).trans hk⟩
 ·have e':X.K2=some G':=e;rw[hG]at e';obtain rfl:=Option.some.inj e';rw[D2];exact hat
theorem Fin.Ul0 {G:M4} {g g':Goroutine} {es:Array Event} (hG:X.K2=some G) (hh:pv0 P G g g' es) (hF:Fin P Post {X with dn:=deafBehind X.dn es} 0 g' u):Fin P Post X 0 g u:=by
 obtain⟨hr,_,I9,E2⟩:=hh;refine Fin.o9 hr fun live T gs w sl d Y4 q hg j3 C=>?_;have hat:=(C.K2 G hG).2;obtain⟨C',r2⟩:=C.main hG (g:=g) (g':=g') I9 (w':=w.at d) C.sim (fun _ _=>rfl) hat C.few;exact Ends.step (j3.trans (runT_crowd_go (sl:=Y4) (i:=0) hg (E2 _ _ _ hat))) (hF _ _ _ _ _ _ r2 C')
theorem Fin.Um0 {G:M4} (hG:X.K2=some G) {K:Goroutine->Prop} (hK:∀g,K g->Fin P Post {X with dn:=0} 0 g u):∀(n d:Nat) (g:Goroutine),Jx0 P G K n d g->Fin P Post {X with dn:=d} 0 g u
 |0,d,g,h=>by obtain⟨rfl,h⟩:=h;exact hK g h
 |n+1,d,g,h=>by
  rcases h with⟨rfl,h⟩|⟨g',es,hh,h⟩
  ·exact hK g h
  ·exact Fin.Ul0 (X:={X with dn:=d}) hG hh (Fin.Um0 hG hK n _ g' h)
theorem L9 {G:M4} {x:Nat}:∀e∈#[Y8 (stA G),wrA (stA G)],GEv G x e:=by
 intro e he;simp only[List.mem_toArray,List.mem_cons,List.not_mem_nil,or_false]at he;refine⟨fun b hb=>?_,by rcases he with rfl|rfl <;> simp[Y8,wrA]⟩;rcases he with rfl|rfl <;> simp[Y8,wrA,MemAct.ofEvent,MemAct.touch?]at hb <;> subst hb <;> exact⟨⟨stA G,rfl,rfl,Nat.le_refl _⟩,by simp,fun _=>rfl⟩
theorem he0 {G:M4} (d:Nat):deafBehind d #[Y8 (stA G),wrA (stA G)]=d:=rfl
theorem Fin.Dl0 {G:M4} (hG:X.K2=some G) (hp:X.pend=0) (hc:X.cap<65536) {K:Goroutine->Prop} (hK:∀g,K g->Fin P Post {X with pend:=1,cap:=X.cap+1,dn:=0} 0 g u):∀(n d:Nat) (g:Goroutine),Dk0 P G K n d g->Fin P Post {X with dn:=d} 0 g u
 |0,d,g,h=>h.elim
 |n+1,d,g,h=>by
  unfold Dk0 at h;rcases h with⟨g',es,hh,h⟩|⟨hr,ux0⟩
  ·exact Fin.Ul0 (X:={X with dn:=d}) hG hh (Fin.Dl0 hG hp hc hK n _ g' h)
  ·refine Fin.o9 hr fun live T gs w sl dd Y4 q hg j3 C=>?_;have hat:=(C.K2 G hG).2;have mz0:=C.few;have hp':({X with dn:=d}:Gh).pend=0:=hp;rw[hp',Nat.add_zero]at hat mz0;have fh1:count live gs.size <=X.cap:=mz0.1;obtain⟨g',hr',E2,hB⟩:=ux0 (count live gs.size) (by omega);obtain⟨ρ,hs,hlw⟩:=C.sim;have na0:=(C.K2 G hG).1;obtain⟨ρ',h1,h2⟩:=N5.setSt hs na0 hat (((count live gs.size+1)*KK:Nat):Int);obtain⟨C',r2⟩:=C.main hG (g:=g) (g':=g') (pend:=1) (cap:=X.cap+1) L9 (w':=(w.at dd).setCell (stA G) (.int .u64 (((count live gs.size+1)*KK:Nat):Int)))
    ⟨ρ',h1,fun b hb=>(h2 b fun e=>hb (e▸C.aa0 G hG)).trans (hlw b hb)⟩ (fun b hb=>A1 _ _ hb) (hat.setSt _) ⟨by omega,by omega⟩
   refine Ends.step (j3.trans (runT_crowd_go (sl:=Y4) (i:=0) hg (E2 _ hat))) ?_;rw[he0]at C';exact Fin.Um0 (X:={X with pend:=1,cap:=X.cap+1}) hG hK n d g' hB _ _ _ _ _ _ r2 C'
theorem Fin.ends {g:Goroutine} {v:Value} (hr:g.status= .running) (v8:∀i,X.C1 i=none) (ex0:X.cap=0) (E2:∀w,stepG P true g w= .ended (.done v) w #[])
  (Un0:∀ρ w,N5 ρ (P2 u w.tape w.drawn) w->(∀b,¬X.low b->ρ b=X.N4 b)->Post v w):Fin P Post X 0 g u:=by
 refine Fin.o9 hr fun live T gs w sl d Y4 q hg j3 C=>?_;have hz:count live gs.size+X.pend=0:=by have:=C.few;omega
 have kr0:∀i,live i=false:=fun i=>by
  rcases Nat.lt_or_ge i gs.size with hi|hi
  ·cases e:live i with
   |false=>rfl
   |true=>have:=count_le hi e;omega
  ·exact(C.above i hi).2.2.1
 have hq:∀i g,i≠0->gs[i]? =some g->QuitsD P (q i) (Deaf T i) g:=fun i g hi hg=>by
  have:=C.idle i g hi hg;unfold Idle at this;rw[v8 i]at this;simp only[kr0,Bool.false_eq_true,if_false]at this;exact this.2
 have hrt:=runT_many_ended (P:=P) (sl:=Y4) (i:=0) hg (E2 (w.at d));rw[show(MemOp.ofEvents 0 g.frame.fn g.frame.place #[]:Array MemOp)=#[] from rfl]at hrt;have kp0:=j3.trans hrt;obtain⟨ρ,hs,hlw⟩:=C.sim;refine⟨0,crowd gs w sl,_,_,T,by simp only[runNT,kp0];simp,rfl,by unfold step;rw[kp0],v,rfl,Un0 ρ (w.at d) hs hlw,C.past.clean,C.past.over (.inl rfl) (fun x hx=>hx.2 (v8 x)),⟨fun x hx=>?_,rfl⟩,fun j x hx hj=>?_⟩
 ·obtain⟨j,hj⟩:=List.mem_iff_getElem?.1 hx;rw[List.getElem?_drop]at hj;exact⟨_,(hq (1+j) x (by omega) (by simpa [crowd]using hj)).leaves⟩
 ·exact⟨q j,(hq j x hj hx).hears _⟩
end
end
section
attribute [local irreducible] KK
section
variable (P:Program)(G:M4)(K:Goroutine->Prop)(E:Nat->Nat->Goroutine->Prop)
def WE:Nat->Nat->Goroutine->Prop
 |0,d,g=>d=0/\K g
 |n+1,d,g=>(d=0/\K g)\/∃g' es,g.status= .running/\(∀e∈es,GEv G 0 e)/\(∀w,w7 G 0 0 w->stepG P true g w= .go g' w es)/\WE n (deafBehind d es) g'
def Dm0 (n d:Nat) (g:Goroutine):Prop :=
 g.status= .running/\g.offers=none/\(∀w st,w7 G st 0 w->stepG P true g w= .go {g with status:=.blocked} w #[])/\∃g',(∀w,w7 G 0 1 w->stepG P true g w= .go g' (w.setCell (smA G) (.int .u32 0)) (semEvents (smA G)))/\E n d g'
def WS:Nat->Nat->Goroutine->Prop
 |0,_,_=>False
 |n+1,d,g=>(∃g' es,pv0 P G g g' es/\WS n (deafBehind d es) g')\/(0<d/\Dm0 P G E n d g)
def WH:Nat->Option Nat->Nat->Nat->Goroutine->Prop
 |0,_,_,_,_=>False
 |n+1,o,V,d,g=>(∃g' es,pv0 P G g g' es/\WH n o V (deafBehind d es) g')\/(g.status= .running/\match o with
  |none=>∀v:Nat,v <=V->∃g',(∀w,w7 G ((v*KK:Nat):Int) 0 w->stepG P true g w= .go g' w #[Y8 (stA G)])/\(v=0->E n d g')/\(v≠0->WH n (some v) V d g')
  |some vs=>(∃g',(∀w,w7 G ((vs*KK:Nat):Int) 0 w->stepG P true g w= .go g' (w.setCell (stA G) (.int .u64 ((vs*KK+1:Nat):Int))) #[Y8 (stA G),wrA (stA G)])/\WS P G E n d g') /\
    ∀v:Nat,v<vs->∃g',(∀w,w7 G ((v*KK:Nat):Int) 0 w->stepG P true g w= .go g' w #[Y8 (stA G)])/\WH n none v d g')
end
inductive Md where
 |free
 |wait
 |last (i s:Nat)
 |done
def Bk0 (m:Md) (c:Nat):Int×Int:=match m with
 | .free=>(((c*KK:Nat):Int),0)
 | .wait=>(((c*KK+1:Nat):Int),0)
 | .last _ 0=>(0,0)
 | .last _ (_+1)=>(1,0)
 | .done=>(0,1)
def Y7 (lv:Nat->Bool) (m:Md) (i:Nat):Bool:=lv i ||(match m with| .last j _=>i==j|_=>false)
def C6 (P:Program) (G:M4) (lv:Nat->Bool) (m:Md) (T:Trace) (i n:Nat) (g:Goroutine):Prop :=
 if lv i then Lt P G n (Deaf T i) g else match m with
  | .last j s=>if i=j then Lst P G n s (Deaf T i) g else QuitsD P n (Deaf T i) g
  |_=>QuitsD P n (Deaf T i) g
def posOf (m:Md) (lv:Nat->Bool) (n:Nat):Prop:=match m with
 | .free=>True
 | .wait=>0<count lv n
 | .last i s=>count lv n=0/\i≠0/\i<n/\lv i=false/\s <=2
 | .done=>count lv n=0
structure Wr (P:Program) (X:Gh) (G:M4) (u:World) (lv:Nat->Bool) (m:Md) (d:Nat) (T:Trace) (gs:Array Goroutine) (w:World) (q:Nat->Nat):Prop where
 base:Base {X with pend:=0,cap:=0,dn:=d} u (Y7 lv m) T gs.size w
 K2:X.K2=some G
 empty:∀i,X.C1 i=none
 idle:∀i g,i≠0->gs[i]? =some g->C6 P G lv m T i (q i) g
 y6:w7 G (Bk0 m (count lv gs.size)).1 (Bk0 m (count lv gs.size)).2 w
 pos:posOf m lv gs.size
 few:count lv gs.size <=65536
theorem C6.status {P:Program} {G:M4} {lv:Nat->Bool} {m:Md} {T:Trace} {i n:Nat} {g:Goroutine} (h:C6 P G lv m T i n g):g.status= .running\/g.status= .finished:=by
 unfold C6 at h;split at h
 ·exact .inl h.running
 ·split at h
  ·split at h
   ·exact .inl h.running
   ·exact h.status
  ·exact h.status
theorem C6.other {P:Program} {G:M4} {lv lv':Nat->Bool} {m m':Md} {T:Trace} {i n x:Nat} {g:Goroutine} (h:C6 P G lv m T i n g) (hx:x≠i) {ops:Trace} (ej0:∀op∈ops,op.g=x) (hl:lv' i=lv i) (hm:m'=m\/((∀s,m≠.last i s)/\∀s,m'≠.last i s)):C6 P G lv' m' (T++ops) i n g:=by
 unfold C6 at h⊢;rw[Deaf_other T hx ops ej0,hl];rcases hm with rfl|⟨h1,h2⟩
 ·exact h
 ·cases hlv:lv i with
  |true=>rw[hlv]at h;exact h
  |false=>
   rw[hlv]at h;simp only[Bool.false_eq_true,if_false]at h⊢;have h3:QuitsD P n (Deaf T i) g:=by
    cases m with
    |last j s=>simp only at h;rw[if_neg (fun e=>h1 s (by rw[e]))]at h;exact h
    |_=>exact h
   cases m' with
   |last j s=>simp only;rw[if_neg (fun e=>h2 s (by rw[e]))];exact h3
   |_=>exact h3
section
variable {P:Program}{X:Gh}{G:M4}{u:World}{lv:Nat->Bool}{m:Md}{d:Nat}{T:Trace}{gs:Array Goroutine}{w:World}{q:Nat->Nat}
theorem Wr.move (C:Wr P X G u lv m d T gs w q) {i n:Nat} {g g':Goroutine} {es:Array Event} {w':World} {lv':Nat->Bool} {m':Md} {sl:Option (Nat×Nat)} (hi:gs[i]? =some g) (n3:i≠0) (E2:stepG P false g w= .go g' w' es) (I9:∀e∈es,GEv G i e)
  (hu:(∀e∈es,(MemAct.ofEvent e).touch? =none)\/(Y7 lv m i=true/\∀k,k<es.size->deafBehind (Deaf T i) (es.extract 0 k)≠0)) (hus:∀j,Y7 lv' m' j=true->Y7 lv m j=true) (gz0:∃ρ,N5 ρ (P2 u w'.tape w'.drawn) w'/\∀b,¬X.low b->ρ b=X.N4 b) (A8:∀b,b≠G.blk->w'.heap[b]? =w.heap[b]?)
  (hq:q i=n+1) (ko0:C6 P G lv' m' (T++MemOp.ofEvents i g.frame.fn g.frame.place es) i n g') (hl:∀j,j≠i->lv' j=lv j) (hm:m'=m\/((∀j,j≠i->∀s,m≠.last j s)/\∀j,j≠i->∀s,m'≠.last j s)) (ek0:w7 G (Bk0 m' (count lv' gs.size)).1 (Bk0 m' (count lv' gs.size)).2 w')
  (uw0:posOf m' lv' gs.size) (fi0:count lv' gs.size <=count lv gs.size) :
  ∃J4 ops q',runT P (crowd gs w sl) i=(.next (crowd J4 w' sl),ops)/\J4.size=gs.size/\(∀g0,gs[0]? =some g0->J4[0]? =some (woken P g g' w' g0))/\Wr P X G u lv' m' d (T++ops) J4 w' q'/\sumTo J4.size q'<sumTo gs.size q:=by
 have C2:i<gs.size:=(Array.getElem?_eq_some_iff.1 hi).1;have hi0:(i==0)=false:=by simpa using n3
 have D2:((gs.map (woken P g g' w')).setIfInBounds i g').size=gs.size:=by simp
 refine⟨_,_,upd q i n,runT_crowd_go (sl:=sl) hi (by rw[hi0];exact E2),D2,fun g0 h0=>?_,⟨?_,C.K2,C.empty,fun x y hx hy=>?_,by rw[D2];exact ek0,by rw[D2];exact uw0,by rw[D2];exact Nat.le_trans fi0 C.few⟩,?_⟩
 ·rw[Array.getElem?_setIfInBounds_ne n3,Array.getElem?_map,h0];rfl
 ·rw[D2];exact C.base.step (fn:=g.frame.fn) (pos:=g.frame.place) (G:=G) C.K2 C2 (C.empty i) I9 (hu.imp id .inr) hus (fun j hj=>absurd (C.empty j) hj) (by rw[if_neg n3]) gz0 A8
 ·by_cases e:x=i
  ·subst e;rw[Array.getElem?_setIfInBounds_self_of_lt (by simpa using C2)]at hy;obtain rfl:=Option.some.inj hy;rw[upd_same];exact ko0
  ·rw[Array.getElem?_setIfInBounds_ne (fun z=>e z.symm),Array.getElem?_map]at hy;obtain⟨y₀,hy₀,rfl⟩:=Option.map_eq_some_iff.1 hy;have h1:=C.idle x y₀ hx hy₀;rw[woken_of_again (again_of_running h1.status w'),upd_ne q n e];exact h1.other (fun z=>e z.symm) V1 (hl x e) (hm.imp id fun z=>⟨z.1 x e,z.2 x e⟩)
 ·rw[D2];have h2:sumTo gs.size (upd q i n)+(n+1)=sumTo gs.size q+n:=by
   have:=sumTo_upd q n id C2;simpa [hq]using this
  omega
end
end
section
attribute [local irreducible] KK
theorem kc0 {G:M4} {x:Nat}:∀e∈semEvents (smA G),GEv G x e:=by
 intro e he;simp only[semEvents,List.mem_toArray,List.mem_cons,List.not_mem_nil,or_false]at he;refine⟨fun b hb=>?_,by rcases he with rfl|rfl|rfl|rfl <;> simp⟩;rcases he with rfl|rfl|rfl|rfl <;> simp[MemAct.ofEvent,MemAct.touch?]at hb <;> subst hb <;> exact⟨⟨smA G,rfl,rfl,Nat.le_succ _⟩,by simp,fun _=>rfl⟩
theorem fo0 {G:M4} (d:Nat):deafBehind d (semEvents (smA G))=d:=by
 simp[deafBehind,semEvents]
theorem iw0 {G:M4} {d:Nat} (hd:0<d):∀k,k<(semEvents (smA G)).size->deafBehind d ((semEvents (smA G)).extract 0 k)≠0:=by
 intro k hk;have hk:k<4:=hk;rcases k with _|_|_|_|k <;> first|omega|(simp[semEvents,deafBehind];try omega)
theorem g8 {d:Nat} {es:Array Event} (h:∀e∈es,e.loc≠.mark .disable/\e.loc≠.mark .enable) (k:Nat):deafBehind d (es.extract 0 k)=d :=
 deafBehind_still (fun e he=>h e (by
  obtain⟨j,hj,rfl⟩:=Array.mem_iff_getElem.1 he;simp only[Array.getElem_extract];exact Array.getElem_mem _)) d
theorem hh0 {G:M4} {x:Nat}:∀e∈#[Y8 (stA G)],GEv G x e:=by
 intro e he;simp only[List.mem_toArray,List.mem_cons,List.not_mem_nil,or_false]at he;subst he;refine⟨fun b hb=>?_,by simp[Y8]⟩;simp[Y8,MemAct.ofEvent,MemAct.touch?]at hb;subst hb;exact⟨⟨stA G,rfl,rfl,Nat.le_refl _⟩,by simp,fun _=>rfl⟩
theorem Dn0 {G:M4} {x:Nat}:∀e∈#[wrA (stA G)],GEv G x e:=by
 intro e he;simp only[List.mem_toArray,List.mem_cons,List.not_mem_nil,or_false]at he;subst he;refine⟨fun b hb=>?_,by simp[wrA]⟩;simp[wrA,MemAct.ofEvent,MemAct.touch?]at hb;subst hb;exact⟨⟨stA G,rfl,rfl,Nat.le_refl _⟩,by simp,fun _=>rfl⟩
theorem kd0 {a:Addr}:∀e∈#[Y8 a,wrA a],e.loc≠.mark .disable/\e.loc≠.mark .enable:=by
 intro e he;simp only[List.mem_toArray,List.mem_cons,List.not_mem_nil,or_false]at he;rcases he with rfl|rfl <;> exact⟨by simp[Y8,wrA],by simp[Y8,wrA]⟩
theorem B8 {a:Addr}:∀e∈#[Y8 a],e.loc≠.mark .disable/\e.loc≠.mark .enable:=by
 intro e he;simp only[List.mem_toArray,List.mem_cons,List.not_mem_nil,or_false]at he;subst he;exact⟨by simp[Y8],by simp[Y8]⟩
theorem fp0 {a:Addr}:∀e∈#[wrA a],e.loc≠.mark .disable/\e.loc≠.mark .enable:=by
 intro e he;simp only[List.mem_toArray,List.mem_cons,List.not_mem_nil,or_false]at he;subst he;exact⟨by simp[wrA],by simp[wrA]⟩
section
variable {P:Program}{X:Gh}{G:M4}{u:World}{lv:Nat->Bool}{m:Md}{d:Nat}{T:Trace}{gs:Array Goroutine}{w:World}{q:Nat->Nat}
theorem va0 (P:Program) (g g':Goroutine) (w':World) (g0:Goroutine):woken P g g' w' g0=g0\/woken P g g' w' g0=g0.again w':=by
 unfold woken;split
 ·exact .inr rfl
 ·exact .inl rfl
theorem Wr.ks0 (C:Wr P X G u lv m d T gs w q) (v:Int):∃ρ,N5 ρ (P2 u (w.setCell (stA G) (.int .u64 v)).tape (w.setCell (stA G) (.int .u64 v)).drawn) (w.setCell (stA G) (.int .u64 v))/\∀b,¬X.low b->ρ b=X.N4 b:=by
 obtain⟨ρ,hs,hlw⟩:=C.base.sim;obtain⟨ρ',h1,h2⟩:=N5.setSt hs (C.base.cut G C.K2) C.y6 v;exact⟨ρ',h1,fun b hb=>(h2 b fun e=>hb (e▸C.base.aa0 G C.K2)).trans (hlw b hb)⟩
theorem Wr.Do0 (C:Wr P X G u lv m d T gs w q) (v:Int):∃ρ,N5 ρ (P2 u (w.setCell (smA G) (.int .u32 v)).tape (w.setCell (smA G) (.int .u32 v)).drawn) (w.setCell (smA G) (.int .u32 v))/\∀b,¬X.low b->ρ b=X.N4 b:=by
 obtain⟨ρ,hs,hlw⟩:=C.base.sim;obtain⟨ρ',h1,h2⟩:=N5.setSm hs (C.base.cut G C.K2) C.y6 v;exact⟨ρ',h1,fun b hb=>(h2 b fun e=>hb (e▸C.base.aa0 G C.K2)).trans (hlw b hb)⟩
def Dp0 (P:Program) (X:Gh) (G:M4) (u:World) (lv:Nat->Bool) (m:Md) (d:Nat) (T:Trace) (gs:Array Goroutine) (w:World) (q:Nat->Nat) (i:Nat) (sl:Option (Nat×Nat)):Prop :=
 ∃J4 ops q' w' lv' m',runT P (crowd gs w sl) i=(.next (crowd J4 w' sl),ops)/\J4.size=gs.size/\(∀g0,gs[0]? =some g0->J4[0]? =some g0\/J4[0]? =some (g0.again w'))/\Wr P X G u lv' m' d (T++ops) J4 w' q'/\sumTo J4.size q'<sumTo gs.size q /\
   count lv' J4.size <=count lv gs.size/\(m= .free↔m'= .free)/\(m'= .done->m= .done\/∀g0,gs[0]? =some g0->J4[0]? =some (g0.again w'))
theorem Wr.by (C:Wr P X G u lv m d T gs w q) {i:Nat} {g:Goroutine} {sl:Option (Nat×Nat)} (hi:gs[i]? =some g) (n3:i≠0) (Y3:g.status= .running) :
  Dp0 P X G u lv m d T gs w q i sl:=by
 have C2:i<gs.size:=(Array.getElem?_eq_some_iff.1 hi).1;have X3:=C.idle i g n3 hi;have pack:∀{g':Goroutine} {w':World} {lv':Nat->Bool} {m':Md} {es:Array Event},(∃J4 ops q',runT P (crowd gs w sl) i=(.next (crowd J4 w' sl),ops)/\J4.size=gs.size/\(∀g0,gs[0]? =some g0->J4[0]? =some (woken P g g' w' g0))/\Wr P X G u lv' m' d (T++ops) J4 w' q'/\sumTo J4.size q'<sumTo gs.size q) ->
   count lv' gs.size <=count lv gs.size->(m= .free↔m'= .free)->(m'= .done->m= .done\/∀g0,woken P g g' w' g0=g0.again w')->Dp0 P X G u lv m d T gs w q i sl:=by
  rintro g' w' lv' m' es ⟨J4,ops,q',h1,h2,h3,h4,h5⟩ hc hf hd;refine⟨J4,ops,q',w',lv',m',h1,h2,fun g0 h0=>?_,h4,h5,by rw[h2];exact hc,hf,fun e=>(hd e).imp id fun z g0 h0=>?_⟩
  ·rw[h3 g0 h0];rcases va0 P g g' w' g0 with e|e <;> rw[e]
   ·exact .inl rfl
   ·exact .inr rfl
  ·rw[h3 g0 h0,z g0]
 unfold C6 at X3;cases hl:lv i with
 |true=>
  rw[hl]at X3;simp only[if_true]at X3;have uw0:=count_le C2 hl;cases hq:q i with
  |zero=>rw[hq]at X3;exact X3.elim
  |succ k=>
   rw[hq]at X3;unfold Lt at X3;rcases X3 with⟨g',es,⟨_,hsy,j3⟩,hL⟩|⟨_,hd0,ux0⟩
   ·refine pack (es:=es) (C.move (sl:=sl) hi n3 (j3 w _ _ C.y6) (fun e he=>db0 (hsy e he)) (.inl fun e he=>e8 (hsy e he)) (fun _ h=>h) C.base.sim (fun _ _=>rfl) hq ?_ (fun _ _=>rfl) (.inl rfl) C.y6 C.pos (Nat.le_refl _)) (Nat.le_refl _) Iff.rfl fun e=>.inl e;unfold C6;rw[hl,if_pos rfl,Deaf_own];exact hL
   ·have fi0:=pn0 hl C2;generalize hv:count (upd lv i false) gs.size=v at fi0;have hvb:v<2147483647:=by have:=C.few;omega
    have hdf:Y7 lv m i=true/\∀j,j < #[Y8 (stA G),wrA (stA G)].size->deafBehind (Deaf T i) (#[Y8 (stA G),wrA (stA G)].extract 0 j)≠0:=⟨by unfold Y7;rw[hl];rfl,fun j _=>by rw[g8 kd0];omega⟩
    have hdd:Deaf (T++MemOp.ofEvents i g.frame.fn g.frame.place #[Y8 (stA G),wrA (stA G)]) i=Deaf T i:=by rw[Deaf_own];exact deafBehind_still kd0 _
    have hus:∀(m':Md),(∀j s,m'= .last j s->j=i)->(∀j s,m≠.last j s)->∀j,Y7 (upd lv i false) m' j=true->Y7 lv m j=true:=fun m' hm1 hm2 j hj=>by
     unfold Y7 at hj⊢;by_cases e:j=i
     ·subst e;rw[hl];rfl
     ·rw[upd_ne lv false e]at hj;cases h2:lv j with
      |true=>rfl
      |false=>
       rw[h2]at hj;cases m' with
       |last j' s'=>have:=hm1 j' s' rfl;subst this;simp[e]at hj
       |_=>simp at hj
    cases m with
    |free=>
     obtain⟨g',j3,fm0,_⟩:=ux0 v 0 (by omega) hvb;have hg:w7 G (((v+1)*KK+0:Nat):Int) 0 w:=by have:=C.y6;rw[fi0]at this;exact this
     have E2:=j3 w hg;rw[Nat.add_zero]at E2;refine pack (es:=#[Y8 (stA G),wrA (stA G)]) (C.move (sl:=sl) (m':=.free) (lv':=upd lv i false) hi n3 E2 L9 (.inr hdf) (hus .free (fun _ _ e=>by cases e) (fun _ _ e=>by cases e)) (C.ks0 _) (fun b hb=>A1 _ _ hb) hq ?_ (fun j hj=>upd_ne lv false hj) (.inl rfl) ?_ trivial (by omega)) (by omega) Iff.rfl fun e=>.inl e
     ·unfold C6;rw[upd_same,if_neg (by simp),hdd];exact fm0 (by omega)
     ·have:=C.y6.setSt ((v*KK:Nat):Int);rw[hv];exact this
    |wait=>
     obtain⟨g',j3,fm0,Dq0⟩:=ux0 v 1 (by omega) hvb;have hg:w7 G (((v+1)*KK+1:Nat):Int) 0 w:=by have:=C.y6;rw[fi0]at this;exact this
     have E2:=j3 w hg;by_cases hv0:v=0
     ·subst hv0;refine pack (es:=#[Y8 (stA G),wrA (stA G)]) (C.move (sl:=sl) (m':=.last i 2) (lv':=upd lv i false) hi n3 E2 L9 (.inr hdf) (hus (.last i 2) (fun j s e=>by cases e;rfl) (fun _ _ e=>by cases e)) (C.ks0 _) (fun b hb=>A1 _ _ hb) hq ?_ (fun j hj=>upd_ne lv false hj)
       (.inr ⟨fun j _ s e=>(by cases e),fun j hj s e=>(by cases e;exact hj rfl)⟩) ?_ ⟨hv,n3,C2,upd_same _ _ _,Nat.le_refl _⟩ (by omega)) (by omega) ⟨fun e=>(by cases e),fun e=>(by cases e)⟩ fun e=>by cases e
      ·unfold C6;rw[upd_same,if_neg (by simp)];simp only[if_true];rw[hdd];exact Dq0 ⟨rfl,rfl⟩
      ·have:=C.y6.setSt ((0*KK+1:Nat):Int);have e1:((0*KK+1:Nat):Int)=1:=by rw[Nat.zero_mul];rfl
       rw[e1]at this⊢;exact this
     ·refine pack (es:=#[Y8 (stA G),wrA (stA G)]) (C.move (sl:=sl) (m':=.wait) (lv':=upd lv i false) hi n3 E2 L9 (.inr hdf) (hus .wait (fun _ _ e=>by cases e) (fun _ _ e=>by cases e)) (C.ks0 _) (fun b hb=>A1 _ _ hb) hq ?_ (fun j hj=>upd_ne lv false hj) (.inl rfl) ?_ (by show 0<count _ _;omega) (by omega)) (by omega) Iff.rfl fun e=>.inl e
      ·unfold C6;rw[upd_same,if_neg (by simp),hdd];exact fm0 (by omega)
      ·have:=C.y6.setSt ((v*KK+1:Nat):Int);rw[hv];exact this
    |last j s=>have:=C.pos.1;omega
    |done=>have:count lv gs.size=0:=C.pos;omega
 |false=>
  rw[hl]at X3;simp only[Bool.false_eq_true,if_false]at X3;have quit:QuitsD P (q i) (Deaf T i) g->(∀s,m≠.last i s)->Dp0 P X G u lv m d T gs w q i sl:=fun hQ hml=>by
   cases hq:q i with
   |zero=>rw[hq]at hQ;rw[hQ.1]at Y3;cases Y3
   |succ k=>
    rw[hq]at hQ;rcases hQ with⟨hf,_⟩|⟨_,g',es,hm,j3,hQ⟩
    ·rw[hf]at Y3;cases Y3
    ·refine pack (es:=es) (C.move (sl:=sl) hi n3 (j3 w) (fun e he=>uz0 (hm e he)) (.inl fun e he=>touch_mute (hm e he)) (fun _ h=>h) C.base.sim (fun _ _=>rfl) hq ?_ (fun _ _=>rfl) (.inl rfl) C.y6 C.pos (Nat.le_refl _)) (Nat.le_refl _) Iff.rfl fun e=>.inl e;unfold C6;rw[hl,if_neg (by simp),Deaf_own];cases m with
     |last j s=>simp only;rw[if_neg (fun e=>hml s (by rw[e]))];exact hQ
     |_=>exact hQ
  cases m with
  |last j s=>
   simp only at X3;by_cases hij:i=j
   ·subst hij;rw[if_pos rfl]at X3;obtain⟨hc0,_,_,_,hs2⟩:=C.pos;have Pn0:Y7 lv (.last i s) i=true:=by unfold Y7;simp
    cases hq:q i with
    |zero=>rw[hq]at X3;exact X3.elim
    |succ k=>
     rw[hq]at X3;unfold Lst at X3;obtain⟨hd0,X3⟩:=X3;rcases X3 with⟨g',es,⟨_,hsy,j3⟩,hnm,hL⟩|⟨_,X3⟩
     ·refine pack (es:=es) (C.move (sl:=sl) hi n3 (j3 w _ _ C.y6) (fun e he=>db0 (hsy e he)) (.inl fun e he=>e8 (hsy e he)) (fun _ h=>h) C.base.sim (fun _ _=>rfl) hq ?_ (fun _ _=>rfl) (.inl rfl) C.y6 C.pos (Nat.le_refl _)) (Nat.le_refl _) Iff.rfl fun e=>.inl e;unfold C6;rw[hl,if_neg (by simp)];simp only[if_true];rw[Deaf_own,deafBehind_still hnm];exact hL
     ·rcases s with _|_|_|s
      ·
       simp only at X3;obtain⟨hwk,g',j3,hQ⟩:=X3;have E2:=j3 w C.y6;refine pack (es:=semEvents (smA G)) (C.move (sl:=sl) (m':=.done) (lv':=lv) hi n3 E2 kc0 (.inr ⟨Pn0,iw0 hd0⟩) (fun j hj=>by unfold Y7 at hj⊢;simp at hj;rw[hj];rfl) (C.Do0 _) (fun b hb=>A1 _ _ hb) hq ?_ (fun _ _=>rfl) (.inr ⟨fun j hj s e=>(by cases e;exact hj rfl),fun j _ s e=>(by cases e)⟩) (C.y6.setSm _) hc0 (Nat.le_refl _)) (Nat.le_refl _) ⟨fun e=>(by cases e),fun e=>(by cases e)⟩ fun _=>.inr fun g0=>?_
       ·unfold C6;rw[hl,if_neg (by simp),Deaf_own,fo0];exact hQ
       ·unfold woken;rw[if_pos];rw[hwk];rcases hQ.status with e|e <;> rw[e] <;> rfl
      ·simp only at X3;obtain⟨g',j3,hL⟩:=X3;have E2:=j3 w C.y6;refine pack (es:=#[wrA (stA G)]) (C.move (sl:=sl) (m':=.last i 0) (lv':=lv) hi n3 E2 Dn0 (.inr ⟨Pn0,fun j _=>by rw[g8 fp0];omega⟩) (fun j hj=>hj) (C.ks0 _) (fun b hb=>A1 _ _ hb) hq ?_ (fun _ _=>rfl) (.inr ⟨fun j hj s e=>(by cases e;exact hj rfl),fun j hj s e=>(by cases e;exact hj rfl)⟩) (C.y6.setSt _) ⟨hc0,n3,C2,hl,by omega⟩ (Nat.le_refl _)) (Nat.le_refl _) ⟨fun e=>(by cases e),fun e=>(by cases e)⟩ fun e=>by cases e
       unfold C6;rw[hl,if_neg (by simp)];simp only[if_true];rw[Deaf_own,deafBehind_still fp0];exact hL
      ·simp only at X3;obtain⟨g',j3,hL⟩:=X3;have E2:=j3 w C.y6;refine pack (es:=#[Y8 (stA G)]) (C.move (sl:=sl) (m':=.last i 1) (lv':=lv) hi n3 E2 hh0 (.inr ⟨Pn0,fun j _=>by rw[g8 B8];omega⟩) (fun j hj=>hj) C.base.sim (fun b hb=>rfl) hq ?_ (fun _ _=>rfl) (.inr ⟨fun j hj s e=>(by cases e;exact hj rfl),fun j hj s e=>(by cases e;exact hj rfl)⟩) C.y6 ⟨hc0,n3,C2,hl,by omega⟩ (Nat.le_refl _)) (Nat.le_refl _) ⟨fun e=>(by cases e),fun e=>(by cases e)⟩ fun e=>by cases e
       unfold C6;rw[hl,if_neg (by simp)];simp only[if_true];rw[Deaf_own,deafBehind_still B8];exact hL
      ·omega
   ·rw[if_neg hij]at X3;exact quit X3 fun s' e=>by cases e;exact hij rfl
  |free=>exact quit X3 fun s e=>by cases e
  |wait=>exact quit X3 fun s e=>by cases e
  |done=>exact quit X3 fun s e=>by cases e
end
end
section
attribute [local irreducible] KK
theorem kt0 {lv:Nat->Bool}:∀{n:Nat},0<count lv n->∃i,i<n/\lv i=true
 |0,h=>by simp[count,sumTo]at h
 |n+1,h=>by
  cases e:lv n with
  |true=>exact⟨n,by omega,e⟩
  |false=>
   have:count lv (n+1)=count lv n:=by
    show sumTo n _+(if lv n then 1 else 0)=_;rw[e];rfl
   obtain⟨i,h1,h2⟩:=kt0 (n:=n) (by rw[<- this];exact h);exact⟨i,by omega,h2⟩
theorem ku0 (lv:Nat->Bool):Y7 lv .free=lv:=funext fun i=>by unfold Y7;simp
section
variable {P:Program}{Post:Value->World->Prop}{X:Gh}{G:M4}{u:World}{lv:Nat->Bool}{m:Md}{d:Nat}{T:Trace}{gs:Array Goroutine}{w:World}{q:Nat->Nat}{K:Goroutine->Prop}
theorem Fin.we (hG:X.K2=some G) (hK:∀g,K g->Fin P Post {X with pend:=0,cap:=0,dn:=0} 0 g u):∀(n d:Nat) (g:Goroutine),WE P G K n d g->Fin P Post {X with pend:=0,cap:=0,dn:=d} 0 g u
 |0,d,g,h=>by obtain⟨rfl,h⟩:=h;exact hK g h
 |n+1,d,g,h=>by
  rcases h with⟨rfl,h⟩|⟨g',es,hr,I9,E2,h⟩
  ·exact hK g h
  ·refine Fin.o9 hr fun live T gs w sl dd Y4 q hg j3 C=>?_;have hat:=(C.K2 G hG).2;have mz0:=C.few;have hc:count live gs.size=0:=by have h1:count live gs.size+0 <=0:=mz0.1;omega
   have hz:(((count live gs.size+0)*KK:Nat):Int)=0:=by rw[hc,Nat.zero_add,Nat.zero_mul];rfl
   have am1:w7 G 0 0 (w.at dd):=by have h2:w7 G (((count live gs.size+0)*KK:Nat):Int) 0 (w.at dd):=hat;rw[hz]at h2;exact h2
   obtain⟨C',r2⟩:=C.main hG (g:=g) (g':=g') (pend:=0) (cap:=0) I9 (w':=w.at dd) C.sim (fun _ _=>rfl) hat mz0;exact Ends.step (j3.trans (runT_crowd_go (sl:=Y4) (i:=0) hg (E2 _ am1))) (Fin.we hG hK n _ g' h _ _ _ _ _ _ r2 C')
theorem Wr.toRing (C:Wr P X G u lv .free d T gs w q) (hc:count lv gs.size=0):Ring P {X with pend:=0,cap:=0,dn:=d} 0 u lv T gs w q:=by
 have B:=C.base;rw[ku0]at B;refine B.ring (fun i g hi hg=>?_) (fun G' e=>?_) ⟨?_,by show(0:Nat) <=65536;omega⟩
 ·have:=C.idle i g hi hg;have C2:i<gs.size:=(Array.getElem?_eq_some_iff.1 hg).1;have hl:lv i=false:=by
   cases e:lv i with
   |false=>rfl
   |true=>have:=count_le C2 e;omega
  unfold C6 at this;unfold Idle;rw[show({X with pend:=0,cap:=0,dn:=d}:Gh).C1 i=none from C.empty i];rw[hl]at this⊢;simp only[Bool.false_eq_true,if_false]at this⊢;exact⟨by omega,this⟩
 ·have e':X.K2=some G':=e;rw[C.K2]at e';obtain rfl:=Option.some.inj e';have:=C.y6;exact this
 ·show count lv gs.size+0 <=0;omega
theorem Wr.at (C:Wr P X G u lv m d T gs w q) (k:Nat):Wr P X G u lv m d T gs (w.at k) q :=
 ⟨⟨let⟨ρ,hs,hl⟩:=C.base.sim;⟨ρ,N5.at hs k,hl⟩,C.base.free,C.base.size,C.base.num,C.base.stays,C.base.chans,C.base.O3,C.base.inj,C.base.X3,C.base.aa0,C.base.K7,C.base.cut,C.base.old,C.base.above,C.base.cu0,C.base.ar0,C.base.dfn,C.base.past⟩,C.K2,C.empty,C.idle,C.y6,C.pos,C.few⟩
theorem Wr.awake (C:Wr P X G u lv m d T gs w q) {a:Goroutine} (ha:gs[0]? =some a) (hs:a.status= .running\/a.status= .blocked):∀g∈gs,awake g:=by
 intro g hg;obtain⟨i,hi,rfl⟩:=Array.mem_iff_getElem.1 hg;by_cases e:i=0
 ·subst e;have:gs[0]=a:=by simpa [Array.getElem?_eq_getElem hi]using ha
  rw[this];exact awake_of (hs.elim .inl fun x=>.inr (.inl x))
 ·exact awake_of ((C.idle i _ e (Array.getElem?_eq_getElem hi)).status.elim .inl fun x=>.inr (.inr x))
theorem Wr.main (C:Wr P X G u lv m d T gs w q) {g g':Goroutine} {es:Array Event} {w':World} {m':Md} (I9:∀e∈es,GEv G 0 e) (gz0:∃ρ,N5 ρ (P2 u w'.tape w'.drawn) w'/\∀b,¬X.low b->ρ b=X.N4 b) (A8:∀b,b≠G.blk->w'.heap[b]? =w.heap[b]?)
  (hm:m'=m\/((∀j s,m≠.last j s)/\∀j s,m'≠.last j s)) (ek0:w7 G (Bk0 m' (count lv gs.size)).1 (Bk0 m' (count lv gs.size)).2 w') (uw0:posOf m' lv gs.size) :
  Wr P X G u lv m' (deafBehind d es) (T++MemOp.ofEvents 0 g.frame.fn g.frame.place es) ((gs.map (woken P g g' w')).setIfInBounds 0 g') w' q/\((gs.map (woken P g g' w')).setIfInBounds 0 g')[0]? =some g':=by
 have D2:((gs.map (woken P g g' w')).setIfInBounds 0 g').size=gs.size:=by simp
 have hus:∀j,Y7 lv m' j=true->Y7 lv m j=true:=fun j hj=>by
  rcases hm with rfl|⟨h1,h2⟩
  ·exact hj
  ·unfold Y7 at hj⊢;cases m' with
   |last j s=>exact absurd rfl (h2 j s)
   |_=>simp at hj;rw[hj];rfl
 refine⟨⟨?_,C.K2,C.empty,fun x y hx hy=>?_,by rw[D2];exact ek0,by rw[D2];exact uw0,by rw[D2];exact C.few⟩,Array.getElem?_setIfInBounds_self_of_lt (by simpa using C.base.size)⟩
 ·rw[D2];exact C.base.step (fn:=g.frame.fn) (pos:=g.frame.place) (G:=G) C.K2 C.base.size (C.empty 0) I9 (.inr (.inl rfl)) hus (fun j hj=>absurd (C.empty j) hj) (by rw[if_pos rfl]) gz0 A8
 ·rw[Array.getElem?_setIfInBounds_ne (fun z=>hx z.symm),Array.getElem?_map]at hy;obtain⟨y₀,hy₀,rfl⟩:=Option.map_eq_some_iff.1 hy;have h1:=C.idle x y₀ hx hy₀;rw[woken_of_again (again_of_running h1.status w')];exact h1.other (fun z=>hx z.symm) V1 rfl (hm.imp id fun z=>⟨z.1 x,z.2 x⟩)
theorem again_blocked {g:Goroutine} (hr:g.status= .running) (ho:g.offers=none) (w:World):({g with status:=.blocked}:Goroutine).again w=g:=by
 cases g;simp only at hr ho;subst hr;subst ho;rfl
theorem Fin.sem (hG:X.K2=some G) (hK:∀g,K g->Fin P Post {X with pend:=0,cap:=0,dn:=0} 0 g u):∀(μ n d:Nat) (g:Goroutine) (b:Bool) lv m T gs w sl q,μ=3*sumTo gs.size q+3*n+(if b then 1 else 0)->Wr P X G u lv m d T gs w q->m≠.free ->
  (if b then gs[0]? =some g/\WS P G (WE P G K) n d g else m≠.done/\gs[0]? =some {g with status:=.blocked}/\∃k,n=k+1/\0<d/\Dm0 P G (WE P G K) k d g)->Ends P Post (crowd gs w sl) T:=by
 intro μ
 induction μ using Nat.strongRecOn with
 |_ μ ih=>
  intro n d g b lv m T gs w sl q hμ C hmf hb;have vb0:(∃(i:Nat) (g:Goroutine),gs[i]? =some g/\g.status= .running)/\∀g∈gs,awake g:=by
   cases b with
   |true=>
    obtain⟨h0,hW⟩:=hb;have hr:g.status= .running:=by
     cases n with
     |zero=>exact hW.elim
     |succ n=>
      rcases hW with⟨_,_,hh,_⟩|⟨_,hh⟩
      ·exact hh.1
      ·exact hh.1
    exact⟨⟨0,g,h0,hr⟩,C.awake h0 (.inl hr)⟩
   |false=>
    obtain⟨hmd,h0,k,_,_,_⟩:=hb;refine⟨?_,C.awake h0 (.inr rfl)⟩;cases m with
    |free=>exact absurd rfl hmf
    |done=>exact absurd rfl hmd
    |wait=>
     obtain⟨i,hi,hl⟩:=kt0 (show 0<count lv gs.size from C.pos);have hi0:i≠0:=(C.base.cu0 i (by unfold Y7;rw[hl];rfl)).1;have:=C.idle i gs[i] hi0 (Array.getElem?_eq_getElem hi);unfold C6 at this;rw[hl,if_pos rfl]at this;exact⟨i,gs[i],Array.getElem?_eq_getElem hi,this.running⟩
    |last i s=>
     obtain⟨_,hi0,hi,hl,_⟩:=C.pos;have:=C.idle i gs[i] hi0 (Array.getElem?_eq_getElem hi);unfold C6 at this;rw[hl,if_neg (by simp)]at this;simp only[if_true]at this;exact⟨i,gs[i],Array.getElem?_eq_getElem hi,this.running⟩
  obtain⟨i,gi,dd,Y4,hi,hgi,E2⟩:=crowd_pick (P:=P) (w:=w) (sl:=sl) vb0.2 vb0.1;have Cd:=C.at dd;by_cases e:i=0
  ·subst e;cases b with
   |false=>obtain⟨_,h0,_⟩:=hb;rw[h0]at hi;obtain rfl:=Option.some.inj hi;cases hgi
   |true=>
    obtain⟨h0,hW⟩:=hb;rw[h0]at hi;obtain rfl:=Option.some.inj hi;cases n with
    |zero=>exact hW.elim
    |succ n=>
     rcases hW with⟨g',es,⟨_,_,I9,j3⟩,hW⟩|⟨hd0,hr,ho,td0,g',Dr0,hE⟩
     ·obtain⟨C',r2⟩:=Cd.main (g:=g) (g':=g') (m':=m) I9 Cd.base.sim (fun _ _=>rfl) (.inl rfl) Cd.y6 Cd.pos;exact Ends.step (E2.trans (runT_crowd_go (sl:=Y4) (i:=0) h0 (j3 _ _ _ Cd.y6))) (ih _ (by simp only[Array.size_setIfInBounds,Array.size_map];rw[hμ];simp only[if_true];omega) n _ g' true lv m _ _ _ Y4 q rfl C' hmf ⟨r2,hW⟩)
     ·have blk:m≠.done->(∃st,w7 G st 0 (w.at dd))->Ends P Post (crowd gs w sl) T:=fun hmd ⟨st,hat⟩=>by
       have hgo:=td0 _ _ hat;have hrt:=runT_crowd_go (P:=P) (sl:=Y4) (i:=0) h0 hgo;rw[show(MemOp.ofEvents 0 g.frame.fn g.frame.place #[]:Array MemOp)=#[] from rfl]at hrt;obtain⟨C',r2⟩:=Cd.main (g:=g) (g':={g with status:=.blocked}) (es:=#[]) (m':=m) (fun e he=>by simp at he) Cd.base.sim (fun _ _=>rfl) (.inl rfl) Cd.y6 Cd.pos;rw[show(MemOp.ofEvents 0 g.frame.fn g.frame.place #[]:Array MemOp)=#[] from rfl]at C';exact Ends.step (E2.trans hrt) (ih _ (by simp only[Array.size_setIfInBounds,Array.size_map];rw[hμ];simp) (n+1) d g false lv m _ _ _ Y4 q rfl C' hmf ⟨hmd,r2,n,rfl,hd0,hr,ho,td0,g',Dr0,hE⟩)
      cases m with
      |free=>exact absurd rfl hmf
      |wait=>exact blk (fun e=>by cases e) ⟨_,Cd.y6⟩
      |last i s=>exact blk (fun e=>by cases e) (by
        have:=Cd.y6;cases s with
        |zero=>exact⟨_,this⟩
        |succ s=>exact⟨_,this⟩)
      |done=>
       obtain⟨C',r2⟩:=Cd.main (g:=g) (g':=g') (es:=semEvents (smA G)) (m':=.free) (w':=(w.at dd).setCell (smA G) (.int .u32 0)) kc0 (Cd.Do0 0) (fun b hb=>A1 _ _ hb) (.inr ⟨fun j s e=>(by cases e),fun j s e=>(by cases e)⟩)
        (by
         have h1:count lv gs.size=0:=Cd.pos;have h2:w7 G 0 0 _:=Cd.y6.setSm 0;have h3:(((count lv gs.size)*KK:Nat):Int)=0:=by rw[h1,Nat.zero_mul];rfl
         show w7 G (((count lv gs.size)*KK:Nat):Int) 0 _;rw[h3];exact h2) trivial
       rw[fo0]at C';have R:=C'.toRing (by simp only[Array.size_setIfInBounds,Array.size_map];exact Cd.pos);exact Ends.step (E2.trans (runT_crowd_go (sl:=Y4) (i:=0) h0 (Dr0 _ Cd.y6))) (Fin.we hG hK n d g' hE _ _ _ _ Y4 _ r2 R)
  ·obtain⟨J4,ops,q',w',lv',m',hrt,D2,h0',C',C2,_,Ds0,Dt0⟩:=Cd.by (sl:=Y4) hi e hgi
   have Po0:m'≠.free:=fun e=>hmf (Ds0.2 e);refine Ends.step (E2.trans hrt) ?_;cases b with
   |true=>
    obtain⟨h0,hW⟩:=hb;have hr:g.status= .running:=by
     cases n with
     |zero=>exact hW.elim
     |succ n=>
      rcases hW with⟨_,_,hh,_⟩|⟨_,hh⟩
      ·exact hh.1
      ·exact hh.1
    refine ih _ (by rw[hμ];simp only[if_true];omega) n d g true lv' m' _ J4 w' Y4 q' rfl C' Po0 ⟨?_,hW⟩;rcases h0' g h0 with z|z
    ·exact z
    ·rw[again_of_running (.inl hr)]at z;exact z
   |false=>
    obtain⟨hmd,h0,k,hk,hd0,te0⟩:=hb;have hA:J4[0]? =some (({g with status:=.blocked}:Goroutine).again w')->Ends P Post (crowd J4 w' Y4) (T++ops):=fun z=>by
     rw[again_blocked te0.1 te0.2.1]at z;exact ih _ (by rw[hμ];simp only[if_true];simp;omega) n d g true lv' m' _ J4 w' Y4 q' rfl C' Po0 ⟨z,by rw[hk];exact .inr ⟨hd0,te0⟩⟩
    by_cases c9:m'= .done
    ·exact hA ((Dt0 c9).resolve_left hmd _ h0)
    ·rcases h0' _ h0 with z|z
     ·exact ih _ (by rw[hμ];simp;omega) n d g false lv' m' _ J4 w' Y4 q' rfl C' Po0 ⟨c9,z,k,hk,hd0,te0⟩
     ·exact hA z
end
end
section
attribute [local irreducible] KK
section
variable {P:Program}{Post:Value->World->Prop}{X:Gh}{G:M4}{u:World}{K:Goroutine->Prop}
theorem Fin.head (hG:X.K2=some G) (hK:∀g,K g->Fin P Post {X with pend:=0,cap:=0,dn:=0} 0 g u):∀(μ n:Nat) (o:Option Nat) (V d:Nat) (g:Goroutine) lv T gs w sl q,μ=n+sumTo gs.size q->Wr P X G u lv .free d T gs w q->gs[0]? =some g->WH P G (WE P G K) n o V d g->0<d\/True ->
  (match o with|none=>count lv gs.size <=V|some vs=>0<vs/\count lv gs.size <=vs)->Ends P Post (crowd gs w sl) T:=by
 intro μ
 induction μ using Nat.strongRecOn with
 |_ μ ih=>
  intro n o V d g lv T gs w sl q hμ C h0 hW _ hV;cases n with
  |zero=>exact hW.elim
  |succ n=>
   have hr:g.status= .running:=by
    unfold WH at hW;rcases hW with⟨_,_,hh,_⟩|hh
    ·exact hh.1
    ·exact hh.1
   obtain⟨i,gi,dd,Y4,hi,hgi,E2⟩:=crowd_pick (P:=P) (w:=w) (sl:=sl) (C.awake h0 (.inl hr)) ⟨0,g,h0,hr⟩;have Cd:=C.at dd;by_cases e:i=0
   ·subst e;rw[h0]at hi;obtain rfl:=Option.some.inj hi;have hat:w7 G ((count lv gs.size*KK:Nat):Int) 0 (w.at dd):=Cd.y6;unfold WH at hW;rcases hW with⟨g',es,⟨_,_,I9,j3⟩,hW⟩|⟨_,hW⟩
    ·obtain⟨C',r2⟩:=Cd.main (g:=g) (g':=g') (m':=.free) I9 Cd.base.sim (fun _ _=>rfl) (.inl rfl) Cd.y6 Cd.pos;exact Ends.step (E2.trans (runT_crowd_go (sl:=Y4) (i:=0) h0 (j3 _ _ _ Cd.y6))) (ih _ (by simp only[Array.size_setIfInBounds,Array.size_map];omega) n o V _ g' lv _ _ _ Y4 q rfl C' r2 hW (.inr trivial) (by simpa using hV))
    ·have kv0:∀g',stepG P true g (w.at dd)= .go g' (w.at dd) #[Y8 (stA G)]->(∀T' J4,Wr P X G u lv .free d T' J4 (w.at dd) q->J4.size=gs.size->J4[0]? =some g'->Ends P Post (crowd J4 (w.at dd) Y4) T')->Ends P Post (crowd gs w sl) T:=fun g' hgo hk=>by
      obtain⟨C',r2⟩:=Cd.main (g:=g) (g':=g') (es:=#[Y8 (stA G)]) (m':=.free) hh0 Cd.base.sim (fun _ _=>rfl) (.inl rfl) Cd.y6 Cd.pos;rw[deafBehind_still B8]at C';exact Ends.step (E2.trans (runT_crowd_go (sl:=Y4) (i:=0) h0 hgo)) (hk _ _ C' (by simp) r2)
     cases o with
     |none=>
      have hV':count lv gs.size <=V:=hV;obtain⟨g',j3,hz,hnz⟩:=hW (count lv gs.size) hV';refine kv0 g' (j3 _ hat) fun T' J4 C' D2 r2=>?_;by_cases hc:count lv gs.size=0
      ·exact Fin.we hG hK n d g' (hz hc) _ _ _ _ Y4 _ r2 (C'.toRing (by rw[D2];exact hc))
      ·exact ih _ (by rw[D2];omega) n (some (count lv gs.size)) V d g' lv T' J4 _ Y4 q rfl C' r2 (hnz hc) (.inr trivial) ⟨by omega,by rw[D2];exact Nat.le_refl _⟩
     |some vs=>
      obtain⟨hvs,hle⟩:=hV;obtain⟨⟨g1,Bl0,hS⟩,Du0⟩:=hW;by_cases hc:count lv gs.size=vs
      ·subst hc;obtain⟨C',r2⟩:=Cd.main (g:=g) (g':=g1) (es:=#[Y8 (stA G),wrA (stA G)]) (m':=.wait) L9 (Cd.ks0 ((count lv gs.size*KK+1:Nat):Int)) (fun b hb=>A1 _ _ hb) (.inr ⟨fun j s e=>(by cases e),fun j s e=>(by cases e)⟩) (Cd.y6.setSt _) hvs;rw[he0]at C';exact Ends.step (E2.trans (runT_crowd_go (sl:=Y4) (i:=0) h0 (Bl0 _ hat))) (Fin.sem hG hK _ n d g1 true lv .wait _ _ _ Y4 q rfl C' (fun e=>(by cases e)) ⟨r2,hS⟩)
      ·obtain⟨g',j3,hH⟩:=Du0 (count lv gs.size) (by omega);refine kv0 g' (j3 _ hat) fun T' J4 C' D2 r2=>?_;exact ih _ (by rw[D2];omega) n none (count lv gs.size) d g' lv T' J4 _ Y4 q rfl C' r2 hH (.inr trivial) (by rw[D2];exact Nat.le_refl _)
   ·obtain⟨J4,ops,q',w',lv',m',hrt,D2,h0',C',C2,D6,Ds0,_⟩:=Cd.by (sl:=Y4) hi e hgi
    have hmf:m'= .free:=Ds0.1 rfl;subst hmf;refine Ends.step (E2.trans hrt) (ih _ (by omega) (n+1) o V d g lv' _ J4 w' Y4 q' rfl C' ?_ hW (.inr trivial) ?_)
    ·rcases h0' g h0 with z|z
     ·exact z
     ·rw[again_of_running (.inl hr)]at z;exact z
    ·cases o with
     |none=>exact Nat.le_trans D6 hV
     |some vs=>exact⟨hV.1,Nat.le_trans D6 hV.2⟩
theorem Fin.wait {g:Goroutine} {n:Nat} (hG:X.K2=some G) (v8:∀i,X.C1 i=none) (hp:X.pend=0) (hd:X.dn=0) (hW:WH P G (WE P G K) n none X.cap 0 g) (hK:∀g,K g->Fin P Post {X with pend:=0,cap:=0,dn:=0} 0 g u):Fin P Post X 0 g u:=by
 intro live T gs w sl q hg C;have hat:=(C.K2 G hG).2;have mz0:=C.few;rw[hp,Nat.add_zero]at hat mz0;have B:=C.base;refine Fin.head hG hK _ n none X.cap 0 g live T gs w sl q rfl ⟨?_,hG,v8,fun i y hi hy=>?_,hat,trivial,by omega⟩ hg hW (.inr trivial) mz0.1
 ·rw[ku0];exact⟨B.sim,B.free,B.size,B.num,B.stays,B.chans,B.O3,B.inj,B.X3,B.aa0,B.K7,B.cut,B.old,B.above,B.cu0,B.ar0,B.dfn.trans hd,by
   have:=B.past;refine this.fewer fun x hx=>?_;rcases hx with⟨e,_⟩|hx
   ·exact .inl ⟨e,hd⟩
   ·exact .inr hx⟩
 ·have:=C.idle i y hi hy;unfold Idle at this;rw[v8 i]at this;unfold C6;obtain⟨_,this⟩:=this;cases e:live i with
  |true=>
   rw[e]at this;simp only[if_true]at this⊢;obtain⟨G',hG',hL⟩:=this;rw[hG]at hG';obtain rfl:=Option.some.inj hG';exact hL
  |false=>
   rw[e]at this;simp only[Bool.false_eq_true,if_false]at this⊢;exact this
end
end
section
attribute [local irreducible] KK
def dc0 (w:World):World:={w with heap:=w.heap.map fun o=>if S3 o then nothing else o}
def X0 (w:World):Gh where
 C1:=fun _=>none
 stay:=fun _=>[]
 K2:=none
 old:=[]
 X3:=fun _=>none
 J7:=fun _=>False
 low:=fun _=>False
 N4:=fun b=>match w.heap[b]? with
  |some o=>if S3 o then .gone o else .all
  |none=>.all
 cap:=0
 pend:=0
 dn:=0
 n:=1
theorem Dv0 (w:World) (n:Nat):(X0 w).Z8 n :=
 ⟨fun _ _ h=>(by cases h),fun _ _ h=>(by cases h),fun _ h=>h.elim,fun _ h=>h.elim (fun z=>(by cases z)) fun z=>(by cases z),fun _ h=>h.elim⟩
theorem zs0 {w:World} {b:Nat} (h:w.heap.size <=b):(X0 w).N4 b= .all:=by
 show(match w.heap[b]? with|some o=>if S3 o then w6.gone o else .all|none=>.all)=_;rw[Array.getElem?_eq_none h]
theorem Dw0 {w:World} {b:Nat} {o:Obj} (h:w.heap[b]? =some o) (hv:S3 o=false):(dc0 w).heap[b]? =some o:=by
 show(w.heap.map _)[b]? =_;rw[Array.getElem?_map,h];simp[hv]
theorem Dx0 (w:World):N5 (X0 w).N4 (P2 (dc0 w) w.tape w.drawn) w:=by
 refine⟨rfl,rfl,rfl,rfl,by simp[P2,dc0],fun b x hx=>?_,fun b hb=>zs0 (by simpa [P2,dc0]using hb),fun b x hx=>?_⟩
 ·have V3:(w.heap.map fun o=>if S3 o then nothing else o)[b]? =some x:=hx;rw[Array.getElem?_map]at V3;obtain⟨o,ho,rfl⟩:=Option.map_eq_some_iff.1 V3;refine⟨o,ho,?_⟩;show cb0 (match w.heap[b]? with|some o=>if S3 o then w6.gone o else .all|none=>.all) _ _;rw[ho];cases hv:S3 o
  ·simp only[hv,Bool.false_eq_true,if_false];exact .same o
  ·simp only[hv,if_true];exact .gone _ _ _
 ·have V3:(w.heap.map fun o=>if S3 o then nothing else o)[b]? =some x:=hx;rw[Array.getElem?_map]at V3;obtain⟨o,ho,rfl⟩:=Option.map_eq_some_iff.1 V3;cases hv:S3 o
  ·simp[hv]
  ·simp[nothing,S3]
theorem Fin.start {P:Program} {Post:Value->World->Prop} {g:Goroutine} {w:World} (hF:Fin P Post (X0 w) 0 g (dc0 w)):Ends P Post (solo g w) #[]:=by
 rw[solo_eq_crowd];have v8:∀i a,touchAt (#[]:Trace) i=some a->False:=fun i a h=>by simp[touchAt,Trace.act?]at h
 refine hF (fun _=>false) #[] #[g] w none (fun _=>0) rfl ⟨⟨_,Dx0 w,fun _ _=>rfl⟩,fun i y hi hy=>?_,rfl,by simp,rfl,fun _ _ h=>(by cases h),fun _ h=>h.elim,fun _ _ h=>(by cases h),fun _ _ _ _ h=>(by cases h),fun _ _ h=>(by cases h),fun _ h=>(by cases h),⟨fun _ h=>h.elim,fun _ h=>h.elim (fun z=>(by cases z)) fun z=>(by cases z)⟩,fun _ h=>(by cases h),fun _ h=>(by cases h),
  fun j hj=>⟨rfl,rfl,rfl,rfl⟩,⟨Nat.le_refl _,by show(0:Nat) <=65536;omega⟩,fun _ h=>(by cases h),fun i hi h=>h.elim (fun z=>absurd rfl z) fun z=>absurd z hi,rfl,⟨fun said=>?_,fun i a h=>(v8 i a h).elim,fun i a h=>(v8 i a h).elim,fun g' K6=>rfl,fun i a g' h=>(v8 i a h).elim⟩⟩
 ·have:i=0:=by
   have:=(Array.getElem?_eq_some_iff.1 hy).1;simp at this;omega
  exact absurd this hi
 ·rintro⟨i,j,_,⟨a,b,ha,_⟩,_⟩;exact v8 i a ha
end
end Go.Yc
end
section
namespace Go.Vy
open Go Go.Conc Go.Yc
inductive Out where
 |val (v:Value)
 |skip
 |enter (f:FuncId) (args:Array Value)
 |panic (v:Value)
def Out.res:Out->World->Result Next
 | .val v,w=>.ok (.value v) w
 | .skip,w=>.ok .skip w
 | .enter f args,w=>.ok (.enter f args) w
 | .panic v,w=>.halt (.panic v) w
def zt0 (P:Program) (S:Sem Next) (u:World) (r:Out) (u':World):Prop :=
 ∀ρ x,N5 ρ u x->X8 u u'/\∃x' es,S.runT P x #[]=(r.res x',es)/\N5 ρ u' x'/\∀e∈es,fj0 u e
structure Does (P:Program) (S:Sem Next) (u:World) (r:Out) (u':World):Prop where
 tape:u'.tape=u.tape
 drawn:u'.drawn=u.drawn
 go:∀τ d,zt0 P S (P2 u τ d) r (P2 u' τ d)
theorem Out.us0 (r:Out) (w:World):us0 (r.res w):=by cases r <;> trivial
theorem Jy0 (r:Out) (w w':World):atW (r.res w) w'=r.res w':=by cases r <;> rfl
theorem Bn0 (r:Out) (w:World):fk0 (r.res w)=w:=by cases r <;> rfl
theorem eo0 {P:Program} {S:Sem Next} {u u':World} {r:Out} (ht:B1 P S) (hr:S.run P u=r.res u'):zt0 P S u r u':=by
 intro ρ x hs;have h1:(S.runT P u #[]).1=r.res u':=by rw[Sem.runT_eq];exact hr
 have hf:Yc.us0 (S.runT P u #[]).1:=by rw[h1];exact r.us0 u'
 obtain⟨⟨x',h2,h3⟩,h4,h5⟩:=B6 ht hs hf;rw[h1,Bn0]at h3 h4;rw[h1,Jy0]at h2;exact⟨h4,x',_,h2,h3,fun e he=>(h5 e he).resolve_left (by simp)⟩
theorem Does.j1 {P:Program} {S:Sem Next} {u u':World} {r:Out} (ht:B1 P S) (h1:u'.tape=u.tape) (h2:u'.drawn=u.drawn) (hr:∀τ d,S.run P (P2 u τ d)=r.res (P2 u' τ d)):Does P S u r u':=⟨h1,h2,fun τ d=>eo0 ht (hr τ d)⟩
structure Cl (P:Program) (main:Bool) (Z:Goroutine->World->Prop):Prop where
 own:∀g u,g.status= .running->(∀τ d,∃g' u' d',x5 P main g (P2 u τ d) g' u'/\Z g' (P2 u' u.tape d'))->Z g u
class Ctx (P:Program) where
 main:Bool
 Zs:(Goroutine->World->Prop)->Prop
 cl:∀Z,Zs Z->Cl P main Z
theorem ke0 {P:Program} {Post:Value->World->Prop} {X:Gh} {h:Nat} {g:Goroutine} {u:World} {τ:Tape} {d:Nat} (hF:Fin P Post X h g (P2 u τ d)):Fin P Post X h g u :=
 fun live T gs w sl q hg C=>hF live T gs w sl q hg ⟨C.sim,C.idle,C.free,C.size,C.num,C.stays,C.chans,C.O3,C.inj,C.X3,C.aa0,C.K7,C.K2,C.old,C.above,C.few,C.cu0,C.ar0,C.dfn,C.past⟩
theorem av0 (P:Program) (Post:Value->World->Prop) (X:Gh) (h:Nat):Cl P (h==0) (Fin P Post X h) :=
 ⟨fun _ _ hr hs=>Fin.own hr fun τ d=>by
  obtain⟨g',u',d',hF,hZ⟩:=hs τ d;exact⟨g',u',hF,ke0 hZ⟩⟩
section
variable {P:Program}{main:Bool}{Z:Goroutine->World->Prop}
theorem Cl.ctl (hZ:Cl P main Z) {g g':Goroutine} {u:World} (hr:g.status= .running) (hr':g'.status= .running) (hs:∀w,stepG P main g w= .go g' w #[]) (h:Z g' u):Z g u :=
 hZ.own g u hr fun τ d=>⟨g',P2 u τ d,u.drawn,⟨hr',fun ρ w hw=>⟨X8.refl _,w,#[],hs w,hw,fun e he=>by simp at he⟩⟩,h⟩
end
def xj0 (Z:Goroutine->World->Prop) (b:Frame) (k:List Item) (cs:List Frame):Exit->Act->World->Prop
 | .normal,a,w=>Z (G (b.at a k) cs) w
 | .exit id,a,w=>∃k',exitTo id k=some k'/\Z (G (b.at a k') cs) w
 | .goto l,a,w=>∃k',gotoIn l k=some k'/\Z (G (b.at a k') cs) w
 | .ret,a,w=>∀todo,Z (G {b.at a todo with mode:=.returning} cs) w
 | .panic ch,a,w=>∀todo,Z (G {b.at a todo with mode:=.panicking ch} cs) w
 | .outgrown,_,_=>False
theorem xj0.push {Z:Goroutine->World->Prop} {b:Frame} {x:Item} {k:List Item} {cs:List Frame} {e:Exit} {a:Act} {w:World} (hx:x.plain=true) (he:e≠.normal) (h:xj0 Z b k cs e a w):xj0 Z b (x::k) cs e a w:=by
 cases e with
 |normal=>exact absurd rfl he
 |exit id=>obtain⟨k',hk,h⟩:=h;exact⟨k',by cases x <;> simp_all [exitTo,Item.plain],h⟩
 |goto l=>obtain⟨k',hk,h⟩:=h;exact⟨k',by cases x <;> simp_all [gotoIn,Item.plain],h⟩
 |ret=>exact h
 |panic ch=>exact h
 |outgrown=>exact h
def ah0 (P:Program) (fn:Func) (tmps:Array Value) (w:World) (v:Value):Prop:=∀τ d ρ x,N5 ρ (P2 w τ d) x->∃x' es,(results fn tmps).runT P x #[]=(.ok v x',es)/\N5 ρ (P2 w τ d) x'/\∀e∈es,fj0 (P2 w τ d) e
def Leaves (P:Program) (fr:Frame) (w:World):Ending->Prop
 | .returned v=>fr.mode= .returning/\fr.defers=[]/\fr.kind= .normal/\∃fn,P.funcs[fr.fn]? =some fn/\ah0 P fn fr.tmps w v
 | .panicked chain=>fr.mode= .panicking chain/\fr.defers=[]/\fr.catches P=false
 | .outgrown=>False
def Calls (P:Program) [Ctx P] (f:FuncId) (args:Array Value) (w:World) (R:Ending->World->Prop):Prop :=
 ∀Z,Ctx.Zs P Z->∀cs,(∀e w' fr,R e w'->fr.fn=f->Leaves P fr w' e->Z (G fr cs) w')->Z (G (Frame.enter P f args .normal) cs) w
theorem Calls.mono {P:Program} [Ctx P] {f:FuncId} {args:Array Value} {w:World} {R R':Ending->World->Prop} (h:Calls P f args w R) (hr:∀e w',R e w'->R' e w'):Calls P f args w R' :=
 fun Z hZ cs hk=>h Z hZ cs fun e w' fr he hf hl=>hk e w' fr (hr e w' he) hf hl
theorem M9 {P:Program} {main:Bool} {Z:Goroutine->World->Prop} (hZ:Cl P main Z) {fr c:Frame} {cs:List Frame} {w:World} {v:Value} (h:Leaves P fr w (.returned v)) (hk:Z (G (c.finish v) cs) w):Z (G fr (c::cs)) w:=by
 obtain⟨hm,hd,hn,fn,hf,hr⟩:=h;refine hZ.own _ _ rfl fun τ d=>⟨G (c.finish v) cs,P2 w τ d,w.drawn,⟨rfl,fun ρ x hx=>?_⟩,hk⟩
 obtain⟨x',es,Y3,V3,hev⟩:=hr τ d ρ x hx;rw[Sem.runT_eq]at Y3;obtain⟨h1,h2⟩:=Prod.mk.inj Y3;refine⟨X8.refl _,x',seen P fr.fn es ++ #[],?_,V3,fun e he=>?_⟩
 ·simp[G,stepG,unwind,doReturn,hm,hd,hn,hf,h1,h2,GStep.after]
 ·have he':e∈seen P fr.fn es:=by simpa using he
  exact hev e (mem_seen he')
theorem dd0 {P:Program} {main:Bool} {Z:Goroutine->World->Prop} (hZ:Cl P main Z) {fr c:Frame} {cs:List Frame} {w:World} {chain:List PanicEntry} (h:Leaves P fr w (.panicked chain)) (hk:Z (G (c.raise chain) cs) w):Z (G fr (c::cs)) w:=by
 obtain⟨hm,hd,hc⟩:=h;exact hZ.ctl rfl rfl (fun w=>by simp[G,stepG,unwind,hm,hd,hc]) hk
section
variable {P:Program}[Ctx P]
def Uo0 (P:Program) [Ctx P] (o:Oper) (a:Act) (next:Act->World->Prop) (Q:Exit->Act->World->Prop) (r:Out) (w:World):Prop:=match r with
 | .val v=>next (a.put o.dst v) w
 | .skip=>next (a.put o.dst undef) w
 | .enter f args=>Calls P f args w fun
  | .returned v,w''=>next (a.put o.dst v) w''
  | .panicked chain,w''=>Q (.panic chain) a w''
  | .outgrown,_=>False
 | .panic v=>Q (.panic [{v,recovered:=false}]) a w
def nh0 (P:Program) [Ctx P] (o:Oper) (a:Act) (w:World) (next:Act->World->Prop) (Q:Exit->Act->World->Prop):Prop :=
 ∀τ d,∃r w',zt0 P (execOp a.eval o) (P2 w τ d) r w'/\Uo0 P o a next Q r (P2 w' w.tape w.drawn)
def wpOps (P:Program) [Ctx P] (ops:Array Oper) (Q:Exit->Act->World->Prop):List Nat->Act->World->Prop
 | [],a,w=>Q .normal a w
 |i::rest,a,w=>match ops[i]? with
  |none=>False
  |some o=>if Region.wanted o (yielded ops a.tmps) then nh0 P o a w (wpOps P ops Q rest) Q else wpOps P ops Q rest (a.put o.dst undef) w
def wpList (P:Program) [Ctx P] (ops:Array Oper) (Q:Exit->Act->World->Prop):List Oper->Act->World->Prop
 | [],a,w=>Q .normal a w
 |o::rest,a,w=>if Region.wanted o (yielded ops a.tmps) then nh0 P o a w (wpList P ops Q rest) Q else wpList P ops Q rest (a.put o.dst undef) w
def cwp (P:Program) [Ctx P] (c:Code) (Q:Exit->Act->World->Prop) (a:Act) (w:World):Prop :=
 ∀Z,Ctx.Zs P Z->∀b k cs,b.kind≠.early->(∀e a' w',Q e a' w'->xj0 Z b k cs e a' w')->Z (G (b.at a (.code c::k)) cs) w
variable {Q Q':Exit->Act->World->Prop}{a:Act}{w:World}{ops:Array Oper}
theorem dy0 {o:Oper} {next next':Act->World->Prop} (hn:∀a w,next a w->next' a w) (hq:∀e a w,Q e a w->Q' e a w) (h:nh0 P o a w next Q):nh0 P o a w next' Q':=by
 intro τ d;obtain⟨r,w',h1,h2⟩:=h τ d;refine⟨r,w',h1,?_⟩;cases r with
 |val v=>exact hn _ _ h2
 |skip=>exact hn _ _ h2
 |enter f args=>exact Calls.mono h2 fun e w'' he=>by cases e <;> first|exact hn _ _ he|exact hq _ _ _ he|exact he
 |panic v=>exact hq _ _ _ h2
theorem j8 {o:Oper} {next:Act->World->Prop} {r:Out} {w':World} (h:Does P (execOp a.eval o) w r w') (hk:Uo0 P o a next Q r w'):nh0 P o a w next Q:=by
 intro τ d;refine⟨r,P2 w' τ d,h.go τ d,?_⟩;have:P2 (P2 w' τ d) w.tape w.drawn=w':=by rw[<- h.tape,<- h.drawn];rfl
 rw[this];exact hk
theorem wp_ops:∀(l:List Nat) (a:Act) (w:World),wpOps P ops Q l a w->∀Z,Ctx.Zs P Z->∀b k cs,b.kind≠.early->(∀e a' w',Q e a' w'->xj0 Z b k cs e a' w')->Z (G (b.at a (.inRegion ops l::k)) cs) w
 | [],a,w,h,Z,hZ,b,k,cs,hb,hk=>(Ctx.cl Z hZ).ctl rfl rfl (fun w=>stepG_region_end) (hk _ _ _ h)
 |i::rest,a,w,h,Z,hZ,b,k,cs,hb,hk=>by
  unfold wpOps at h;cases ho:ops[i]? with
  |none=>rw[ho]at h;exact h.elim
  |some o=>
   rw[ho]at h;simp only at h;cases hw:Region.wanted o (yielded ops a.tmps)with
   |false=>
    rw[hw]at h;exact(Ctx.cl Z hZ).ctl rfl rfl (fun w=>stepG_unwanted ho hw) (wp_ops rest _ _ h Z hZ b k cs hb hk)
   |true=>
    rw[hw,if_pos rfl]at h;have cv0:∀v,(b.at a (.inRegion ops (i::rest)::k)).finish v=b.at (a.put o.dst v) (.inRegion ops rest::k):=by
     intro v;rw[Frame.finish_at,ho];rfl
    have Dy0:(b.kind==CallKind.early)=false:=by simpa using hb
    refine(Ctx.cl Z hZ).own _ _ rfl fun τ d=>?_;obtain⟨r,w',hr,hK⟩:=h τ d;have fol:∀g',g'.status= .running->(∀x x' es,(execOp a.eval o).runT P x #[]=(r.res x',es)->stepG P (Ctx.main P) (G (b.at a (.inRegion ops (i::rest)::k)) cs) x= .go g' x' (seen P b.fn es))->x5 P (Ctx.main P) (G (b.at a (.inRegion ops (i::rest)::k)) cs) (P2 w τ d) g' w':=by
     intro g' K6 hs;refine⟨K6,fun ρ x hx=>?_⟩;obtain⟨h1,x',es,h2,h3,h4⟩:=hr ρ x hx;exact⟨h1,x',_,hs x x' es h2,h3,fun e he=>h4 e (mem_seen he)⟩
    have split:∀x x' es,(execOp a.eval o).runT P x #[]=(r.res x',es)->(execOp a.eval o).run P x=r.res x'/\(execOp a.eval o).events P x #[]=es:=fun x x' es h=>by
     rw[Sem.runT_eq]at h;exact Prod.mk.inj h
    cases r with
    |val v=>
     refine⟨G (b.at (a.put o.dst v) (.inRegion ops rest::k)) cs,w',w.drawn,fol _ rfl fun x x' es h=>?_,wp_ops rest _ _ hK Z hZ b k cs hb hk⟩;obtain⟨h1,h2⟩:=split x x' es h;rw[stepG_value ho hw hb h1,listed,h2]
    |skip=>
     refine⟨G (b.at (a.put o.dst undef) (.inRegion ops rest::k)) cs,w',w.drawn,fol _ rfl fun x x' es h=>?_,wp_ops rest _ _ hK Z hZ b k cs hb hk⟩;obtain⟨h1,h2⟩:=split x x' es h;rw[stepG_none ho hw hb h1,listed,h2]
    |enter f args=>
     refine⟨G (Frame.enter P f args .normal) (b.at a (.inRegion ops (i::rest)::k)::cs),w',w.drawn,fol _ rfl fun x x' es h=>?_,hK Z hZ _ fun e w'' fr he hf hl=>?_⟩
     ·obtain⟨h1,h2⟩:=split x x' es h;rw[stepG_enter ho hw hb h1,listed,h2]
     ·cases e with
      |returned v=>
       refine U529 ?_;exact wp_ops rest _ _ he Z hZ b k cs hb hk
      |panicked chain=>
       refine U517 ?_;exact hk _ _ _ he _
      |outgrown=>exact he.elim
    |panic v=>
     refine⟨G {b.at a (.inRegion ops (i::rest)::k)with mode:=.panicking [{v,recovered:=false}]} cs,w',w.drawn,fol _ rfl fun x x' es h=>?_,hk _ _ _ hK _⟩;obtain⟨h1,h2⟩:=split x x' es h;have h1':(execOp a.eval o).run P x= .halt (.panic v) x':=h1;rw[stepG_oper ho hw];simp[stepG.apply,h1',h2,G,Frame.at,Dy0,GStep.after,Frame.raise]
theorem wp_mono {c:Code} (h:cwp P c Q a w) (hq:∀e a w,Q e a w->Q' e a w):cwp P c Q' a w:=fun Z hZ b k cs hb hk=>h Z hZ b k cs hb fun e a' w' he=>hk e a' w' (hq e a' w' he)
theorem wp_skip (h:Q .normal a w):cwp P .skip Q a w:=fun Z hZ _b _k _cs _hb hk=>(Ctx.cl Z hZ).ctl rfl rfl (fun _=>stepG_skip) (hk _ _ _ h)
theorem wp_exit {id:Nat} (h:Q (.exit id) a w):cwp P (.exit id) Q a w:=fun Z hZ b k cs hb hk=>by
 obtain⟨k',h1,h2⟩:=hk _ _ _ h;exact(Ctx.cl Z hZ).ctl rfl rfl (fun _=>stepG_exit h1) h2
theorem wp_ret (h:Q .ret a w):cwp P .ret Q a w:=fun Z hZ _b _k _cs _hb hk=>(Ctx.cl Z hZ).ctl rfl rfl (fun _=>stepG_ret') (hk _ _ _ h _)
theorem wp_seq {x y:Code} (h:cwp P x (Exit.then (cwp P y Q) Q) a w):cwp P (.seq x y) Q a w:=by
 intro Z hZ b k cs hb hk;refine(Ctx.cl Z hZ).ctl rfl rfl (fun _=>stepG_seq) (h Z hZ b (.code y::k) cs hb fun e a' w' he=>?_);cases e with
 |normal=>exact he Z hZ b k cs hb hk
 |exit id=>exact(hk _ _ _ he).push rfl (by simp)
 |goto l=>exact(hk _ _ _ he).push rfl (by simp)
 |ret=>exact(hk _ _ _ he).push rfl (by simp)
 |panic ch=>exact(hk _ _ _ he).push rfl (by simp)
 |outgrown=>exact(hk _ _ _ he).push rfl (by simp)
theorem wp_cond {c:Operand} {x y:Code} {t:Bool} (hc:a.eval c= .bool t) (h:cwp P (if t then x else y) Q a w):cwp P (.cond c x y) Q a w :=
 fun Z hZ b k cs hb hk=>(Ctx.cl Z hZ).ctl rfl rfl (fun _=>stepG_cond hc) (h Z hZ b k cs hb hk)
theorem wp_cond_true {c:Operand} {x y:Code} (hc:a.eval c= .bool true) (h:cwp P x Q a w):cwp P (.cond c x y) Q a w:=wp_cond hc h
theorem wp_cond_false {c:Operand} {x y:Code} (hc:a.eval c= .bool false) (h:cwp P y Q a w):cwp P (.cond c x y) Q a w:=wp_cond hc h
theorem wp_block {id:Nat} {c:Code} (h:cwp P c (Exit.inBlock id Q) a w):cwp P (.block id c) Q a w:=by
 intro Z hZ b k cs hb hk;refine(Ctx.cl Z hZ).ctl rfl rfl (fun _=>stepG_block) (h Z hZ b (.inBlock id::k) cs hb fun e a' w' he=>?_);cases e with
 |normal=>exact(Ctx.cl Z hZ).ctl rfl rfl (fun _=>stepG_inBlock) (hk _ _ _ he)
 |exit id'=>
  by_cases X3:id'=id
  ·simp only[Exit.inBlock,X3,if_true]at he;exact⟨k,by simp[exitTo,X3],hk _ _ _ he⟩
  ·simp only[Exit.inBlock,X3,if_false]at he;obtain⟨k',h1,h2⟩:=hk _ _ _ he;have:(id==id')=false:=by simp;exact fun h=>X3 h.symm
   exact⟨k',by simp[exitTo,this,h1],h2⟩
 |goto l=>
  obtain⟨k',h1,h2⟩:=hk _ _ _ he;exact⟨k',by simp[gotoIn,h1],h2⟩
 |ret=>exact hk _ _ _ he
 |panic ch=>exact hk _ _ _ he
 |outgrown=>exact hk _ _ _ he
theorem wp_loop_ghost {c:Code} (I:Nat->Act->World->Prop) (k₀:Nat) (h₀:I k₀ a w) (round:∀n a w,I n a w->cwp P c (Exit.then (fun a' w'=>∃n',n'<n/\I n' a' w') Q) a w):cwp P (.loop c) Q a w:=by
 intro Z hZ b k cs hb hk;have key:∀n a w,I n a w->Z (G (b.at a (.code c :: .inLoop c::k)) cs) w:=by
  intro n
  induction n using Nat.strongRecOn with
  |_ n ih=>
   intro a w hI;refine round n a w hI Z hZ b (.inLoop c::k) cs hb fun e a' w' he=>?_;cases e with
   |normal=>
    obtain⟨n',hn,hI'⟩:=he;exact(Ctx.cl Z hZ).ctl rfl rfl (fun _=>stepG_inLoop) (ih n' hn a' w' hI')
   |exit id=>exact(hk _ _ _ he).push rfl (by simp)
   |goto l=>exact(hk _ _ _ he).push rfl (by simp)
   |ret=>exact(hk _ _ _ he).push rfl (by simp)
   |panic ch=>exact(hk _ _ _ he).push rfl (by simp)
   |outgrown=>exact(hk _ _ _ he).push rfl (by simp)
 exact(Ctx.cl Z hZ).ctl rfl rfl (fun _=>stepG_loop) (key k₀ a w h₀)
theorem kw0 (pre:List Oper):∀(l:List Oper) (a:Act) (w:World),wpList P (pre++l).toArray Q l a w->wpOps P (pre++l).toArray Q ((List.range l.length).map (pre.length + ·)) a w
 | [],_,_,h=>h
 |o::l,a,w,h=>by
  have h0:(pre++o::l).toArray[pre.length]? =some o:=by simp
  have e:(List.range (o::l).length).map (pre.length + ·)=pre.length::(List.range l.length).map ((pre ++ [o]).length + ·):=by
   simp[List.range_succ_eq_map,List.map_map];intro x _;omega
  rw[e];unfold wpOps;rw[h0];simp only;unfold wpList at h;have key:∀a w,wpList P (pre++o::l).toArray Q l a w->wpOps P (pre++o::l).toArray Q ((List.range l.length).map ((pre ++ [o]).length + ·)) a w:=fun a w hh=>by
   have:=kw0 (pre ++ [o]) l a w;rw[List.append_assoc]at this;exact this hh
  split
  ·rename_i hw;rw[if_pos hw]at h;exact dy0 key (fun _ _ _ z=>z) h
  ·rename_i hw;rw[if_neg hw]at h;exact key _ _ h
theorem wp_region_lit {id:Nat} {l:List Oper} (h:wpList P l.toArray Q l a w):cwp P (.region id l.toArray false) Q a w:=by
 intro Z hZ b k cs hb hk;refine(Ctx.cl Z hZ).ctl rfl rfl (fun _=>stepG_region) (wp_ops _ _ _ ?_ Z hZ b k cs hb hk);have:=kw0 (P:=P) (Q:=Q) [] l a w;simp only[List.nil_append,List.length_nil,Nat.zero_add,List.map_id']at this;simpa using this h
theorem wp_region_draw {id:Nat} (h:∀t,wpOps P ops Q (Region.schedule (P.follows .mixedOrders) ops t) a {w with drawn:=w.drawn+1}):cwp P (.region id ops true) Q a w:=by
 intro Z hZ b k cs hb hk;refine(Ctx.cl Z hZ).own _ _ rfl fun τ d=>?_;refine⟨G (b.at a (.inRegion ops (Region.schedule (P.follows .mixedOrders) ops (τ d (.order b.fn id)))::k)) cs,{P2 w τ d with drawn:=d+1},w.drawn+1,⟨rfl,fun ρ x hx=>⟨⟨Nat.le_refl _,fun _ o ho=>⟨o,ho,J3.refl o⟩⟩,{x with drawn:=x.drawn+1},#[],?_,?_,fun e he=>by simp at he⟩⟩,wp_ops _ _ _ (h _) Z hZ b k cs hb hk⟩
 ·rw[stepG_region_draw,hx.tape,hx.drawn];rfl
 ·exact⟨hx.os,hx.output,hx.tape,by show x.drawn+1=d+1;rw[hx.drawn];rfl,hx.size,hx.obj,hx.new,hx.A6⟩
def bodyPost (P:Program) [Ctx P] (fn:Func) (R:Ending->World->Prop):Exit->Act->World->Prop
 | .normal,a,w| .ret,a,w=>a.defers=[]/\∃v,ah0 P fn a.tmps w v/\R (.returned v) w
 | .panic chain,a,w=>a.defers=[]/\R (.panicked chain) w
 |_,_,_=>False
theorem calls_of_wp {f:FuncId} {fn:Func} {c:Code} {args:Array Value} {R:Ending->World->Prop} (hf:P.funcs[f]? =some fn) (hb:fn.body=some c)
  (h:cwp P c (bodyPost P fn R) {tmps:=args++Array.replicate (fn.ntmps-args.size) undef,defers:=[]} w):Calls P f args w R:=by
 intro Z hZ cs hk;rw[enter_at args hf hb];refine h Z hZ (base f) [] cs (by simp[base]) fun e a' w' he=>?_;have aw0:∀a' w' todo,(a'.defers=[]/\∃v,ah0 P fn a'.tmps w' v/\R (.returned v) w')->Z (G {(base f).at a' todo with mode:=.returning} cs) w':=fun a' w' todo ⟨hd,v,hr,hR⟩=>
  hk _ _ _ hR rfl ⟨rfl,hd,rfl,fn,hf,hr⟩
 cases e with
 |normal=>exact(Ctx.cl Z hZ).ctl rfl rfl (fun _=>stepG_end) (aw0 a' w' [] he)
 |ret=>exact fun todo=>aw0 a' w' todo he
 |panic chain=>exact fun todo=>hk _ _ _ he.2 rfl ⟨rfl,he.1,by simp[Frame.catches,Frame.at,base,hf]⟩
 |exit id=>exact he.elim
 |goto l=>exact he.elim
 |outgrown=>exact he.elim
end
end Go.Vy
end
section
namespace Go.Yc
open Go
section
theorem J1 {α:Type} {P:Program} (a:α):B1 P (pure a:Sem α):=trivial
theorem D1 {α β:Type} {P:Program} {s:Sem α} {f:α->Sem β} (h:B1 P s) (hf:∀a,B1 P (f a)):B1 P (s >>=f):=l6 hf h
theorem Nn0 {α β:Type} {P:Program} {s:Sem α} {f:α->β} (h:B1 P s):B1 P (f <$> s):=l6 (f:=fun a=>pure (f a)) (fun _=>trivial) h
theorem Z3 {α:Type} {P:Program} (h:Halt):B1 P (.halt h:Sem α):=trivial
theorem Dz0 {P:Program} (a:Addr) (m:Mode):B1 P (load a m):=fun _=>trivial
theorem tf0 {P:Program} (a:Addr) (v:Value) (m:Mode):B1 P (store a v m):=trivial
theorem No0 {P:Program} {o:Obj} (h:S3 o=false):B1 P (newObj o):=⟨h,fun _=>trivial⟩
theorem fq0 {P:Program} (q:Question):B1 P (choose q):=fun _=>trivial
theorem ho0 {P:Program}:B1 P program:=trivial
theorem vc0 {P:Program} (r:Nat):B1 P (getObj r):=fun _=>trivial
theorem tg0 {α:Type} {P:Program} (s:String):B1 P (stuck s:Sem α):=trivial
theorem ep0 {α:Type} {P:Program} (s:Unsupported):B1 P (unsupported s:Sem α):=trivial
theorem px0 {P:Program} (n:Nat):B1 P (askRoom n):=by
 unfold askRoom;split
 ·show(if xf0 Mark.noRoom=true then B1 P (Sem.pure ()) else dead P (Sem.pure ()));exact trivial
 ·trivial
theorem Ea0 {α β:Type} {P:Program} {f:α->Sem β} (hf:∀a,B1 P (f a)):∀(l:List α),B1 P (l.mapM f)
 | []=>by rw[List.mapM_nil];trivial
 |x::l=>by
  rw[List.mapM_cons];exact D1 (hf x) fun _=>D1 (Ea0 hf l) fun _=>trivial
theorem O1 {α β:Type} {P:Program} {f:α->Sem β} (hf:∀a,B1 P (f a)) (l:Array α):B1 P (l.mapM f):=by
 rw[Array.mapM_eq_mapM_toList];exact Nn0 (Ea0 hf _)
attribute [local irreducible] B1 dead
theorem N9 {P:Program} (t:TypeId):B1 P (typeInfo t):=by
 unfold typeInfo
 repeat' (first|exact J1 _|exact Z3 _|exact ho0|(refine D1 ?_ (fun _=>?_))|(refine O1 (fun _=>?_) _)|split|(dsimp only))
theorem O2 {P:Program} (t:TypeId):B1 P (underlying t):=by
 unfold underlying
 repeat' (first|exact J1 _|exact Z3 _|exact ho0|(refine D1 ?_ (fun _=>?_))|(refine O1 (fun _=>?_) _)|split|(dsimp only))
theorem C8 {P:Program} (t:TypeId):B1 P (zeroValue t):=by
 unfold zeroValue
 repeat' (first|exact J1 _|exact Z3 _|exact N9 _|(refine D1 ?_ (fun _=>?_))|(refine O1 (fun _=>?_) _)|split|(dsimp only))
theorem E6 {P:Program} (t:TypeId):B1 P (sizeOf t):=by
 unfold sizeOf
 repeat' (first|exact J1 _|exact N9 _|(refine D1 ?_ (fun _=>?_))|(refine O1 (fun _=>?_) _)|split|(dsimp only))
theorem zu0 {P:Program} (t:TypeId):B1 P (isAgg t):=by
 unfold isAgg
 repeat' (first|exact J1 _|exact O2 _|(refine D1 ?_ (fun _=>?_))|(refine O1 (fun _=>?_) _)|split|(dsimp only))
theorem co0 {P:Program} (a:Addr):∀(n i:Nat) (acc:Array Value),B1 P (loadCellsFrom a i n acc)
 |0,_,_=>by unfold loadCellsFrom;exact J1 _
 |n+1,i,acc=>by
  unfold loadCellsFrom;exact D1 (Dz0 _ _) fun _=>co0 a n _ _
theorem ix0 {P:Program} (a:Addr) (n:Nat):B1 P (loadCells a n):=by
 unfold loadCells
 repeat' (first|exact co0 _ _ _ _|(refine D1 ?_ (fun _=>?_))|(refine O1 (fun _=>?_) _)|split|(dsimp only))
theorem p9 {P:Program} (a:Addr):∀(vs:List Value) (i:Nat),B1 P (storeCells a vs i)
 | [],_=>by unfold storeCells;exact J1 _
 |v::vs,i=>by
  unfold storeCells;exact D1 (tf0 _ _ _) fun _=>p9 a vs _
theorem py0 {P:Program} (t:TypeId) (a:Addr):B1 P (loadVar t a):=by
 unfold loadVar
 repeat' (first|exact J1 _|exact ix0 _ _|exact zu0 _|exact E6 _|exact Dz0 _ _|(refine D1 ?_ (fun _=>?_))|(refine O1 (fun _=>?_) _)|split|(dsimp only))
theorem kx0 {P:Program} (t:TypeId) (a:Addr) (v:Value):B1 P (storeVar t a v):=by
 unfold storeVar
 repeat' (first|exact Z3 _|exact p9 _ _ _|exact E6 _|(refine D1 ?_ (fun _=>?_))|(refine O1 (fun _=>?_) _)|split|(dsimp only))
theorem fr0 {P:Program} (t:TypeId) (c:Array Value):B1 P (newRow t c):=by
 unfold newRow
 repeat' (first|exact J1 _|exact No0 rfl|(refine D1 ?_ (fun _=>?_))|(refine O1 (fun _=>?_) _)|split|(dsimp only))
theorem ky0 {P:Program} (t:TypeId) (v:Value):B1 P (newVar t v):=by
 unfold newVar
 repeat' (first|exact fr0 _ _|(refine D1 ?_ (fun _=>?_))|(refine O1 (fun _=>?_) _)|split|(dsimp only))
theorem Eb0 {P:Program} (t:TypeId):B1 P (elemOf t):=by
 unfold elemOf
 repeat' (first|exact J1 _|exact Z3 _|exact O2 _|(refine D1 ?_ (fun _=>?_))|(refine O1 (fun _=>?_) _)|split|(dsimp only))
theorem Pp0 {P:Program} (t:TypeId) (c:Array Value) (o:Nat):B1 P (part t c o):=by
 unfold part
 repeat' (first|exact J1 _|exact Z3 _|exact zu0 _|exact E6 _|(refine D1 ?_ (fun _=>?_))|(refine O1 (fun _=>?_) _)|split|(dsimp only))
theorem e5 {α:Type} {P:Program} (e:RuntimeError):B1 P (runtimePanic e:Sem α):=by
 unfold runtimePanic
 repeat' (first|exact Z3 _|exact Eb0 _|exact ky0 _ _|exact ho0|(refine D1 ?_ (fun _=>?_))|(refine O1 (fun _=>?_) _)|split|(dsimp only))
theorem eq0 {α:Type} {P:Program} (k:IntKind) (x y:Int) (c:BoundsCode):B1 P (boundsPanic k x y c:Sem α):=by
 unfold boundsPanic
 repeat' (first|exact J1 _|exact Nn0 (fq0 _)|exact e5 _|exact fq0 _|(refine D1 ?_ (fun _=>?_))|(refine O1 (fun _=>?_) _)|split|(dsimp only))
theorem ht0 {P:Program} (v:Value):B1 P (asIntOf v):=by
 unfold asIntOf
 repeat' (first|exact J1 _|exact Z3 _|(refine D1 ?_ (fun _=>?_))|(refine O1 (fun _=>?_) _)|split|(dsimp only))
theorem th0 {P:Program} (v:Value):B1 P (asInt v):=by
 unfold asInt
 repeat' (first|exact J1 _|exact ht0 _|(refine D1 ?_ (fun _=>?_))|(refine O1 (fun _=>?_) _)|split|(dsimp only))
theorem Ec0 {P:Program} (v:Value):B1 P (asBool v):=by
 unfold asBool
 repeat' (first|exact J1 _|exact Z3 _|(refine D1 ?_ (fun _=>?_))|(refine O1 (fun _=>?_) _)|split|(dsimp only))
theorem Jz0 {P:Program} (v:Value):B1 P (asAgg v):=by
 unfold asAgg
 repeat' (first|exact J1 _|exact Z3 _|(refine D1 ?_ (fun _=>?_))|(refine O1 (fun _=>?_) _)|split|(dsimp only))
theorem fs0 {P:Program} (v:Value):B1 P (asAddr v):=by
 unfold asAddr
 repeat' (first|exact J1 _|exact Z3 _|exact e5 _|(refine D1 ?_ (fun _=>?_))|(refine O1 (fun _=>?_) _)|split|(dsimp only))
theorem Ka0 {P:Program} (t:TypeId) (h:Bool) (o:Value):B1 P (Instr.alloc t h o):=by
 unfold Instr.alloc
 repeat' (first|exact J1 _|exact ky0 _ _|exact kx0 _ _ _|exact C8 _|(refine D1 ?_ (fun _=>?_))|(refine O1 (fun _=>?_) _)|split|(dsimp only))
theorem Uq0 {P:Program} (t:TypeId) (v:Value):B1 P (Instr.box t v):=by
 unfold Instr.box
 repeat' (first|exact J1 _|exact ky0 _ _|(refine D1 ?_ (fun _=>?_))|(refine O1 (fun _=>?_) _)|split|(dsimp only))
theorem Kb0 {P:Program} (t:TypeId) (p:Array (Nat×Value)):B1 P (Instr.build t p):=by
 unfold Instr.build
 repeat' (first|exact J1 _|exact Z3 _|exact E6 _|exact C8 _|exact O2 _|(refine D1 ?_ (fun _=>?_))|(refine O1 (fun _=>?_) _)|split|(dsimp only))
theorem ti0 {P:Program} (t:TypeId) (n:Nat) (p:Array (Nat×Value)):B1 P (Instr.buildSlice t n p):=by
 unfold Instr.buildSlice
 repeat' (first|exact J1 _|exact Z3 _|exact fr0 _ _|exact E6 _|exact C8 _|exact O2 _|(refine D1 ?_ (fun _=>?_))|(refine O1 (fun _=>?_) _)|split|(dsimp only))
theorem O9 {P:Program} (v:Value):B1 P (Instr.sureAddr v):=by
 unfold Instr.sureAddr
 repeat' (first|exact J1 _|exact Z3 _|(refine D1 ?_ (fun _=>?_))|(refine O1 (fun _=>?_) _)|split|(dsimp only))
theorem Ed0 {P:Program} (t:TypeId) (v:Value):B1 P (Instr.loadAt t v):=by
 unfold Instr.loadAt
 repeat' (first|exact O9 _|exact py0 _ _|(refine D1 ?_ (fun _=>?_))|(refine O1 (fun _=>?_) _)|split|(dsimp only))
theorem Bo0 {P:Program} (t:TypeId) (v x:Value):B1 P (Instr.storeAt t v x):=by
 unfold Instr.storeAt
 repeat' (first|exact O9 _|exact kx0 _ _ _|(refine D1 ?_ (fun _=>?_))|(refine O1 (fun _=>?_) _)|split|(dsimp only))
theorem Bp0 {P:Program} (t:TypeId) (v x:Value):B1 P (Instr.indexAt t v x):=by
 unfold Instr.indexAt
 repeat' (first|exact J1 _|exact Z3 _|exact O9 _|exact ht0 _|exact eq0 _ _ _ _|exact E6 _|exact O2 _|(refine D1 ?_ (fun _=>?_))|(refine O1 (fun _=>?_) _)|split|(dsimp only))
theorem Bq0 {P:Program} (v:Value) (n:Nat):B1 P (Instr.extract v n):=by
 unfold Instr.extract
 repeat' (first|exact J1 _|exact Z3 _|(refine D1 ?_ (fun _=>?_))|(refine O1 (fun _=>?_) _)|split|(dsimp only))
theorem Kc0 {P:Program} (t:TypeId) (v:Value) (n:Nat):B1 P (Instr.field t v n):=by
 unfold Instr.field
 repeat' (first|exact Z3 _|exact Jz0 _|exact Pp0 _ _ _|exact O2 _|(refine D1 ?_ (fun _=>?_))|(refine O1 (fun _=>?_) _)|split|(dsimp only))
theorem jv0 {P:Program} (t:TypeId) (v:Value):B1 P (Instr.makeInterface t v):=by
 unfold Instr.makeInterface
 repeat' (first|exact J1 _|exact Z3 _|exact O2 _|(refine D1 ?_ (fun _=>?_))|(refine O1 (fun _=>?_) _)|split|(dsimp only))
theorem vd0 {P:Program} (t:TypeId) (a b:Value):B1 P (Instr.makeSlice t a b):=by
 unfold Instr.makeSlice
 repeat' (first|exact J1 _|exact Z3 _|exact th0 _|exact e5 _|exact fr0 _ _|exact E6 _|exact C8 _|exact O2 _|exact N9 _|exact px0 _|exact fq0 _|(refine D1 ?_ (fun _=>?_))|(refine O1 (fun _=>?_) _)|split|(dsimp only))
theorem xk0 {P:Program} (t:TypeId) (a:Value):B1 P (Instr.makeChan t a):=by
 unfold Instr.makeChan
 repeat' (first|exact J1 _|exact Z3 _|exact th0 _|exact e5 _|exact O2 _|exact N9 _|exact No0 rfl|(refine D1 ?_ (fun _=>?_))|(refine O1 (fun _=>?_) _)|split|(dsimp only))
theorem tj0 {P:Program} (x:Value) (y:Nat) (c:BoundsCode):B1 P (Instr.sliceBound x y c):=by
 unfold Instr.sliceBound
 repeat' (first|exact J1 _|exact ht0 _|exact eq0 _ _ _ _|(refine D1 ?_ (fun _=>?_))|(refine O1 (fun _=>?_) _)|split|(dsimp only))
theorem er0 {P:Program} (b:Bool) (l c:Nat) (x y z:Option Value):B1 P (Instr.sliceBounds b l c x y z):=by
 unfold Instr.sliceBounds
 repeat' (first|exact J1 _|exact Z3 _|exact tj0 _ _ _|(refine D1 ?_ (fun _=>?_))|(refine O1 (fun _=>?_) _)|split|(dsimp only))
theorem Kd0 {P:Program} (t:TypeId) (v:Value) (x y z:Option Value):B1 P (Instr.slice t v x y z):=by
 unfold Instr.slice
 repeat' (first|exact J1 _|exact Z3 _|exact er0 _ _ _ _ _ _|exact fs0 _|exact E6 _|exact O2 _|(refine D1 ?_ (fun _=>?_))|(refine O1 (fun _=>?_) _)|split|(dsimp only))
theorem Br0 {P:Program} (t:TypeId) (v:Value) (x y z:Option Value):B1 P (Instr.sliceAt t v x y z):=by
 unfold Instr.sliceAt
 repeat' (first|exact J1 _|exact Kd0 _ _ _ _ _|exact er0 _ _ _ _ _ _|exact O9 _|exact E6 _|exact O2 _|(refine D1 ?_ (fun _=>?_))|(refine O1 (fun _=>?_) _)|split|(dsimp only))
theorem Ke0 {P:Program} (o:UnOp) (x:Value):B1 P (Op.unary o x):=by
 unfold Op.unary
 repeat' (first|exact J1 _|exact Z3 _|(refine D1 ?_ (fun _=>?_))|(refine O1 (fun _=>?_) _)|split|(dsimp only))
theorem zv0 {P:Program} (x:Value):B1 P (Builtin.lenOf x):=by
 unfold Builtin.lenOf
 repeat' (first|exact J1 _|exact Z3 _|(refine D1 ?_ (fun _=>?_))|(refine O1 (fun _=>?_) _)|split|(dsimp only))
theorem ft0 {P:Program} (s n:Nat) (x:Value):B1 P (Builtin.firstCells s n x):=by
 unfold Builtin.firstCells
 repeat' (first|exact J1 _|exact Z3 _|exact ix0 _ _|(refine D1 ?_ (fun _=>?_))|(refine O1 (fun _=>?_) _)|split|(dsimp only))
theorem Ur0 {P:Program} (a:Array TypeId) (t:TypeId) (x:Array Value):B1 P (Builtin.len_ a t x):=by
 unfold Builtin.len_
 repeat' (first|exact J1 _|exact Z3 _|exact O2 _|exact vc0 _|(refine D1 ?_ (fun _=>?_))|(refine O1 (fun _=>?_) _)|split|(dsimp only))
theorem Us0 {P:Program} (a:Array TypeId) (t:TypeId) (x:Array Value):B1 P (Builtin.cap_ a t x):=by
 unfold Builtin.cap_
 repeat' (first|exact J1 _|exact Z3 _|exact O2 _|exact vc0 _|(refine D1 ?_ (fun _=>?_))|(refine O1 (fun _=>?_) _)|split|(dsimp only))
theorem Pq0 {P:Program} (a:Array TypeId) (t:TypeId) (x:Array Value):B1 P (Builtin.copy_ a t x):=by
 unfold Builtin.copy_
 repeat' (first|exact J1 _|exact Z3 _|exact ft0 _ _ _|exact zv0 _|exact p9 _ _ _|exact E6 _|exact O2 _|(refine D1 ?_ (fun _=>?_))|(refine O1 (fun _=>?_) _)|split|(dsimp only))
end
end Go.Yc
end
section
namespace Go.Vc
open Go
abbrev Env:=Nat->Value
def upd (e:Env) (d:Nat) (v:Value):Env:=fun t=>if t=d then v else e t
def T2 (e:Env) (d:Option Nat) (v:Value):Env:=match d with|some d=>upd e d v|none=>e
def ev (e:Env) (x:Operand):Value:=match x with
 | .tmp t=>e t
 | .const v=>v
 | .global g=>.pointer (some ⟨g,0,none⟩)
 | .func f=>.func (.func f) #[] #[]
theorem upd_same (e:Env) (d:Nat) (v:Value):upd e d v d=v:=if_pos rfl
theorem upd_ne (e:Env) {d t:Nat} (v:Value) (h:t≠d):upd e d v t=e t:=if_neg h
theorem K1 {e:Env} {t:Nat} {v:Value} (h:e t=v):e=upd e t v:=by
 funext s;unfold upd;split
 ·rename_i hs;rw[hs,h]
 ·rfl
structure Rep (n:Nat) (a:Act) (e:Env):Prop where
 size:a.tmps.size=n
 defers:a.defers=[]
 get:∀t,a.tmps.getD t undef=e t
theorem Rep.eval {n:Nat} {a:Act} {e:Env} (h:Rep n a e):a.eval=ev e:=by
 funext x;cases x <;> simp[Act.eval,ev,h.get]
def j4 (n:Nat) (d:Option Nat):Bool:=match d with|some d=>Nat.blt d n|none=>true
theorem Rep.put {n:Nat} {a:Act} {e:Env} (h:Rep n a e) {d:Option Nat} (hd:j4 n d=true) (v:Value):Rep n (a.put d v) (T2 e d v):=by
 cases d with
 |none=>exact h
 |some d=>
  have I5:d<n:=by simpa [j4,Nat.blt_eq]using hd
  refine⟨by simp[Act.put,h.size],by simp[Act.put,h.defers],fun t=>?_⟩;have hg:=h.get t;simp only[Act.put,T2,upd,Array.getD_eq_getD_getElem?,Array.getElem?_setIfInBounds]at hg⊢;by_cases htd:t=d
  ·subst htd;simp[h.size,I5]
  ·simp only[htd,if_false,Ne.symm htd];exact hg
def lift (n:Nat) (Q:Exit->Env->World->Prop):Exit->Act->World->Prop:=fun x a w=>∃e,Rep n a e/\Q x e w
def g9 (next:Env->World->Prop) (Q:Exit->Env->World->Prop):Exit->Env->World->Prop
 | .normal,e,w=>next e w
 |x,e,w=>Q x e w
def P9 (id:Nat) (Q:Exit->Env->World->Prop):Exit->Env->World->Prop
 | .exit id',e,w=>if id'=id then Q .normal e w else Q (.exit id') e w
 |x,e,w=>Q x e w
section
variable {n:Nat}{e:Env}{w:World}
def Kf0 (n:Nat) (l:List Oper):Bool:=l.all fun o=>j4 n o.dst
variable {ops:Array Oper}{o:Oper}{v:Value}
def R2 (ops:Array Oper) (e:Env) (j:Nat):Option Bool :=
 match(ops[j]?).bind (·.dst)with
 |some t=>match e t with| .bool b=>some b|_=>none
 |none=>none
theorem iy0 {a:Act} (ha:Rep n a e) (j:Nat):yielded ops a.tmps j=R2 ops e j:=by
 unfold yielded R2;cases h:(ops[j]?).bind (·.dst)with
 |none=>simp
 |some t=>
  have hg:=ha.get t;simp only[Option.bind_some,Array.getD_eq_getD_getElem?]at hg⊢;cases h2:a.tmps[t]? with
  |none=>rw[h2]at hg;simp only[Option.getD_none]at hg;rw[<- hg];rfl
  |some u=>rw[h2]at hg;simp only[Option.getD_some]at hg;rw[<- hg];cases u <;> rfl
theorem j5 {a:Act} (ha:Rep n a e) (o:Oper):Region.wanted o (yielded ops a.tmps)=Region.wanted o (R2 ops e):=by
 have:yielded ops a.tmps=R2 ops e:=funext (iy0 ha);rw[this]
def Ret (R:Value->World->Prop):Ending->World->Prop
 | .returned v,w=>R v w
 |_,_=>False
end
section
end
def hav (G:List Nat) (f e:Env):Env:=fun t=>if G.contains t then f t else e t
def V0 (G:List Nat) (e' e:Env):Prop:=∀t,G.contains t=false->e' t=e t
theorem V0.refl (G:List Nat) (e:Env):V0 G e e:=fun _ _=>rfl
theorem V0.upd {G:List Nat} {e' e:Env} {d:Nat} {v:Value} (hd:G.contains d=true) (h:V0 G e' e):V0 G (upd e' d v) e:=fun t ht=>by
 have:t≠d:=fun h=>by subst h;rw[hd]at ht;cases ht
 rw[upd_ne _ _ this];exact h t ht
theorem V0.out {G:List Nat} {e' e:Env} (h:V0 G e' e):∃f,e'=hav G f e:=⟨e',by
 funext t;unfold hav;split
 ·rfl
 ·rename_i ht;exact h t (by simpa using ht)⟩
section
end
end Go.Vc
end
