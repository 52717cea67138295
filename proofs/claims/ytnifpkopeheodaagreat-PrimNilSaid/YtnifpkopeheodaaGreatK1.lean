/- What the claim leans on, part 1. Laws. -/
import Derived.Conc.TokenTrace
import GoSem.Claim
import Derived.Below
import Derived.Conc.Token
import Derived.Conc.Listed
import Derived.Orders
import Derived.Deep.LoopGhost
import Derived.Conc.CompanyDraw
import GoSem.Dispatch
import Derived.WalkKit
set_option linter.unusedVariables false
namespace Go
structure B(Q:Prop):Prop where
  v:Q
section
variable{P Q:Prop}
theorem U46(h:P:=by refine AtR.leaveD (j0 _) rfl Tryz.func68 rfl hcm ?_;exact QuitsD.mono hT (by omega)):P:=h
theorem U14(h:P:=by refine U10 ?_;exact⟨rfl,hb⟩):P:=h
theorem U370(h:P:=by refine U98 ?_;exact⟨_,by omega,⟨i+1,a2,q+1,cp2,rfl,rfl,rfl,rfl,rfl,rfl,rfl,(by omega),(by rw[hrl,List.length_append,hq];rfl),(by rw[hrl,List.map_append];simpa [Fc0,hc]using hO2),hb⟩⟩):P:=h
theorem U373(h:P:=by rw[Ha0 h8 hP];exact⟨hp,m7.mem.set hp (sa:=sa) (by decide) (by decide) (j1 o) (o9.of o3) (.inl rfl) (by unfold Z6;simp only[lo0];exact hB) rfl fun _ _ _ _ _ _ h=>Ap0 h⟩):P:=h
theorem U374(h:P:=by rw[Hb0 h8 hP];exact⟨hp,m7.mem.set hp (sa:=sa) (by decide) (by decide) (j1 o) (o9.of o3) (.inl rfl) (by unfold Z6;simp only[lo0];exact hB) rfl fun _ _ _ _ _ _ h=>Ap0 h⟩):P:=h
theorem U375(h:P:=by rw[hm.hit j p t hp hd (N6 j hj)];exact(wp0 e0 ops.toList vals t j p (by rw[hlz];exact hp) hd (fun i' p' hp' J5=>h.one i' j p' p t (by rw[<- hlz];exact hp') hp J5 hd) _ hj).symm):P:=h
theorem U188(h:P:=by refine U59 ?_;exact⟨rfl,u0,F',h',r',⟨hK,G8⟩,hC0,hCn,o3,ht⟩):P:=h
theorem U189(h:P:=by refine AtR.Em0 K2 rfl Tryz.func70 rfl ?_;exact Pt0 hK):P:=h
theorem U270(h:P:=by refine U67 ?_;exact⟨rfl,hb⟩):P:=h
theorem U413(h:P:=by refine U98 ?_;exact⟨_,by omega,⟨i+1,a,q,cp,rfl,rfl,rfl,rfl,rfl,rfl,rfl,(by omega),(by rw[hrl];exact hq),(by rw[hrl];exact hO),hb⟩⟩):P:=h
theorem U417(h:P:=by rw[uo0 (V:=V) h.bk (.cons hi0 hl) i (by omega) hs N6 (fun j hj=>hkf j hj) bu0 hV];exact hQ a w e ha (fin N6 hkf hI hsf)):P:=h
theorem U84(h:P:=by refine U59 ?_;exact⟨rfl,an0⟩):P:=h
theorem U446(h:P:=by have hin:=zp0 x hx hb;exact ho.nodup pre x.on r hI.cat (by rw[hq];exact List.mem_append_left _ hin)):P:=h
theorem U450(h:P:=by refine ZA.done hZ ?_;exact ZA.leaves (fn:=Tryz.f83) (f:=83) rfl Tryz.func83 rfl (fun fr h8 h9=>hK _ fr h2 h8 h9)):P:=h
theorem U496(h:P:=by refine L.va (F0 rfl Tryz.underlying2 rfl (D3.A0 0 (v:=.int .i64 0) rfl)) ?_;exact U14):P:=h
theorem U508(h:P:=by refine L.ul0 hx hy Jm0 hs (by simpa using hl) (by simpa using h1) hB ho ?_;rw[List.toList_toArray,hcs];exact k _ (il0 _ _ _ hB) (Pa0 (ad0 _ _) (.inl rfl) _ _) (ik0 _ _ _ _)):P:=h
theorem U509(h:P:=by rw[if_neg (by omega),if_neg (by omega)];exact h1.new b (by show u.heap.size <=b;omega)):P:=h
theorem U204(h:P:=by have hb:=N0 hb I1;exact U14):P:=h
theorem U206(h:P:=by refine U193 ?_;exact⟨rfl,hC,o3⟩):P:=h
theorem U534(h:P:=by rw[<- hv];exact next w (hl (fun j=>listed.getD j false) w hDi hVD dw0 hJ)):P:=h
theorem U297(h:P:=by refine U113 ?_;exact⟨b15,rfl,Lr0,yf0,hb⟩):P:=h
theorem U119(h:P:=by refine U30 ?_;refine U71 ?_;exact⟨_,rfl,by simp only[decide_eq_true_eq];unfold P8;omega,hb⟩):P:=h
theorem U553(h:P:=by have hZ':Ctx.Zs Tryz.prog (Fin Tryz.prog Post {X' with pend:=0,cap:=0,dn:=0} 0):=V3;refine ZA.back (am0 Tryz.prog Post {X' with pend:=0,cap:=0,dn:=0} 0) (i:=1) rfl rfl ha h9 ?_;exact Kl0 hE hT hJ' (by rw[<- q9];rfl) rfl):P:=h
theorem U301(h:P:=by refine U10 ?_;exact⟨F',tt,hgn,htt,rfl⟩):P:=h
theorem U302(h:P:=by refine U102 ?_;exact U270):P:=h
theorem U208(h:P:=by refine U118 ?_;intro hb;exact U302):P:=h
theorem U305(h:P:=by refine U113 ?_;exact⟨b2,rfl,lt2,u6,hb⟩):P:=h
theorem U567(h:P:=by refine AtR.Em0 Y0 rfl Tryz.func66 rfl ?_;exact En0 hK):P:=h
theorem U210(h:P:=by refine U10 ?_;exact⟨s1,r1,m7,p8,hl1,rfl⟩):P:=h
theorem U575(h:P:=by rw[ht];exact(upd_same _ _ _).trans (hu t ht).symm):P:=h
theorem U219(h:P:=by have G5:=e8.el0 hB1 hg;have hB1:=B1;refine U193 ?_;exact⟨rfl,hB1,hg⟩):P:=h
theorem U313(h:P:=by refine U193 ?_;exact⟨rfl,hC,hg⟩):P:=h
variable(k:Q)
include k
theorem U3(h:Q->P:=by intro O;refine W.seq ?_;exact W.region rfl O):P:=h k
theorem U7(h:Q->P:=by intro O;refine L.nil ?_;show W _ _ _ _ _ _;exact O):P:=h k
theorem U30(h:Q->P:=by intro O;refine L.va (fi0 rfl) ?_;exact U7 O):P:=h k
theorem U67(h:Q->P:=by intro O;(repeat(first|refine T.nrm ?_|refine B.nrm ?_|refine N.nrm ?_));exact ends.none (.inl rfl) rfl O):P:=h k
theorem U68(h:Q->P:=by intro O;refine U3 ?_;exact L.va (O0 rfl Tryz.underlying52 rfl sz3 (by decide)) O):P:=h k
theorem U98(h:Q->P:=by intro O;refine L.nil ?_;exact T.nrm O):P:=h k
theorem U99(h:Q->P:=by intro O;refine U3 ?_;exact L.va (C5 rfl) O):P:=h k
theorem U34(h:Q->P:=by intro O;refine L.va (cb0 rfl) ?_;exact U7 O):P:=h k
theorem U222(h:Q->P:=by intro O;refine I0.off (j0 _) rfl rfl ?_;exact I0.off (j0 _) rfl rfl O):P:=h k
theorem U35(h:Q->P:=by intro O;refine L.off rfl ?_;exact L.off rfl O):P:=h k
theorem U100(h:Q->P:=by intro O;refine ZA.W hZ hb ?_;exact W.region rfl O):P:=h k
theorem U141(h:Q->P:=by intro O;refine At.seq (j0 _) ?_;exact At.region (j0 _) O):P:=h k
theorem U4(h:Q->P:=by intro O;have hb:Below w0.heap.size w0 w0:=Below.refl _ _;refine U3 ?_;revert hb;exact O):P:=h k
theorem U2(h:Q->P:=by intro O;refine U98 ?_;show ZA _ _ _ _ _ _ _;exact O):P:=h k
theorem U314(h:Q->P:=by intro O;refine W.v5 rfl ?_;exact W.skip O):P:=h k
theorem U223(h:Q->P:=by intro O;refine B.nrm ?_;show W _ _ _ _ _ _;exact O):P:=h k
theorem U315(h:Q->P:=by intro O;refine U222 ?_;exact I0.val (j0 _) (Z0 _) rfl (v:=.bool false) (bg0 rfl rfl) O):P:=h k
theorem U36(h:Q->P:=by intro O;refine U7 ?_;exact W.J4 rfl O):P:=h k
theorem U316(h:Q->P:=by intro O;refine F.va rfl rfl (fun w' u3=>(m3 rfl)) ?_;exact F.va rfl rfl (fun w' u3=>(C5 rfl)) O):P:=h k
theorem U317(h:Q->P:=by intro O;have G5:=e8.el0 L1 hg;have hb:=K4 hb hb.size hg N8;revert G5 hb;exact O):P:=h k
theorem U318(h:Q->P:=by intro O;refine D.va (fun w' u3=>(F0 rfl Tryz.underlying91 rfl ((hA.E0 u3).A0 0 (v:=.p c.cb) rfl))) ?_;exact D.va (fun w' u3=>(u1 rfl)) O):P:=h k
theorem U15(h:Q->P:=by intro O;refine L.va (m3 rfl) ?_;exact L.va (u1 rfl) O):P:=h k
theorem U319(h:Q->P:=by intro O;refine I0.val (j0 _) (Z0 _) rfl (v:=.bool false) (l7 (r:=false) rfl rfl (by decide)) ?_;exact I0.val (j0 _) (Z0 _) rfl (v:=.bool false) (J0 rfl) O):P:=h k
theorem U224(h:Q->P:=by intro O;refine L.va (cb0 rfl) ?_;exact U98 O):P:=h k
theorem U320(h:Q->P:=by intro O;show W _ _ _ _ _ _;exact W.seq O):P:=h k
theorem U321(h:Q->P:=by intro O;refine I0.nil (j0 _) ?_;exact At.v5 (j0 _) rfl O):P:=h k
theorem U322(h:Q->P:=by intro O;refine U30 ?_;exact W.v5 rfl O):P:=h k
theorem U69(h:Q->P:=by intro O;refine U99 ?_;exact L.va (C5 rfl) O):P:=h k
theorem U6(h:Q->P:=by intro O;refine ZA.seq hZ ?_;exact U100 O):P:=h k
theorem U323(h:Q->P:=by intro O;refine I0.val B2 (Z0 _) rfl (v:=.pointer (some ⟨gr.blk,gr.off,none⟩)) (J0 rfl) ?_;exact I0.val B2 (Z0 _) rfl (v:=.pointer (some ⟨gr.blk,gr.off,none⟩)) (I3 rfl) O):P:=h k
theorem U142(h:Q->P:=by intro O;have hb:=N0 hb I1;have hT:=hT.E0 I1;revert hb hT;exact O):P:=h k
theorem U225(h:Q->P:=by intro O;refine I0.E8 (j0 _) (Z0 _) rfl rfl (v:=.bool false) (bx0 (r:=false) rfl rfl (by decide)) ?_;exact I0.val (j0 _) (Z0 _) rfl (v:=.bool false) (R7 rfl rfl) O):P:=h k
theorem U143(h:Q->P:=by intro O;refine L.va (G0 (cs:=[.int .i64 obj,.int .i64 num]) rfl Tryz.underlying107 rfl fw0 rfl (hC.J1 rfl)) ?_;exact L.va (m3 rfl) O):P:=h k
theorem U70(h:Q->P:=by intro O;refine At.seq (Q0 _ gr 2) ?_;exact At.region (Q0 _ gr 2) O):P:=h k
theorem U144(h:Q->P:=by intro O;refine U35 ?_;exact L.va (b9 rfl) O):P:=h k
theorem U71(h:Q->P:=by intro O;refine W.ret ?_;(repeat(first|refine T.ret ?_|refine B.ret ?_|refine N.ret ?_));exact ends.one (.inr rfl) rfl O):P:=h k
theorem U44(h:Q->P:=by intro O;refine L.va (m3 rfl) ?_;exact L.va (C5 rfl) O):P:=h k
theorem U324(h:Q->P:=by intro O;refine U320 ?_;exact W.block O):P:=h k
theorem U45(h:Q->P:=by intro O;refine At.seq (j0 _) ?_;exact U141 O):P:=h k
theorem U226(h:Q->P:=by intro O;refine L.va (ij0 rfl) ?_;exact U35 O):P:=h k
theorem U145(h:Q->P:=by intro O;refine W.skip ?_;exact U324 O):P:=h k
theorem U101(h:Q->P:=by intro O;(repeat(first|refine T.exit ?_|refine N.exit ?_|refine B.Oz0 (by decide) ?_));exact B.Oy0 O):P:=h k
theorem U72(h:Q->P:=by intro O;refine W.fr0 9 (fun w'=>Below w.heap.size w w') (by kernel_rfl) (by kernel_rfl) (by kernel_rfl) (by kernel_rfl) ((Below.refl w.heap.size w).drew) ?_;exact D.va (fun w' u3=>(m3 rfl)) O):P:=h k
theorem U37(h:Q->P:=by intro O;refine U7 ?_;exact U3 O):P:=h k
theorem U102(h:Q->P:=by intro O;refine U7 ?_;exact U314 O):P:=h k
theorem U103(h:Q->P:=by intro O;refine L.va (ij0 rfl) ?_;exact L.on rfl O):P:=h k
theorem U227(h:Q->P:=by intro O;refine U321 ?_;exact At.skip (j0 _) O):P:=h k
theorem U325(h:B Q->P:=by intro O;refine I0.val (j0 _) (Z0 _) rfl (v:=.int .i32 (((v:Nat):Int))) (q3 (r:=((v:Nat):Int)) rfl Tryz.underlying136 Tryz.underlying21 (bh0 v (by omega))) ?_;exact I0.val (j0 _) (Z0 _) rfl (v:=.int .i32 (((v:Nat):Int))) (S0 rfl) O.1):P:=h ⟨k⟩
theorem U56(h:Q->P:=by intro O;refine U30 ?_;exact W.J4 rfl O):P:=h k
theorem U146(h:Q->P:=by intro O;refine O7.go ?_;refine W.seq ?_;exact U99 O):P:=h k
theorem U8(h:Q->P:=by intro O;refine U322 ?_;exact U3 O):P:=h k
theorem U9(h:Q->P:=by intro O;refine U7 ?_;exact W.block O):P:=h k
theorem U73(h:Q->P:=by intro O;refine U223 ?_;refine W.region rfl ?_;exact L.va (C5 rfl) O):P:=h k
theorem U74(h:Q->P:=by intro O;refine L.va (F0 rfl Tryz.underlying111 rfl (hM.A0 0 (v:=(.iface 193 (.pointer (some ⟨sb,0,none⟩)))) rfl)) ?_;exact L.va (m3 rfl) O):P:=h k
theorem U12(h:Q->P:=by intro O;have O8:=F5.lq hb.size;have hb:=N0 hb F5.below;revert O8 hb;exact O):P:=h k
theorem U104(h:Q->P:=by intro O;refine I0.off (Q0 _ gr 2) rfl rfl ?_;exact I0.off (Q0 _ gr 2) rfl rfl O):P:=h k
theorem U147(h:Q->P:=by intro O;refine U36 ?_;exact U145 O):P:=h k
theorem U31(h:Q->P:=by intro O;refine U224 ?_;exact U146 O):P:=h k
theorem U13(h:Q->P:=by intro O;refine At.seq B2 ?_;exact At.region B2 O):P:=h k
theorem U105(h:Q->P:=by intro O;refine At.seq (C3 _ gr) ?_;exact At.region (C3 _ gr) O):P:=h k
theorem U148(h:Q->P:=by intro O;refine I0.val (Q0 _ gr 2) (Z0 _) rfl (v:=.pointer (some ⟨gr.blk,gr.off,none⟩)) (J0 rfl) ?_;exact I0.val (Q0 _ gr 2) (Z0 _) rfl (v:=.pointer (some ⟨gr.blk,gr.off,none⟩)) (I3 rfl) O):P:=h k
theorem U25(h:Q->P:=by intro O;refine W.seq ?_;exact U68 O):P:=h k
theorem U326(h:Q->P:=by intro O;refine I0.val (j0 _) (Z0 _) rfl (v:=.int .u32 0) (q3 (r:=0) rfl Tryz.underlying136 Tryz.underlying139 (by decide)) ?_;exact I0.val (j0 _) (Z0 _) rfl (v:=.int .u32 0) (S0 rfl) O):P:=h k
theorem U228(h:Q->P:=by intro O;refine I0.val (C3 _ gr) (Z0 _) rfl (v:=.pointer (some ⟨gr.blk,gr.off,none⟩)) (J0 rfl) ?_;exact I0.val (C3 _ gr) (Z0 _) rfl (v:=.pointer (some ⟨gr.blk,gr.off,none⟩)) (I3 rfl) O):P:=h k
theorem U149(h:Q->P:=by intro O;refine D.va (fun w' u3=>(O0 rfl Tryz.underlying153 rfl Ng0 (by decide))) ?_;exact D.va (fun w' u3=>(F0 rfl Tryz.underlying150 rfl ((hg.m.run.E0 u3).A0 7 (v:=.chan (some R.yb)) rfl))) O):P:=h k
theorem U327(h:Q->P:=by intro O;refine U102 ?_;exact U73 O):P:=h k
theorem U38(h:Q->P:=by intro O;refine U147 ?_;exact U69 O):P:=h k
theorem U229(h:Q->P:=by intro O;refine At.v5 (Q0 _ gr 2) rfl ?_;exact At.skip (Q0 _ gr 2) O):P:=h k
theorem U47(h:Q->P:=by intro O;refine AtR.leave0 (j0 _) V4 rfl Tryz.func66 rfl ?_;exact I0.nil (j0 _) O):P:=h k
theorem U57(h:Q->P:=by intro O;refine U15 ?_;exact L.va (O0 rfl Tryz.underlying149 rfl sz4 (by decide)) O):P:=h k
theorem U230(h:Q->P:=by intro O;refine At.seq Y0 ?_;exact At.region Y0 O):P:=h k
theorem U328(h:Q->P:=by intro O;refine D.va (fun w' u3=>(m3 rfl)) ?_;exact D.va (fun w' u3=>(O0 rfl Tryz.underlying52 rfl sz2 (by decide))) O):P:=h k
theorem U0(h:Q->P:=by intro O;refine L.alloc (cs:=#[.int .i64 0,.int .i64 0,.int .i64 0,.int .i64 0]) Uy0 rfl (fun w b4 F4=>?_);have N8:=F4.lq hb.size;have hb:=N0 hb F4.below;have hT:=hT.E0 F4.below;have L1:=F4.blk;revert w b4 F4 N8 hb hT L1;exact O):P:=h k
theorem U75(h:Q->P:=by intro O;refine U70 ?_;exact I0.val (Q0 _ gr 2) (Z0 _) rfl (v:=.int .u64 (((0*4294967296+1:Nat):Int))) (J0 rfl) O):P:=h k
theorem U58(h:Q->P:=by intro O;exact U37 O):P:=h k
theorem U329(h:B Q->P:=by intro O;refine L.va (kp0 rfl rfl (by omega)) ?_;exact L.va (C5 rfl) O.1):P:=h ⟨k⟩
theorem U150(h:Q->P:=by intro O;refine I0.E8 (Q0 _ gr 2) (Z0 _) rfl rfl (v:=.bool false) (bx0 (r:=false) rfl rfl (by decide)) ?_;exact I0.val (Q0 _ gr 2) (Z0 _) rfl (v:=.bool false) (R7 rfl rfl) O):P:=h k
theorem U330(h:Q->P:=by intro O;refine L.va (u1 rfl) ?_;exact L.va (O0 rfl Tryz.underlying149 rfl sz4 (by decide)) O):P:=h k
theorem U151(h:Q->P:=by intro O;refine I0.off Y0 rfl rfl ?_;exact I0.off Y0 rfl rfl O):P:=h k
theorem U331(h:Q->P:=by intro O;refine L.va (F0 rfl Tryz.underlying193 rfl (Q5.A0 0 (v:=.pointer (some ⟨sb,0,none⟩)) rfl)) ?_;exact L.va (u1 rfl) O):P:=h k
theorem U332(h:Q->P:=by intro O;refine L.va (F0 rfl Tryz.underlying56 rfl (hC.A0 2 (v:=.pointer (some ⟨wb,0,none⟩)) rfl)) ?_;exact L.call (M0 rfl Tryz.func44 rfl tb0 rfl) (gd0 wb w hW) O):P:=h k
theorem U39(h:Q->P:=by intro O;refine L.va (kl0 rfl) ?_;exact U7 O):P:=h k
theorem U16(h:Q->P:=by intro O;refine C.enter (n:=146) Tryz.func39 rfl rfl ?_;refine U4 ?_;intro hb;revert hb;exact O):P:=h k
theorem U152(h:Q->P:=by intro O;refine U323 ?_;exact I0.val B2 (Z0 _) rfl (v:=.pointer (some ⟨gr.blk,gr.off,none⟩)) (B3 (s:=1) gr.off gr.off rfl Tryz.underlying138 rfl lb0 (by decide) rfl) O):P:=h k
theorem U153(h:Q->P:=by intro O;refine U323 ?_;exact I0.val B2 (Z0 _) rfl (v:=.pointer (some ⟨gr.blk,gr.off,none⟩)) (B3 (s:=1) gr.off gr.off rfl Tryz.underlying141 rfl lc0 (by decide) rfl) O):P:=h k
theorem U1(h:Q->P:=by intro O;refine U317 ?_;intro G5 hb;have hT:=hT.mod G5 rfl;have L1:=B1;refine U58 ?_;revert hb hT L1;exact O):P:=h k
theorem U10(h:Q->P:=by intro O;refine U34 ?_;exact U71 O):P:=h k
theorem U231(h:Q->P:=by intro O;refine I0.val Y0 (Z0 _) rfl (v:=.bool false) (l7 (r:=false) rfl rfl (by decide)) ?_;exact I0.val Y0 (Z0 _) rfl (v:=.bool false) (J0 rfl) O):P:=h k
theorem U106(h:Q->P:=by intro O;refine L.va (u1 rfl) ?_;exact L.va (O0 rfl Tryz.underlying153 rfl je0 (by decide)) O):P:=h k
theorem U154(h:Q->P:=by intro O;refine I0.val (j0 _) (Z0 _) rfl (v:=.bool true) (J0 rfl) ?_;exact I0.E8 (j0 _) (Z0 _) rfl rfl (v:=.int .i64 (-1)) (J0 rfl) O):P:=h k
theorem U232(h:Q->P:=by intro O;refine U226 ?_;exact U144 O):P:=h k
theorem U40(h:Q->P:=by intro O;refine At.seq K2 ?_;exact At.region K2 O):P:=h k
theorem U59(h:Q->P:=by intro O;refine L.nil ?_;exact U67 O):P:=h k
theorem U155(h:Q->P:=by intro O;refine U318 ?_;exact D.va (fun w' u3=>(O0 rfl Tryz.underlying149 rfl Es0 (by decide))) O):P:=h k
theorem U156(h:Q->P:=by intro O;refine I0.val (j0 _) (Z0 _) rfl (v:=.bool true) (J0 rfl) ?_;exact I0.E8 (j0 _) (Z0 _) rfl rfl (v:=.i (-1)) (J0 rfl) O):P:=h k
theorem U157(h:Q->P:=by intro O;refine U318 ?_;exact D.va (fun w' u3=>(O0 rfl Tryz.underlying149 rfl sz3 (by decide))) O):P:=h k
theorem U26(h:Q->P:=by intro O;refine At.seq I2 ?_;exact At.region I2 O):P:=h k
theorem U76(h:Q->P:=by intro O;refine I0.val (Q0 _ gr 2) (Z0 _) rfl (v:=.bool false) (J0 rfl) ?_;exact U104 O):P:=h k
theorem U233(h:Q->P:=by intro O;refine I0.val (j0 _) (Z0 _) rfl (v:=.int .u64 (((0*4294967296+0:Nat):Int))) (S0 rfl) ?_;exact I0.nil (j0 _) O):P:=h k
theorem U234(h:Q->P:=by intro O;refine D.va (fun w' u3=>(O0 rfl Tryz.underlying30 rfl Jw0 (by decide))) ?_;exact D.va (fun w' u3=>(F0 rfl Tryz.underlying23 rfl ((hR.E0 u3).A0 3 (v:=.slice (pt R.eb) R.m R.m) rfl))) O):P:=h k
theorem U235(h:Q->P:=by intro O;refine U45 ?_;exact I0.val (j0 _) (Z0 _) rfl (v:=.int .u32 0) (J0 rfl) O):P:=h k
theorem U17(h:Q->P:=by intro O;refine U2 ?_;exact ZA.seq hZ O):P:=h k
theorem U5(h:Q->P:=by intro O;refine U142 ?_;intro hb hT;refine U232 ?_;refine U327 ?_;revert hb hT;exact O):P:=h k
theorem U236(h:Q->P:=by intro O;refine L.va (M8 (r:=2) (by decide) (by decide) rfl rfl) ?_;exact U31 O):P:=h k
theorem U77(h:Q->P:=by intro O;refine U151 ?_;exact I0.val Y0 (Z0 _) rfl (v:=.bool false) (bg0 rfl rfl) O):P:=h k
theorem U237(h:Q->P:=by intro O;refine D.va (fun w' u3=>(C5 rfl)) ?_;exact D.va (fun w' u3=>(u1 rfl)) O):P:=h k
theorem U48(h:Q->P:=by intro O;refine U34 ?_;exact U3 O):P:=h k
theorem U333(h:Q->P:=by intro O;refine D.va (fun w' u3=>(u1 rfl)) ?_;exact D.va (fun w' u3=>(O0 rfl Tryz.underlying153 rfl je0 (by decide))) O):P:=h k
theorem U238(h:Q->P:=by intro O;refine D.va (fun w' u3=>(F0 rfl Tryz.underlying3 rfl ((hC.E0 u3).A0 0 (v:=.i (i:Int)) rfl))) ?_;exact D.va (fun w' u3=>c9 (i:=i) rfl rfl Tryz.underlying23 sz3 hi) O):P:=h k
theorem U239(h:Q->P:=by intro O;refine At.region o4 ?_;exact I0.val o4 (Z0 _) rfl (v:=.pointer (some ⟨gr.blk,gr.off,none⟩)) (J0 rfl) O):P:=h k
theorem U240(h:Q->P:=by intro O;refine D.va (fun w' u3=>(F0 rfl Tryz.underlying146 rfl (((hg.m.blk i _ (S5 hc)).E0 u3).A0 1 (v:=.p R.rb) rfl))) ?_;exact D.va (fun w' u3=>(u1 rfl)) O):P:=h k
theorem U11(h:Q->P:=by intro O;have lt2:=F2.lq hb.size;have hb:=N0 hb F2.below;revert lt2 hb;exact O):P:=h k
theorem U158(h:Q->P:=by intro O;refine U141 ?_;exact I0.val (j0 _) (Z0 _) rfl (v:=.int .u64 (((v*4294967296+0:Nat):Int))) (J0 rfl) O):P:=h k
theorem U159(h:Q->P:=by intro O;refine U141 ?_;exact I0.val (j0 _) (Z0 _) rfl (v:=.int .u64 (((v*4294967296+1:Nat):Int))) (J0 rfl) O):P:=h k
theorem U160(h:Q->P:=by intro O;refine U141 ?_;exact I0.val (j0 _) (Z0 _) rfl (v:=.int .u64 (((0*4294967296+0:Nat):Int))) (J0 rfl) O):P:=h k
theorem U241(h:Q->P:=by intro O;refine I0.val hY hb rfl (ky0 rfl Tryz.underlying153 rfl Ng0 (by decide)) ?_;exact I0.stay (v:=.chan (some R.yb)) hb rfl (by simp) rfl Tryz.underlying150 rfl O):P:=h k
theorem U334(h:Q->P:=by intro O;refine L.va (M8 (r:=3) (by decide) (by decide) rfl rfl) ?_;exact U31 O):P:=h k
theorem U335(h:Q->P:=by intro O;refine L.va (M8 (r:=6) (by decide) (by decide) rfl rfl) ?_;exact U31 O):P:=h k
theorem U336(h:Q->P:=by intro O;refine L.va (M8 (r:=4) (by decide) (by decide) rfl rfl) ?_;exact U31 O):P:=h k
theorem U337(h:Q->P:=by intro O;refine L.va (M8 (r:=5) (by decide) (by decide) rfl rfl) ?_;exact U31 O):P:=h k
theorem U242(h:Q->P:=by intro O;refine U2 ?_;exact ZA.fr0 hZ hb 11 (fun w'=>Below w.heap.size w w') (by kernel_rfl) (by kernel_rfl) (by kernel_rfl) (by kernel_rfl) (Below.refl w.heap.size w).drew O):P:=h k
theorem U60(h:Q->P:=by intro O;refine At.seq (Q0 _ gr 2) ?_;exact U70 O):P:=h k
theorem U41(h:Q->P:=by intro O;refine I0.nil (j0 _) ?_;exact U45 O):P:=h k
theorem U338(h:B Q->P:=by intro O;refine I0.val (Q0 _ gr 2) (Z0 _) rfl (v:=.int .u64 (((0:Nat):Int))) (by0 (r:=((0:Nat):Int)) rfl rfl (by decide) (la0 0 1 (by omega))) ?_;exact I0.val (Q0 _ gr 2) (Z0 _) rfl (v:=.int .i32 (((0:Nat):Int))) (q3 (r:=((0:Nat):Int)) rfl Tryz.underlying136 Tryz.underlying21 (bh0 0 (by omega))) O.1):P:=h ⟨k⟩
theorem U339(h:B Q->P:=by intro O;refine I0.val B2 (Z0 _) rfl (v:=.int .u64 (((v*4294967296+1:Nat):Int))) (xc0 (r:=((v*4294967296+1:Nat):Int)) rfl rfl (add1 v (by omega))) ?_;refine I0.call B2 (Z0 _) [.pointer (some ⟨gr.blk,gr.off,none⟩),.int .u64 (((v*4294967296+0:Nat):Int)),.int .u64 (((v*4294967296+1:Nat):Int))] 13 rfl Tryz.func102 Wp0 rfl rfl rfl (fun cs2 hb2=>?_);revert cs2 hb2;exact O.1):P:=h ⟨k⟩
theorem U61(h:Q->P:=by intro O;refine W.region rfl ?_;exact U44 O):P:=h k
theorem U340(h:B Q->P:=by intro O;refine I0.val (j0 _) (Z0 _) rfl (v:=.int .u64 (((0:Nat):Int))) (by0 (r:=((0:Nat):Int)) rfl rfl (by decide) (la0 0 0 (by omega))) ?_;exact I0.val (j0 _) (Z0 _) rfl (v:=.int .i32 (((0:Nat):Int))) (q3 (r:=((0:Nat):Int)) rfl Tryz.underlying136 Tryz.underlying21 (bh0 0 (by omega))) O.1):P:=h ⟨k⟩
theorem U78(h:Q->P:=by intro O;refine W.seq ?_;exact U3 O):P:=h k
theorem U243(h:Q->P:=by intro O;refine W.fr0 13 (fun w'=>Below w.heap.size w w') (by kernel_rfl) (by kernel_rfl) (by kernel_rfl) (by kernel_rfl) ((Below.refl w.heap.size w).drew) ?_;exact U155 O):P:=h k
theorem U341(h:Q->P:=by intro O;refine I0.val (C3 _ gr) (Z0 _) rfl (v:=.int .u64 18446744073709551615) (q3 (r:=18446744073709551615) rfl Tryz.underlying3 Tryz.underlying136 (by decide)) ?_;exact I0.val (C3 _ gr) (Z0 _) rfl (v:=.int .u64 18446744069414584320) (Ef0 (r:=18446744069414584320) rfl rfl (by decide) (by decide)) O):P:=h k
theorem U161(h:Q->P:=by intro O;refine U13 ?_;exact I0.val B2 (Z0 _) rfl (v:=.int .u64 (((v*4294967296+0:Nat):Int))) (J0 rfl) O):P:=h k
theorem U342(h:B Q->P:=by intro O;refine I0.val B2 (Z0 _) rfl (v:=.int .u64 (((v:Nat):Int))) (by0 (r:=((v:Nat):Int)) rfl rfl (by decide) (la0 v 0 (by omega))) ?_;exact I0.val B2 (Z0 _) rfl (v:=.int .i32 (((v:Nat):Int))) (q3 (r:=((v:Nat):Int)) rfl Tryz.underlying136 Tryz.underlying21 (bh0 v (by omega))) O.1):P:=h ⟨k⟩
theorem U343(h:Q->P:=by intro O;have G5:=e8.el0 c7 hg;have hb:=K4 hb hb.size hg lt6;revert G5 hb;exact O):P:=h k
theorem U344(h:Q->P:=by intro O;refine L.va (O0 rfl Tryz.underlying52 rfl sz3 (by decide)) ?_;refine L.on rfl ?_;exact L.va (F0 rfl Tryz.underlying3 rfl (hB1.A0 2 (v:=.int .i64 o.call) rfl)) O):P:=h k
theorem U18(h:Q->P:=by intro O;refine F.nil ?_;show L _ _ _ _ _ _ _;exact O):P:=h k
theorem U345(h:Q->P:=by intro O;refine I0.val (Q0 _ gr 0) (Z0 _) rfl (v:=.pointer (some ⟨gr.blk,gr.off,none⟩)) (I3 rfl) ?_;exact I0.val (Q0 _ gr 0) (Z0 _) rfl (v:=.pointer (some ⟨gr.blk,gr.off+1,none⟩)) (B3 (s:=1) gr.off (gr.off+1) rfl Tryz.underlying141 rfl Er0 (by decide) rfl) O):P:=h k
theorem U27(h:Q->P:=by intro O;refine L.va (kl0 rfl) ?_;exact U37 O):P:=h k
theorem U162(h:Q->P:=by intro O;refine U60 ?_;exact I0.val (Q0 _ gr 2) (Z0 _) rfl (v:=.int .i32 (((0:Nat):Int))) (J0 rfl) O):P:=h k
theorem U163(h:Q->P:=by intro O;refine ZA.skip hZ ?_;exact ZA.seq hZ O):P:=h k
theorem U346(h:Q->P:=by intro O;refine U315 ?_;exact U227 O):P:=h k
theorem U164(h:Q->P:=by intro O;refine L.va (u1 rfl) ?_;exact L.va (O0 rfl Tryz.underlying72 rfl Uz0 (by decide)) O):P:=h k
theorem U244(h:Q->P:=by intro O;have neA:=O1.ne hA (hg.m.blk i c hc) (by decide);refine L.stC (i:=i) (o:=9) (vs:=[.bool false]) hg {c with wt:=false} hc rfl rfl rfl rfl sz4 rfl rfl (by decide) rfl (fun w hg o3=>?_);revert neA w hg o3;exact O):P:=h k
theorem U245(h:Q->P:=by intro O;refine U157 ?_;exact D.va (fun w' u3=>(F0 rfl Tryz.underlying3 rfl (((hg.m.blk i _ (S5 hc)).E0 u3).A0 0 (v:=.i (i:Int)) rfl))) O):P:=h k
theorem U246(h:Q->P:=by intro O;refine U143 ?_;exact L.va (S3 (l:=[.tmp 2]) (vs:=[.pointer (some ⟨b2,0,none⟩)]) rfl) O):P:=h k
theorem U347(h:Q->P:=by intro O;refine I0.val (Q0 _ gr 1) (Z0 _) rfl (v:=.pointer (some ⟨gr.blk,gr.off,none⟩)) (B3 (s:=1) gr.off gr.off rfl Tryz.underlying141 rfl lc0 (by decide) rfl) ?_;refine I0.call (Q0 _ gr 1) (Z0 _) [.pointer (some ⟨gr.blk,gr.off,none⟩),.int .u64 0] 9 rfl Tryz.func97 bz1 rfl rfl rfl (fun cs4 hb4=>?_);revert cs4 hb4;exact O):P:=h k
theorem U165(h:Q->P:=by intro O;refine U68 ?_;exact L.va (F0 rfl Tryz.underlying3 rfl (D3.A0 2 (v:=.int .i64 2) rfl)) O):P:=h k
theorem U166(h:Q->P:=by intro O;refine U68 ?_;exact L.va (F0 rfl Tryz.underlying3 rfl (D3.A0 2 (v:=.int .i64 1) rfl)) O):P:=h k
theorem U167(h:Q->P:=by intro O;refine L.va (F0 rfl Tryz.underlying3 rfl (D3.A0 0 (v:=.int .i64 3) rfl)) ?_;exact U9 O):P:=h k
theorem U168(h:Q->P:=by intro O;refine L.va (F0 rfl Tryz.underlying3 rfl (D3.A0 0 (v:=.int .i64 5) rfl)) ?_;exact U9 O):P:=h k
theorem U169(h:Q->P:=by intro O;refine L.va (F0 rfl Tryz.underlying3 rfl (D3.A0 0 (v:=.int .i64 1) rfl)) ?_;exact U9 O):P:=h k
theorem U170(h:Q->P:=by intro O;refine L.va (F0 rfl Tryz.underlying3 rfl (D3.A0 0 (v:=.int .i64 4) rfl)) ?_;exact U9 O):P:=h k
theorem U348(h:Q->P:=by intro O;refine U25 ?_;exact L.va (F0 rfl Tryz.underlying3 rfl (D3.A0 2 (v:=.int .i64 5) rfl)) O):P:=h k
theorem U247(h:Q->P:=by intro O;refine U143 ?_;exact L.va (S3 (l:=[.tmp 2,.tmp 5]) (vs:=[.pointer (some ⟨b2,0,none⟩),.pointer (some ⟨b5,0,none⟩)]) rfl) O):P:=h k
theorem U349(h:Q->P:=by intro O;refine I0.val (C3 _ gr) (Z0 _) rfl (v:=.pointer (some ⟨gr.blk,gr.off,none⟩)) (B3 (s:=1) gr.off gr.off rfl Tryz.underlying138 rfl lb0 (by decide) rfl) ?_;exact I0.val (C3 _ gr) (Z0 _) rfl (v:=.int .u64 18446744069414584320) (J0 rfl) O):P:=h k
theorem U62(h:Q->P:=by intro O;refine At.seq l3 ?_;exact At.region l3 O):P:=h k
theorem U350(h:B Q->P:=by intro O;refine I0.val (Q0 _ gr 2) (Z0 _) rfl (v:=.int .u64 1) (H6 (r:=1) rfl rfl (ep0 0 1 (by omega) (by omega))) ?_;exact I0.val (Q0 _ gr 2) (Z0 _) rfl (v:=.int .u32 1) (q3 (r:=1) rfl Tryz.underlying136 Tryz.underlying139 (by decide)) O.1):P:=h ⟨k⟩
theorem U351(h:Q->P:=by intro O;refine I0.val (Q0 _ gr 2) (Z0 _) rfl (v:=.pointer (some ⟨gr.blk,gr.off,none⟩)) (B3 (s:=1) gr.off gr.off rfl Tryz.underlying141 rfl lc0 (by decide) rfl) ?_;refine I0.call (Q0 _ gr 2) (Z0 _) [.pointer (some ⟨gr.blk,gr.off,none⟩)] 7 rfl Tryz.func96 Ka0 rfl rfl rfl (fun cs3 hb3=>?_);revert cs3 hb3;exact O):P:=h k
theorem U352(h:B Q->P:=by intro O;refine I0.val (j0 _) (Z0 _) rfl (v:=.int .u64 1) (H6 (r:=1) rfl rfl (ep0 v 1 (by omega) (by omega))) ?_;exact I0.val (j0 _) (Z0 _) rfl (v:=.int .u32 1) (q3 (r:=1) rfl Tryz.underlying136 Tryz.underlying139 (by decide)) O.1):P:=h ⟨k⟩
theorem U171(h:Q->P:=by intro O;refine U103 ?_;refine L.va (m3 rfl) ?_;exact L.on rfl O):P:=h k
theorem U107(h:Q->P:=by intro O;refine At.seq Y0 ?_;exact U230 O):P:=h k
theorem U79(h:Q->P:=by intro O;show W _ _ _ _ _ _;exact U3 O):P:=h k
theorem U353(h:Q->P:=by intro O;refine I0.val (Q0 _ gr 1) (Z0 _) rfl (v:=.pointer (some ⟨gr.blk,gr.off,none⟩)) (B3 (s:=1) gr.off gr.off rfl Tryz.underlying138 rfl lb0 (by decide) rfl) ?_;exact I0.val (Q0 _ gr 1) (Z0 _) rfl (v:=.int .u64 0) (J0 rfl) O):P:=h k
theorem U354(h:Q->P:=by intro O;refine I0.val (Q0 _ gr 2) (Z0 _) rfl (v:=.pointer (some ⟨gr.blk,gr.off,none⟩)) (B3 (s:=1) gr.off gr.off rfl Tryz.underlying138 rfl lb0 (by decide) rfl) ?_;exact I0.Ju0 (Z0 _) rfl Tryz.func110 vc0 rfl rfl vd0 rfl O):P:=h k
theorem U172(h:Q->P:=by intro O;refine U3 ?_;exact L.va (A2 (r:=false) (by decide) (N4 (m:=5) (k:=1) rfl rfl)) O):P:=h k
theorem U173(h:Q->P:=by intro O;refine L.va (A2 (r:=false) (by decide) (N4 (m:=5) (k:=2) rfl rfl)) ?_;exact U8 O):P:=h k
theorem U174(h:Q->P:=by intro O;refine L.va (A2 (r:=false) (by decide) (N4 (m:=5) (k:=3) rfl rfl)) ?_;exact U8 O):P:=h k
theorem U175(h:Q->P:=by intro O;refine L.va (A2 (r:=false) (by decide) (N4 (m:=5) (k:=4) rfl rfl)) ?_;exact U8 O):P:=h k
theorem U176(h:Q->P:=by intro O;refine L.va (A2 (r:=true) (by decide) (N4 (m:=5) (k:=5) rfl rfl)) ?_;exact U56 O):P:=h k
theorem U355(h:B Q->P:=by intro O;refine I0.val B2 (Z0 _) rfl (v:=.int .u64 0) (H6 (r:=0) rfl rfl (ep0 v 0 (by omega) (by omega))) ?_;exact I0.val B2 (Z0 _) rfl (v:=.int .u32 0) (q3 (r:=0) rfl Tryz.underlying136 Tryz.underlying139 (by decide)) O.1):P:=h ⟨k⟩
theorem U248(h:Q->P:=by intro O;refine L.va (F0 rfl Tryz.underlying4 rfl ((hg.m.blk i c hc).A0 10 (v:=.bool c.st) rfl)) ?_;exact L.va (fi0 rfl) O):P:=h k
theorem U356(h:Q->P:=by intro O;refine L.va (cr0 rfl rfl) ?_;exact U17 O):P:=h k
theorem U177(h:Q->P:=by intro O;refine L.va (g7 rfl) ?_;exact L.nil O):P:=h k
theorem U108(h:Q->P:=by intro O;refine U6 ?_;exact L.va (az0 rfl) O):P:=h k
theorem U357(h:Q->P:=by intro O;have D3:=D3.E0 I1;refine U34 ?_;refine U25 ?_;revert D3;exact O):P:=h k
theorem U249(h:Q->P:=by intro O;refine L.on rfl ?_;exact L.va (F0 rfl Tryz.underlying26 rfl (u6.A0 0 (v:=.slice R.ea R.evs.length R.ec) rfl)) O):P:=h k
theorem U250(h:Q->P:=by intro O;refine U328 ?_;exact D.va (fun w' u3=>(F0 rfl Tryz.underlying2 rfl ((D3.E0 u3).A0 3 (v:=.int .i64 vv) rfl))) O):P:=h k
theorem U251(h:Q->P:=by intro O;refine U328 ?_;exact D.va (fun w' u3=>(F0 rfl Tryz.underlying2 rfl ((D3.E0 u3).A0 3 (v:=.int .i64 7) rfl))) O):P:=h k
theorem U358(h:B Q->P:=by intro O;refine I0.val (j0 _) (Z0 _) rfl (v:=.int .u64 (((v*4294967296+0:Nat):Int))) (J0 rfl) ?_;exact I0.val (j0 _) (Z0 _) rfl (v:=.int .u64 0) (H6 (r:=0) rfl rfl (kz0 v 0 (by omega) (by omega))) O.1):P:=h ⟨k⟩
theorem U359(h:B Q->P:=by intro O;refine I0.val (j0 _) (Z0 _) rfl (v:=.int .u64 (((v*4294967296+1:Nat):Int))) (J0 rfl) ?_;exact I0.val (j0 _) (Z0 _) rfl (v:=.int .u64 0) (H6 (r:=0) rfl rfl (kz0 v 1 (by omega) (by omega))) O.1):P:=h ⟨k⟩
theorem U360(h:B Q->P:=by intro O;refine I0.val (j0 _) (Z0 _) rfl (v:=.int .u64 (((0*4294967296+0:Nat):Int))) (J0 rfl) ?_;exact I0.val (j0 _) (Z0 _) rfl (v:=.int .u64 0) (H6 (r:=0) rfl rfl (kz0 0 0 (by omega) (by omega))) O.1):P:=h ⟨k⟩
theorem U361(h:B Q->P:=by intro O;refine I0.val (Q0 _ gr 2) (Z0 _) rfl (v:=.int .u64 0) (H6 (r:=0) rfl rfl (kz0 0 1 (by omega) (by omega))) ?_;exact I0.val (Q0 _ gr 2) (Z0 _) rfl (v:=.bool false) (l7 (r:=false) rfl rfl (by decide)) O.1):P:=h ⟨k⟩
theorem U252(h:Q->P:=by intro O;refine D.va (fun w' u3=>(F0 rfl Tryz.underlying146 rfl ((hC.E0 u3).A0 1 (v:=.p R.rb) rfl))) ?_;exact U333 O):P:=h k
theorem U253(h:Q->P:=by intro O;refine L.on rfl ?_;exact L.va (N4 rfl rfl) O):P:=h k
theorem U178(h:Q->P:=by intro O;refine U15 ?_;exact L.va (O0 rfl Tryz.underlying153 rfl Et0 (by decide)) O):P:=h k
theorem U179(h:Q->P:=by intro O;refine L.va (m3 rfl) ?_;exact L.va (A7 rfl rfl Tryz.underlying61) O):P:=h k
theorem U254(h:Q->P:=by intro O;refine U223 ?_;exact U3 O):P:=h k
theorem U180(h:Q->P:=by intro O;refine U15 ?_;exact L.va (O0 rfl Tryz.underlying125 rfl Nc0 (by decide)) O):P:=h k
theorem U181(h:Q->P:=by intro O;refine L.va (F0 rfl Tryz.underlying193 rfl (u6.A0 0 (v:=.pointer (some ⟨sb,0,none⟩)) rfl)) ?_;refine L.va (u1 rfl) ?_;exact L.va (O0 rfl Tryz.underlying195 rfl fw0 (by decide)) O):P:=h k
theorem U182(h:Q->P:=by intro O;refine L.nil ?_;exact B.nrm O):P:=h k
theorem U362(h:Q->P:=by intro O;refine AtR.leave1 (Q0 _ gr 2) hb2 rfl Tryz.func94 rfl (.int .u64 (((0*4294967296+1:Nat):Int))) rfl ?_;exact I0.val (Q0 _ gr 2) (Z0 _) rfl (v:=.int .u64 (((0*4294967296+1:Nat):Int))) (S0 rfl) O):P:=h k
theorem U109(h:Q->P:=by intro O;have hE:=hE.E0 I1;have hc:=hc.E0 I1;revert hE hc;exact O):P:=h k
theorem U183(h:Q->P:=by intro O;refine L.va (m3 rfl) ?_;exact L.va (L3 rfl rfl Tryz.underlying91) O):P:=h k
theorem U363(h:Q->P:=by intro O;refine L.va (u1 rfl) ?_;exact L.on rfl O):P:=h k
theorem U364(h:Q->P:=by intro O;refine AtR.leave1 (j0 _) hb2 rfl Tryz.func94 rfl (.int .u64 (((v*4294967296+0:Nat):Int))) rfl ?_;exact I0.val (j0 _) (Z0 _) rfl (v:=.int .u64 (((v*4294967296+0:Nat):Int))) (S0 rfl) O):P:=h k
theorem U365(h:Q->P:=by intro O;refine AtR.leave1 (j0 _) hb2 rfl Tryz.func94 rfl (.int .u64 (((v*4294967296+1:Nat):Int))) rfl ?_;exact I0.val (j0 _) (Z0 _) rfl (v:=.int .u64 (((v*4294967296+1:Nat):Int))) (S0 rfl) O):P:=h k
theorem U184(h:Q->P:=by intro O;refine U331 ?_;exact L.va (O0 rfl Tryz.underlying195 rfl sz4 (by decide)) O):P:=h k
theorem U366(h:Q->P:=by intro O;refine I0.toUnsafe Us0 (Z0 _) rfl rfl (.inr rfl) Tryz.underlying172 Tryz.underlying128 Nr0 ?_;exact I0.sv0 r4 (Z0 _) .write (by simp) (.inr (.inr rfl)) rfl Tryz.func103 Wq0 rfl rfl Xb0 rfl O):P:=h k
theorem U19(h:Q->P:=by intro O;refine U142 ?_;intro hb hT;refine U357 ?_;intro D3;revert hb hT D3;exact O):P:=h k
theorem U20(h:Q->P:=by intro O;refine U109 ?_;intro hE hc;refine U357 ?_;intro D3;revert hE hc D3;exact O):P:=h k
theorem U255(h:Q->P:=by intro O;refine At.seq r4 ?_;exact At.region r4 O):P:=h k
theorem U367(h:B Q->P:=by intro O;refine I0.val r4 (Z0 _) rfl (v:=.int .u64 (((v*4294967296+0:Nat):Int))) (J0 rfl) ?_;exact I0.val r4 (Z0 _) rfl (v:=.int .u64 0) (H6 (r:=0) rfl rfl (kz0 v 0 (by omega) (by omega))) O.1):P:=h ⟨k⟩
theorem U368(h:Q->P:=by intro O;refine I0.toUnsafe Ut0 (Z0 _) rfl rfl (.inl rfl) Tryz.underlying165 Tryz.underlying128 zu0 ?_;exact I0.sv0 K2 (Z0 _) .acquire (by simp) (.inl rfl) rfl Tryz.func100 Nh0 rfl rfl Np0 rfl O):P:=h k
theorem U185(h:Q->P:=by intro O;refine At.seq o4 ?_;exact At.region o4 O):P:=h k
theorem U369(h:Q->P:=by intro O;have Q4:=Q4.mod G5 rfl;have E5:=E5.mod G5 rfl;revert Q4 E5;exact O):P:=h k
theorem U186(h:Q->P:=by intro O;refine U2 ?_;exact ZA.v5 hZ rfl O):P:=h k
theorem U256(h:Q->P:=by intro O;have h5:=(Goes.Z9 hg D3 (Nat.zero_lt_succ _) hF5).2;have hgn:Gn K w0 m F R4 u F':=Gn.K5 ⟨hK,Goes.down m9 hg⟩ o3 ⟨O8,h5⟩;revert h5 hgn;exact O):P:=h k
theorem U371(h:Q->P:=by intro O;refine I0.val Y0 (Z0 _) rfl (v:=.int .u32 0) (q3 (r:=0) rfl Tryz.underlying136 Tryz.underlying139 (by decide)) ?_;exact I0.val Y0 (Z0 _) rfl (v:=.int .u32 0) (S0 rfl) O):P:=h k
theorem U372(h:Q->P:=by intro O;refine AtR.leave1 B2 V4 rfl Tryz.func96 rfl (.int .u64 (((v*4294967296+0:Nat):Int))) rfl ?_;exact I0.val B2 (Z0 _) rfl (v:=.int .u64 (((v*4294967296+0:Nat):Int))) (S0 rfl) O):P:=h k
theorem U376(h:Q->P:=by intro O;refine I0.val l3 (Z0 _) rfl (v:=.pointer (some ⟨gr.blk,gr.off,none⟩)) (J0 rfl) ?_;exact I0.val l3 (Z0 _) rfl (v:=.pointer (some ⟨gr.blk,gr.off,none⟩)) (I3 rfl) O):P:=h k
theorem U377(h:Q->P:=by intro O;refine I0.E8 Y0 (Z0 _) rfl rfl (v:=.i 1) (J0 rfl) ?_;exact I0.E8 Y0 (Z0 _) rfl rfl (v:=.int .i32 1) (q3 (r:=1) rfl Tryz.underlying3 Tryz.underlying21 (by decide)) O):P:=h k
theorem U80(h:Q->P:=by intro O;refine I0.nil K2 ?_;exact At.seq K2 O):P:=h k
theorem U378(h:Q->P:=by intro O;refine I0.val K2 (Z0 _) rfl (v:=.pointer (some ⟨gr.blk,gr.off,none⟩)) (J0 rfl) ?_;exact I0.val K2 (Z0 _) rfl (v:=.pointer (some ⟨gr.blk,gr.off,none⟩)) (I3 rfl) O):P:=h k
theorem U379(h:Q->P:=by intro O;refine I0.val B2 (Z0 _) rfl (v:=.int .u64 (((v*4294967296+0:Nat):Int))) (J0 rfl) ?_;exact I0.val B2 (Z0 _) rfl (v:=.int .u64 (((v*4294967296+0:Nat):Int))) (J0 rfl) O):P:=h k
theorem U380(h:Q->P:=by intro O;refine I0.val B2 (Z0 _) rfl (v:=.int .u64 (((v*4294967296+0:Nat):Int))) (J0 rfl) ?_;exact I0.val B2 (Z0 _) rfl (v:=.int .u64 (((v*4294967296+1:Nat):Int))) (J0 rfl) O):P:=h k
theorem U257(h:Q->P:=by intro O;refine I0.val hY hb rfl (v:=.p R.rb) (J0 rfl) ?_;exact I0.val hY hb rfl (I3 rfl) O):P:=h k
theorem U381(h:Q->P:=by intro O;refine I0.E8 K2 (Z0 _) rfl rfl (v:=.int .u64 0) (H6 (r:=0) rfl rfl (by decide)) ?_;exact I0.E8 K2 (Z0 _) rfl rfl (v:=.bool false) (l7 (r:=false) rfl rfl (by decide)) O):P:=h k
theorem U258(h:Q->P:=by intro O;refine F.va rfl rfl (fun w' u3=>(m3 rfl)) ?_;exact F.va rfl rfl (fun w' u3=>(u1 rfl)) O):P:=h k
theorem U382(h:B Q->P:=by intro O;refine I0.val B2 (Z0 _) rfl (v:=.int .i32 (((v:Nat):Int))) (J0 rfl) ?_;exact I0.val B2 (Z0 _) rfl (v:=.bool false) (j9 (r:=false) rfl rfl (decide_eq_false (by omega))) O.1):P:=h ⟨k⟩
theorem U383(h:Q->P:=by intro O;refine I0.E8 (Q0 _ gr 2) (Z0 _) rfl rfl (v:=.int .u32 1) (J0 rfl) ?_;exact I0.E8 (Q0 _ gr 2) (Z0 _) rfl rfl (v:=.bool false) (j9 (r:=false) rfl rfl (by decide)) O):P:=h k
theorem U259(h:Q->P:=by intro O;refine L.va (u1 rfl) ?_;exact L.va (O0 rfl Tryz.underlying145 rfl Ep0 (by decide)) O):P:=h k
theorem U187(h:Q->P:=by intro O;refine U4 ?_;intro hb;refine L.box (cs:=#[.pointer (some ⟨sb,0,none⟩)]) rfl rfl (fun w b2 F2=>?_);revert hb w b2 F2;exact O):P:=h k
theorem U260(h:Q->P:=by intro O;refine L.va (u1 rfl) ?_;exact L.va (O0 rfl Tryz.underlying145 rfl sz3 (by decide)) O):P:=h k
theorem U384(h:Q->P:=by intro O;refine I0.E8 (j0 _) (Z0 _) rfl rfl (v:=.int .u32 0) (J0 rfl) ?_;exact I0.E8 (j0 _) (Z0 _) rfl rfl (v:=.bool true) (j9 (r:=true) rfl rfl (by decide)) O):P:=h k
theorem U385(h:Q->P:=by intro O;refine I0.val (j0 _) (Z0 _) rfl (v:=.bool false) (J0 rfl) ?_;refine U222 ?_;exact U346 O):P:=h k
theorem U386(h:Q->P:=by intro O;refine I0.val (Q0 _ gr 2) (Z0 _) rfl (v:=.bool false) (bx0 (r:=false) rfl rfl (by decide)) ?_;exact I0.val (Q0 _ gr 2) (Z0 _) rfl (v:=.bool false) (J0 rfl) O):P:=h k
theorem U387(h:Q->P:=by intro O;refine U228 ?_;exact I0.val (C3 _ gr) (Z0 _) rfl (v:=.pointer (some ⟨gr.blk,gr.off,none⟩)) (B3 (s:=1) gr.off gr.off rfl Tryz.underlying141 rfl lc0 (by decide) rfl) O):P:=h k
theorem U388(h:Q->P:=by intro O;refine I0.val (Q0 _ gr 2) (Z0 _) rfl (v:=.int .u32 1) (J0 rfl) ?_;exact I0.val (Q0 _ gr 2) (Z0 _) rfl (v:=.bool true) (l7 (r:=true) rfl rfl (by decide)) O):P:=h k
theorem U389(h:Q->P:=by intro O;refine I0.val (Q0 _ gr 0) (Z0 _) rfl (v:=.int .u32 1) (J0 rfl) ?_;exact I0.val (Q0 _ gr 0) (Z0 _) rfl (v:=.bool true) (l7 (r:=true) rfl rfl (by decide)) O):P:=h k
theorem U390(h:Q->P:=by intro O;have L4:=L4.mod G5 rfl;have l5:=l5.mod G5 rfl;revert L4 l5;exact O):P:=h k
theorem U391(h:B Q->P:=by intro O;refine I0.val Y0 (Z0 _) rfl (v:=.bool true) (bx0 (r:=true) rfl rfl (decide_eq_true (by omega))) ?_;exact I0.val Y0 (Z0 _) rfl (v:=.bool true) (J0 rfl) O.1):P:=h ⟨k⟩
theorem U261(h:Q->P:=by intro O;refine I0.val K2 (Z0 _) rfl (v:=.int .u64 0) (S0 rfl) ?_;exact I0.nil K2 O):P:=h k
theorem U262(h:Q->P:=by intro O;refine I0.val o4 (Z0 _) rfl (v:=.int .u64 0) (S0 rfl) ?_;exact I0.nil o4 O):P:=h k
theorem U81(h:Q->P:=by intro O;refine I0.nil Y0 ?_;refine At.v5 Y0 rfl ?_;exact At.skip Y0 O):P:=h k
theorem U392(h:Q->P:=by intro O;refine I0.val (j0 _) (Z0 _) rfl (v:=.int .u32 1) (J0 rfl) ?_;exact I0.val (j0 _) (Z0 _) rfl (v:=.bool true) (l7 (r:=true) rfl rfl (by decide)) O):P:=h k
theorem U393(h:Q->P:=by intro O;refine I0.val (j0 _) (Z0 _) rfl (v:=.bool false) (bx0 (r:=false) rfl rfl (by decide)) ?_;exact I0.val (j0 _) (Z0 _) rfl (v:=.bool false) (J0 rfl) O):P:=h k
theorem U263(h:Q->P:=by intro O;refine U44 ?_;exact L.va (u1 rfl) O):P:=h k
theorem U394(h:Q->P:=by intro O;refine I0.val (j0 _) (Z0 _) rfl (v:=.int .u32 0) (Pr0 (r:=0) rfl rfl (by decide)) ?_;exact I0.val (j0 _) (Z0 _) rfl (v:=.int .u32 0) (S0 rfl) O):P:=h k
theorem U264(h:Q->P:=by intro O;refine L.va (O0 rfl Tryz.underlying149 rfl Pw0 (by decide)) ?_;exact L.on rfl O):P:=h k
theorem U395(h:Q->P:=by intro O;refine I0.toUnsafe Zu0 (Z0 _) rfl rfl (.inl rfl) Tryz.underlying165 Tryz.underlying128 zu0 ?_;exact I0.Zv0 (Z0 _) rfl Tryz.func100 Nh0 rfl rfl Np0 rfl O):P:=h k
theorem U190(h:Q->P:=by intro O;rw[V2 s0,V2 s7,V2 s8,V2 s9];exact O):P:=h k
theorem U396(h:Q->P:=by intro O;refine L.va (O0 rfl Tryz.underlying115 rfl fw0 (by decide)) ?_;exact L.va (G0 (cs:=[.i obj,.i num]) rfl Tryz.underlying107 rfl fw0 rfl (hC.J1 rfl)) O):P:=h k
theorem U191(h:Q->P:=by intro O;refine I0.nil (C3 _ gr) ?_;exact U105 O):P:=h k
theorem U397(h:Q->P:=by intro O;refine L.va (C2 (i:=0) (n:=2) rfl rfl Tryz.underlying62 xe0 (by decide)) ?_;exact L.va (F0 rfl Tryz.underlying61 rfl (hT.A0 0 (v:=.pointer none) rfl)) O):P:=h k
theorem U398(h:Q->P:=by intro O;refine I0.val r4 (Z0 _) rfl (v:=.bool false) (l7 (r:=false) rfl rfl (by decide)) ?_;exact I0.val r4 (Z0 _) rfl (v:=.bool false) (J0 rfl) O):P:=h k
theorem U265(h:Q->P:=by intro O;refine D.va (fun w' u3=>(m3 rfl)) ?_;exact D.va (fun w' u3=>(u1 rfl)) O):P:=h k
theorem U110(h:Q->P:=by intro O;show L _ _ _ _ _ _ _;exact L.va (m3 rfl) O):P:=h k
theorem U399(h:Q->P:=by intro O;refine I0.val (Q0 _ gr 2) (Z0 _) rfl (v:=.bool true) (J0 rfl) ?_;exact I0.E8 (Q0 _ gr 2) (Z0 _) rfl rfl (v:=.int .i64 (-1)) (J0 rfl) O):P:=h k
theorem U192(h:Q->P:=by intro O;refine U34 ?_;exact W.block O):P:=h k
theorem U400(h:B Q->P:=by intro O;refine I0.val (j0 _) (Z0 _) rfl (v:=.int .u64 (((v:Nat):Int))) (by0 (r:=((v:Nat):Int)) rfl rfl (by decide) (la0 v 1 (by omega))) ?_;exact U325 O.1):P:=h ⟨k⟩
theorem U401(h:B Q->P:=by intro O;refine I0.val (j0 _) (Z0 _) rfl (v:=.int .u64 (((v:Nat):Int))) (by0 (r:=((v:Nat):Int)) rfl rfl (by decide) (la0 v 0 (by omega))) ?_;exact U325 O.1):P:=h ⟨k⟩
theorem U402(h:Q->P:=by intro O;refine L.va (F0 rfl Tryz.underlying3 rfl (D3.A0 2 (v:=.int .i64 6) rfl)) ?_;exact L.va (A2 (r:=false) (by decide) (N4 (m:=6) (k:=5) rfl rfl)) O):P:=h k
theorem U403(h:Q->P:=by intro O;refine L.va (F0 rfl Tryz.underlying3 rfl (D3.A0 2 (v:=.int .i64 9) rfl)) ?_;exact L.va (A2 (r:=false) (by decide) (N4 (m:=9) (k:=8) rfl rfl)) O):P:=h k
theorem U404(h:Q->P:=by intro O;refine I0.val K2 (Z0 _) rfl (v:=.int .u32 0) (J0 rfl) ?_;exact I0.val K2 (Z0 _) rfl (v:=.bool true) (j9 (r:=true) rfl rfl (by decide)) O):P:=h k
theorem U405(h:Q->P:=by intro O;refine L.va (F0 rfl Tryz.underlying3 rfl (D3.A0 2 (v:=.int .i64 7) rfl)) ?_;exact L.va (A2 (r:=true) (by decide) (N4 (m:=7) (k:=7) rfl rfl)) O):P:=h k
theorem U406(h:Q->P:=by intro O;refine L.va (F0 rfl Tryz.underlying3 rfl (D3.A0 2 (v:=.int .i64 8) rfl)) ?_;exact L.va (A2 (r:=true) (by decide) (N4 (m:=8) (k:=8) rfl rfl)) O):P:=h k
theorem U49(h:Q->P:=by intro O;refine U2 ?_;exact U6 O):P:=h k
theorem U407(h:Q->P:=by intro O;refine L.va (F0 rfl Tryz.underlying151 rfl (hM.run.A0 0 (v:=.slice R.ca R.cl.length R.cc) rfl)) ?_;exact L.va (ba0 rfl Tryz.underlying151 rfl) O):P:=h k
theorem U111(h:Q->P:=by intro O;refine W.region rfl ?_;exact L.va cp0 O):P:=h k
theorem U408(h:Q->P:=by intro O;refine I0.val (Q0 _ gr 2) (Z0 _) rfl (v:=.bool true) (J0 rfl) ?_;exact I0.E8 (Q0 _ gr 2) (Z0 _) rfl rfl (v:=.i (-1)) (J0 rfl) O):P:=h k
theorem U409(h:Q->P:=by intro O;refine L.va (bc0 (i:=i) rfl rfl Tryz.underlying151 Eq0 hM.cls.sl T2) ?_;exact L.va (F0 (v:=.p c.cb) rfl Tryz.underlying91 rfl (Fb0 hM hc)) O):P:=h k
theorem U410(h:Q->P:=by intro O;refine L.va (F0 rfl Tryz.underlying56 rfl (hC.A0 2 (v:=.pointer none) rfl)) ?_;exact L.call (M0 rfl Tryz.func44 rfl tb0 rfl) (Au0 w) O):P:=h k
theorem U266(h:B Q->P:=by intro O;refine ZA.v5 hZ (rb (decide_eq_false (by omega))) ?_;exact ZA.exit hZ rfl O.1):P:=h ⟨k⟩
theorem U411(h:Q->P:=by intro O;refine L.on rfl ?_;refine L.va (A2 (r:=false) (by decide) (kn0 (m:=0) (k:=0) rfl rfl)) ?_;refine L.va (g7 rfl) ?_;exact U327 O):P:=h k
theorem U267(h:Q->P:=by intro O;refine ZA.k3 hZ ?_;exact ZA.seq hZ O):P:=h k
theorem U268(h:Q->P:=by intro O;refine L.va (m3 rfl) ?_;exact L.va (A7 rfl rfl Tryz.underlying56) O):P:=h k
theorem U269(h:Q->P:=by intro O;refine U15 ?_;exact L.va (O0 rfl Tryz.underlying153 rfl je0 (by decide)) O):P:=h k
theorem U412(h:Q->P:=by intro O;refine U26 ?_;exact I0.iy0 (Z0 _) rfl (v:=.pointer (some ⟨bx,0,none⟩)) rfl Tryz.underlying86 rfl (.inr ⟨_,_,(.tail _ (.head _)),rfl,rfl⟩) O):P:=h k
theorem U112(h:Q->P:=by intro O;have S9:=F3.blk;refine L.box (cs:=#[.int .i64 x]) rfl rfl (fun w b5 F5=>?_);revert S9 w b5 F5;exact O):P:=h k
theorem U271(h:Q->P:=by intro O;refine U103 ?_;exact L.va (O0 rfl Tryz.underlying30 rfl Jx0 (by decide)) O):P:=h k
theorem U414(h:Q->P:=by intro O;refine L.va (F0 rfl Tryz.underlying25 rfl (((hM.E0 hb).blk i _ hc).A0 6 (v:=.func (.func f) #[] caps) rfl)) ?_;exact L.on rfl O):P:=h k
theorem U415(h:Q->P:=by intro O;refine L.va (O0 rfl Tryz.underlying107 rfl sz3 (by decide)) ?_;exact L.va (F0 rfl Tryz.underlying3 rfl (D3.A0 0 (v:=.i o) rfl)) O):P:=h k
theorem U416(h:Q->P:=by intro O;refine L.va (O0 rfl Tryz.underlying107 rfl sz3 (by decide)) ?_;exact L.va (F0 rfl Tryz.underlying3 rfl (D3.A0 1 (v:=.i n) rfl)) O):P:=h k
theorem U272(h:Q->P:=by intro O;refine I0.nil r4 ?_;exact At.J4 r4 rfl O):P:=h k
theorem U418(h:Q->P:=by intro O;refine At.region (Q0 _ gr 0) ?_;exact I0.val (Q0 _ gr 0) (Z0 _) rfl (v:=.pointer (some ⟨gr.blk,gr.off,none⟩)) (J0 rfl) O):P:=h k
theorem U419(h:B Q->P:=by intro O;refine W.fl 7 [4] [0,1,2,3,5,6,4] (fun w'=>True) (by kernel_rfl) (by kernel_rfl) (by kernel_rfl) (by kernel_rfl) (by kernel_rfl) trivial ?_;have r6:Below w.heap.size w w.drew:=(Below.refl w.heap.size w).drew;have hb:=N0 hb r6;have hW:=hW.E0 r6;have c7:=c7.E0 r6;revert r6 hb hW c7;exact O.1):P:=h ⟨k⟩
theorem U420(h:Q->P:=by intro O;refine I0.val K2 (Z0 _) rfl (v:=.bool false) (R7 rfl rfl) ?_;exact I0.val K2 (Z0 _) rfl (v:=.bool false) (J0 rfl) O):P:=h k
theorem U113(h:Q->P:=by intro O;refine U39 ?_;exact U71 O):P:=h k
theorem U421(h:Q->P:=by intro O;refine I0.val (Q0 _ gr 2) (Z0 _) rfl (v:=.bool false) (ah0 (r:=false) rfl rfl (by decide)) ?_;exact I0.nil (Q0 _ gr 2) O):P:=h k
theorem U422(h:Q->P:=by intro O;refine I0.val K2 (Z0 _) rfl (v:=.bool true) (J0 rfl) ?_;exact I0.E8 K2 (Z0 _) rfl rfl (v:=.int .u64 0) (J0 rfl) O):P:=h k
theorem U423(h:Q->P:=by intro O;refine I0.val r4 (Z0 _) rfl (v:=.bool false) (J0 rfl) ?_;exact I0.Uu0 (Z0 _) rfl Tryz.func104 Wr0 rfl rfl Xe0 rfl O):P:=h k
theorem U28(h:Q->P:=by intro O;rw[hw];exact O):P:=h k
theorem U424(h:Q->P:=by intro O;refine L.va (F0 rfl Tryz.underlying67 rfl (u6.A0 0 (v:=.pointer (some ⟨cb,0,none⟩)) rfl)) ?_;exact L.va (u1 rfl) O):P:=h k
theorem U425(h:Q->P:=by intro O;refine L.va (F0 rfl Tryz.underlying67 rfl (S9.A0 0 (v:=.pointer (some ⟨cb,0,none⟩)) rfl)) ?_;exact L.va (u1 rfl) O):P:=h k
theorem U426(h:Q->P:=by intro O;refine L.va (F0 rfl Tryz.underlying65 rfl (u6.A0 0 (v:=.pointer (some ⟨cb,0,none⟩)) rfl)) ?_;exact L.va (u1 rfl) O):P:=h k
theorem U427(h:Q->P:=by intro O;refine L.va (F0 rfl Tryz.underlying65 rfl (S9.A0 0 (v:=.pointer (some ⟨cb,0,none⟩)) rfl)) ?_;exact L.va (u1 rfl) O):P:=h k
theorem U428(h:Q->P:=by intro O;refine U143 ?_;exact L.va (S3 (l:=[.tmp 5,.tmp 3]) (vs:=[.pointer (some ⟨b5,0,none⟩),.pointer (some ⟨b3,0,none⟩)]) rfl) O):P:=h k
theorem U429(h:Q->P:=by intro O;refine I0.val Y0 (Z0 _) rfl (v:=.bool true) (J0 rfl) ?_;exact I0.E8 Y0 (Z0 _) rfl rfl (v:=.i 1) (J0 rfl) O):P:=h k
theorem U430(h:B Q->P:=by intro O;refine I0.val (j0 _) (Z0 _) rfl (v:=.int .u64 0) (H6 (r:=0) rfl rfl (ep0 v 0 (by omega) (by omega))) ?_;exact U326 O.1):P:=h ⟨k⟩
theorem U431(h:B Q->P:=by intro O;refine I0.val (j0 _) (Z0 _) rfl (v:=.int .u64 0) (H6 (r:=0) rfl rfl (ep0 0 0 (by omega) (by omega))) ?_;exact U326 O.1):P:=h ⟨k⟩
theorem U273(h:B Q->P:=by intro O;(have hF5:¬F b5:=fun z=>by have:=hK.tlt hT z;omega);(have hF2:¬F b2:=fun z=>by have:=hK.tlt hT z;omega);revert hF5 hF2;exact O.1):P:=h ⟨k⟩
theorem U432(h:Q->P:=by intro O;have Q4:=Q4.E0 I1;have E5:=E5.E0 I1;revert Q4 E5;exact O):P:=h k
theorem U433(h:Q->P:=by intro O;have hb:=N0 hb I1;have hW:=hW.E0 I1;have c7:=c7.E0 I1;revert hb hW c7;exact O):P:=h k
theorem U82(h:Q->P:=by intro O;refine U7 ?_;exact W.region rfl O):P:=h k
theorem U193(h:Q->P:=by intro O;exact U59 O):P:=h k
theorem U83(h:Q->P:=by intro O;refine U36 ?_;exact W.region rfl O):P:=h k
theorem U50(h:Q->P:=by intro O;refine U390 ?_;intro L4 l5;have m5:=m5.mod G5 rfl;revert L4 l5 m5;exact O):P:=h k
theorem U274(h:Q->P:=by intro O;refine U7 ?_;exact W.seq O):P:=h k
theorem U114(h:Q->P:=by intro O;refine L.nil ?_;exact U254 O):P:=h k
theorem U434(h:Q->P:=by intro O;refine I0.val (Q0 _ gr 2) (Z0 _) rfl (v:=.int .i32 (((0:Nat):Int))) (S0 rfl) ?_;exact I0.nil (Q0 _ gr 2) O):P:=h k
theorem U435(h:Q->P:=by intro O;refine W.region rfl ?_;exact L.va (F0 rfl Tryz.underlying67 rfl (Q5.A0 0 (v:=.pointer (some ⟨cb,0,none⟩)) rfl)) O):P:=h k
theorem U42(h:Q->P:=by intro O;refine U343 ?_;intro G5 hb;have hW:=hW.mod G5 rfl;refine U369 ?_;intro Q4 E5;revert G5 hb hW Q4 E5;exact O):P:=h k
theorem U436(h:Q->P:=by intro O;refine D.va (fun w' u3=>(u1 rfl)) ?_;exact D.va (fun w' u3=>(O0 rfl Tryz.underlying123 rfl sz2 (by decide))) O):P:=h k
theorem U437(h:Q->P:=by intro O;refine D.va (fun w' u3=>(u1 rfl)) ?_;exact D.va (fun w' u3=>(O0 rfl Tryz.underlying195 rfl sz3 (by decide))) O):P:=h k
theorem U194(h:Q->P:=by intro O;refine L.alloc (cs:=#[.int .i64 0]) zr2 rfl (fun w b5 F5=>?_);refine U12 ?_;intro O8 hb;revert w b5 F5 O8 hb;exact O):P:=h k
theorem U32(h:Q->P:=by intro O;refine U316 ?_;refine U316 ?_;exact F.va rfl rfl (fun w' u3=>(u1 rfl)) O):P:=h k
theorem U33(h:Q->P:=by intro O;refine U7 ?_;exact U78 O):P:=h k
theorem U275(h:Q->P:=by intro O;refine U3 ?_;refine L.va (A2 (r:=false) (by decide) (N4 (m:=2) (k:=1) rfl rfl)) ?_;refine U8 ?_;refine L.va (A2 (r:=true) (by decide) (N4 (m:=2) (k:=2) rfl rfl)) ?_;exact U56 O):P:=h k
theorem U195(h:Q->P:=by intro O;have hZ:Ctx.Zs Tryz.prog (Fin Tryz.prog Post X 0):=V3;have hb:=Z0 80;revert hZ hb;exact O):P:=h k
theorem U196(h:Q->P:=by intro O;have hZ:Ctx.Zs Tryz.prog (Fin Tryz.prog Post X 0):=V3;have hb:=Z0 48;revert hZ hb;exact O):P:=h k
theorem U438(h:B Q->P:=by intro O;refine I0.val Y0 (Z0 _) rfl (v:=.bool false) (ah0 (r:=false) rfl rfl (decide_eq_false (by omega))) ?_;exact U81 O.1):P:=h ⟨k⟩
theorem U439(h:Q->P:=by intro O;refine I0.call (C3 _ gr) (Z0 _) [.pointer (some ⟨gr.blk,gr.off,none⟩),.int .u64 18446744069414584320] 10 rfl Tryz.func94 Wo0 rfl rfl rfl (fun cs2 hb2=>?_);refine U105 ?_;revert cs2 hb2;exact O):P:=h k
theorem U197(h:Q->P:=by intro O;refine At.region (Q0 _ gr 1) ?_;refine I0.val (Q0 _ gr 1) (Z0 _) rfl (v:=.pointer (some ⟨gr.blk,gr.off,none⟩)) (J0 rfl) ?_;exact I0.val (Q0 _ gr 1) (Z0 _) rfl (v:=.pointer (some ⟨gr.blk,gr.off,none⟩)) (I3 rfl) O):P:=h k
theorem U276(h:B Q->P:=by intro O;refine ZA.J4 hZ (rb (decide_eq_true (by omega))) ?_;exact U163 O.1):P:=h ⟨k⟩
theorem U277(h:Q->P:=by intro O;refine U385 ?_;refine U45 ?_;exact I0.val (j0 _) (Z0 _) rfl (v:=.int .i32 (((v:Nat):Int))) (J0 rfl) O):P:=h k
theorem U440(h:Q->P:=by intro O;refine I0.val (j0 _) (Z0 _) rfl (v:=.int .i32 (((0:Nat):Int))) (S0 rfl) ?_;exact I0.nil (j0 _) O):P:=h k
theorem U441(h:Q->P:=by intro O;refine At.region K2 ?_;exact I0.val K2 (Z0 _) rfl (v:=.pointer (some ⟨gr.blk,gr.off,none⟩)) (J0 rfl) O):P:=h k
theorem U442(h:Q->P:=by intro O;refine I0.qa0 (C3 _ gr) (Z0 _) (.bool false) rfl Tryz.func90 Wn0 rfl rfl Xc0 ?_;exact I0.nil (C3 _ gr) O):P:=h k
theorem U443(h:Q->P:=by intro O;refine At.region B2 ?_;exact I0.ux0 B2 (Z0 _) .disable (by simp) (.inl rfl) rfl Tryz.func88 Qg0 rfl rfl Qh0 O):P:=h k
theorem U444(h:Q->P:=by intro O;refine U57 ?_;exact L.va (F0 rfl Tryz.underlying4 rfl (((hM.E0 hb).blk i _ hc).A0 9 (v:=.bool true) rfl)) O):P:=h k
theorem U115(h:Q->P:=by intro O;refine I0.nil Y0 ?_;exact U107 O):P:=h k
theorem U63(h:Q->P:=by intro O;refine U30 ?_;exact U71 O):P:=h k
theorem U445(h:Q->P:=by intro O;refine AtR.leave1 (j0 _) hb2 rfl Tryz.func94 rfl (.int .u64 (((0*4294967296+0:Nat):Int))) rfl ?_;exact U233 O):P:=h k
theorem U447(h:Q->P:=by intro O;refine W.region rfl ?_;refine L.va (O0 rfl Tryz.underlying52 rfl sz3 (by decide)) ?_;exact L.va (F0 rfl Tryz.underlying3 rfl (hB1.A0 2 (v:=.int .i64 o.call) rfl)) O):P:=h k
theorem U278(h:Q->P:=by intro O;refine T.nrm ?_;show ZA _ _ _ _ _ _ _;exact O):P:=h k
theorem U43(h:B Q->P:=by intro O;refine U419 ?_;intro r6 hb hW c7;have Q4:=Q4.E0 r6;have E5:=E5.E0 r6;revert r6 hb hW c7 Q4 E5;exact O.1):P:=h ⟨k⟩
theorem U448(h:Q->P:=by intro O;refine U230 ?_;exact I0.val Y0 (Z0 _) rfl (v:=.int .u64 ((((v+1)*4294967296+0:Nat):Int))) (J0 rfl) O):P:=h k
theorem U449(h:Q->P:=by intro O;refine U230 ?_;exact I0.val Y0 (Z0 _) rfl (v:=.int .u64 ((((0+1)*4294967296+0:Nat):Int))) (J0 rfl) O):P:=h k
theorem U451(h:Q->P:=by intro O;refine L.va (C5 rfl) ?_;exact L.call (K3 rfl rfl rfl Tryz.func81 rfl bv1 rfl) (Cb0 wb obj num _ hW) O):P:=h k
theorem U452(h:Q->P:=by intro O;refine U3 ?_;exact L.va (F0 rfl Tryz.underlying86 rfl (u6.A0 0 (v:=.pointer (some ⟨bx,0,none⟩)) rfl)) O):P:=h k
theorem U279(h:Q->P:=by intro O;refine ZA.region hZ ?_;refine ZA.recover hZ (i:=0) (rest:=[]) rfl rfl rfl rfl hmd (fun c45 v hsv=>?_);revert c45 v hsv;exact O):P:=h k
theorem U280(h:Q->P:=by intro O;refine U4 ?_;intro hb;refine L.box (cs:=#[.pointer (some ⟨cb,0,none⟩)]) rfl rfl (fun w b2 F2=>?_);revert hb w b2 F2;exact O):P:=h k
theorem U453(h:Q->P:=by intro O;refine I0.val (j0 _) (Z0 _) rfl (v:=.bool false) (ah0 (r:=false) rfl rfl (by decide)) ?_;exact U227 O):P:=h k
theorem U454(h:Q->P:=by intro O;refine FP.va rfl rfl (fun w' u3=>(F0 rfl Tryz.underlying31 rfl (u3.1.A0 0 (v:=.slice (some ⟨p.lgb,0,none⟩) p.m p.m) rfl))) ?_;refine FP.va rfl rfl (fun w' u3=>(m3 rfl)) ?_;exact FP.call rfl rfl (fun w' u3=>M0 rfl Tryz.func47 rfl bj1 rfl) (fun w' u3=>uw0) O):P:=h k
theorem U198(h:Q->P:=by intro O;refine At.seq (Q0 _ gr 0) ?_;refine At.seq (Q0 _ gr 0) ?_;exact At.region (Q0 _ gr 0) O):P:=h k
theorem U455(h:Q->P:=by intro O;refine U239 ?_;exact I0.val o4 (Z0 _) rfl (v:=.pointer (some ⟨gr.blk,gr.off,none⟩)) (I3 rfl) O):P:=h k
theorem U21(h:Q->P:=by intro O;refine U142 ?_;intro hb hT;have L1:=L1.E0 I1;refine U171 ?_;revert hb hT L1;exact O):P:=h k
theorem U456(h:Q->P:=by intro O;refine I0.val (Q0 _ gr 2) (Z0 _) rfl (v:=.int .u32 1) (S0 rfl) ?_;exact I0.nil (Q0 _ gr 2) O):P:=h k
theorem U457(h:Q->P:=by intro O;refine I0.val (Q0 _ gr 2) (Z0 _) rfl (v:=.int .u64 0) (S0 rfl) ?_;exact I0.nil (Q0 _ gr 2) O):P:=h k
theorem U458(h:Q->P:=by intro O;refine I0.val (Q0 _ gr 1) (Z0 _) rfl (v:=.int .u64 1) (S0 rfl) ?_;exact I0.nil (Q0 _ gr 1) O):P:=h k
theorem U459(h:Q->P:=by intro O;refine I0.val I2 (Z0 _) rfl (v:=.bool true) (ah0 (r:=true) rfl rfl (by decide)) ?_;exact I0.nil I2 O):P:=h k
theorem U460(h:Q->P:=by intro O;refine I0.val (j0 _) (Z0 _) rfl (v:=.bool false) (l7 (r:=false) rfl rfl (by decide)) ?_;exact U321 O):P:=h k
theorem U461(h:Q->P:=by intro O;refine F.va rfl rfl (fun w' u3=>(O0 rfl Tryz.underlying72 rfl Uz0 (by decide))) ?_;exact F.doo rfl rfl O):P:=h k
theorem U462(h:Q->P:=by intro O;refine F.va rfl rfl (fun w' u3=>(O0 rfl Tryz.underlying72 rfl Va0 (by decide))) ?_;exact F.doo rfl rfl O):P:=h k
theorem U463(h:Q->P:=by intro O;refine F.va rfl rfl (fun w' u3=>(O0 rfl Tryz.underlying72 rfl Qb0 (by decide))) ?_;exact F.doo rfl rfl O):P:=h k
theorem U464(h:Q->P:=by intro O;refine F.va rfl rfl (fun w' u3=>(O0 rfl Tryz.underlying72 rfl Qc0 (by decide))) ?_;exact F.doo rfl rfl O):P:=h k
theorem U465(h:Q->P:=by intro O;refine F.va rfl rfl (fun w' u3=>(O0 rfl Tryz.underlying72 rfl Qd0 (by decide))) ?_;exact F.doo rfl rfl O):P:=h k
theorem U22(h:Q->P:=by intro O;refine Calls.T5 (n:=146) Tryz.func39 rfl rfl ?_;have S8:=hc.os;have e6:=hc.output;refine U3 ?_;revert S8 e6;exact O):P:=h k
theorem U466(h:Q->P:=by intro O;refine I0.val (j0 _) (Z0 _) rfl (v:=.bool true) (bg0 rfl rfl) ?_;exact I0.nil (j0 _) O):P:=h k
theorem U467(h:Q->P:=by intro O;refine I0.val (Q0 _ gr 0) (Z0 _) rfl (v:=.bool false) (J0 rfl) ?_;exact I0.nil (Q0 _ gr 0) O):P:=h k
theorem U468(h:Q->P:=by intro O;have L4:=L4.E0 r6;have l5:=l5.E0 r6;revert L4 l5;exact O):P:=h k
theorem U469(h:Q->P:=by intro O;have L4:=L4.E0 I1;have l5:=l5.E0 I1;revert L4 l5;exact O):P:=h k
theorem U470(h:Q->P:=by intro O;refine I0.Ei0 (Z0 _) rfl Tryz.func111 Wu0 rfl rfl Xd0 rfl rfl ?_;exact I0.nil (Q0 _ gr 0) O):P:=h k
theorem U471(h:Q->P:=by intro O;refine L.va (F0 rfl Tryz.underlying69 rfl (u6.A0 0 (v:=.p cb) rfl)) ?_;exact L.va (u1 rfl) O):P:=h k
theorem U472(h:Q->P:=by intro O;refine L.va (F0 rfl Tryz.underlying69 rfl (S9.A0 0 (v:=.p cb) rfl)) ?_;exact L.va (u1 rfl) O):P:=h k
theorem U473(h:Q->P:=by intro O;refine U40 ?_;exact I0.ux0 K2 (Z0 _) .enable (by simp) (.inl rfl) rfl Tryz.func89 jg0 rfl rfl jh0 O):P:=h k
theorem U474(h:Q->P:=by intro O;refine U185 ?_;exact I0.ux0 o4 (Z0 _) .enable (by simp) (.inl rfl) rfl Tryz.func89 jg0 rfl rfl jh0 O):P:=h k
theorem U85(h:Q->P:=by intro O;have hW:=hW.E0 F5.below;have hC:=hC.E0 F5.below;revert hW hC;exact O):P:=h k
theorem U29(h:Q->P:=by intro O;refine U142 ?_;intro hb hT;refine U411 ?_;revert hb hT;exact O):P:=h k
theorem U51(h:Q->P:=by intro O;refine I0.val (Q0 _ gr 2) (Z0 _) rfl (v:=.bool false) (bg0 rfl rfl) ?_;refine I0.nil (Q0 _ gr 2) ?_;exact U229 O):P:=h k
theorem U475(h:Q->P:=by intro O;refine U57 ?_;exact L.va (F0 rfl Tryz.underlying4 rfl ((hM.blk i c hc).A0 9 (v:=.bool c.wt) rfl)) O):P:=h k
theorem U476(h:Q->P:=by intro O;refine U191 ?_;exact I0.ux0 (C3 _ gr) (Z0 _) .disable (by simp) rfl rfl Tryz.func88 Qg0 rfl rfl Qh0 O):P:=h k
theorem U477(h:Q->P:=by intro O;refine At.region (j0 _) ?_;exact I0.val (j0 _) (Z0 _) rfl (v:=.int .u32 1) (J0 rfl) O):P:=h k
theorem U478(h:Q->P:=by intro O;refine I0.val B2 (Z0 _) rfl (v:=.int .i32 (((v:Nat):Int))) (S0 rfl) ?_;exact I0.nil B2 O):P:=h k
theorem U86(h:Q->P:=by intro O;have lt3:=F3.lq hb.size;have hb:=N0 hb F3.below;revert lt3 hb;exact O):P:=h k
theorem U479(h:Q->P:=by intro O;refine I0.off r4 rfl rfl ?_;exact I0.val r4 (Z0 _) rfl (v:=.bool false) (bg0 rfl rfl) O):P:=h k
theorem U23(h:Q->P:=by intro O;refine U12 ?_;intro O8 hb;have hT:=hT.E0 F5.below;have D3:=F5.blk;refine U48 ?_;revert O8 hb hT D3;exact O):P:=h k
theorem U24(h:Q->P:=by intro O;have O8:=Nat.le_refl w.heap.size;have hE:=hE.E0 F5.below;have hc:=hc.E0 F5.below;have D3:=F5.blk;refine U48 ?_;revert O8 hE hc D3;exact O):P:=h k
theorem U480(h:Q->P:=by intro O;refine I0.val (C3 _ gr) (Z0 _) rfl (v:=.bool false) (S0 rfl) ?_;exact I0.nil (C3 _ gr) O):P:=h k
theorem U481(h:Q->P:=by intro O;refine L.va (F0 rfl Tryz.underlying4 rfl (hC.A0 2 (v:=.bool h) rfl)) ?_;exact L.va (pd0 rfl) O):P:=h k
theorem U52(h:Q->P:=by intro O;refine U433 ?_;intro hb hW c7;refine U432 ?_;intro Q4 E5;revert hb hW c7 Q4 E5;exact O):P:=h k
theorem U482(h:Q->P:=by intro O;refine I0.off K2 rfl rfl ?_;exact I0.val K2 (Z0 _) rfl (v:=.bool false) (bg0 rfl rfl) O):P:=h k
theorem U281(h:Q->P:=by intro O;refine C.enter (n:=11) Tryz.func44 rfl rfl ?_;exact U3 O):P:=h k
theorem U483(h:Q->P:=by intro O;refine U37 ?_;exact L.va (F0 rfl Tryz.underlying2 rfl (D3.A0 0 (v:=.int .i64 (x tt)) rfl)) O):P:=h k
theorem U87(h:Q->P:=by intro O;have V5:=V5.mod G5 rfl;have W5:=W5.mod G5 rfl;revert V5 W5;exact O):P:=h k
theorem U484(h:Q->P:=by intro O;refine U107 ?_;exact I0.val Y0 (Z0 _) rfl (v:=.int .i32 ((((v+1):Nat):Int))) (J0 rfl) O):P:=h k
theorem U485(h:Q->P:=by intro O;refine L.va (u1 rfl) ?_;exact L.va (O0 rfl Tryz.underlying145 rfl fw0 (by decide)) O):P:=h k
theorem U64(h:Q->P:=by intro O;refine U36 ?_;exact U3 O):P:=h k
theorem U53(h:Q->P:=by intro O;refine U61 ?_;refine L.va (u1 rfl) ?_;exact L.va (O0 rfl Tryz.underlying72 rfl Va0 (by decide)) O):P:=h k
theorem U199(h:Q->P:=by intro O;refine U102 ?_;exact U79 O):P:=h k
theorem U116(h:Q->P:=by intro O;refine U182 ?_;exact U254 O):P:=h k
theorem U54(h:Q->P:=by intro O;refine L.va (F0 rfl Tryz.underlying3 rfl (D3.A0 0 (v:=.int .i64 2) rfl)) ?_;refine U9 ?_;exact U275 O):P:=h k
theorem U282(h:Q->P:=by intro O;refine L.va (ij0 rfl) ?_;exact L.va (pd0 rfl) O):P:=h k
theorem U283(h:Q->P:=by intro O;have neE:=O1.ne hE hg.m.ends (by decide);refine L.stE (i:=i) hg hi rfl rfl sz3 (fun w hg o3=>?_);revert neE w hg o3;exact O):P:=h k
theorem U486(h:Q->P:=by intro O;refine I0.Ps0 (Z0 _) rfl Tryz.func99 ca1 rfl rfl cc1 rfl ?_;exact I0.nil (j0 _) O):P:=h k
theorem U487(h:Q->P:=by intro O;refine L.va (u1 rfl) ?_;exact L.va (O0 rfl Tryz.underlying115 rfl sz2 (by decide)) O):P:=h k
theorem U488(h:Q->P:=by intro O;refine L.va (u1 rfl) ?_;exact L.va (O0 rfl Tryz.underlying132 rfl sz2 (by decide)) O):P:=h k
theorem U489(h:Q->P:=by intro O;refine U2 ?_;refine ZA.call (i:=1) (rest:=[]) hZ hb (f:=80) (args:=#[.p R.rb]) rfl rfl (M0 rfl Tryz.func80 rfl bu1 rfl) (fun a ha=>?_);revert a ha;exact O):P:=h k
theorem U200(h:Q->P:=by intro O;refine U2 ?_;exact ZA.J4 hZ rfl O):P:=h k
theorem U490(h:Q->P:=by intro O;refine U246 ?_;exact L.va (S3 (l:=[.tmp 2]) (vs:=[.pointer (some ⟨b2,0,none⟩)]) rfl) O):P:=h k
theorem U491(h:Q->P:=by intro O;refine AtR.leave0 (Q0 _ gr 0) hb4 rfl Tryz.func97 rfl ?_;exact I0.nil (Q0 _ gr 0) O):P:=h k
theorem U492(h:Q->P:=by intro O;refine I0.val r4 (Z0 _) rfl (v:=.bool false) (S0 rfl) ?_;exact I0.nil r4 O):P:=h k
theorem U284(h:Q->P:=by intro O;refine L.va (m3 rfl) ?_;exact L.va (m3 rfl) O):P:=h k
theorem U285(h:Q->P:=by intro O;refine ZA.k3 hZ ?_;exact ZA.inBlock hZ O):P:=h k
theorem U493(h:Q->P:=by intro O;rw[V2 s6,V2 s39,V2 s40,V2 s41,V2 s4,V2 s1];exact O):P:=h k
theorem U494(h:Q->P:=by intro O;refine U68 ?_;exact L.va (F0 rfl Tryz.underlying3 rfl (D3.A0 2 (v:=.int .i64 4) rfl)) O):P:=h k
theorem U495(h:Q->P:=by intro O;refine U68 ?_;exact L.va (F0 rfl Tryz.underlying3 rfl (D3.A0 2 (v:=.int .i64 3) rfl)) O):P:=h k
theorem U497(h:Q->P:=by intro O;refine I0.val B2 (Z0 _) rfl (v:=.int .u32 0) (S0 rfl) ?_;exact I0.nil B2 O):P:=h k
theorem U498(h:Q->P:=by intro O;refine I0.val B2 (Z0 _) rfl (v:=.bool false) (S0 rfl) ?_;exact I0.nil B2 O):P:=h k
theorem U201(h:Q->P:=by intro O;refine L.va (C2 (i:=0) (n:=2) rfl rfl Tryz.underlying64 ta0 (by decide)) ?_;refine L.va (F0 rfl Tryz.underlying63 rfl (hT.A0 2 (v:=.pointer none) rfl)) ?_;exact L.va (m3 rfl) O):P:=h k
theorem U499(h:Q->P:=by intro O;refine xd0 (Q:=fun _ _ _=>False) hZ hb (fun _ _ _ hx=>hx.elim) ho ?_;show mr0 P _ a w _ _;exact O):P:=h k
theorem U286(h:Q->P:=by intro O;refine At.k3 hY ?_;exact At.region hY O):P:=h k
theorem U500(h:Q->P:=by intro O;show E1 P (callFunc f (#[] ++ #[x,y].map ρ ++ #[]));exact Gq0 hf P2 hb hn he O):P:=h k
theorem U501(h:Q->P:=by intro O;refine U237 ?_;exact D.va (fun w' u3=>(O0 rfl Tryz.underlying72 rfl Qc0 (by decide))) O):P:=h k
theorem U502(h:Q->P:=by intro O;refine U237 ?_;exact D.va (fun w' u3=>(O0 rfl Tryz.underlying72 rfl Qd0 (by decide))) O):P:=h k
theorem U503(h:Q->P:=by intro O;refine U237 ?_;exact D.va (fun w' u3=>(O0 rfl Tryz.underlying72 rfl Qb0 (by decide))) O):P:=h k
theorem U504(h:Q->P:=by intro O;refine I0.val (j0 _) (Z0 _) rfl (v:=.int .u32 1) (S0 rfl) ?_;exact U41 O):P:=h k
theorem U65(h:Q->P:=by intro O;refine U6 ?_;exact U356 O):P:=h k
theorem U287(h:Q->P:=by intro O;refine U225 ?_;exact U277 O):P:=h k
theorem U505(h:Q->P:=by intro O;refine I0.val B2 (Z0 _) rfl (v:=.int .u64 0) (S0 rfl) ?_;exact I0.nil B2 O):P:=h k
theorem U506(h:Q->P:=by intro O;refine U69 ?_;exact L.va (W0 (parts:=[(0,.tmp 10),(1,.tmp 11)]) rfl (yd0 obj num)) O):P:=h k
theorem U507(h:Q->P:=by intro O;refine AtR.leave1 (Q0 _ gr 1) hb3 rfl Tryz.func96 rfl (.int .u64 1) rfl ?_;refine I0.val (Q0 _ gr 1) (Z0 _) rfl (v:=.int .u64 (((0*4294967296+1:Nat):Int))) (J0 rfl) ?_;exact I0.val (Q0 _ gr 1) (Z0 _) rfl (v:=.bool false) (l7 (r:=false) rfl rfl (by decide)) O):P:=h k
theorem U88(h:Q->P:=by intro O;refine U319 ?_;exact U346 O):P:=h k
theorem U202(h:Q->P:=by intro O;refine I0.nil K2 ?_;refine At.v5 K2 rfl ?_;exact At.skip K2 O):P:=h k
theorem U288(h:Q->P:=by intro O;refine I0.nil B2 ?_;refine At.v5 B2 rfl ?_;exact At.skip B2 O):P:=h k
theorem U55(h:Q->P:=by intro O;have hC:=hC.E0 F2.below;have u6:=F2.blk;revert hC u6;exact O):P:=h k
theorem U203(h:B Q->P:=by intro O;have m9:=hb;(have hF2:¬F b2:=fun z=>by have:=hK.tlt hT z;omega);revert m9 hF2;exact O.1):P:=h ⟨k⟩
theorem U510(h:Q->P:=by intro O;refine I0.val I2 (Z0 _) rfl (v:=.bool false) (S0 rfl) ?_;exact I0.nil I2 O):P:=h k
theorem U117(h:Q->P:=by intro O;refine U102 ?_;show W _ _ _ _ _ _;exact O):P:=h k
theorem U289(h:Q->P:=by intro O;refine At.seq r4 ?_;exact U255 O):P:=h k
theorem U511(h:Q->P:=by intro O;refine L.va (F0 rfl Tryz.underlying2 rfl (hC.A0 3 (v:=.int .i64 x) rfl)) ?_;refine L.pu 0 [.int .i64 x] #[.int .i64 x] sz2 hB1 (fun w B1 hg n2=>?_);revert w B1 hg n2;exact O):P:=h k
theorem U512(h:Q->P:=by intro O;refine I0.val I2 (Z0 _) rfl (v:=.bool true) (S0 rfl) ?_;exact I0.nil I2 O):P:=h k
theorem U513(h:Q->P:=by intro O;refine L.va (m3 rfl) ?_;refine L.ku0 (cs:=#[.p cb]) rfl rfl Tryz.underlying151 Eq0 rfl ⟨_,Vc0⟩ (by decide) (fun w b35 F35=>?_);revert w b35 F35;exact O):P:=h k
theorem U514(h:Q->P:=by intro O;refine L.va (A2 (r:=false) (by decide) (N4 (m:=2) (k:=1) rfl rfl)) ?_;exact U7 O):P:=h k
theorem U66(h:Q->P:=by intro O;refine U30 ?_;exact U3 O):P:=h k
theorem U515(h:Q->P:=by intro O;refine U348 ?_;exact L.va (A2 (r:=false) (by decide) (N4 (m:=5) (k:=7) rfl rfl)) O):P:=h k
theorem U290(h:Q->P:=by intro O;refine W.v5 rfl ?_;refine W.exit ?_;exact U101 O):P:=h k
theorem U516(h:Q->P:=by intro O;refine U468 ?_;intro L4 l5;have m5:=m5.E0 r6;revert L4 l5 m5;exact O):P:=h k
theorem U517(h:Q->P:=by intro O;refine U469 ?_;intro L4 l5;have m5:=m5.E0 I1;revert L4 l5 m5;exact O):P:=h k
theorem U291(h:Q->P:=by intro O;refine I0.nil o4 ?_;exact At.seq o4 O):P:=h k
theorem U518(h:Q->P:=by intro O;refine L.va (A2 (r:=true) (by decide) (N4 (m:=1) (k:=1) rfl rfl)) ?_;exact U36 O):P:=h k
theorem U519(h:Q->P:=by intro O;refine U348 ?_;exact L.va (A2 (r:=true) (by decide) (N4 (m:=5) (k:=5) rfl rfl)) O):P:=h k
theorem U520(h:Q->P:=by intro O;refine I0.val (C3 _ gr) (Z0 _) rfl (v:=.int .u64 0) (S0 rfl) ?_;exact U191 O):P:=h k
theorem U521(h:Q->P:=by intro O;refine L.va (O0 rfl Tryz.underlying105 rfl sz4 (by decide)) ?_;exact L.on rfl O):P:=h k
theorem U522(h:Q->P:=by intro O;refine I0.call B2 (Z0 _) [.pointer (some ⟨gr.blk,gr.off,none⟩)] 7 rfl Tryz.func96 Ka0 rfl rfl rfl (fun cs1 V4=>?_);refine U13 ?_;revert cs1 V4;exact O):P:=h k
theorem U523(h:Q->P:=by intro O;refine I0.E8 r4 (Z0 _) rfl rfl (v:=.int .u32 0) (J0 rfl) ?_;refine I0.E8 r4 (Z0 _) rfl rfl (v:=.bool true) (j9 (r:=true) rfl rfl (by decide)) ?_;exact I0.val r4 (Z0 _) rfl (v:=.bool true) (R7 rfl rfl) O):P:=h k
theorem U524(h:Q->P:=by intro O;refine W.ret ?_;(repeat(first|refine T.ret ?_|refine B.ret ?_|refine N.ret ?_));exact O):P:=h k
theorem U525(h:Q->P:=by intro O;refine L.on rfl ?_;exact L.va (O0 rfl Tryz.underlying49 rfl sz3 (by decide)) O):P:=h k
theorem U526(h:Q->P:=by intro O;refine AtR.leave1 B2 hb2 rfl Tryz.func102 rfl (.bool false) rfl ?_;exact U288 O):P:=h k
theorem U527(h:Q->P:=by intro O;refine AtR.leave1 r4 hb2 rfl Tryz.func102 rfl (.bool true) rfl ?_;exact U272 O):P:=h k
theorem U528(h:Q->P:=by intro O;refine L.va (O0 rfl Tryz.underlying153 rfl Nd0 (by decide)) ?_;exact U2 O):P:=h k
theorem U529(h:Q->P:=by intro O;refine U15 ?_;exact L.va (O0 rfl Tryz.underlying149 rfl Nf0 (by decide)) O):P:=h k
theorem U530(h:Q->P:=by intro O;have hfa:=hf (fun q hq=>by simp at hq;subst hq;exact h.dst i q g8) asx has;have hex:=M7 (h.sel i o' hik g8) hlk;revert hfa hex;exact O):P:=h k
theorem U292(h:Q->P:=by intro O;refine L.va (cc0 rfl) ?_;exact L.nil O):P:=h k
theorem U205(h:Q->P:=by intro O;refine ZA.block hZ ?_;exact U6 O):P:=h k
theorem U531(h:Q->P:=by intro O;refine I0.val Y0 (Z0 _) rfl (v:=.bool false) (J0 rfl) ?_;exact U151 O):P:=h k
theorem U532(h:Q->P:=by intro O;refine I0.val Y0 (Z0 _) rfl (v:=.int .u32 0) (J0 rfl) ?_;exact U231 O):P:=h k
theorem U533(h:Q->P:=by intro O;refine U40 ?_;exact I0.val K2 (Z0 _) rfl (v:=.bool false) (J0 rfl) O):P:=h k
theorem U535(h:Q->P:=by intro O;refine U15 ?_;exact L.va (O0 rfl Tryz.underlying113 rfl Nc0 (by decide)) O):P:=h k
theorem U536(h:Q->P:=by intro O;refine I0.E8 Y0 (Z0 _) rfl rfl (v:=.bool true) (bx0 (r:=true) rfl rfl (by decide)) ?_;refine I0.val Y0 (Z0 _) rfl (v:=.bool true) (R7 rfl rfl) ?_;exact I0.val Y0 (Z0 _) rfl (v:=.bool true) (J0 rfl) O):P:=h k
theorem U537(h:Q->P:=by intro O;refine U289 ?_;exact I0.val r4 (Z0 _) rfl (v:=.bool true) (J0 rfl) O):P:=h k
theorem U538(h:Q->P:=by intro O;refine At.region (C3 _ gr) ?_;exact I0.defer (C3 _ gr) (Z0 _) [] rfl O):P:=h k
theorem U293(h:Q->P:=by intro O;refine U4 ?_;intro hb;refine L.box (cs:=#[.pointer none]) rfl rfl (fun w b2 F2=>?_);revert hb w b2 F2;exact O):P:=h k
theorem U294(h:Q->P:=by intro O;refine U4 ?_;intro hb;refine L.box (cs:=#[.pointer none]) rfl rfl (fun w b3 F3=>?_);revert hb w b3 F3;exact O):P:=h k
theorem U539(h:Q->P:=by intro O;refine U4 ?_;intro hb;refine L.box (cs:=#[.int .i64 o.D5,.int .i64 o.gg0,.int .i64 o.call,.int .i64 o.val]) rfl rfl (fun w b1 F1=>?_);revert hb w b1 F1;exact O):P:=h k
theorem U540(h:Q->P:=by intro O;refine L.va (O0 rfl Tryz.underlying123 rfl Ep0 (by decide)) ?_;exact U332 O):P:=h k
theorem U541(h:Q->P:=by intro O;refine L.va (O0 rfl Tryz.underlying132 rfl Ep0 (by decide)) ?_;exact U332 O):P:=h k
theorem U542(h:Q->P:=by intro O;refine U106 ?_;exact L.va (O0 rfl Tryz.underlying30 rfl sz4 (by decide)) O):P:=h k
theorem U543(h:Q->P:=by intro O;refine U40 ?_;exact I0.val K2 (Z0 _) rfl (v:=.int .u64 0) (J0 rfl) O):P:=h k
theorem U544(h:Q->P:=by intro O;refine U185 ?_;exact I0.val o4 (Z0 _) rfl (v:=.int .u64 0) (J0 rfl) O):P:=h k
theorem U545(h:Q->P:=by intro O;refine L.va (O0 rfl Tryz.underlying115 rfl Ep0 (by decide)) ?_;refine L.va (F0 rfl Tryz.underlying56 rfl (hC.A0 2 (v:=.p wb) rfl)) ?_;exact L.call (M0 rfl Tryz.func44 rfl tb0 rfl) (gd0 wb w hW) O):P:=h k
theorem U546(h:Q->P:=by intro O;refine U15 ?_;exact L.va (O0 rfl Tryz.underlying149 rfl sz3 (by decide)) O):P:=h k
theorem U547(h:Q->P:=by intro O;refine U263 ?_;exact L.va (O0 rfl Tryz.underlying72 rfl Qc0 (by decide)) O):P:=h k
theorem U548(h:Q->P:=by intro O;refine U263 ?_;exact L.va (O0 rfl Tryz.underlying72 rfl Qb0 (by decide)) O):P:=h k
theorem U549(h:Q->P:=by intro O;refine U263 ?_;exact L.va (O0 rfl Tryz.underlying72 rfl Qd0 (by decide)) O):P:=h k
theorem U550(h:Q->P:=by intro O;refine L.va (F0 rfl Tryz.underlying65 rfl (Q5.A0 0 (v:=.pointer (some ⟨cb,0,none⟩)) rfl)) ?_;refine L.va (u1 rfl) ?_;exact L.va (O0 rfl Tryz.underlying123 rfl sz2 (by decide)) O):P:=h k
theorem U295(h:Q->P:=by intro O;have hZ:Ctx.Zs Tryz.prog (Fin Tryz.prog Post X g):=V3;have hb:=bkd 113;revert hZ hb;exact O):P:=h k
theorem U296(h:Q->P:=by intro O;have hZ:Ctx.Zs Tryz.prog (Fin Tryz.prog Post X 0):=V3;have hb:=Z0 76;revert hZ hb;exact O):P:=h k
theorem U551(h:Q->P:=by intro O;have L1:=L1.other hg (V0.ne L1 at0 (by decide));have X5:=X5.grown hg (fun r e=>by cases e;exact⟨_,_,_,m4 at0⟩);revert L1 X5;exact O):P:=h k
theorem U552(h:Q->P:=by intro O;show ZA (Fin Tryz.prog Post X1 0) 17 (base 33) cs _ _ w4;have hZ1:Ctx.Zs Tryz.prog (Fin Tryz.prog Post X1 0):=V3;revert hZ1;exact O):P:=h k
theorem U118(h:Q->P:=by intro O;refine U4 ?_;intro hb;refine L.va (m3 rfl) ?_;refine L.va (A7 rfl rfl Tryz.underlying63) ?_;revert hb;exact O):P:=h k
theorem U298(h:Q->P:=by intro O;refine I0.val Y0 (Z0 _) rfl (v:=.bool true) (R7 rfl rfl) ?_;refine I0.nil Y0 ?_;exact At.J4 Y0 rfl O):P:=h k
theorem U120(h:B Q->P:=by intro O;refine U223 ?_;refine W.region rfl ?_;exact U329 O.1):P:=h ⟨k⟩
theorem U299(h:Q->P:=by intro O;rw[k4 ha,if_pos hw];exact .inl O):P:=h k
theorem U300(h:Q->P:=by intro O;refine L.va cp0 ?_;exact L.va cp0 O):P:=h k
theorem U121(h:Q->P:=by intro O;have e7:=e7.mod G5 rfl;have T8:=T8.mod G5 rfl;revert e7 T8;exact O):P:=h k
theorem U554(h:Q->P:=by intro O;refine L.va (az0 rfl) ?_;exact L.va (ba0 rfl Tryz.underlying90 rfl) O):P:=h k
theorem U555(h:Q->P:=by intro O;refine L.va (az0 rfl) ?_;exact L.va (ba0 rfl Tryz.underlying22 rfl) O):P:=h k
theorem U207(h:Q->P:=by intro O;refine U102 ?_;exact U320 O):P:=h k
theorem U89(h:Q->P:=by intro O;refine U9 ?_;exact U3 O):P:=h k
theorem U90(h:Q->P:=by intro O;refine U6 ?_;refine L.va (F0 rfl Tryz.underlying91 rfl (hA.A0 0 (v:=.p c.cb) rfl)) ?_;exact U330 O):P:=h k
theorem U91(h:Q->P:=by intro O;refine U3 ?_;refine L.va (A2 (r:=true) (by decide) (N4 (m:=1) (k:=1) rfl rfl)) ?_;exact U56 O):P:=h k
theorem U556(h:Q->P:=by intro O;refine U3 ?_;exact U192 O):P:=h k
theorem U92(h:Q->P:=by intro O;refine U3 ?_;refine L.va (A2 (r:=false) (by decide) (N4 (m:=3) (k:=1) rfl rfl)) ?_;refine U8 ?_;refine L.va (A2 (r:=false) (by decide) (N4 (m:=3) (k:=2) rfl rfl)) ?_;refine U8 ?_;refine L.va (A2 (r:=true) (by decide) (N4 (m:=3) (k:=3) rfl rfl)) ?_;exact U56 O):P:=h k
theorem U93(h:Q->P:=by intro O;refine U3 ?_;refine L.va (A2 (r:=false) (by decide) (N4 (m:=4) (k:=1) rfl rfl)) ?_;refine U8 ?_;refine L.va (A2 (r:=false) (by decide) (N4 (m:=4) (k:=2) rfl rfl)) ?_;refine U8 ?_;refine L.va (A2 (r:=false) (by decide) (N4 (m:=4) (k:=3) rfl rfl)) ?_;refine U8 ?_;refine L.va (A2 (r:=true) (by decide) (N4 (m:=4) (k:=4) rfl rfl)) ?_;exact U56 O):P:=h k
theorem U557(h:B Q->P:=by intro O;have hσ:=wu0 (V:=V) h (.cons hi0 hl) i (by omega) hs N6 (fun j hj=>hkf j hj) bu0 hV;rw[hσ];revert hσ;exact O.1):P:=h ⟨k⟩
theorem U558(h:Q->P:=by intro O;refine I0.nil (Q0 _ gr 1) ?_;exact At.v5 (Q0 _ gr 1) rfl O):P:=h k
theorem U559(h:Q->P:=by intro O;refine At.v5 (Q0 _ gr 0) rfl ?_;exact At.skip (Q0 _ gr 0) O):P:=h k
theorem U560(h:Q->P:=by intro O;refine I0.nil (Q0 _ gr 0) ?_;exact At.J4 (Q0 _ gr 0) rfl O):P:=h k
theorem U303(h:Q->P:=by intro O;refine ZD.seq hZ ?_;exact ZD.region hZ O):P:=h k
theorem U122(h:B Q->P:=by intro O;refine U100 ?_;refine U329 ?_;refine U2 ?_;exact ZA.inLoop hZ O.1):P:=h ⟨k⟩
theorem U123(h:Q->P:=by intro O;have G5:=e8.el0 hC hg;have o3:=kr0 o3 hg;revert G5 o3;exact O):P:=h k
theorem U304(h:Q->P:=by intro O;refine At.seq (C3 _ gr) ?_;exact U105 O):P:=h k
theorem U561(h:Q->P:=by intro O;refine co0 (Ctx.cl Z hZ) hl ?_;rw[Frame.raise_at];exact O):P:=h k
theorem U124(h:Q->P:=by intro O;refine U171 ?_;exact U363 O):P:=h k
theorem U562(h:Q->P:=by intro O;refine At.block (Q0 _ gr 0) ?_;exact At.loop (Q0 _ gr 0) O):P:=h k
theorem U563(h:Q->P:=by intro O;refine L.va (bb0 rfl rfl) ?_;exact L.va (bb0 rfl rfl) O):P:=h k
theorem U306(h:Q->P:=by intro O;refine L.va (fi0 rfl) ?_;exact U49 O):P:=h k
theorem U307(h:Q->P:=by intro O;refine L.va (g7 rfl) ?_;exact U63 O):P:=h k
theorem U564(h:Q->P:=by intro O;refine At.seq (Q0 _ gr 0) ?_;exact At.block (Q0 _ gr 0) O):P:=h k
theorem U565(h:Q->P:=by intro O;refine I0.nil (Q0 _ gr 2) ?_;exact At.seq (Q0 _ gr 2) O):P:=h k
theorem U566(h:Q->P:=by intro O;refine At.skip (Q0 _ gr 1) ?_;exact At.seq (Q0 _ gr 1) O):P:=h k
theorem U568(h:B Q->P:=by intro O;refine U2 ?_;exact ZA.v5 hZ (rb (decide_eq_false (by omega))) O.1):P:=h ⟨k⟩
theorem U308(h:Q->P:=by intro O;refine U49 ?_;exact L.va (m3 rfl) O):P:=h k
theorem U209(h:Q->P:=by intro O;exact U114 O):P:=h k
theorem U211(h:Q->P:=by intro O;exact U116 O):P:=h k
theorem U569(h:Q->P:=by intro O;refine At.v5 (C3 _ gr) rfl ?_;exact At.skip (C3 _ gr) O):P:=h k
theorem U212(h:Q->P:=by intro O;refine U35 ?_;exact U177 O):P:=h k
theorem U125(h:Q->P:=by intro O;refine U186 ?_;exact U163 O):P:=h k
theorem U309(h:Q->P:=by intro O;refine L.va (m3 rfl) ?_;exact U113 O):P:=h k
theorem U213(h:Q->P:=by intro O;refine U344 ?_;refine U253 ?_;refine L.va (b9 rfl) ?_;exact L.nil O):P:=h k
theorem U570(h:Q->P:=by intro O;refine I0.nil (j0 _) ?_;exact At.inLoop (j0 _) O):P:=h k
theorem U94(h:Q->P:=by intro O;exact U274 O):P:=h k
theorem U571(h:Q->P:=by intro O;refine L.va (L3 rfl rfl Tryz.underlying65) ?_;exact U64 O):P:=h k
theorem U572(h:Q->P:=by intro O;refine L.va (L3 rfl rfl Tryz.underlying86) ?_;exact U207 O):P:=h k
theorem U573(h:Q->P:=by intro O;refine L.va (L3 rfl rfl Tryz.underlying65) ?_;exact U207 O):P:=h k
theorem U574(h:Q->P:=by intro O;refine U108 ?_;exact L.va (ba0 rfl Tryz.underlying151 rfl) O):P:=h k
theorem U126(h:Q->P:=by intro O;refine U236 ?_;refine L.va (A2 (r:=true) (by decide) (N7 (m:=2) (k:=9) rfl rfl)) ?_;exact U38 O):P:=h k
theorem U127(h:Q->P:=by intro O;refine U335 ?_;refine L.va (A2 (r:=true) (by decide) (N7 (m:=6) (k:=9) rfl rfl)) ?_;exact U38 O):P:=h k
theorem U128(h:Q->P:=by intro O;refine U334 ?_;refine L.va (A2 (r:=true) (by decide) (N7 (m:=3) (k:=9) rfl rfl)) ?_;exact U38 O):P:=h k
theorem U129(h:Q->P:=by intro O;refine U337 ?_;refine L.va (A2 (r:=true) (by decide) (N7 (m:=5) (k:=9) rfl rfl)) ?_;exact U38 O):P:=h k
theorem U130(h:Q->P:=by intro O;refine U336 ?_;refine L.va (A2 (r:=true) (by decide) (N7 (m:=4) (k:=9) rfl rfl)) ?_;exact U38 O):P:=h k
theorem U131(h:Q->P:=by intro O;refine U34 ?_;exact U78 O):P:=h k
theorem U132(h:Q->P:=by intro O;refine L.va (M8 (r:=7) (by decide) (by decide) rfl rfl) ?_;refine U31 ?_;refine L.va (A2 (r:=true) (by decide) (N7 (m:=7) (k:=9) rfl rfl)) ?_;exact U38 O):P:=h k
theorem U133(h:Q->P:=by intro O;refine L.va (M8 (r:=8) (by decide) (by decide) rfl rfl) ?_;refine U31 ?_;refine L.va (A2 (r:=true) (by decide) (N7 (m:=8) (k:=9) rfl rfl)) ?_;exact U38 O):P:=h k
theorem U134(h:Q->P:=by intro O;refine L.va (M8 (r:=9) (by decide) (by decide) rfl rfl) ?_;refine U31 ?_;refine L.va (A2 (r:=true) (by decide) (N7 (m:=9) (k:=9) rfl rfl)) ?_;exact U38 O):P:=h k
theorem U135(h:Q->P:=by intro O;refine L.va (C5 rfl) ?_;refine U2 ?_;refine ZA.block hZ ?_;exact ZA.loop hZ O):P:=h k
theorem U214(h:Q->P:=by intro O;refine U447 ?_;refine L.va (N4 rfl rfl) ?_;exact L.va (ij0 rfl) O):P:=h k
theorem U136(h:Q->P:=by intro O;refine U28 ?_;exact U199 O):P:=h k
theorem U137(h:Q->P:=by intro O;refine L.va (M8 (r:=10) (by decide) (by decide) rfl rfl) ?_;refine U31 ?_;refine L.va (A2 (r:=false) (by decide) (N7 (m:=10) (k:=9) rfl rfl)) ?_;refine U7 ?_;refine U290 ?_;exact U73 O):P:=h k
theorem U138(h:Q->P:=by intro O;refine U147 ?_;refine U556 ?_;refine W.rounds 10 ?_;refine U146 ?_;refine L.va (A2 (r:=true) (by decide) (N7 (m:=1) (k:=9) rfl rfl)) ?_;exact U38 O):P:=h k
theorem U576(h:Q->P:=by intro O;refine D9 (Ctx.cl Z hZ) hl ?_;rw[ch0];exact O):P:=h k
theorem U95(h:Q->P:=by intro O;have u6:=u6.E0 F5.below;have D3:=F5.blk;revert u6 D3;exact O):P:=h k
theorem U215(h:B Q->P:=by intro O;refine U287 ?_;refine I0.val (j0 _) (Z0 _) rfl (v:=.bool false) (ah0 (r:=false) rfl rfl (decide_eq_false (by omega))) ?_;exact U227 O.1):P:=h ⟨k⟩
theorem U216(h:B Q->P:=by intro O;refine I0.val (j0 _) (Z0 _) rfl (v:=.bool true) (bx0 (r:=true) rfl rfl (decide_eq_true (by omega))) ?_;refine I0.val (j0 _) (Z0 _) rfl (v:=.bool true) (J0 rfl) ?_;refine U222 ?_;refine I0.val (j0 _) (Z0 _) rfl (v:=.bool true) (R7 rfl rfl) ?_;refine I0.nil (j0 _) ?_;exact At.J4 (j0 _) rfl O.1):P:=h ⟨k⟩
theorem U139(h:Q->P:=by intro O;refine D.nil (fun w I1=>?_);have hg:=hg.E0 I1;revert w I1 hg;exact O):P:=h k
theorem U577(h:Q->P:=by intro O;refine U108 ?_;exact L.va (ba0 rfl Tryz.underlying60 rfl) O):P:=h k
theorem U578(h:Q->P:=by intro O;refine U108 ?_;exact L.va (ba0 rfl Tryz.underlying23 rfl) O):P:=h k
theorem U579(h:Q->P:=by intro O;refine U108 ?_;exact L.va (ba0 rfl Tryz.underlying90 rfl) O):P:=h k
theorem U310(h:Q->P:=by intro O;refine U278 ?_;exact ZA.inBlock hZ O):P:=h k
theorem U580(h:B Q->P:=by intro O;have h1:=Int.emod_nonneg e (b:=(n:Int)) (by omega);have h2:=Int.emod_lt_of_pos e (b:=(n:Int)) (by omega);revert h1 h2;exact O.1):P:=h ⟨k⟩
theorem U217(h:Q->P:=by intro O;refine W.region rfl ?_;refine L.va (N4 rfl rfl) ?_;exact U30 O):P:=h k
theorem U218(h:Q->P:=by intro O;refine U235 ?_;refine U319 ?_;exact U315 O):P:=h k
theorem U140(h:Q->P:=by intro O;refine ZA.W hZ hb ?_;have hR:=hg.m.run;(have hC:=(hg.m.blk i c hc));revert hR hC;exact O):P:=h k
theorem U311(h:Q->P:=by intro O;refine U322 ?_;exact W.region rfl O):P:=h k
theorem U220(h:Q->P:=by intro O;refine At.region r4 ?_;refine I0.val r4 (Z0 _) rfl (v:=.pointer (some ⟨gr.blk,gr.off,none⟩)) (J0 rfl) ?_;refine I0.val r4 (Z0 _) rfl (v:=.pointer (some ⟨gr.blk,gr.off,none⟩)) (I3 rfl) ?_;exact I0.val r4 (Z0 _) rfl (v:=.pointer (some ⟨gr.blk,gr.off+1,none⟩)) (B3 (s:=1) gr.off (gr.off+1) rfl Tryz.underlying141 rfl Er0 (by decide) rfl) O):P:=h k
theorem U221(h:Q->P:=by intro O;refine U385 ?_;refine U45 ?_;exact I0.val (j0 _) (Z0 _) rfl (v:=.int .i32 (((0:Nat):Int))) (J0 rfl) O):P:=h k
theorem U96(h:Q->P:=by intro O;refine U516 ?_;intro L4 l5 m5;have V5:=V5.E0 r6;revert L4 l5 m5 V5;exact O):P:=h k
theorem U97(h:Q->P:=by intro O;refine U517 ?_;intro L4 l5 m5;have V5:=V5.E0 I1;revert L4 l5 m5 V5;exact O):P:=h k
theorem U581(h:Q->P:=by intro O;refine I0.nil l3 ?_;exact At.v5 l3 rfl O):P:=h k
theorem U582(h:Q->P:=by intro O;refine I0.nil r4 ?_;exact At.v5 r4 rfl O):P:=h k
theorem U583(h:Q->P:=by intro O;refine At.inBlock B2 ?_;exact At.inLoop B2 O):P:=h k
theorem U584(h:Q->P:=by intro O;refine W.region rfl ?_;exact L.va (az0 rfl) O):P:=h k
theorem U585(h:Q->P:=by intro O;refine L.va (az0 rfl) ?_;exact L.va (C5 rfl) O):P:=h k
theorem U312(h:Q->P:=by intro O;refine U267 ?_;exact ZA.block hZ O):P:=h k
end
abbrev Value.i(x:Int):Value:=.int .i64 x
abbrev Value.p(b:Nat):Value:=.pointer (some ⟨b,0,none⟩)
abbrev pt(b:Nat):Option Addr:=some ⟨b,0,none⟩
end Go
section
namespace Go.Yc
open Go Go.Conc
structure Past (Sh:Loc->Prop) (Us:Nat->Prop) (St:Nat->Loc->Prop) (Mem Lo:Nat->Prop) (K:Nat->Prop) (t:Trace):Prop where
 clean:∀said,¬Race said t
 known:∀i a,touchAt t i=some a->a.loc.isMemory=true->¬Sh a.loc->K i\/(a.write=false/\∃g,t.g? i=some g/\Lo g/\St g a.loc)
 wrote:∀i a,touchAt t i=some a->a.write=true->∀g,Mem g->St g a.loc->Knows t g i
 hears:∀g,Mem g->Deaf t g=0
 cj0:∀i a g,touchAt t i=some a->Sh a.loc->t.g? i=some g->(∀g',Us g'->Knows t g' i)\/(a.kind≠.plain/\(g≠0->a.kind= .atomic/\¬t.heard i))
def PastH (Sh:Loc->Prop) (Us:Nat->Prop) (St:Nat->Loc->Prop) (Mem Lo:Nat->Prop) (h:Nat) (t:Trace):Prop:=Past Sh Us St Mem Lo (Knows t h) t
section
variable {Sh:Loc->Prop}{Us Us':Nat->Prop}{St St':Nat->Loc->Prop}{Mem Mem' Lo Lo':Nat->Prop}{h:Nat}{K K':Nat->Prop}{t u:Trace}
theorem Past.fewer (H:Past Sh Us St Mem Lo K t) (hM:∀g,Mem' g->Mem g):Past Sh Us St Mem' Lo K t :=
 ⟨H.clean,H.known,fun i a ha hw g hg hS=>H.wrote i a ha hw g (hM g hg) hS,fun g hg=>H.hears g (hM g hg),H.cj0⟩
theorem Past.loosen (H:Past Sh Us St Mem Lo K t) (hL:∀g,Lo g->Lo' g):Past Sh Us St Mem Lo' K t :=
 ⟨H.clean,fun i a ha hm hs=>(H.known i a ha hm hs).imp id fun⟨x,g,hg,hl,hS⟩=>⟨x,g,hg,hL g hl,hS⟩,H.wrote,H.hears,H.cj0⟩
theorem Past.old_known (H:Past Sh Us St Mem Lo K t) (hK:∀i,K i->K' i) {i:Nat} {a:Touch} {x:MemOp} (W3:t[i]? =some x) (x5:x.act.touch? =some a) (hm:a.loc.isMemory=true) (hs:¬Sh a.loc) :
  K' i\/(a.write=false/\∃g,(t++u).g? i=some g/\Lo g/\St g a.loc) :=
 (H.known i a (by rw[touchAt_of W3];exact x5) hm hs).imp (hK i) fun⟨p,g,hg,hl,hS⟩=>⟨p,g,by rw[g?_old (lt_size_of_getElem? W3)];exact hg,hl,hS⟩
theorem Past.old_hears {g:Nat} (H:Past Sh Us St Mem Lo K t) (hu:∀op∈u,op.g=g) (hd:Mem g->Deaf (t++u) g=Deaf t g):∀g',Mem g'->Deaf (t++u) g'=0:=fun g' z6=>by
 by_cases e:g'=g
 ·subst e;exact(hd z6).trans (H.hears g' z6)
 ·exact(Deaf_other t (fun x=>e x.symm) u hu).trans (H.hears g' z6)
theorem Past.K7 (H:Past Sh Us St Mem Lo K t) {i g:Nat} {a:Touch} {x:MemOp} (W3:t[i]? =some x) (x5:x.act.touch? =some a) (hs:Sh a.loc) (hg:(t++u).g? i=some g) :
  (∀g',Us g'->Knows (t++u) g' i)\/(a.kind≠.plain/\(g≠0->a.kind= .atomic/\¬(t++u).heard i)):=by
 have T2:=lt_size_of_getElem? W3;rw[g?_old T2]at hg;rcases H.cj0 i a g (by rw[touchAt_of W3];exact x5) hs hg with this|this
 ·exact .inl fun g' z6=>(this g' z6).app u
 ·exact .inr ⟨this.1,fun r3=>⟨(this.2 r3).1,fun hh=>(this.2 r3).2 ((heard_old T2).1 hh)⟩⟩
theorem Past.leave (H:Past Sh Us St Mem Lo K t) (hU:∀g,Us' g->Us g):Past Sh Us' St Mem Lo K t :=
 ⟨H.clean,H.known,H.wrote,H.hears,fun i a g ha hs hg=>(H.cj0 i a g ha hs hg).imp (fun z g' z6=>z g' (hU g' z6)) id⟩
theorem PastH.Cj0 {Sh':Loc->Prop} (H:PastH Sh Us St Mem Lo h t) (hS:∀l,Sh l->Sh' l) (hLo:∀g l,Lo g->St g l->¬Sh' l) (hm:∀l,Sh' l->l.isMemory=true) (hU:∀g,Us g->g=h):PastH Sh' Us St Mem Lo h t :=
 ⟨H.clean,fun i a ha hm hs=>H.known i a ha hm fun z=>hs (hS _ z),H.wrote,H.hears,fun i a g ha hs hg=>by
  by_cases e:Sh a.loc
  ·exact H.cj0 i a g ha e hg
  ·rcases H.known i a ha (hm _ hs) e with hk|⟨_,g',_,hl,hS'⟩
   ·exact .inl fun g'' ak1=>by rw[hU g'' ak1];exact hk
   ·exact absurd hs (hLo g' _ hl hS')⟩
theorem Past.appMute {g:Nat} (H:Past Sh Us St Mem Lo K t) (hK:∀i,K i->K' i) (hn:∀op∈u,op.act.touch? =none) (hh:∀g',Mem g'->Deaf (t++u) g'=0):Past Sh Us St Mem Lo K' (t++u):=by
 refine⟨fun said=>noRace_appendMute (H.clean said) hn,fun i a ha hm hs=>?_,fun i a ha hw g' z6 hS=>?_,hh,fun i a g' ha hs z6=>?_⟩
 ·obtain⟨x,hx,x5⟩:=touch_of ha;rcases getElem?_append_cases hx with⟨_,W3⟩|⟨_,L8⟩
  ·exact H.old_known hK W3 x5 hm hs
  ·rw[hn x L8]at x5;cases x5
 ·obtain⟨x,hx,x5⟩:=touch_of ha;rcases getElem?_append_cases hx with⟨_,W3⟩|⟨_,L8⟩
  ·exact(H.wrote i a (by rw[touchAt_of W3];exact x5) hw g' z6 hS).app u
  ·rw[hn x L8]at x5;cases x5
 ·obtain⟨x,hx,x5⟩:=touch_of ha;rcases getElem?_append_cases hx with⟨_,W3⟩|⟨_,L8⟩
  ·exact H.K7 W3 x5 hs z6
  ·rw[hn x L8]at x5;cases x5
theorem Past.appRead {g:Nat} (H:Past Sh Us St Mem Lo K t) (hK:∀i,K i->K' i) (hg:Mem g) (hL:Lo g) (hu:∀op∈u,op.g=g) (hr:∀op∈u,∀b,op.act.touch? =some b->b.write=false/\St g b.loc/\¬Sh b.loc) (hd:Deaf (t++u) g=Deaf t g) :
  Past Sh Us St Mem Lo K' (t++u):=by
 refine⟨fun said=>noRace_append (H.clean said) hu fun i a ha op H5 b hb hc=>?_,fun i a ha hm hs=>?_,fun i a ha hw g' z6 hS=>?_,H.old_hears hu (fun _=>hd),fun i a g' ha hs z6=>?_⟩
 ·obtain⟨hb0,hbS,_⟩:=hr op H5 b hb;rcases hc.2.2.1 with x|x
  ·exact H.wrote i a ha x g hg (hc.1▸hbS)
  ·rw[hb0]at x;cases x
 ·obtain⟨x,hx,x5⟩:=touch_of ha;rcases getElem?_append_cases hx with⟨_,W3⟩|⟨_,L8⟩
  ·exact H.old_known hK W3 x5 hm hs
  ·exact .inr ⟨(hr x L8 a x5).1,g,by rw[g?_of hx,hu x L8],hL,(hr x L8 a x5).2.1⟩
 ·obtain⟨x,hx,x5⟩:=touch_of ha;rcases getElem?_append_cases hx with⟨_,W3⟩|⟨_,L8⟩
  ·exact(H.wrote i a (by rw[touchAt_of W3];exact x5) hw g' z6 hS).app u
  ·rw[(hr x L8 a x5).1]at hw;cases hw
 ·obtain⟨x,hx,x5⟩:=touch_of ha;rcases getElem?_append_cases hx with⟨_,W3⟩|⟨_,L8⟩
  ·exact H.K7 W3 x5 hs z6
  ·exact absurd hs (hr x L8 a x5).2.2
def HOk (Sh:Loc->Prop) (St:Nat->Loc->Prop) (h:Nat) (op:MemOp):Prop:=∀b,op.act.touch? =some b->¬Sh b.loc/\(b.write=true->∀g,g≠h->¬St g b.loc)
theorem PastH.appH (H:PastH Sh Us St Mem Lo h t) (hLo:¬Lo h) (hu:∀op∈u,op.g=h) (hs:∀op∈u,HOk Sh St h op) (hd:Deaf (t++u) h=Deaf t h):PastH Sh Us St Mem Lo h (t++u):=by
 refine⟨fun said=>noRace_append (H.clean said) hu fun i a ha op H5 b hb hc=>?_,fun i a ha hm hns=>?_,fun i a ha hw g hg hS=>?_,H.old_hears hu (fun _=>hd),fun i a g' ha hsh z6=>?_⟩
 ·obtain⟨h1,h2⟩:=hs op H5 b hb;rcases H.known i a ha hc.2.1 (hc.1▸h1)with hk|⟨hw,g,_,hl,hS⟩
  ·exact hk
  ·rcases hc.2.2.1 with x|x
   ·rw[hw]at x;cases x
   ·exact absurd (hc.1▸hS) (h2 x g fun e=>hLo (e▸hl))
 ·obtain⟨x,hx,x5⟩:=touch_of ha;rcases getElem?_append_cases hx with⟨_,W3⟩|⟨_,L8⟩
  ·exact H.old_known (fun i=>Knows.app u) W3 x5 hm hns
  ·have:=knows_own hx;rw[hu x L8]at this;exact .inl this
 ·obtain⟨x,hx,x5⟩:=touch_of ha;rcases getElem?_append_cases hx with⟨_,W3⟩|⟨_,L8⟩
  ·exact(H.wrote i a (by rw[touchAt_of W3];exact x5) hw g hg hS).app u
  ·by_cases e:g=h
   ·have:=knows_own hx;rw[hu x L8]at this;rw[e];exact this
   ·exact absurd hS ((hs x L8 a x5).2 hw g e)
 ·obtain⟨x,hx,x5⟩:=touch_of ha;rcases getElem?_append_cases hx with⟨_,W3⟩|⟨_,L8⟩
  ·exact H.K7 W3 x5 hsh z6
  ·exact absurd hsh (hs x L8 a x5).1
def GOk (Sh:Loc->Prop) (g:Nat) (op:MemOp):Prop:=∀b,op.act.touch? =some b->Sh b.loc/\b.kind≠.plain/\(g≠0->b.kind= .atomic)
theorem Past.Mp0 {g:Nat} (H:Past Sh Us St Mem Lo K t) (hUs:Us g) (Tu0:∀g l,St g l->¬Sh l) (hK:∀i,K i->K' i) (hu:∀op∈u,op.g=g) (hs:∀op∈u,GOk Sh g op) (hdf:g≠0->∀i,t.size <=i->i<t.size+u.size->(t++u).deaf g i≠0)
  (hh:∀g',Mem g'->Deaf (t++u) g'=0):Past Sh Us St Mem Lo K' (t++u):=by
 refine⟨fun said=>noRace_append (H.clean said) hu fun i a ha op H5 b hb hc=>?_,fun i a ha hm hns=>?_,fun i a ha hw g' z6 hS=>?_,hh,fun i a g' ha hsh z6=>?_⟩
 ·obtain⟨h1,h2,h3⟩:=hs op H5 b hb;obtain⟨x,hx,x5⟩:=touch_of ha;rcases H.cj0 i a x.g ha (hc.1▸h1) (g?_of hx)with hsx|hsx
  ·exact hsx g hUs
  rcases hc.2.2.2 with y|y|⟨_,y1,y2⟩
  ·exact absurd y hsx.1
  ·exact absurd y h2
  ·have e1:g=0:=Classical.byContradiction fun e=>by have:=h3 e;rw[y2]at this;cases this
   have e2:x.g=0:=Classical.byContradiction fun e=>by have:=(hsx.2 e).1;rw[y1]at this;cases this
   have:=knows_own hx;rw[e2]at this;rw[e1];exact this
 ·obtain⟨x,hx,x5⟩:=touch_of ha;rcases getElem?_append_cases hx with⟨_,W3⟩|⟨_,L8⟩
  ·exact H.old_known hK W3 x5 hm hns
  ·exact absurd (hs x L8 a x5).1 hns
 ·obtain⟨x,hx,x5⟩:=touch_of ha;rcases getElem?_append_cases hx with⟨_,W3⟩|⟨_,L8⟩
  ·exact(H.wrote i a (by rw[touchAt_of W3];exact x5) hw g' z6 hS).app u
  ·exact absurd (hs x L8 a x5).1 (Tu0 _ _ hS)
 ·obtain⟨x,hx,x5⟩:=touch_of ha;rcases getElem?_append_cases hx with⟨_,W3⟩|⟨hi,L8⟩
  ·exact H.K7 W3 x5 hsh z6
  ·obtain⟨h1,h2,h3⟩:=hs x L8 a x5;have hgx:g'=g:=by rw[g?_of hx]at z6;rw[<- hu x L8];exact(Option.some.inj z6).symm
   subst hgx;refine .inr ⟨h2,fun r3=>⟨h3 r3,?_⟩⟩;rintro⟨g2,hg2,hd2⟩;rw[z6]at hg2;obtain rfl:=Option.some.inj hg2;exact hdf r3 i hi (by have:=lt_size_of_getElem? hx;simpa using this) hd2
theorem PastH.still (H:PastH Sh Us St Mem Lo h t) (hLo:¬Lo h) (hSt:∀g,g≠h->∀l,St' g l↔St g l) (hS:∀l,St' h l->l.isMemory=true/\¬Sh l) (hM:∀g,Mem' g->Mem g\/g=h) (hd:Mem' h->Deaf t h=0):PastH Sh Us St' Mem' Lo h t :=
 ⟨H.clean,fun i a ha hm hs=>(H.known i a ha hm hs).imp id fun⟨x,g,hg,hl,hS'⟩=>⟨x,g,hg,hl,(hSt g (fun e=>hLo (e▸hl)) _).2 hS'⟩,
  fun i a ha hw g hg hl=>by
   by_cases e:g=h
   ·subst e;obtain⟨h1,h2⟩:=hS _ hl;rcases H.known i a ha h1 h2 with hk|⟨u3,_⟩
    ·exact hk
    ·rw[hw]at u3;cases u3
   ·exact H.wrote i a ha hw g ((hM g hg).resolve_right e) ((hSt g e _).1 hl),
  fun g hg=>by
   by_cases e:g=h
   ·subst e;exact hd hg
   ·exact H.hears g ((hM g hg).resolve_right e),H.cj0⟩
end
section
variable {Sh:Loc->Prop}{Us:Nat->Prop}{St:Nat->Loc->Prop}{Mem Lo:Nat->Prop}{h j:Nat}{t:Trace}
theorem PastH.give (H:PastH Sh Us St Mem Lo h t) (hh:Mem h) (hj:Mem j) (fh:FuncId) (ph:String) (fj:FuncId) (pj:String) (c k cap:Nat) :
  PastH Sh Us St Mem (fun g=>Lo g/\g≠j) j (t++met h j fh ph fj pj c k cap):=by
 have hn:=met_mute h j fh ph fj pj c k cap;have hq:=fun g=>met_quiet h j fh ph fj pj c k cap g;have e0:(t++met h j fh ph fj pj c k cap)[t.size]? =some {g:=h,fn:=fh,pos:=ph,act:=.send c k}:=by simp[met]
 have e3:(t++met h j fh ph fj pj c k cap)[t.size+3]? =some {g:=j,fn:=fj,pos:=pj,act:=.recvDone c k}:=by simp[met]
 have Av0:HappensBefore (t++met h j fh ph fj pj c k cap) t.size (t.size+3) :=
  Relation.TransGen.single (.inr ⟨.handOver (act?_of e0) (act?_of e3),⟨h,g?_of e0,by rw[deaf_old (Nat.le_refl _)];exact H.hears h hh⟩,⟨j,g?_of e3,by rw[deaf_quiet (hq j) 3 (by simp[met])];exact H.hears j hj⟩⟩)
 refine⟨fun said=>noRace_appendMute (H.clean said) hn,fun i a ha hm hs=>?_,fun i a ha hw g hg hS=>?_,fun g hg=>(Deaf_quiet (hq g)).trans (H.hears g hg),fun i a g' ha hsh z6=>?_⟩
 ·obtain⟨x,hx,x5⟩:=touch_of ha;rcases getElem?_append_cases hx with⟨hi,W3⟩|⟨_,L8⟩
  ·rcases H.known i a (by rw[touchAt_of W3];exact x5) hm hs with hk|⟨p,g,hg,hl,hS⟩
   ·exact .inl ⟨t.size+3,_,e3,rfl,.inr ((hk.hb_new (Nat.le_refl _) e0 rfl).trans Av0)⟩
   ·by_cases e:g=j
    ·subst e;have:=knows_own hx;rw[show x.g=g from by have:=g?_of W3;rw[hg]at this;exact(Option.some.inj this).symm]at this;exact .inl this
    ·exact .inr ⟨p,g,by rw[g?_old hi];exact hg,⟨hl,e⟩,hS⟩
  ·rw[hn x L8]at x5;cases x5
 ·obtain⟨x,hx,x5⟩:=touch_of ha;rcases getElem?_append_cases hx with⟨_,W3⟩|⟨_,L8⟩
  ·exact(H.wrote i a (by rw[touchAt_of W3];exact x5) hw g hg hS).app _
  ·rw[hn x L8]at x5;cases x5
 ·obtain⟨x,hx,x5⟩:=touch_of ha;rcases getElem?_append_cases hx with⟨_,W3⟩|⟨_,L8⟩
  ·exact H.K7 W3 x5 hsh z6
  ·rw[hn x L8]at x5;cases x5
theorem PastH.born {c:Nat} (H:PastH Sh Us St Mem Lo h t) (hh:Mem h) (hc0:Deaf t c=0) (hSt:∀l,¬St c l) (hUs:Us h) (fh:FuncId) (ph:String) (fc:FuncId) :
  PastH Sh (fun g=>Us g\/g=c) St (fun g=>Mem g\/g=c) Lo c (t ++ #[{g:=h,fn:=fh,pos:=ph,act:=.go c},{g:=c,fn:=fc,pos:=ph,act:=.start}]):=by
 generalize hu:(#[{g:=h,fn:=fh,pos:=ph,act:=.go c},{g:=c,fn:=fc,pos:=ph,act:=.start}]:Trace)=u;have hn:∀op∈u,op.act.touch? =none:=by
  intro op H5;subst hu;simp only[List.mem_toArray,List.mem_cons,List.not_mem_nil,or_false]at H5;rcases H5 with rfl|rfl <;> rfl
 have hq:∀g,∀op∈u,∀d,deafStep g d op=d:=by
  intro g op H5 d;subst hu;simp only[List.mem_toArray,List.mem_cons,List.not_mem_nil,or_false]at H5;rcases H5 with rfl|rfl <;> rfl
 have e0:(t++u)[t.size]? =some {g:=h,fn:=fh,pos:=ph,act:=.go c}:=by subst hu;simp
 have e1:(t++u)[t.size+1]? =some {g:=c,fn:=fc,pos:=ph,act:=.start}:=by subst hu;simp
 have Av0:HappensBefore (t++u) t.size (t.size+1) :=
  Relation.TransGen.single (.inr ⟨.spawn (act?_of e0) (act?_of e1) (g?_of e1),⟨h,g?_of e0,by rw[deaf_old (Nat.le_refl _)];exact H.hears h hh⟩,⟨c,g?_of e1,by rw[deaf_quiet (hq c) 1 (by subst hu;simp)];exact hc0⟩⟩)
 refine⟨fun said=>noRace_appendMute (H.clean said) hn,fun i a ha hm hs=>?_,fun i a ha hw g hg hS=>?_,fun g hg=>(Deaf_quiet (hq g)).trans (hg.elim (H.hears g) fun e=>e▸hc0),fun i a g' ha hsh z6=>?_⟩
 ·obtain⟨x,hx,x5⟩:=touch_of ha;rcases getElem?_append_cases hx with⟨hi,W3⟩|⟨_,L8⟩
  ·rcases H.known i a (by rw[touchAt_of W3];exact x5) hm hs with hk|⟨p,g,hg,hl,hS⟩
   ·exact .inl ⟨t.size+1,_,e1,rfl,.inr ((hk.hb_new (Nat.le_refl _) e0 rfl).trans Av0)⟩
   ·exact .inr ⟨p,g,by rw[g?_old hi];exact hg,hl,hS⟩
  ·rw[hn x L8]at x5;cases x5
 ·obtain⟨x,hx,x5⟩:=touch_of ha;rcases getElem?_append_cases hx with⟨_,W3⟩|⟨_,L8⟩
  ·rcases hg with hg|rfl
   ·exact(H.wrote i a (by rw[touchAt_of W3];exact x5) hw g hg hS).app u
   ·exact absurd hS (hSt _)
  ·rw[hn x L8]at x5;cases x5
 ·obtain⟨x,hx,x5⟩:=touch_of ha;rcases getElem?_append_cases hx with⟨_,W3⟩|⟨_,L8⟩
  ·have T2:=lt_size_of_getElem? W3;rcases H.cj0 i a g' (by rw[touchAt_of W3];exact x5) hsh (by rw[<- g?_old (u:=u) T2];exact z6)with y|y
   ·refine .inl fun g2 hg2=>?_;rcases hg2 with hg2|rfl
    ·exact(y g2 hg2).app u
    ·exact⟨t.size+1,_,e1,rfl,.inr (((y h hUs).hb_new (Nat.le_refl _) e0 rfl).trans Av0)⟩
   ·exact .inr ⟨y.1,fun r3=>⟨(y.2 r3).1,fun hh=>(y.2 r3).2 ((heard_old T2).1 hh)⟩⟩
  ·rw[hn x L8]at x5;cases x5
theorem PastH.over (H:PastH Sh Us St Mem Lo 0 t) (hU:Us 0) (hL:∀g,¬Lo g):t.HandedOver:=by
 rintro i g hg r3 ⟨x,hx,hm,ev0⟩;by_cases hs:Sh x.loc
 ·rcases H.cj0 i x g hx hs hg with hk|this
  ·obtain⟨q,z,hq,hz,hb⟩:=hk 0 hU;rcases hb with rfl|hb
   ·rw[g?_of hq,hz]at hg;exact absurd (Option.some.inj hg).symm r3
   ·exact⟨q,by rw[g?_of hq,hz],hb⟩
  ·exact(ev0.elim (fun z=>absurd (this.2 r3).1 z) fun z=>absurd z (this.2 r3).2)
 ·rcases H.known i x hx hm hs with⟨q,z,hq,hz,hb⟩|⟨_,g',_,hl,_⟩
  ·rcases hb with rfl|hb
   ·rw[g?_of hq,hz]at hg;exact absurd (Option.some.inj hg).symm r3
   ·exact⟨q,by rw[g?_of hq,hz],hb⟩
  ·exact absurd hl (hL g')
end
end Go.Yc
end
section
namespace Go.Yc
open Go
def wi0:Mark->Bool
 | .acquire _| .release _| .releaseMerge _| .disable| .enable| .read _| .write _=>false
 |_=>true
def e4:Obj->Bool
 | .view ..=>true
 |_=>false
def l6:Obj->Bool
 | .cells ..=>true
 |_=>false
def dead {α:Type} (P:Program):Sem α->Prop
 | .pure _=>False
 | .load _ _ k=>∀v,dead P (k v)
 | .store _ _ _ k=>dead P k
 | .new _ k=>∀r,dead P (k r)
 | .shape _ k=>∀s,dead P (k s)
 | .freeze _ _ k=>dead P k
 | .frozen _ k=>∀b,dead P (k b)
 | .getObj _ k=>∀o,dead P (k o)
 | .setObj _ _ k=>dead P k
 | .choose _ k=>∀n,dead P (k n)
 | .sys _ k=>∀r,dead P (k r)
 | .program k=>dead P (k P)
 | .mark _ k=>dead P k
 | .halt h=>∀v,h≠.panic v
def E1 {α:Type} (P:Program):Sem α->Prop
 | .pure _=>True
 | .load _ _ k=>∀v,E1 P (k v)
 | .store _ _ _ k=>E1 P k
 | .new o k=>e4 o=false/\∀r,E1 P (k r)
 | .shape _ k=>∀s,dead P (k s)
 | .freeze _ _ k=>dead P k
 | .frozen _ k=>∀b,dead P (k b)
 | .getObj _ k=>∀o,E1 P (k o)
 | .setObj _ o k=>(e4 o=false/\l6 o=false)/\E1 P k
 | .choose _ k=>∀n,E1 P (k n)
 | .sys _ k=>∀r,dead P (k r)
 | .program k=>E1 P (k P)
 | .mark m k=>if wi0 m then E1 P k else dead P k
 | .halt _=>True
theorem P3 {α β:Type} {P:Program} (f:α->Sem β):∀{s:Sem α},dead P s->dead P (s.bind f)
 | .pure _,h=>h.elim
 | .load _ _ k,h=>fun v=>P3 f (h v)
 | .store _ _ _ k,h=>P3 f (s:=k) h
 | .new _ k,h=>fun r=>P3 f (h r)
 | .shape _ k,h=>fun s=>P3 f (h s)
 | .freeze _ _ k,h=>P3 f (s:=k) h
 | .frozen _ k,h=>fun b=>P3 f (h b)
 | .getObj _ k,h=>fun o=>P3 f (h o)
 | .setObj _ _ k,h=>P3 f (s:=k) h
 | .choose _ k,h=>fun n=>P3 f (h n)
 | .sys _ k,h=>fun r=>P3 f (h r)
 | .program k,h=>P3 f (s:=k P) h
 | .mark _ k,h=>P3 f (s:=k) h
 | .halt _,h=>h
theorem g6 {α β:Type} {P:Program} {f:α->Sem β} (hf:∀a,E1 P (f a)):∀{s:Sem α},E1 P s->E1 P (s.bind f)
 | .pure a,_=>hf a
 | .load _ _ k,h=>fun v=>g6 hf (h v)
 | .store _ _ _ k,h=>g6 hf (s:=k) h
 | .new _ k,h=>⟨h.1,fun r=>g6 hf (h.2 r)⟩
 | .shape _ k,h=>fun s=>P3 f (h s)
 | .freeze _ _ k,h=>P3 f (s:=k) h
 | .frozen _ k,h=>fun b=>P3 f (h b)
 | .getObj _ k,h=>fun o=>g6 hf (h o)
 | .setObj _ _ k,h=>⟨h.1,g6 hf (s:=k) h.2⟩
 | .choose _ k,h=>fun n=>g6 hf (h n)
 | .sys _ k,h=>fun r=>P3 f (h r)
 | .program k,h=>g6 hf (s:=k P) h
 | .mark m k,h=>by
  unfold E1 at h;show E1 P (Sem.mark m (k.bind f));unfold E1;split at h
  ·rename_i hm;rw[if_pos hm];exact g6 hf (s:=k) h
  ·rename_i hm;rw[if_neg hm];exact P3 f (s:=k) h
 | .halt _,_=>trivial
def inR (f:Nat×Nat) (i:Nat):Prop:=f.1 <=i/\i<f.2
inductive j6 where
 |all
 |cut (rest:Array Value) (f:Nat×Nat)
 |gone (o:Obj)
inductive bs0:j6->Obj->Obj->Prop
 |same (o:Obj):bs0 .all o o
 |cut (c rest:Array Value) (T:TypeId) (f f':Nat×Nat) (h:∀i,inR f i->inR f' i):bs0 (.cut rest f) (.cells c T f') (.cells (c++rest) T f)
 |gone (T:TypeId) (f:Nat×Nat) (o:Obj):bs0 (.gone o) (.cells #[] T f) o
structure I5 (ρ:Nat->j6) (u w:World):Prop where
 os:w.os=u.os
 output:w.output=u.output
 tape:w.tape=u.tape
 drawn:w.drawn=u.drawn
 size:w.heap.size=u.heap.size
 obj:∀(b:Nat) (x:Obj),u.heap[b]? =some x->∃y,w.heap[b]? =some y/\bs0 (ρ b) x y
 new:∀b,u.heap.size <=b->ρ b= .all
 A6:∀(b:Nat) (x:Obj),u.heap[b]? =some x->e4 x=false
def N3 (x y:Obj):Prop:=match x,y with
 | .cells c T f,.cells c' T' f'=>c'.size=c.size/\T'=T/\f'=f/\∀i,inR f i->c'[i]? =c[i]?
 | .cells ..,_=>False
 |_,y=>l6 y=false
structure V8 (u u':World):Prop where
 size:u.heap.size <=u'.heap.size
 obj:∀(b:Nat) (x:Obj),u.heap[b]? =some x->∃y,u'.heap[b]? =some y/\N3 x y
theorem N3.refl:∀x,N3 x x
 | .cells ..=>⟨rfl,rfl,rfl,fun _ _=>rfl⟩
 | .pending ..=>rfl
 | .view ..=>rfl
 | .number ..=>rfl
 | .map ..=>rfl
 | .chan ..=>rfl
 | .stringIter ..=>rfl
 | .mapIter ..=>rfl
 | .loop ..=>rfl
 | .deferred ..=>rfl
 | .coro ..=>rfl
 | .finalizers ..=>rfl
theorem N3.trans {x y z:Obj} (h:N3 x y) (h':N3 y z):N3 x z:=by
 cases x <;> cases y <;> first|exact h.elim|skip
 case cells.cells=>
  cases z <;> first|exact h'.elim|skip
  obtain⟨h1,rfl,rfl,h2⟩:=h;obtain⟨h3,rfl,rfl,h4⟩:=h';exact⟨h3.trans h1,rfl,rfl,fun i hi=>(h4 i hi).trans (h2 i hi)⟩
 all_goals (first|(cases z <;> simp_all [N3,l6]))
theorem V8.refl (u:World):V8 u u:=⟨Nat.le_refl _,fun _ x h=>⟨x,h,N3.refl x⟩⟩
theorem V8.trans {u v x:World} (h:V8 u v) (h':V8 v x):V8 u x :=
 ⟨Nat.le_trans h.size h'.size,fun b o ho=>by
  obtain⟨o',h1,h2⟩:=h.obj b o ho;obtain⟨o'',h3,h4⟩:=h'.obj b o' h1;exact⟨o'',h3,h2.trans h4⟩⟩
def ew0 (u:World) (e:Event):Prop:=match e.loc with
 | .cell a=>a.block<u.heap.size->(∃v,u.cell? a=some v)/\(e.write=true->u.frozen? a=false)
 | .obj r=>r<u.heap.size->∃x,u.heap[r]? =some x/\l6 x=false
 | .mark m=>wi0 m=true
 |_=>False
theorem C4 {u:World} {a:Addr} {v:Value} (h:u.cell? a=some v):∃c T f,u.heap[a.block]? =some (.cells c T f)/\a.spot=none/\c[a.off]? =some v:=by
 unfold World.cell? at h;split at h
 ·rename_i c T f hb;split at h
  ·cases h
  ·rename_i hs;exact⟨c,T,f,hb,by cases hh:a.spot <;> simp_all,h⟩
 ·cases h
section
variable {ρ:Nat->j6}{u w u':World}{a:Addr}{v:Value}
theorem I5.cell (h:I5 ρ u w) (hc:u.cell? a=some v):w.cell? a=some v:=by
 obtain⟨c,T,f,hb,hs,hv⟩:=C4 hc;obtain⟨y,hy,hl⟩:=h.obj _ _ hb;unfold World.cell?;generalize ρ a.block=p at hl;cases hl with
 |same=>rw[hy];simp[hs,hv]
 |cut _ rest _ f0 _ hf=>
  rw[hy];simp only[hs,Option.isSome_none,Bool.false_eq_true,if_false];rw[Array.getElem?_append_left (Array.getElem?_eq_some_iff.1 hv).1];exact hv
 |gone=>simp at hv
theorem I5.frozen (h:I5 ρ u w) (hc:u.cell? a=some v) (hf:u.frozen? a=false):w.frozen? a=false:=by
 obtain⟨c,T,f,hb,hs,hv⟩:=C4 hc;obtain⟨y,hy,hl⟩:=h.obj _ _ hb;unfold World.frozen? at hf⊢;rw[hb]at hf;generalize ρ a.block=p at hl;cases hl with
 |same=>rw[hy];exact hf
 |cut _ rest _ f0 _ hf0=>
  rw[hy];simp only[Bool.and_eq_false_imp,decide_eq_true_eq,decide_eq_false_iff_not]at hf⊢;intro h1 h2;exact hf (hf0 _ ⟨h1,h2⟩).1 (hf0 _ ⟨h1,h2⟩).2
 |gone=>simp at hv
theorem heap_setCell (u:World) (a:Addr) (v:Value) (b:Nat):(u.setCell a v).heap[b]? =(u.heap[b]?).map fun o=>if b=a.block then(match o with| .cells c T f=>.cells (if a.spot.isSome then c else c.setIfInBounds a.off v) T f|o=>o) else o:=by
 unfold World.setCell;simp only[Array.getElem?_modify];by_cases h:a.block=b
 ·subst h;simp only[if_true];cases u.heap[a.block]? with
  |none=>rfl
  |some o=>cases o <;> rfl
 ·simp[h,Ne.symm h]
theorem I5.setCell (h:I5 ρ u w) (hc:u.cell? a=some v) (x:Value):I5 ρ (u.setCell a x) (w.setCell a x):=by
 obtain⟨c,T,f,hb,hs,hv⟩:=C4 hc;have T2:=(Array.getElem?_eq_some_iff.1 hv).1;refine⟨h.os,h.output,h.tape,h.drawn,by simp[World.setCell,h.size],fun b o ho=>?_,fun b hb=>h.new b (by simpa [World.setCell]using hb),fun b o ho=>?_⟩
 ·rw[heap_setCell]at ho⊢;obtain⟨o1,h1,rfl⟩:=Option.map_eq_some_iff.1 ho;obtain⟨y,hy,hl⟩:=h.obj b o1 h1;refine⟨_,by rw[hy];rfl,?_⟩;by_cases hba:b=a.block
  ·subst hba;rw[hb]at h1;obtain rfl:=Option.some.inj h1;simp only[if_true,hs,Option.isSome_none,Bool.false_eq_true,if_false];generalize ρ a.block=p at hl⊢;cases hl with
   |same=>exact .same _
   |cut _ rest _ f0 _ hf0=>
    show bs0 _ _ (.cells ((c++rest).setIfInBounds a.off x) T f0);rw[show(c++rest).setIfInBounds a.off x=c.setIfInBounds a.off x++rest by
     rw[Array.setIfInBounds_append_left T2]]
    exact .cut _ _ _ _ _ hf0
   |gone=>simp at hv
  ·simp only[hba,if_false];exact hl
 ·rw[heap_setCell]at ho;obtain⟨o1,h1,rfl⟩:=Option.map_eq_some_iff.1 ho;have:=h.A6 b o1 h1;by_cases hba:b=a.block
  ·simp only[hba,if_true];cases o1 <;> simp_all [e4]
  ·simp only[hba,if_false];exact this
theorem tu0 (u:World) (a:Addr) (x:Value) (hz:u.frozen? a=false):V8 u (u.setCell a x):=by
 refine⟨by simp[World.setCell],fun b o ho=>?_⟩;rw[heap_setCell,ho];refine⟨_,rfl,?_⟩;by_cases hba:b=a.block
 ·subst hba;unfold World.frozen? at hz;rw[ho]at hz;simp only[if_true];cases o <;> simp only[N3,l6]
  rename_i c T f;split
  ·simp
  ·refine⟨by simp,trivial,trivial,fun i hi=>?_⟩;rw[Array.getElem?_setIfInBounds_ne];rintro rfl;obtain⟨lo,hi'⟩:=f;simp only[Bool.and_eq_false_imp,decide_eq_true_eq,decide_eq_false_iff_not]at hz;exact hz hi.1 hi.2
 ·simp only[hba,if_false];exact N3.refl o
theorem Ck0 (u:World) (o:Obj):V8 u {u with heap:=u.heap.push o}:=by
 refine⟨by simp,fun b x hx=>⟨x,?_,N3.refl x⟩⟩;have:=(Array.getElem?_eq_some_iff.1 hx).1;show(u.heap.push o)[b]? =some x;rw[Array.getElem?_push,if_neg (by omega)];exact hx
theorem I5.push (h:I5 ρ u w) {o:Obj} (ho:e4 o=false):I5 ρ {u with heap:=u.heap.push o} {w with heap:=w.heap.push o}:=by
 refine⟨h.os,h.output,h.tape,h.drawn,by simp[h.size],fun b x hx=>?_,fun b hb=>h.new b (by simp at hb;omega),fun b x hx=>?_⟩
 ·have W3:(u.heap.push o)[b]? =some x:=hx;show ∃y,(w.heap.push o)[b]? =some y/\_;rw[Array.getElem?_push]at W3⊢;rw[h.size];split at W3
  ·rename_i hb;rw[if_pos hb];cases W3;exact⟨_,rfl,by rw[h.new b (by omega)];exact .same _⟩
  ·rename_i hb;rw[if_neg hb];exact h.obj b x W3
 ·have W3:(u.heap.push o)[b]? =some x:=hx;rw[Array.getElem?_push]at W3;split at W3
  ·cases W3;exact ho
  ·exact h.A6 b x W3
theorem wj0 {r:Nat} {x:Obj} (hr:u.heap[r]? =some x) (hx:l6 x=false) {o:Obj} (ho:l6 o=false):V8 u {u with heap:=u.heap.setIfInBounds r o}:=by
 refine⟨by simp,fun b y hy=>?_⟩;show ∃z,(u.heap.setIfInBounds r o)[b]? =some z/\_;rw[Array.getElem?_setIfInBounds];by_cases h:r=b
 ·subst h;have T2:=(Array.getElem?_eq_some_iff.1 hr).1;rw[hr]at hy;obtain rfl:=Option.some.inj hy;refine⟨o,by simp[T2],?_⟩;cases x <;> simp_all [N3,l6]
 ·exact⟨y,by simp[h,hy],N3.refl y⟩
theorem I5.setObj (h:I5 ρ u w) {r:Nat} {o x:Obj} (hr:u.heap[r]? =some x) (hx:l6 x=false) (ho:e4 o=false):I5 ρ {u with heap:=u.heap.setIfInBounds r o} {w with heap:=w.heap.setIfInBounds r o}:=by
 have hal:ρ r= .all:=by
  obtain⟨y,_,hl⟩:=h.obj r x hr;generalize ρ r=p at hl⊢;cases hl <;> first|rfl|cases hx
 refine⟨h.os,h.output,h.tape,h.drawn,by simp[h.size],fun b x hx=>?_,fun b hb=>h.new b (by simpa using hb),fun b x hx=>?_⟩
 ·have W3:(u.heap.setIfInBounds r o)[b]? =some x:=hx;show ∃y,(w.heap.setIfInBounds r o)[b]? =some y/\_;rw[Array.getElem?_setIfInBounds]at W3⊢;by_cases q9:r=b
  ·subst q9;simp only[if_true]at W3⊢;rw[h.size];split at W3
   ·rename_i hb;rw[if_pos hb];cases W3;exact⟨_,rfl,by rw[hal];exact .same _⟩
   ·cases W3
  ·simp only[q9,if_false]at W3⊢;exact h.obj b x W3
 ·have W3:(u.heap.setIfInBounds r o)[b]? =some x:=hx;rw[Array.getElem?_setIfInBounds]at W3;by_cases q9:r=b
  ·subst q9;simp only[if_true]at W3;split at W3
   ·cases W3;exact ho
   ·cases W3
  ·simp only[q9,if_false]at W3;exact h.A6 b x W3
theorem ew0.back (he:V8 u u') {e:Event} (h:ew0 u' e):ew0 u e:=by
 obtain⟨l,wr,sy⟩:=e;cases l with
 |cell a=>
  intro T2;obtain⟨⟨v,hv⟩,hw⟩:=h (Nat.lt_of_lt_of_le T2 he.size);have hx:u.heap[a.block]? =some u.heap[a.block]:=Array.getElem?_eq_getElem T2;obtain⟨y,hy,hk⟩:=he.obj _ _ hx;obtain⟨c,T,f,hb,hs,hc⟩:=C4 hv;rw[hb]at hy;obtain rfl:=Option.some.inj hy;generalize u.heap[a.block]=x at hx hk;cases x <;> simp only[N3,l6,Bool.true_eq_false]at hk
  rename_i c0 T0 f0;obtain⟨h1,rfl,rfl,_⟩:=hk;have eb1:=(Array.getElem?_eq_some_iff.1 hc).1;refine⟨⟨c0[a.off]'(by omega),by unfold World.cell?;rw[hx];simp[hs,show a.off<c0.size by omega]⟩,fun hwr=>?_⟩;have:=hw hwr;unfold World.frozen? at this⊢;rw[hb]at this;rw[hx];exact this
 |obj r=>
  intro T2;obtain⟨x',W3,hc⟩:=h (Nat.lt_of_lt_of_le T2 he.size);have hx:u.heap[r]? =some u.heap[r]:=Array.getElem?_eq_getElem T2;obtain⟨y,hy,hk⟩:=he.obj _ _ hx;rw[W3]at hy;obtain rfl:=Option.some.inj hy;refine⟨_,hx,?_⟩;generalize u.heap[r]=x at hk;cases x <;> first|rfl|(cases x' <;> simp_all [N3,l6])
 |output=>exact h
 |goroutines=>exact h
 |mark m=>exact h
def tv0 {α:Type}:Result α->Prop
 | .ok _ _=>True
 | .halt (.panic _) _=>True
 |_=>False
def atW {α:Type}:Result α->World->Result α
 | .ok a _,w=>.ok a w
 | .halt h _,w=>.halt h w
def ex0 {α:Type}:Result α->World
 | .ok _ w=>w
 | .halt _ w=>w
def one:Value->Bool
 | .agg _=>false
 | .tuple _=>false
 |_=>true
theorem x9 {α:Type} {P:Program} {m:Mode} {a:Addr} {v:Value} {k:Sem α} (h:one v=true) (u:World) (es:Array Event):(Sem.store m a v k).runT P u es=match u.cell? a with
  |some _=>if u.frozen? a then(.halt (.unsupported (.unsafePointer "a write to bytes that a string shares")) u,es) else k.runT P (u.setCell a v) (es.push ⟨.cell a,true,m== .atomic⟩)
  |none=>match u.farStore P a v (m== .atomic)with
   | .ok (u,Iv0)=>k.runT P u (es++Iv0.toArray.map (⟨.cell ·,true,m== .atomic⟩))
   | .error h=>(.halt h u,es):=by
 cases v <;> first|rfl|cases h
theorem ck0 {α:Type} {P:Program} {m:Mode} {a:Addr} {v:Value} {k:Sem α} (h:one v=false) (u:World) (es:Array Event):(Sem.store m a v k).runT P u es=(.halt (.stuck "store: not the value of one cell") u,es):=by
 cases v <;> first|rfl|cases h
theorem id0 {P:Program} {u:World} {a:Addr} {b:Bool} {h:Halt} (he:u.farLoad P a b= .error h):∀v,h≠.panic v:=by
 unfold World.farLoad at he;split at he
 ·split at he
  ·cases he
  ·cases he;intro v;simp
 ·cases he;unfold World.noCell;split <;> intro v <;> simp
theorem ey0 {P:Program} {u:World} {a:Addr} {x:Value} {b:Bool} {h:Halt} (he:u.farStore P a x b= .error h):∀v,h≠.panic v:=by
 unfold World.farStore at he;split at he
 ·split at he
  ·cases he
  ·cases he;intro v;simp
 ·cases he;unfold World.noCell;split <;> intro v <;> simp
theorem ax0 {α:Type} {h:Halt} {w:World} (hf:tv0 (α:=α) (.halt h w)):∃v,h= .panic v:=by
 cases h <;> first|exact⟨_,rfl⟩|exact hf.elim
theorem Y1 {α:Type} {P:Program}:∀{s:Sem α},dead P s->∀(u:World) (es:Array Event),¬tv0 (s.runT P u es).1
 | .pure _,h,_,_=>h.elim
 | .load m a k,h,u,es=>by
  unfold Sem.runT;split
  ·exact Y1 (h _) _ _
  ·split
   ·exact Y1 (h _) _ _
   ·rename_i he;intro hf;obtain⟨v,hv⟩:=ax0 hf;exact id0 he v hv
 | .store m a v k,h,u,es=>by
  cases ho:one v
  ·rw[ck0 ho];exact id
  ·rw[x9 ho];split
   ·split
    ·exact id
    ·exact Y1 (s:=k) h _ _
   ·split
    ·exact Y1 (s:=k) h _ _
    ·rename_i he;intro hf;obtain⟨v,hv⟩:=ax0 hf;exact ey0 he v hv
 | .new _ k,h,u,es=>Y1 (h _) _ _
 | .shape _ k,h,u,es=>Y1 (h _) _ _
 | .freeze _ _ k,h,u,es=>Y1 (s:=k) h _ _
 | .frozen _ k,h,u,es=>Y1 (h _) _ _
 | .getObj _ k,h,u,es=>by
  unfold Sem.runT;split
  ·exact id
  ·exact Y1 (h _) _ _
  ·exact id
 | .setObj _ _ k,h,u,es=>by
  unfold Sem.runT;split
  ·exact id
  ·exact Y1 (s:=k) h _ _
  ·exact id
 | .choose _ k,h,u,es=>by
  unfold Sem.runT;split
  ·exact Y1 (h _) _ _
  ·exact Y1 (h _) _ _
 | .sys _ k,h,u,es=>Y1 (h _) _ _
 | .program k,h,u,es=>Y1 (s:=k P) h _ _
 | .mark _ k,h,u,es=>Y1 (s:=k) h _ _
 | .halt hh,h,u,es=>by
  intro hf;obtain⟨v,hv⟩:=ax0 hf;exact h v hv
structure tw0 {α:Type} (P:Program) (ρ:Nat->j6) (s:Sem α) (u w:World) (es:Array Event):Prop where
 out:∃w',s.runT P w es=(atW (s.runT P u es).1 w',(s.runT P u es).2)/\I5 ρ (ex0 (s.runT P u es).1) w'
 evo:V8 u (ex0 (s.runT P u es).1)
 evs:∀e∈(s.runT P u es).2,e∈es\/ew0 u e
theorem tw0.of {α β:Type} {P:Program} {ρ:Nat->j6} {s:Sem α} {t:Sem β} {u w u' w':World} {es es':Array Event} {f:Result β->Result α} (h:tw0 P ρ t u' w' es') (hu:s.runT P u es=(f (t.runT P u' es').1,(t.runT P u' es').2)) (hw:s.runT P w es=(f (t.runT P w' es').1,(t.runT P w' es').2))
  (hf:∀r w,f (atW r w)=atW (f r) w) (hfw:∀r,ex0 (f r)=ex0 r) (he:V8 u u') (y9:∀e∈es',e∈es\/ew0 u e):tw0 P ρ s u w es:=by
 obtain⟨⟨w2,h1,h2⟩,h3,h4⟩:=h;refine⟨⟨w2,?_,?_⟩,?_,?_⟩
 ·rw[hw,h1,hu];simp only[hf]
 ·rw[hu];simp only[hfw];exact h2
 ·rw[hu];simp only[hfw];exact he.trans h3
 ·rw[hu];intro e hee;rcases h4 e hee with h5|h5
  ·exact y9 e h5
  ·exact .inr (h5.back he)
theorem tw0.go {α:Type} {P:Program} {ρ:Nat->j6} {s t:Sem α} {u w u' w':World} {es es':Array Event} (h:tw0 P ρ t u' w' es') (hu:s.runT P u es=t.runT P u' es') (hw:s.runT P w es=t.runT P w' es') (he:V8 u u') (y9:∀e∈es',e∈es\/ew0 u e):tw0 P ρ s u w es :=
 tw0.of (f:=id) h hu hw (fun _ _=>rfl) (fun _=>rfl) he y9
theorem tx0 {o:Obj} (h:l6 o=true):∃c T f,o= .cells c T f:=by
 cases o <;> first|exact⟨_,_,_,rfl⟩|cases h
theorem w8 {u:World} {es:Array Event} {x:Event} (hx:ew0 u x):∀e∈es.push x,e∈es\/ew0 u e:=by
 intro e he;rcases Array.mem_push.1 he with h|rfl
 ·exact .inl h
 ·exact .inr hx
theorem I5.ask {ρ:Nat->j6} {u w:World} (h:I5 ρ u w) (d:Nat):I5 ρ {u with drawn:=d} {w with drawn:=d}:=⟨h.os,h.output,h.tape,rfl,h.size,h.obj,h.new,h.A6⟩
theorem B6 {α:Type} {P:Program} {ρ:Nat->j6}:∀{s:Sem α},E1 P s->∀{u w:World} {es:Array Event},I5 ρ u w->tv0 (s.runT P u es).1->tw0 P ρ s u w es
 | .pure a,_,u,w,es,hs,_=>⟨⟨w,rfl,hs⟩,V8.refl u,fun e he=>.inl he⟩
 | .halt hh,_,u,w,es,hs,_=>⟨⟨w,rfl,hs⟩,V8.refl u,fun e he=>.inl he⟩
 | .load m a k,h,u,w,es,hs,hf=>by
  cases hc:u.cell? a with
  |some v=>
   have hu:(Sem.load m a k).runT P u es=(k v).runT P u (es.push ⟨.cell a,false,m== .atomic⟩):=by
    conv=>lhs;unfold Sem.runT
    rw[hc]
   have hw:(Sem.load m a k).runT P w es=(k v).runT P w (es.push ⟨.cell a,false,m== .atomic⟩):=by
    conv=>lhs;unfold Sem.runT
    rw[hs.cell hc]
   rw[hu]at hf;exact(B6 (h v) hs hf).go hu hw (V8.refl u) (w8 (fun _=>⟨⟨v,hc⟩,fun h9=>by cases h9⟩))
  |none=>
   exfalso;unfold Sem.runT at hf;rw[hc]at hf;have:∃hh,u.farLoad P a (m== .atomic)= .error hh:=by
    unfold World.farLoad;cases hb:u.heap[a.block]? with
    |none=>exact⟨_,rfl⟩
    |some o=>
     cases o
     case view at_ t=>exact absurd (hs.A6 _ _ hb) (by simp[e4])
     all_goals exact⟨_,rfl⟩
   obtain⟨hh,he⟩:=this;rw[he]at hf;obtain⟨v,hv⟩:=ax0 hf;exact id0 he v hv
 | .store m a x k,h,u,w,es,hs,hf=>by
  cases ho:one x
  ·rw[ck0 ho]at hf;exact hf.elim
  ·cases hc:u.cell? a with
   |some v=>
    cases hz:u.frozen? a
    ·have hu:(Sem.store m a x k).runT P u es=k.runT P (u.setCell a x) (es.push ⟨.cell a,true,m== .atomic⟩):=by
      rw[x9 ho,hc,hz];rfl
     have hw:(Sem.store m a x k).runT P w es=k.runT P (w.setCell a x) (es.push ⟨.cell a,true,m== .atomic⟩):=by
      rw[x9 ho,hs.cell hc,hs.frozen hc hz];rfl
     rw[hu]at hf;exact(B6 (s:=k) h (hs.setCell hc x) hf).go hu hw (tu0 u a x hz) (w8 (fun _=>⟨⟨v,hc⟩,fun _=>hz⟩))
    ·rw[x9 ho,hc,hz]at hf;exact hf.elim
   |none=>
    exfalso;rw[x9 ho,hc]at hf;have:∃hh,u.farStore P a x (m== .atomic)= .error hh:=by
     unfold World.farStore;cases hb:u.heap[a.block]? with
     |none=>exact⟨_,rfl⟩
     |some o=>
      cases o
      case view at_ t=>exact absurd (hs.A6 _ _ hb) (by simp[e4])
      all_goals exact⟨_,rfl⟩
    obtain⟨hh,he⟩:=this;rw[he]at hf;obtain⟨v,hv⟩:=ax0 hf;exact ey0 he v hv
 | .new o k,h,u,w,es,hs,hf=>by
  refine(B6 (h.2 u.heap.size) (hs.push h.1) hf).go rfl ?_ (Ck0 u o) (fun e he=>.inl he);show(k w.heap.size).runT P _ es=_;rw[hs.size]
 | .shape _ k,h,u,w,es,hs,hf=>absurd hf (Y1 (h _) _ _)
 | .freeze _ _ k,h,u,w,es,hs,hf=>absurd hf (Y1 (s:=k) h _ _)
 | .frozen _ k,h,u,w,es,hs,hf=>absurd hf (Y1 (h _) _ _)
 | .getObj r k,h,u,w,es,hs,hf=>by
  cases hb:u.heap[r]? with
  |none=>unfold Sem.runT at hf;rw[hb]at hf;exact hf.elim
  |some o=>
   cases hco:l6 o
   ·obtain⟨y,hy,hl⟩:=hs.obj r o hb;have hyo:y=o:=by generalize ρ r=p at hl;cases hl <;> first|rfl|cases hco
    subst hyo;have hu:(Sem.getObj r k).runT P u es=(k y).runT P u (es.push ⟨.obj r,false,y.isChan⟩):=by
     conv=>lhs;unfold Sem.runT
     rw[hb];cases y <;> first|rfl|cases hco
    have hw:(Sem.getObj r k).runT P w es=(k y).runT P w (es.push ⟨.obj r,false,y.isChan⟩):=by
     conv=>lhs;unfold Sem.runT
     rw[hy];cases y <;> first|rfl|cases hco
    rw[hu]at hf;exact(B6 (h y) hs hf).go hu hw (V8.refl u) (w8 (fun _=>⟨y,hb,hco⟩))
   ·obtain⟨c,T,f,rfl⟩:=tx0 hco;unfold Sem.runT at hf;rw[hb]at hf;exact hf.elim
 | .setObj r o k,h,u,w,es,hs,hf=>by
  cases hb:u.heap[r]? with
  |none=>unfold Sem.runT at hf;rw[hb]at hf;exact hf.elim
  |some y=>
   cases hco:l6 y
   ·obtain⟨y',hy,hl⟩:=hs.obj r y hb;have hyo:y'=y:=by generalize ρ r=p at hl;cases hl <;> first|rfl|cases hco
    subst hyo;have hu:(Sem.setObj r o k).runT P u es=k.runT P {u with heap:=u.heap.setIfInBounds r o} (es.push ⟨.obj r,true,o.isChan⟩):=by
     conv=>lhs;unfold Sem.runT
     rw[hb];cases y' <;> first|rfl|cases hco
    have hw:(Sem.setObj r o k).runT P w es=k.runT P {w with heap:=w.heap.setIfInBounds r o} (es.push ⟨.obj r,true,o.isChan⟩):=by
     conv=>lhs;unfold Sem.runT
     rw[hy];cases y' <;> first|rfl|cases hco
    rw[hu]at hf;exact(B6 (s:=k) h.2 (hs.setObj hb hco h.1.1) hf).go hu hw (wj0 hb hco h.1.2) (w8 (fun _=>⟨y',hb,hco⟩))
   ·obtain⟨c,T,f,rfl⟩:=tx0 hco;unfold Sem.runT at hf;rw[hb]at hf;exact hf.elim
 | .choose q k,h,u,w,es,hs,hf=>by
  cases hq:q.forced
  ·have hu:(Sem.choose q k).runT P u es=(k (q.cut (u.tape u.drawn q))).runT P {u with drawn:=u.drawn+1} es:=by
    conv=>lhs;unfold Sem.runT
    rw[hq];rfl
   have hw:(Sem.choose q k).runT P w es=(k (q.cut (u.tape u.drawn q))).runT P {w with drawn:=u.drawn+1} es:=by
    conv=>lhs;unfold Sem.runT
    rw[hq,hs.tape,hs.drawn];rfl
   rw[hu]at hf;exact(B6 (h _) (hs.ask _) hf).go hu hw ⟨Nat.le_refl _,fun _ x hx=>⟨x,hx,N3.refl x⟩⟩ (fun e he=>.inl he)
  ·have hu:(Sem.choose q k).runT P u es=(k 0).runT P u es:=by
    conv=>lhs;unfold Sem.runT
    rw[hq];rfl
   have hw:(Sem.choose q k).runT P w es=(k 0).runT P w es:=by
    conv=>lhs;unfold Sem.runT
    rw[hq];rfl
   rw[hu]at hf;exact(B6 (h 0) hs hf).go hu hw (V8.refl u) (fun e he=>.inl he)
 | .sys _ k,h,u,w,es,hs,hf=>absurd hf (Y1 (h _) _ _)
 | .program k,h,u,w,es,hs,hf=>(B6 (s:=k P) h hs hf).go rfl rfl (V8.refl u) (fun e he=>.inl he)
 | .mark m k,h,u,w,es,hs,hf=>by
  unfold E1 at h;split at h
  ·rename_i hm;exact(B6 (s:=k) h hs hf).go rfl rfl (V8.refl u) (w8 hm)
  ·exact absurd hf (Y1 (s:=k) h _ _)
end
end Go.Yc
end
section
namespace Go.Yc
open Go Go.Conc
open Go.ConcN (sumTo upd sumTo_upd upd_ne upd_same sumTo_congr)
section
def j3 (u:World) (τ:Tape) (d:Nat):World:={u with tape:=τ,drawn:=d}
theorem bs0.uniq {p:j6} {x y y':Obj} (h:bs0 p x y) (h':bs0 p x y'):y=y':=by
 cases h <;> cases h' <;> rfl
theorem w7 {c:Array Value} {T:TypeId} {f:Nat×Nat} {y:Obj} (hk:N3 (.cells c T f) y):∃c',y= .cells c' T f/\c'.size=c.size/\∀i,inR f i->c'[i]? =c[i]?:=by
 cases y <;> try(exact hk.elim)
 obtain⟨h1,rfl,rfl,h2⟩:=hk;exact⟨_,rfl,h1,h2⟩
def bt0 (u:World) (b:Nat):Prop:=∃T f,u.heap[b]? =some (.cells #[] T f)
theorem bt0.evo {u u':World} {b:Nat} (h:bt0 u b) (he:V8 u u'):bt0 u' b:=by
 obtain⟨T,f,hb⟩:=h;obtain⟨y,hy,hk⟩:=he.obj _ _ hb;obtain⟨c,rfl,h1,_⟩:=w7 hk;have:c=#[]:=by simpa using h1
 subst this;exact⟨_,_,hy⟩
theorem bt0.kept {ρ:Nat->j6} {u u' w w':World} {b:Nat} (h:bt0 u b) (he:V8 u u') (hs:I5 ρ u w) (hs':I5 ρ u' w'):w'.heap[b]? =w.heap[b]?:=by
 obtain⟨T,f,hb⟩:=h;obtain⟨y,hy,hk⟩:=he.obj _ _ hb;obtain⟨c,rfl,h1,_⟩:=w7 hk;have:c=#[]:=by simpa using h1
 subst this;obtain⟨z,hz,hl⟩:=hs.obj _ _ hb;obtain⟨z',hz',n5⟩:=hs'.obj _ _ hy;rw[hz,hz',hl.uniq n5]
theorem wk0 {u u':World} {a:Addr} {v:Value} (hc:u.cell? a=some v) (hf:u.frozen? a=true) (he:V8 u u'):u'.cell? a=some v/\u'.frozen? a=true:=by
 obtain⟨c,T,f,hb,hs,hv⟩:=C4 hc;obtain⟨y,hy,hk⟩:=he.obj _ _ hb;obtain⟨c',rfl,h1,h2⟩:=w7 hk;unfold World.frozen? at hf⊢;unfold World.cell?;rw[hb]at hf;rw[hy];obtain⟨lo,hi⟩:=f;refine⟨?_,hf⟩;simp only[hs,Option.isSome_none,Bool.false_eq_true,if_false];simp only[Bool.and_eq_true,decide_eq_true_eq]at hf;rw[h2 _ hf];exact hv
structure I4 where
 blk:Nat
 off:Nat
def stA (G:I4):Addr:=⟨G.blk,G.off,none⟩
def smA (G:I4):Addr:=⟨G.blk,G.off+1,none⟩
def KK:Nat:=4294967296
attribute [local irreducible] KK
def x7 (G:I4) (st sm:Int) (w:World):Prop:=∃c T,w.heap[G.blk]? =some (.cells (c ++ #[.int .u64 st,.int .u32 sm]) T (0,0))/\c.size=G.off
def Cut (u:World) (G:I4):Prop:=∃c T f,u.heap[G.blk]? =some (.cells c T f)/\c.size=G.off
theorem Cut.evo {u u':World} {G:I4} (h:Cut u G) (he:V8 u u'):Cut u' G:=by
 obtain⟨c,T,f,hb,hc⟩:=h;obtain⟨y,hy,hk⟩:=he.obj _ _ hb;obtain⟨c',rfl,h1,_⟩:=w7 hk;exact⟨_,_,_,hy,h1.trans hc⟩
theorem Cut.kept {ρ:Nat->j6} {u u' w w':World} {G:I4} {st sm:Int} (h:Cut u G) (he:V8 u u') (hs:I5 ρ u w) (hs':I5 ρ u' w') (hg:x7 G st sm w):x7 G st sm w':=by
 obtain⟨c,T,f,hb,hc⟩:=h;obtain⟨y,hy,hk⟩:=he.obj _ _ hb;obtain⟨c',rfl,h1,_⟩:=w7 hk;obtain⟨z,hz,hl⟩:=hs.obj _ _ hb;obtain⟨z',hz',n5⟩:=hs'.obj _ _ hy;obtain⟨c0,T0,hg,hc0⟩:=hg;rw[hz]at hg;obtain rfl:=Option.some.inj hg;generalize ρ G.blk=p at hl n5;generalize hz0:(Obj.cells (c0 ++ #[.int .u64 st,.int .u32 sm]) T0 (0,0))=z0 at hl;cases hl with
 |same=>
  obtain⟨rfl,_,_⟩:=Obj.cells.inj hz0;simp at hc;omega
 |cut _ rest _ f1 _ _=>
  obtain⟨h2,rfl,h3⟩:=Obj.cells.inj hz0;have n2:c.size=c0.size:=by omega
  have:rest=#[.int .u64 st,.int .u32 sm]:=(Array.append_inj_right h2 n2.symm).symm;subst this;cases n5 with
  |cut _ _ _ _ _ _=>exact⟨c',T0,by rw[hz',<- h3],h1.trans hc⟩
 |gone=>
  subst hz0;cases n5 with
  |gone=>exact⟨c0,T0,hz',hc0⟩
theorem x7.cells {G:I4} {st sm:Int} {w:World} (h:x7 G st sm w):w.cell? (stA G)=some (.int .u64 st)/\w.cell? (smA G)=some (.int .u32 sm)/\w.frozen? (stA G)=false/\w.frozen? (smA G)=false:=by
 obtain⟨c,T,hb,hc⟩:=h;refine⟨?_,?_,?_,?_⟩
 ·simp[World.cell?,stA,hb,<- hc]
 ·simp only[World.cell?,smA,hb,Option.isSome_none,Bool.false_eq_true,if_false];rw[Array.getElem?_append_right (by omega)];simp[<- hc]
 ·simp[World.frozen?,stA,hb]
 ·simp[World.frozen?,smA,hb]
def r5 (P:Program) (main:Bool) (g:Goroutine) (u:World) (g':Goroutine) (u':World):Prop :=
 g'.status= .running/\∀ρ w,I5 ρ u w->V8 u u'/\∃w' es,stepG P main g w= .go g' w' es/\I5 ρ u' w'/\∀e∈es,ew0 u e
structure B5 where
 ch:Nat
 z:Value
 me:Goroutine
def gl0 (P:Program) (main:Bool) (s:B5) (g:Goroutine):Prop :=
 g.status= .running/\g.frame=s.me.frame/\g.callers=s.me.callers/\g.dying=s.me.dying/\∀w,stepG P main g w= .comm s.me #[rcase s.ch s.z] true (.recv false) w #[]
abbrev Q3:=List (Addr×Value)
def Way (P:Program) (main:Bool) (l:Q3) (s:B5):Nat->Goroutine->Prop
 |0,g=>g=parked s.me #[rcase s.ch s.z] (.recv false)/\∃g₀,gl0 P main s g₀
 |n+1,g=>gl0 P main s g\/(0<n/\g.status= .running/\∃g' es,(∀e∈es,∃p∈l,e=⟨.cell p.1,false,false⟩)/\(∀w,(∀p∈l,w.cell? p.1=some p.2)->stepG P main g w= .go g' w es)/\Way P main l s n g')
theorem Way.status {P:Program} {main:Bool} {l:Q3} {s:B5}:∀{n:Nat} {g:Goroutine},Way P main l s n g->(g.status= .running/\0<n)\/(g.status= .blocked/\n=0)
 |0,_,h=>.inr ⟨by have:=h.1;subst this;rfl,rfl⟩
 |_+1,_,h=>.inl ⟨h.elim (fun x=>x.1) fun x=>x.2.1,by omega⟩
def wl0 (e:Event):Bool:=match e.loc with
 | .mark (.read _)| .mark (.write _)| .mark (.release _)=>false
 | .mark _=>true
 |_=>false
def rdA (a:Addr):Event:=⟨.cell a,false,true⟩
def wrA (a:Addr):Event:=⟨.cell a,true,true⟩
def Tv0 (P:Program) (G:I4) (g:Goroutine) (g':Goroutine) (es:Array Event):Prop :=
 g.status= .running/\(∀e∈es,wl0 e=true)/\∀w st sm,x7 G st sm w->stepG P false g w= .go g' w es
def Lst (P:Program) (G:I4):Nat->Nat->Nat->Goroutine->Prop
 |0,_,_,_=>False
 |n+1,s,d,g=>0<d/\((∃g' es,Tv0 P G g g' es/\(∀e∈es,e.loc≠.mark .disable/\e.loc≠.mark .enable)/\Lst P G n s d g')\/(g.status= .running/\match s with
  |2=>∃g',(∀w,x7 G 1 0 w->stepG P false g w= .go g' w #[rdA (stA G)])/\Lst P G n 1 d g'
  |1=>∃g',(∀w,x7 G 1 0 w->stepG P false g w= .go g' (w.setCell (stA G) (.int .u64 0)) #[wrA (stA G)])/\Lst P G n 0 d g'
  |_=>mayWake P g=true/\∃g',(∀w,x7 G 0 0 w->stepG P false g w= .go g' (w.setCell (smA G) (.int .u32 1)) (semEvents (smA G)))/\QuitsD P n d g'))
def Lt (P:Program) (G:I4):Nat->Nat->Goroutine->Prop
 |0,_,_=>False
 |n+1,d,g=>(∃g' es,Tv0 P G g g' es/\Lt P G n (deafBehind d es) g')\/(g.status= .running/\0<d/\∀v wt:Nat,wt <=1->v<2147483647->∃g',
   (∀w,x7 G (((v+1)*KK+wt:Nat):Int) 0 w->stepG P false g w= .go g' (w.setCell (stA G) (.int .u64 ((v*KK+wt:Nat):Int))) #[rdA (stA G),wrA (stA G)])/\(¬(v=0/\wt=1)->QuitsD P n d g')/\(v=0/\wt=1->Lst P G n 2 d g'))
theorem Lt.running {P:Program} {G:I4}:∀{n d:Nat} {g:Goroutine},Lt P G n d g->g.status= .running:=by
 intro n d g h;cases n with
 |zero=>exact h.elim
 |succ n=>
  unfold Lt at h;rcases h with⟨_,_,x,_⟩|x
  ·exact x.1
  ·exact x.1
theorem Lst.running {P:Program} {G:I4}:∀{n s d:Nat} {g:Goroutine},Lst P G n s d g->g.status= .running:=by
 intro n s d g h;cases n with
 |zero=>exact h.elim
 |succ n=>
  unfold Lst at h;rcases h with⟨_,⟨_,_,x,_⟩|x⟩
  ·exact x.1
  ·exact x.1
end
section
attribute [local irreducible] KK
structure Gh where
 G1:Nat->Option B5
 stay:Nat->Q3
 L2:Option I4
 old:List I4
 X3:Nat->Option Obj
 I7:Nat->Prop
 low:Nat->Prop
 D4:Nat->j6
 cap:Nat
 pend:Nat
 dn:Nat
 n:Nat
def Gh.Sh (X:Gh) (l:Loc):Prop:=∃a G,(X.L2=some G\/G∈X.old)/\l= .cell a/\a.block=G.blk/\G.off <=a.off
def Us (live:Nat->Bool) (g:Nat):Prop:=g=0\/live g=true
def Gh.St (X:Gh) (i:Nat) (l:Loc):Prop:=∃p∈X.stay i,l= .cell p.1
def Gh.Mem (X:Gh) (h g:Nat):Prop:=(g=h/\X.dn=0)\/X.G1 g≠none
def Gh.Lo (X:Gh) (h g:Nat):Prop:=g≠h/\X.G1 g≠none
def count (live:Nat->Bool) (n:Nat):Nat:=sumTo n fun i=>if live i then 1 else 0
def Idle (P:Program) (X:Gh) (live:Nat->Bool) (T:Trace) (i n:Nat) (g:Goroutine):Prop:=match X.G1 i with
 |some s=>Way P (i==0) (X.stay i) s n g
 |none=>0<i/\if live i then ∃G,X.L2=some G/\Lt P G n (Deaf T i) g else QuitsD P n (Deaf T i) g
def Gh.Sep (X:Gh):Prop:=∀G,(X.L2=some G\/G∈X.old)->¬X.I7 G.blk/\X.X3 G.blk=none
structure Ring (P:Program) (X:Gh) (h:Nat) (u:World) (live:Nat->Bool) (T:Trace) (gs:Array Goroutine) (w:World) (q:Nat->Nat):Prop where
 T9:∃ρ,I5 ρ (j3 u w.tape w.drawn) w/\∀b,¬X.low b->ρ b=X.D4 b
 idle:∀i g,i≠h->gs[i]? =some g->Idle P X live T i (q i) g
 free:X.G1 h=none
 size:h<gs.size
 num:gs.size=X.n
 stays:∀i p,p∈X.stay i->u.cell? p.1=some p.2/\u.frozen? p.1=true
 chans:∀c,X.I7 c->bt0 u c/\X.X3 c=none/\∃k,w.heap[c]? =some (.chan 0 #[] false k k false)
 R3:∀i s,X.G1 i=some s->X.I7 s.ch
 inj:∀i j s s',X.G1 i=some s->X.G1 j=some s'->s.ch=s'.ch->i=j
 X3:∀b o,X.X3 b=some o->bt0 u b/\e4 o=false/\∃p y,w.heap[b]? =some y/\bs0 p o y
 V9:∀G,X.L2=some G->X.low G.blk
 L7:(∀c,X.I7 c->X.low c)/\X.Sep
 L2:∀G,X.L2=some G->Cut u G/\x7 G (((count live gs.size+X.pend)*KK:Nat):Int) 0 w
 old:∀G∈X.old,Cut u G
 above:∀j,gs.size <=j->Deaf T j=0/\X.G1 j=none/\live j=false/\X.stay j=[]
 few:count live gs.size+X.pend <=X.cap/\X.cap <=65536
 cg0:∀i,live i=true->i≠0/\X.L2≠none
 aj0:∀i,i≠0->(X.G1 i≠none\/i=h)->live i=true
 dfn:Deaf T h=X.dn
 past:PastH X.Sh (Us live) X.St (X.Mem h) (X.Lo h) h T
theorem Tw0 {X:Gh} {u:World} {h:Nat} (S2:∀i p,p∈X.stay i->u.cell? p.1=some p.2/\u.frozen? p.1=true) (hg:∀G,(X.L2=some G\/G∈X.old)->Cut u G) {e:Event} (he:ew0 u e) (fn:FuncId) (pos:String) :
  HOk X.Sh X.St h {g:=h,fn,pos,act:=.ofEvent e}/\e.loc≠.mark .disable/\e.loc≠.mark .enable:=by
 obtain⟨l,wr,sy⟩:=e;cases l with
 |cell a=>
  refine⟨fun b hb=>?_,by simp,by simp⟩;simp only[ofEvent_cell0,MemAct.touch?,Option.some.injEq]at hb;subst hb;refine⟨?_,fun hwr g _=>?_⟩
  ·rintro⟨a',G,hG,ha,hb,ho⟩;simp only[Loc.cell.injEq]at ha;subst ha;obtain⟨c,T,f,hc,hs⟩:=hg G hG;obtain⟨⟨v,hv⟩,_⟩:=he (by rw[hb];exact(Array.getElem?_eq_some_iff.1 hc).1);obtain⟨c',T',f',w6,_,hv'⟩:=C4 hv;rw[hb,hc]at w6;cases w6;have:=(Array.getElem?_eq_some_iff.1 hv').1;omega
  ·rintro⟨p,hp,ha⟩;simp only[Loc.cell.injEq]at ha;subst ha;obtain⟨h1,h2⟩:=S2 g p hp;obtain⟨c',T',f',w6,_,_⟩:=C4 h1;have:=(he (Array.getElem?_eq_some_iff.1 w6).1).2 hwr;rw[h2]at this;cases this
 |obj r=>
  refine⟨fun b hb=>?_,by simp,by simp⟩;have:b.loc= .obj r:=by
   cases wr <;> cases sy <;> simp[MemAct.ofEvent,MemAct.touch?]at hb <;> (try(subst hb;rfl))
  refine⟨?_,fun _ g _=>?_⟩
  ·rintro⟨a',G,_,ha,_⟩;rw[this]at ha;cases ha
  ·rintro⟨p,_,ha⟩;rw[this]at ha;cases ha
 |output=>exact he.elim
 |goroutines=>exact he.elim
 |mark m=>
  have hm:wi0 m=true:=he;cases m <;> first|(cases hm;done)|exact⟨fun b hb=>by simp[MemAct.ofEvent,MemAct.touch?]at hb,by simp,by simp⟩
section
variable {P:Program}{X:Gh}{h:Nat}{u:World}{live:Nat->Bool}{T:Trace}{gs:Array Goroutine}{w:World}{q:Nat->Nat}
theorem Way.again {main:Bool} {l:Q3} {s:B5} {n:Nat} {g:Goroutine} (hw:Way P main l s n g) (hc:∃k,w.heap[s.ch]? =some (.chan 0 #[] false k k false)):g.again w=g:=by
 rcases hw.status with⟨h1,_⟩|⟨_,rfl⟩
 ·exact again_of_running (.inl h1) w
 ·obtain⟨rfl,_⟩:=hw;obtain⟨k,hk⟩:=hc;exact again_recv_open hk
theorem Idle.again {i n:Nat} {g:Goroutine} (hi:Idle P X live T i n g) (hc:∀s,X.G1 i=some s->∃k,w.heap[s.ch]? =some (.chan 0 #[] false k k false)):g.again w=g:=by
 unfold Idle at hi;cases e:X.G1 i with
 |some s=>rw[e]at hi;exact Way.again hi (hc s e)
 |none=>
  rw[e]at hi;obtain⟨_,hi⟩:=hi;split at hi
  ·obtain⟨G,_,hl⟩:=hi;exact again_of_running (.inl hl.running) w
  ·exact again_of_running hi.status w
theorem Idle.other {i n g':Nat} {g:Goroutine} (hi:Idle P X live T i n g) (r3:g'≠i) {ops:Trace} (du0:∀op∈ops,op.g=g'):Idle P X live (T++ops) i n g:=by
 unfold Idle at hi⊢;rw[Deaf_other T r3 ops du0];exact hi
theorem Idle.awake {i n:Nat} {g:Goroutine} (hi:Idle P X live T i n g):awake g:=by
 unfold Idle at hi;cases e:X.G1 i with
 |some s=>rw[e]at hi;exact awake_of (hi.status.elim (fun x=>.inl x.1) fun x=>.inr (.inl x.1))
 |none=>
  rw[e]at hi;obtain⟨_,hi⟩:=hi;split at hi
  ·obtain⟨G,_,hl⟩:=hi;exact awake_of (.inl hl.running)
  ·exact awake_of (hi.status.elim .inl fun x=>.inr (.inr x))
theorem Ring.awake (C:Ring P X h u live T gs w q) {a:Goroutine} (ha:gs[h]? =some a) (hs:a.status= .running\/a.status= .blocked):∀g∈gs,awake g:=by
 intro g hg;obtain⟨i,hi,rfl⟩:=Array.mem_iff_getElem.1 hg;by_cases e:i=h
 ·subst e;have:gs[i]=a:=by simpa [Array.getElem?_eq_getElem hi]using ha
  rw[this];exact awake_of (hs.elim .inl fun x=>.inr (.inl x))
 ·exact(C.idle i _ e (Array.getElem?_eq_getElem hi)).awake
theorem I5.at {ρ:Nat->j6} (hs:I5 ρ (j3 u w.tape w.drawn) w) (d:Nat):I5 ρ (j3 u (w.at d).tape (w.at d).drawn) (w.at d):=⟨hs.os,hs.output,rfl,rfl,hs.size,hs.obj,hs.new,hs.A6⟩
theorem Ring.at (C:Ring P X h u live T gs w q) (d:Nat):Ring P X h u live T gs (w.at d) q :=
 ⟨let⟨ρ,hs,hl⟩:=C.T9;⟨ρ,I5.at hs d,hl⟩,C.idle,C.free,C.size,C.num,C.stays,C.chans,C.R3,C.inj,C.X3,C.V9,C.L7,C.L2,C.old,C.above,C.few,C.cg0,C.aj0,C.dfn,C.past⟩
theorem Ring.own (C:Ring P X h u live T gs w q) {g g':Goroutine} {u':World} (ha:gs[h]? =some g) (hF:r5 P (h==0) g (j3 u w.tape w.drawn) g' u') :
  ∃w' es,stepG P (h==0) g w= .go g' w' es/\Ring P X h u' live (T++MemOp.ofEvents h g.frame.fn g.frame.place es) ((gs.map (woken P g g' w')).setIfInBounds h g') w' q/\((gs.map (woken P g g' w')).setIfInBounds h g')[h]? =some g':=by
 obtain⟨hr,hF⟩:=hF;obtain⟨ρ,hs,hlw⟩:=C.T9;obtain⟨hE,w',es,S2,hs',hev⟩:=hF ρ w hs;have hE:V8 u u':=⟨hE.size,hE.obj⟩
 have hs1:I5 ρ {u with tape:=w.tape,drawn:=w.drawn} w:=hs;have o3:∀G,(X.L2=some G\/G∈X.old)->Cut u G:=fun G hG=>hG.elim (fun e=>(C.L2 G e).1) (C.old G);have Tx0:=fun e he=>Tw0 (X:=X) (h:=h) C.stays o3 (hev e he);have du0:∀op∈MemOp.ofEvents h g.frame.fn g.frame.place es,op.g=h:=fun op H5=>by obtain⟨e,_,rfl⟩:=Go.Conc.mem_ofEvents H5;rfl
 have hd:Deaf (T++MemOp.ofEvents h g.frame.fn g.frame.place es) h=Deaf T h:=by
  rw[Deaf_own];exact deafBehind_still (fun e he=>(Tx0 e he g.frame.fn g.frame.place).2) _
 have X5:∀c,X.I7 c->∃k,w'.heap[c]? =some (.chan 0 #[] false k k false):=fun c e=>by
  obtain⟨hg,_,k,hk⟩:=C.chans c e;exact⟨k,by rw[bt0.kept (u:=j3 u w.tape w.drawn) hg ⟨hE.size,hE.obj⟩ hs hs'];exact hk⟩
 refine⟨w',es,S2,⟨⟨ρ,?_,hlw⟩,fun i y hi hy=>?_,C.free,by simpa using C.size,by simpa using C.num,fun i p hp=>wk0 (C.stays i p hp).1 (C.stays i p hp).2 hE,
  fun c e=>⟨(C.chans c e).1.evo hE,(C.chans c e).2.1,X5 c e⟩,C.R3,C.inj,fun b o e=>?_,C.V9,C.L7,fun G e=>⟨(C.L2 G e).1.evo hE,?_⟩,fun G hG=>(C.old G hG).evo hE,fun j hj=>?_,by simpa using C.few,C.cg0,C.aj0,hd.trans C.dfn,?_⟩,Array.getElem?_setIfInBounds_self_of_lt (by simpa using C.size)⟩
 ·rw[hs'.tape,hs'.drawn];exact hs'
 ·rw[Array.getElem?_setIfInBounds_ne (fun e=>hi e.symm),Array.getElem?_map]at hy;obtain⟨y₀,hy₀,rfl⟩:=Option.map_eq_some_iff.1 hy;have X3:=C.idle i y₀ hi hy₀;rw[woken_of_again (X3.again fun s e=>X5 _ (C.R3 i s e))];exact X3.other (fun z=>hi z.symm) du0
 ·obtain⟨h1,h2,p,y,hy,hl⟩:=C.X3 b o e;exact⟨h1.evo hE,h2,p,y,by rw[bt0.kept (u:=j3 u w.tape w.drawn) h1 ⟨hE.size,hE.obj⟩ hs hs'];exact hy,hl⟩
 ·have:=Cut.kept (u:=j3 u w.tape w.drawn) (C.L2 G e).1 ⟨hE.size,hE.obj⟩ hs hs' (C.L2 G e).2;simpa using this
 ·simp only[Array.size_setIfInBounds,Array.size_map]at hj;rw[Deaf_other T (g':=h) (by have:=C.size;omega) _ du0];exact C.above j hj
 ·exact PastH.appH C.past (fun z=>z.1 rfl) du0 (fun op H5=>by obtain⟨e,he,rfl⟩:=Go.Conc.mem_ofEvents H5;exact(Tx0 e he _ _).1) hd
end
end
section
attribute [local irreducible] KK
theorem D1 (w:World) {a:Addr} (v:Value) {b:Nat} (h:b≠a.block):(w.setCell a v).heap[b]? =w.heap[b]?:=by
 rw[heap_setCell];cases w.heap[b]? with
 |none=>rfl
 |some o=>simp[h]
theorem I5.L2 {ρ:Nat->j6} {u w:World} {G:I4} {st sm:Int} (hs:I5 ρ (j3 u w.tape w.drawn) w) (hc:Cut u G) (hg:x7 G st sm w) (st' sm':Int) {w':World} (hw:w'.heap[G.blk]? =some (.cells ((let c:=w.heap[G.blk]?;match c with|some (.cells c _ _)=>c.extract 0 G.off|_=>#[]) ++ #[.int .u64 st',.int .u32 sm']) (match w.heap[G.blk]? with|some (.cells _ T _)=>T|_=>0) (0,0)))
  (ho:∀b,b≠G.blk->w'.heap[b]? =w.heap[b]?) (hz:w'.heap.size=w.heap.size) (h1:w'.os=w.os) (h2:w'.output=w.output):∃ρ',I5 ρ' (j3 u w'.tape w'.drawn) w'/\∀b,b≠G.blk->ρ' b=ρ b:=by
 obtain⟨c,T,f,hb,hcs⟩:=hc;obtain⟨c0,T0,hg,hc0⟩:=hg;obtain⟨z,hz0,hl⟩:=hs.obj _ _ (show(j3 u w.tape w.drawn).heap[G.blk]? =some _ from hb);rw[hz0]at hg;obtain rfl:=Option.some.inj hg;rw[hz0]at hw;simp only at hw;have ht:(c0 ++ #[Value.int .u64 st,Value.int .u32 sm]).extract 0 G.off=c0:=by rw[<- hc0];simp[Array.extract_append]
 rw[ht]at hw;obtain⟨p',hp'⟩:∃p',bs0 p' (.cells c T f) (.cells (c0 ++ #[.int .u64 st',.int .u32 sm']) T0 (0,0)):=by
  generalize ρ G.blk=p at hl;generalize hq:(Obj.cells (c0 ++ #[.int .u64 st,.int .u32 sm]) T0 (0,0))=z1 at hl;cases hl with
  |same=>
   obtain⟨rfl,_,_⟩:=Obj.cells.inj hq;simp at hcs;omega
  |cut _ rest _ f1 _ hf=>
   obtain⟨h3,rfl,h4⟩:=Obj.cells.inj hq;have n2:c.size=c0.size:=by omega
   have:c=c0:=(Array.append_inj_left h3 n2.symm).symm;subst this;rw[<- h4]at hf;exact⟨_,.cut _ _ _ _ _ hf⟩
  |gone=>exact⟨_,.gone _ _ _⟩
 refine⟨fun b=>if b=G.blk then p' else ρ b,⟨h1.trans hs.os,h2.trans hs.output,rfl,rfl,hz.trans hs.size,fun b x hx=>?_,fun b n7=>?_,hs.A6⟩,fun b hb=>if_neg hb⟩
 ·by_cases e:b=G.blk
  ·subst e;have W3:u.heap[G.blk]? =some x:=hx;rw[hb]at W3;obtain rfl:=Option.some.inj W3;exact⟨_,hw,by rw[if_pos rfl];exact hp'⟩
  ·rw[ho b e,if_neg e];exact hs.obj b x hx
 ·have T2:G.blk<u.heap.size:=(Array.getElem?_eq_some_iff.1 hb).1;have hb2:u.heap.size <=b:=n7;rw[if_neg (by omega)];exact hs.new b n7
theorem x7.setSt {G:I4} {st sm:Int} {w:World} (h:x7 G st sm w) (v:Int):x7 G v sm (w.setCell (stA G) (.int .u64 v)):=by
 obtain⟨c,T,hb,hc⟩:=h;refine⟨c,T,?_,hc⟩;rw[heap_setCell];simp only[stA,hb,Option.map_some,if_true,Option.isSome_none,Bool.false_eq_true,if_false];congr 2;apply Array.ext_getElem?;intro i;rw[Array.getElem?_setIfInBounds];by_cases hi:G.off=i
 ·subst hi;simp[<- hc]
 ·rw[if_neg hi];rcases Nat.lt_or_ge i c.size with h1|h1
  ·rw[Array.getElem?_append_left h1,Array.getElem?_append_left h1]
  ·rw[Array.getElem?_append_right h1,Array.getElem?_append_right h1];obtain⟨k,hk⟩:∃k,i-c.size=k+1:=⟨i-c.size-1,by omega⟩
   rw[hk];cases k <;> rfl
theorem x7.setSm {G:I4} {st sm:Int} {w:World} (h:x7 G st sm w) (v:Int):x7 G st v (w.setCell (smA G) (.int .u32 v)):=by
 obtain⟨c,T,hb,hc⟩:=h;refine⟨c,T,?_,hc⟩;rw[heap_setCell];simp only[smA,hb,Option.map_some,if_true,Option.isSome_none,Bool.false_eq_true,if_false];congr 2;apply Array.ext_getElem?;intro i;rw[Array.getElem?_setIfInBounds];by_cases hi:G.off+1=i
 ·subst hi;rw[if_pos rfl,if_pos (by simp;omega),Array.getElem?_append_right (by omega)];simp[<- hc]
 ·rw[if_neg hi];rcases Nat.lt_or_ge i c.size with h1|h1
  ·rw[Array.getElem?_append_left h1,Array.getElem?_append_left h1]
  ·rw[Array.getElem?_append_right h1,Array.getElem?_append_right h1];rcases Nat.eq_zero_or_pos (i-c.size)with h2|h2
   ·rw[h2];rfl
   ·obtain⟨k,hk⟩:∃k,i-c.size=k+2:=⟨i-c.size-2,by omega⟩
    rw[hk];cases k <;> rfl
structure zg0 (G:I4) (w w':World):Prop where
 other:∀b,b≠G.blk->w'.heap[b]? =w.heap[b]?
 size:w'.heap.size=w.heap.size
 os:w'.os=w.os
 output:w'.output=w.output
theorem zg0.setCell {G:I4} {w:World} {a:Addr} (ha:a.block=G.blk) (v:Value):zg0 G w (w.setCell a v) :=
 ⟨fun b hb=>D1 w v (by rw[ha];exact hb),by simp[World.setCell],rfl,rfl⟩
theorem x7.extract {G:I4} {st sm:Int} {w:World} (h:x7 G st sm w):w.heap[G.blk]? =some (.cells ((let c:=w.heap[G.blk]?;match c with|some (.cells c _ _)=>c.extract 0 G.off|_=>#[]) ++ #[.int .u64 st,.int .u32 sm]) (match w.heap[G.blk]? with|some (.cells _ T _)=>T|_=>0) (0,0)):=by
 obtain⟨c,T,hb,hc⟩:=h;have ht:(c ++ #[Value.int .u64 st,Value.int .u32 sm]).extract 0 G.off=c:=by rw[<- hc];simp[Array.extract_append]
 rw[hb];simp only[ht]
theorem cl0 {G:I4} {st sm:Int} {w:World} (h:x7 G st sm w) {a:Addr} (ha:a.block=G.blk) (hs:a.spot=none) (ho:G.off <=a.off) (v:Value) :
  (let c:=(w.setCell a v).heap[G.blk]?;match c with|some (.cells c _ _)=>c.extract 0 G.off|_=>#[])=(let c:=w.heap[G.blk]?;match c with|some (.cells c _ _)=>c.extract 0 G.off|_=>#[]) /\
  (match(w.setCell a v).heap[G.blk]? with|some (.cells _ T _)=>T|_=>0)=(match w.heap[G.blk]? with|some (.cells _ T _)=>T|_=>0):=by
 obtain⟨c,T,hb,hc⟩:=h;rw[heap_setCell,hb];simp only[Option.map_some,ha,if_true,hs,Option.isSome_none,Bool.false_eq_true,if_false,and_true];apply Array.ext_getElem?;intro i;simp only[Array.getElem?_extract,Array.getElem?_setIfInBounds,Nat.zero_add,Array.size_setIfInBounds];by_cases hi:i<G.off
 ·have:a.off≠i:=by omega
  simp[this]
 ·have:¬i<min G.off (c ++ #[Value.int .u64 st,Value.int .u32 sm]).size-0:=by omega
  rw[if_neg this,if_neg this]
theorem I5.setSt {ρ:Nat->j6} {u w:World} {G:I4} {st sm:Int} (hs:I5 ρ (j3 u w.tape w.drawn) w) (hc:Cut u G) (hg:x7 G st sm w) (v:Int):∃ρ',I5 ρ' (j3 u (w.setCell (stA G) (.int .u64 v)).tape (w.setCell (stA G) (.int .u64 v)).drawn) (w.setCell (stA G) (.int .u64 v))/\∀b,b≠G.blk->ρ' b=ρ b:=by
 have h1:=(hg.setSt v).extract;have h2:=cl0 hg (a:=stA G) rfl rfl (Nat.le_refl _) (.int .u64 v);rw[h2.1,h2.2]at h1;have t:=zg0.setCell (G:=G) (w:=w) (a:=stA G) rfl (.int .u64 v);exact I5.L2 hs hc hg v sm h1 t.other t.size rfl rfl
theorem I5.setSm {ρ:Nat->j6} {u w:World} {G:I4} {st sm:Int} (hs:I5 ρ (j3 u w.tape w.drawn) w) (hc:Cut u G) (hg:x7 G st sm w) (v:Int):∃ρ',I5 ρ' (j3 u (w.setCell (smA G) (.int .u32 v)).tape (w.setCell (smA G) (.int .u32 v)).drawn) (w.setCell (smA G) (.int .u32 v))/\∀b,b≠G.blk->ρ' b=ρ b:=by
 have h1:=(hg.setSm v).extract;have h2:=cl0 hg (a:=smA G) rfl rfl (Nat.le_succ _) (.int .u32 v);rw[h2.1,h2.2]at h1;have t:=zg0.setCell (G:=G) (w:=w) (a:=smA G) rfl (.int .u32 v);exact I5.L2 hs hc hg st v h1 t.other t.size rfl rfl
section
variable {P:Program}{X:Gh}{h:Nat}{u:World}{live:Nat->Bool}{T:Trace}{gs:Array Goroutine}{w:World}{q:Nat->Nat}
def ak0 (X:Gh) (w w':World):Prop:=w'.tape=w.tape/\w'.drawn=w.drawn/\(∀c,X.I7 c->w'.heap[c]? =w.heap[c]?)
theorem ak0.refl (w:World):ak0 X w w:=⟨rfl,rfl,fun _ _=>rfl⟩
theorem Ring.put (C:Ring P X h u live T gs w q) {i n':Nat} {g':Goroutine} {ops:Array MemOp} {G4:Array Goroutine} {aa0:Nat->Bool} {w':World} (T2:i<gs.size) (hih:i≠h) (n2:G4.size=gs.size) (On0:∀x,x≠i->G4[x]? =gs[x]?) (G2:G4[i]? =some g')
  (du0:∀op∈ops,op.g=i) (jy0:Idle P X aa0 (T++ops) i n' g') (hl:∀x,x≠i->aa0 x=live x) (hli:aa0 i=true->live i=true) (hls:X.G1 i≠none->aa0 i=live i) (zh0:PastH X.Sh (Us aa0) X.St (X.Mem h) (X.Lo h) h (T++ops))
  (gm0:∃ρ,I5 ρ (j3 u w'.tape w'.drawn) w'/\∀b,¬X.low b->ρ b=X.D4 b) (x8:∀b,(X.I7 b\/X.X3 b≠none)->w'.heap[b]? =w.heap[b]?) (Iw0:∀G,X.L2=some G->x7 G (((count aa0 G4.size+X.pend)*KK:Nat):Int) 0 w') (mj0:count aa0 gs.size <=count live gs.size):Ring P X h u aa0 (T++ops) G4 w' (upd q i n'):=by
 refine⟨gm0,fun x y hx hy=>?_,C.free,by rw[n2];exact C.size,by rw[n2];exact C.num,C.stays,fun c e=>⟨(C.chans c e).1,(C.chans c e).2.1,?_⟩,C.R3,C.inj,fun b o e=>?_,C.V9,C.L7,fun G e=>⟨(C.L2 G e).1,Iw0 G e⟩,C.old,fun j hj=>?_,⟨by rw[n2];exact Nat.le_trans (Nat.add_le_add_right mj0 _) C.few.1,C.few.2⟩,fun j hj=>?_,fun j hj hs=>?_,(Deaf_other T hih ops du0).trans C.dfn,zh0⟩
 ·by_cases e:x=i
  ·subst e;rw[G2]at hy;obtain rfl:=Option.some.inj hy;rw[upd_same];exact jy0
  ·rw[On0 x e]at hy;rw[upd_ne q n' e];have:=(C.idle x y hx hy).other (fun z=>e z.symm) du0;unfold Idle at this⊢;rw[hl x e];exact this
 ·obtain⟨k,hk⟩:=(C.chans c e).2.2;exact⟨k,by rw[x8 _ (.inl e)];exact hk⟩
 ·obtain⟨h1,h2,p,y,hy,hk⟩:=C.X3 b o e;exact⟨h1,h2,p,y,by rw[x8 b (.inr (by have e':X.X3 b=some o:=e;rw[e'];simp))];exact hy,hk⟩
 ·rw[n2]at hj;rw[Deaf_other T (g':=i) (by omega) ops du0,hl j (by omega)];exact C.above j hj
 ·by_cases e:j=i
  ·subst e;exact C.cg0 j (hli hj)
  ·rw[hl j e]at hj;exact C.cg0 j hj
 ·by_cases e:j=i
  ·subst e;rcases hs with hs|hs
   ·rw[hls hs];exact C.aj0 j hj (.inl hs)
   ·exact absurd hs hih
  ·rw[hl j e];exact C.aj0 j hj hs
end
end
section
attribute [local irreducible] KK
theorem oq0 {live:Nat->Bool} {i n:Nat} (hi:live i=true) (hn:i<n):count live n=count (upd live i false) n+1:=by
 have:=sumTo_upd live false (fun b=>if b then 1 else 0) hn;simp only[hi,if_true,Bool.false_eq_true,if_false]at this;unfold count;omega
theorem Aw0 {live:Nat->Bool} {i n:Nat} (x:Bool) (hn:n <=i):count (upd live i x) n=count live n:=by
 unfold count;exact sumTo_congr fun j hj=>by rw[upd_ne live x (by omega)]
theorem r2 {g:Nat} {fn:FuncId} {pos:String} {es:Array Event}:∀op∈MemOp.ofEvents g fn pos es,op.g=g:=fun op H5=>by obtain⟨e,_,rfl⟩:=Go.Conc.mem_ofEvents H5;rfl
theorem X7 {e:Event} (h:wl0 e=true):(MemAct.ofEvent e).touch? =none:=by
 obtain⟨l,wr,sy⟩:=e;cases l with
 |mark m=>cases m <;> first|(cases h;done)|rfl
 |_=>cases h
section
variable {P:Program}{X:Gh}{h:Nat}{u:World}{live:Nat->Bool}{T:Trace}{gs:Array Goroutine}{w:World}{q:Nat->Nat}
theorem Idle.noSend {i n:Nat} {y:Goroutine} (hi:Idle P X live T i n y) (c:Nat):offersAt y c true=[]:=by
 unfold Idle at hi;cases e:X.G1 i with
 |some s=>
  rw[e]at hi;rcases hi.status with⟨h1,_⟩|⟨_,rfl⟩
  ·exact offersAt_of_not_blocked (by rw[h1];simp) _ _
  ·obtain⟨rfl,_⟩:=hi;exact offersAt_parked_recv' _ _ _ _ _
 |none=>
  rw[e]at hi;obtain⟨_,hi⟩:=hi;split at hi
  ·obtain⟨G,_,hl⟩:=hi;exact offersAt_of_not_blocked (by rw[hl.running];simp) _ _
  ·exact offersAt_of_not_blocked (fun hb=>by rcases hi.status with z|z <;> rw[z]at hb <;> cases hb) _ _
theorem Idle.Oo0 {i n:Nat} {y:Goroutine} (hi:Idle P X live T i n y) {c:Nat} (hc:∀s,X.G1 i=some s->s.ch≠c):offersAt y c false=[]:=by
 unfold Idle at hi;cases e:X.G1 i with
 |some s=>
  rw[e]at hi;rcases hi.status with⟨h1,_⟩|⟨_,rfl⟩
  ·exact offersAt_of_not_blocked (by rw[h1];simp) _ _
  ·obtain⟨rfl,_⟩:=hi;rw[offersAt_parked_recv,if_neg (hc s e)]
 |none=>
  rw[e]at hi;obtain⟨_,hi⟩:=hi;split at hi
  ·obtain⟨G,_,hl⟩:=hi;exact offersAt_of_not_blocked (by rw[hl.running];simp) _ _
  ·exact offersAt_of_not_blocked (fun hb=>by rcases hi.status with z|z <;> rw[z]at hb <;> cases hb) _ _
theorem Ring.by_step (C:Ring P X h u live T gs w q) {i:Nat} {g gh:Goroutine} {sl:Option (Nat×Nat)} (hi:gs[i]? =some g) (r3:i≠h) (g4:g.status= .running) (hh:gs[h]? =some gh)
  (hA:∀w',ak0 X w w'->gh.again w'=gh) (hO:∀s,X.G1 i=some s->gl0 P (i==0) s g->offersAt gh s.ch true=[]) :
  ∃(G4:Array Goroutine) (ops:Array MemOp) (q':Nat->Nat) (w':World) (aa0:Nat->Bool),runT P (crowd gs w sl) i=(.next (crowd G4 w' sl),ops)/\G4.size=gs.size/\G4[h]? =some gh/\(∀x,x≠i->q' x=q x) /\
   (∀s,X.G1 i=some s->q' i=0->gl0 P (i==0) s g)/\Ring P X h u aa0 (T++ops) G4 w' q'/\sumTo gs.size q'<sumTo gs.size q/\ak0 X w w':=by
 have T2:i<gs.size:=(Array.getElem?_eq_some_iff.1 hi).1;have ja0:∀(w':World),ak0 X w w'->∀(a a':Goroutine) (x:Nat) (y:Goroutine),gs[x]? =some y->woken P a a' w' y=y:=fun w' hS a a' x y hy=>woken_of_again (by
  by_cases hx:x=h
  ·subst hx;rw[hh]at hy;obtain rfl:=Option.some.inj hy;exact hA w' hS
  ·exact(C.idle x y hx hy).again fun s e=>by obtain⟨k,hk⟩:=(C.chans _ (C.R3 x s e)).2.2;exact⟨k,by rw[hS.2.2 _ (C.R3 x s e)];exact hk⟩)
 have ty0:∀(w':World),ak0 X w w'->∀(a' g':Goroutine) (x:Nat),x≠i->((gs.map (woken P g a' w')).setIfInBounds i g')[x]? =gs[x]?:=by
  intro w' hS a' g' x hx;rw[Array.getElem?_setIfInBounds_ne (fun e=>hx e.symm),Array.getElem?_map];cases e:gs[x]? with
  |none=>rfl
  |some y=>simp[ja0 w' hS g a' x y e]
 have G2:∀(w':World) (a' g':Goroutine),((gs.map (woken P g a' w')).setIfInBounds i g')[i]? =some g':=fun w' a' g'=>Array.getElem?_setIfInBounds_self_of_lt (by simpa using T2);have Ix0:∀k,q i=k+1->sumTo gs.size (upd q i k)<sumTo gs.size q:=by
  intro k hqi;have h2:sumTo gs.size (upd q i k)+(k+1)=sumTo gs.size q+k:=by
   have:=sumTo_upd q k id T2;simpa [hqi]using this
  omega
 have X3:=C.idle i g r3 hi;unfold Idle at X3;cases e:X.G1 i with
 |none=>
  rw[e]at X3;obtain⟨tz0,hq⟩:=X3;have hi0:(i==0)=false:=by simp;omega
  have hMi:¬X.Mem h i:=fun z=>z.elim (fun z=>r3 z.1) fun z=>z e;cases hl:live i with
  |false=>
   rw[hl]at hq;simp only[Bool.false_eq_true,if_false]at hq;cases hqi:q i with
   |zero=>rw[hqi]at hq;rw[hq.1]at g4;cases g4
   |succ k=>
    rw[hqi]at hq;rcases hq with⟨hf,_⟩|⟨_,g',es,hm,y3,hq'⟩
    ·rw[hf]at g4;cases g4
    have hS:=ak0.refl (X:=X) w;refine⟨_,_,upd q i k,w,live,runT_crowd_go (sl:=sl) hi (by rw[hi0];exact y3 w),by simp,(ty0 w hS _ _ h (Ne.symm r3)).trans hh,fun x hx=>upd_ne q k hx,fun s hs=>(by cases hs),?_,Ix0 k hqi,hS⟩;refine C.put T2 r3 (by simp) (ty0 w hS _ _) (G2 w _ _) r2 (by unfold Idle;rw[e];simp only[hl,Bool.false_eq_true,if_false];exact⟨tz0,by rw[Deaf_own];exact hq'⟩) (fun _ _=>rfl) id (fun _=>rfl) ?_ C.T9 (fun _ _=>rfl) (fun G hG=>by simpa using(C.L2 G hG).2) (Nat.le_refl _);exact C.past.appMute (g:=i) (fun x=>Knows.app _) (fun op H5=>by obtain⟨e',he,rfl⟩:=Go.Conc.mem_ofEvents H5;exact touch_mute (hm e' he)) (C.past.old_hears r2 (fun z=>absurd z hMi))
  |true=>
   rw[hl]at hq;simp only[if_true]at hq;obtain⟨G,hG,hq⟩:=hq;obtain⟨mk0,dv0⟩:=C.L2 G hG;cases hqi:q i with
   |zero=>rw[hqi]at hq;exact hq.elim
   |succ k=>
    rw[hqi]at hq;unfold Lt at hq;rcases hq with⟨g',es,⟨_,hsy,y3⟩,hq'⟩|⟨_,hd0,ua0⟩
    ·have hS:=ak0.refl (X:=X) w;refine⟨_,_,upd q i k,w,live,runT_crowd_go (sl:=sl) hi (by rw[hi0];exact y3 w _ _ dv0),by simp,(ty0 w hS _ _ h (Ne.symm r3)).trans hh,fun x hx=>upd_ne q k hx,fun s hs=>(by cases hs),?_,Ix0 k hqi,hS⟩;refine C.put T2 r3 (by simp) (ty0 w hS _ _) (G2 w _ _) r2 (by unfold Idle;rw[e];simp only[hl,if_true];exact⟨tz0,G,hG,by rw[Deaf_own];exact hq'⟩) (fun _ _=>rfl) id (fun _=>rfl) ?_ C.T9 (fun _ _=>rfl) (fun G hG=>by simpa using(C.L2 G hG).2) (Nat.le_refl _);exact C.past.appMute (g:=i) (fun x=>Knows.app _) (fun op H5=>by obtain⟨e',he,rfl⟩:=Go.Conc.mem_ofEvents H5;exact X7 (hsy e' he)) (C.past.old_hears r2 (fun z=>absurd z hMi))
    ·have ev0:=oq0 hl T2;generalize hv0:count (upd live i false) gs.size=v0 at ev0;obtain⟨v,hv⟩:∃v,v=v0+X.pend:=⟨_,rfl⟩
     have ev0:count live gs.size+X.pend=v+1:=by omega
     have hvb:v<2147483647:=by have:=C.few;omega
     obtain⟨g',y3,ez0,_⟩:=ua0 v 0 (by omega) hvb;have Ty0:x7 G (((v+1)*KK+0:Nat):Int) 0 w:=by rw[Nat.add_zero,<- ev0];exact dv0
     have S2:=y3 w Ty0;rw[Nat.add_zero]at S2;have hgv:=dv0.setSt ((v*KK:Nat):Int);have jz0:stepG P (i==0) g w= .go g' (w.setCell (stA G) (.int .u64 ((v*KK:Nat):Int))) #[rdA (stA G),wrA (stA G)]:=by rw[hi0];exact S2
     have hgn:∀b,(X.I7 b\/X.X3 b≠none)->(w.setCell (stA G) (.int .u64 ((v*KK:Nat):Int))).heap[b]? =w.heap[b]?:=fun b hb=>D1 w _ (fun e=>by
      have e:b=G.blk:=e;subst e;have:=C.L7.2 G (.inl hG);exact hb.elim this.1 fun z=>z this.2)
     have hS:ak0 X w (w.setCell (stA G) (.int .u64 ((v*KK:Nat):Int))):=⟨rfl,rfl,fun c hc=>hgn _ (.inl hc)⟩
     have hdq:∀t:Trace,∀j,j <=(MemOp.ofEvents i g.frame.fn g.frame.place #[rdA (stA G),wrA (stA G)]).size->(t++MemOp.ofEvents i g.frame.fn g.frame.place #[rdA (stA G),wrA (stA G)]).deaf i (t.size+j)=Deaf t i:=fun t=>deaf_quiet (fun op H5 d=>by
      obtain⟨e',he,rfl⟩:=Go.Conc.mem_ofEvents H5;simp only[List.mem_toArray,List.mem_cons,List.not_mem_nil,or_false]at he;rcases he with rfl|rfl <;> rfl)
     have hdd:Deaf (T++MemOp.ofEvents i g.frame.fn g.frame.place #[rdA (stA G),wrA (stA G)]) i=Deaf T i:=by
      rw[Deaf_own];exact deafBehind_still (fun e' he=>by
       simp only[List.mem_toArray,List.mem_cons,List.not_mem_nil,or_false]at he;rcases he with rfl|rfl <;> exact⟨by simp[rdA,wrA],by simp[rdA,wrA]⟩) _
     refine⟨_,_,upd q i k,_,upd live i false,runT_crowd_go (sl:=sl) hi jz0,by simp,(ty0 _ hS _ _ h (Ne.symm r3)).trans hh,fun x hx=>upd_ne q k hx,fun s hs=>(by cases hs),?_,Ix0 k hqi,hS⟩;refine C.put T2 r3 (by simp) (ty0 _ hS _ _) (G2 _ _ _) r2 (by unfold Idle;rw[e];simp only[upd_same,Bool.false_eq_true,if_false];exact⟨tz0,by rw[hdd];exact ez0 (by omega)⟩) (fun x hx=>upd_ne live false hx) (fun z=>by rw[upd_same]at z;cases z) (fun z=>absurd e z) ?_ ?_ hgn (fun G' hG'=>?_) (by omega)
     ·refine Past.leave (Us:=Us live) ?_ (fun x hx=>?_)
      ·refine Past.Mp0 (g:=i) C.past (.inr hl) (fun g' l n5 hsh=>?_) (fun x=>Knows.app _) r2 (fun op H5=>?_) (fun _ j hj1 hj2=>?_) (C.past.old_hears r2 (fun z=>absurd z hMi))
       ·obtain⟨p,hp,rfl⟩:=n5;obtain⟨a',G',hG',ha,hb,ho⟩:=hsh;simp only[Loc.cell.injEq]at ha;subst ha;have hc:Cut u G':=hG'.elim (fun z=>(C.L2 G' z).1) (C.old G');obtain⟨c,T1,f,hc,hs⟩:=hc;obtain⟨c',T',f',w6,_,hv'⟩:=C4 (C.stays g' p hp).1;rw[hb,hc]at w6;cases w6;have:=(Array.getElem?_eq_some_iff.1 hv').1;omega
       ·obtain⟨e',he,rfl⟩:=Go.Conc.mem_ofEvents H5;intro b hb;simp only[List.mem_toArray,List.mem_cons,List.not_mem_nil,or_false]at he;rcases he with rfl|rfl <;> simp[rdA,wrA,MemAct.ofEvent,MemAct.touch?]at hb <;> subst hb <;> exact⟨⟨stA G,G,.inl hG,rfl,rfl,Nat.le_refl _⟩,by simp,fun _=>rfl⟩
       ·obtain⟨m,rfl⟩:∃m,j=T.size+m:=⟨j-T.size,by omega⟩
        rw[hdq T m (by omega)];omega
      ·rcases hx with hx|hx
       ·exact .inl hx
       ·by_cases ex:x=i
        ·subst ex;rw[upd_same]at hx;cases hx
        ·rw[upd_ne live false ex]at hx;exact .inr hx
     ·obtain⟨ρ,hs,hlw⟩:=C.T9;obtain⟨ρ',h1,h2⟩:=I5.setSt hs mk0 dv0 ((v*KK:Nat):Int);exact⟨ρ',h1,fun b hb=>(h2 b fun e=>hb (e▸C.V9 G hG)).trans (hlw b hb)⟩
     ·rw[hG]at hG';obtain rfl:=Option.some.inj hG';simp only[Array.size_setIfInBounds,Array.size_map,hv0,<- hv];exact hgv
 |some s=>
  rw[e]at X3;have hM:X.Mem h i:=.inr (by rw[e];simp);have hLo:X.Lo h i:=⟨r3,by rw[e];simp⟩
  have hS:=ak0.refl (X:=X) w;obtain⟨n,hqi⟩:∃n,q i=n+1:=by
   rcases X3.status with⟨_,h2⟩|⟨h1,_⟩
   ·exact⟨q i-1,by omega⟩
   ·rw[g4]at h1;cases h1
  rw[hqi]at X3;have Tz0:gl0 P (i==0) s g\/(0<n/\∃g' es,(∀e'∈es,∃p∈X.stay i,e'=⟨.cell p.1,false,false⟩)/\(∀w,(∀p∈X.stay i,w.cell? p.1=some p.2)->stepG P (i==0) g w= .go g' w es)/\Way P (i==0) (X.stay i) s n g') :=
   X3.elim .inl fun z=>.inr ⟨z.1,z.2.2⟩
  rcases Tz0 with hat|⟨hn0,g',es,y9,y3,sc0⟩
  ·obtain⟨k,hk⟩:=(C.chans _ (C.R3 i s e)).2.2;have hw:∀cc∈#[rcase s.ch s.z],NoWays w (gs.setIfInBounds i ph) cc:=by
    intro cc hcc;simp only[List.mem_toArray,List.mem_cons,List.not_mem_nil,or_false]at hcc;subst hcc;refine ways_recv_none hk (partners_nil fun x y hy=>?_);rcases getElem?_stand gs i x y hy with⟨_,rfl⟩|⟨hx,hy'⟩
    ·exact offersAt_ph _ _
    ·by_cases hxh:x=h
     ·subst hxh;rw[hh]at hy';obtain rfl:=Option.some.inj hy';exact hO s e hat
     ·exact(C.idle x y hxh hy').noSend _
   refine⟨_,_,upd q i 0,w,live,crowd_waits (sl:=sl) hi (hat.2.2.2.2 w) hw,by simp,(Array.getElem?_setIfInBounds_ne r3).trans hh,fun x hx=>upd_ne q 0 hx,fun s' hs' _=>by rw[<- Option.some.inj hs'];exact hat,?_,?_,hS⟩
   ·refine C.put T2 r3 (by simp) (fun x hx=>Array.getElem?_setIfInBounds_ne (fun z=>hx z.symm)) (Array.getElem?_setIfInBounds_self_of_lt T2) r2 (by unfold Idle;rw[e];exact⟨rfl,g,hat⟩) (fun _ _=>rfl) id (fun _=>rfl) ?_ C.T9 (fun _ _=>rfl) (fun G hG=>by simpa using(C.L2 G hG).2) (Nat.le_refl _);exact C.past.appMute (g:=i) (fun x=>Knows.app _) (fun op H5=>by obtain⟨e',he,rfl⟩:=Go.Conc.mem_ofEvents H5;simp at he) (C.past.old_hears r2 (fun _=>by rw[Deaf_own];rfl))
   ·have h2:sumTo gs.size (upd q i 0)+(n+1)=sumTo gs.size q+0:=by
     have:=sumTo_upd q 0 id T2;simpa [hqi]using this
    omega
  ·obtain⟨ρ,hs,_⟩:=C.T9;have S2:=y3 w fun p hp=>hs.cell (u:=j3 u w.tape w.drawn) (C.stays i p hp).1;refine⟨_,_,upd q i n,w,live,runT_crowd_go (sl:=sl) hi S2,by simp,(ty0 w hS _ _ h (Ne.symm r3)).trans hh,fun x hx=>upd_ne q n hx,fun s' _ hz=>by rw[upd_same]at hz;omega,?_,Ix0 n hqi,hS⟩;refine C.put T2 r3 (by simp) (ty0 w hS _ _) (G2 w _ _) r2 (by unfold Idle;rw[e];exact sc0) (fun _ _=>rfl) id (fun _=>rfl) ?_ C.T9 (fun _ _=>rfl) (fun G hG=>by simpa using(C.L2 G hG).2) (Nat.le_refl _);refine C.past.appRead (g:=i) (fun x=>Knows.app _) hM hLo r2 (fun op H5 b hb=>?_) ?_
   ·obtain⟨e',he,rfl⟩:=Go.Conc.mem_ofEvents H5;obtain⟨p,hp,rfl⟩:=y9 e' he;simp only[ofEvent_cell0,MemAct.touch?,Option.some.injEq]at hb;subst hb;refine⟨rfl,⟨p,hp,rfl⟩,?_⟩;rintro⟨a',G',hG',ha,hb,ho⟩;simp only[Loc.cell.injEq]at ha;subst ha;have hc:Cut u G':=hG'.elim (fun z=>(C.L2 G' z).1) (C.old G');obtain⟨c,T1,f,hc,hs⟩:=hc;obtain⟨c',T',f',w6,_,hv'⟩:=C4 (C.stays i p hp).1;rw[hb,hc]at w6;cases w6;have:=(Array.getElem?_eq_some_iff.1 hv').1;omega
   ·rw[Deaf_own];exact deafBehind_still (fun e' he=>by obtain⟨p,_,rfl⟩:=y9 e' he;exact⟨by simp,by simp⟩) _
end
end
section
attribute [local irreducible] KK
def Ends (P:Program) (Post:Value->World->Prop) (m:Machine) (t:Trace):Prop :=
 ∃N last o w' t',runNT P (N+1) m t=(.ended o w',t')/\runN P N m= .next last/\step P last= .ended o w'/\Conc.Good P Post last o w' t'
theorem dz0 {P:Program}:∀{N:Nat} {m m':Machine} {t t':Trace},runNT P N m t=(.next m',t')->runN P N m= .next m'
 |0,m,m',t,t',h=>by simp only[runNT,Prod.mk.injEq]at h;simp only[runN];exact h.1
 |N+1,m,m',t,t',h=>by
  simp only[runNT]at h;unfold runN step;cases e:stepT P m with
  |mk s ops=>
   rw[e]at h;cases s with
   |next m1=>exact dz0 h
   |ended o w=>simp at h
theorem os0 {P:Program}:∀(a b:Nat) (m m':Machine),runN P a m= .next m'->runN P (a+b) m=runN P b m'
 |0,b,m,m',h=>by simp only[runN,Stepped.next.injEq]at h;rw[Nat.zero_add,h]
 |a+1,b,m,m',h=>by
  rw[show a+1+b=(a+b)+1 by omega];have h':(match step P m with| .next m=>runN P a m|e=>e)= .next m':=h;show(match step P m with| .next m=>runN P (a+b) m|e=>e)=_;cases e:step P m with
  |next m1=>rw[e]at h';exact os0 a b m1 m' h'
  |ended o w=>rw[e]at h';cases h'
section
variable {P:Program}{Post:Value->World->Prop}
theorem Ends.steps {N:Nat} {m m':Machine} {t t':Trace} (h:runNT P N m t=(.next m',t')) (hE:Ends P Post m' t'):Ends P Post m t:=by
 obtain⟨M,last,o,w',t2,h1,h2,h3,h4⟩:=hE;exact⟨N+M,last,o,w',t2,by rw[Nat.add_assoc,runNT_add,h];exact h1,by rw[os0 N M m m' (dz0 h)];exact h2,h3,h4⟩
theorem Ends.step {m m':Machine} {t:Trace} {ops:Array MemOp} (h:stepT P m=(.next m',ops)) (hE:Ends P Post m' (t++ops)):Ends P Post m t :=
 Ends.steps (N:=1) (by simp only[runNT,h]) hE
end
def Fin (P:Program) (Post:Value->World->Prop) (X:Gh) (h:Nat) (g:Goroutine) (u:World):Prop :=
 ∀live T gs w sl q,gs[h]? =some g->Ring P X h u live T gs w q->Ends P Post (crowd gs w sl) T
section
variable {P:Program}{Post:Value->World->Prop}{X:Gh}{h:Nat}{u:World}
theorem Ring.Ua0 {g:Goroutine} (g4:g.status= .running) (K:Machine->Trace->Prop) (hK:∀m m' t ops,stepT P m=(.next m',ops)->K m' (t++ops)->K m t)
  (ka0:∀live T gs w sl d Y4 q,gs[h]? =some g->stepT P (crowd gs w sl)=runT P (crowd gs (w.at d) Y4) h->Ring P X h u live T gs (w.at d) q->K (crowd gs w sl) T) :
  ∀(μ:Nat) live T gs w sl q,sumTo gs.size q=μ->gs[h]? =some g->Ring P X h u live T gs w q->K (crowd gs w sl) T:=by
 intro μ
 induction μ using Nat.strongRecOn with
 |_ μ ih=>
  intro live T gs w sl q hμ hg C;obtain⟨i,gi,d,Y4,hi,hgi,S2⟩:=crowd_pick (P:=P) (w:=w) (sl:=sl) (C.awake hg (.inl g4)) ⟨h,g,hg,g4⟩;have Cd:=C.at d;by_cases e:i=h
  ·subst e;exact ka0 live T gs w sl d Y4 q hg S2 Cd
  ·obtain⟨G4,ops,q',w',aa0,hrt,n2,hgh,_,_,C',T2,_⟩:=Cd.by_step (sl:=Y4) hi e hgi hg (fun w' _=>again_of_running (.inl g4) w') (fun s _ _=>offersAt_of_not_blocked (by rw[g4];simp) _ _);exact hK _ _ _ _ (S2.trans hrt) (ih _ (by rw[n2,<- hμ];exact T2) aa0 (T++ops) G4 w' Y4 q' rfl hgh C')
theorem Fin.Y8 {g:Goroutine} (g4:g.status= .running) (ka0:∀live T gs w sl d Y4 q,gs[h]? =some g->stepT P (crowd gs w sl)=runT P (crowd gs (w.at d) Y4) h->Ring P X h u live T gs (w.at d) q->Ends P Post (crowd gs w sl) T):Fin P Post X h g u :=
 fun live T gs w sl q hg C=>Ring.Ua0 g4 (Ends P Post) (fun _ _ _ _ h=>Ends.step h) ka0 _ live T gs w sl q rfl hg C
theorem Fin.own {g:Goroutine} (g4:g.status= .running) (hs:∀τ d,∃g' u',r5 P (h==0) g (j3 u τ d) g' u'/\Fin P Post X h g' u'):Fin P Post X h g u:=by
 refine Fin.Y8 g4 fun live T gs w sl d Y4 q hg S2 C=>?_;obtain⟨g',u',hF,hK⟩:=hs (w.at d).tape (w.at d).drawn;obtain⟨w',es,hgo,C',G2⟩:=C.own hg hF;exact Ends.step (S2.trans (runT_crowd_go (sl:=Y4) hg hgo)) (hK _ _ _ _ _ _ G2 C')
theorem Fin.Iy0 {g:Goroutine} {X':Gh} {u':World} (hw:∀live T gs w q,Ring P X h u live T gs w q->Ring P X' h u' live T gs w q) (hF:Fin P Post X' h g u'):Fin P Post X h g u :=
 fun live T gs w sl q hg C=>hF live T gs w sl q hg (hw live T gs w q C)
end
def O2 (u:World) (b:Nat) (o:Obj):World:={u with heap:=u.heap.setIfInBounds b o}
theorem ie0 (u:World) (b:Nat) (o:Obj) (k:Nat):(O2 u b o).heap[k]? =if b=k then(if b<u.heap.size then some o else none) else u.heap[k]?:=by
 simp only[O2,Array.getElem?_setIfInBounds]
theorem c5 (u:World) {b k:Nat} (o:Obj) (h:b≠k):(O2 u b o).heap[k]? =u.heap[k]?:=by rw[ie0,if_neg h]
theorem K6 (u:World) {b:Nat} {o x:Obj} (h:u.heap[b]? =some x):(O2 u b o).heap[b]? =some o:=by
 rw[ie0,if_pos rfl,if_pos (Array.getElem?_eq_some_iff.1 h).1]
theorem u5 {u u':World} {a:Addr} (h:u'.heap[a.block]? =u.heap[a.block]?):u'.cell? a=u.cell? a/\u'.frozen? a=u.frozen? a:=by
 unfold World.cell? World.frozen?;rw[h];exact⟨rfl,rfl⟩
theorem I5.replace {ρ:Nat->j6} {u w:World} {b:Nat} {x x' y:Obj} {p:j6} (hs:I5 ρ (j3 u w.tape w.drawn) w) (hb:u.heap[b]? =some x) (hv:e4 x'=false) (hy:w.heap[b]? =some y) (hl:bs0 p x' y):∃ρ',I5 ρ' (j3 (O2 u b x') w.tape w.drawn) w/\∀k,k≠b->ρ' k=ρ k:=by
 have T2:=(Array.getElem?_eq_some_iff.1 hb).1;refine⟨fun k=>if k=b then p else ρ k,⟨hs.os,hs.output,rfl,rfl,by have:=hs.size;simpa [O2,j3]using this,fun k z hz=>?_,fun k hk=>?_,fun k z hz=>?_⟩,fun k hk=>if_neg hk⟩
 ·have hz':(O2 u b x').heap[k]? =some z:=hz;by_cases e:k=b
  ·subst e;rw[K6 u hb]at hz';obtain rfl:=Option.some.inj hz';exact⟨y,hy,by rw[if_pos rfl];exact hl⟩
  ·rw[c5 u x' (Ne.symm e)]at hz';obtain⟨y',h1,h2⟩:=hs.obj k z hz';exact⟨y',h1,by rw[if_neg e];exact h2⟩
 ·have hk':u.heap.size <=k:=by simpa [O2,j3]using hk
  rw[if_neg (by omega)];exact hs.new k hk'
 ·have hz':(O2 u b x').heap[k]? =some z:=hz;by_cases e:k=b
  ·subst e;rw[K6 u hb]at hz';obtain rfl:=Option.some.inj hz';exact hv
  ·rw[c5 u x' (Ne.symm e)]at hz';exact hs.A6 k z hz'
structure z9 (X:Gh) (b:Nat):Prop where
 stay:∀i p,p∈X.stay i->p.1.block≠b
 X3:X.X3 b=none
 I7:¬X.I7 b
 L2:∀G,(X.L2=some G\/G∈X.old)->G.blk≠b
structure Gh.W8 (X:Gh) (n:Nat):Prop where
 stay:∀i p,p∈X.stay i->p.1.block<n
 X3:∀b o,X.X3 b=some o->b<n
 I7:∀b,X.I7 b->b<n
 L2:∀G,(X.L2=some G\/G∈X.old)->G.blk<n
 low:∀b,X.low b->b<n
theorem Gh.W8.mono {X:Gh} {n m:Nat} (h:X.W8 n) (hm:n <=m):X.W8 m :=
 ⟨fun i p hp=>Nat.lt_of_lt_of_le (h.stay i p hp) hm,fun b o e=>Nat.lt_of_lt_of_le (h.X3 b o e) hm,fun b e=>Nat.lt_of_lt_of_le (h.I7 b e) hm,fun G e=>Nat.lt_of_lt_of_le (h.L2 G e) hm,fun b e=>Nat.lt_of_lt_of_le (h.low b e) hm⟩
theorem Gh.W8.A9 {X:Gh} {n b:Nat} (h:X.W8 n) (hb:n <=b):z9 X b :=
 ⟨fun i p hp=>by have:=h.stay i p hp;omega,by
  cases e:X.X3 b with
  |none=>rfl
  |some o=>have:=h.X3 b o e;omega,fun e=>by have:=h.I7 b e;omega,fun G hG=>by have:=h.L2 G hG;omega⟩
def Gh.lower (X:Gh) (b:Nat):Gh:={X with low:=fun k=>X.low k\/k=b}
theorem Ring.swap {P:Program} {X:Gh} {h:Nat} {u:World} {live:Nat->Bool} {T:Trace} {gs:Array Goroutine} {w:World} {q:Nat->Nat} (C:Ring P X h u live T gs w q) {b:Nat} {x x':Obj} (hl:z9 X b) (hb:u.heap[b]? =some x) (hv:e4 x'=false)
  (hlk:∀p y,bs0 p x y->∃p',bs0 p' x' y):Ring P (X.lower b) h (O2 u b x') live T gs w q:=by
 obtain⟨ρ,hs,hlw⟩:=C.T9;obtain⟨y,hy,hl0⟩:=hs.obj b x hb;obtain⟨p',hp'⟩:=hlk _ _ hl0;have mk0:∀G,(X.L2=some G\/G∈X.old)->Cut u G->Cut (O2 u b x') G:=fun G hG ⟨c,T,f,hc,hcs⟩=>⟨c,T,f,by rw[c5 u x' (Ne.symm (hl.L2 G hG))];exact hc,hcs⟩
 have x8:∀k,k≠b->bt0 u k->bt0 (O2 u b x') k:=fun k hk ⟨T,f,hc⟩=>⟨T,f,by rw[c5 u x' (Ne.symm hk)];exact hc⟩
 refine⟨?_,C.idle,C.free,C.size,C.num,fun i p hp=>?_,fun c hc=>⟨x8 c (fun e=>hl.I7 (e▸hc)) (C.chans c hc).1,(C.chans c hc).2⟩,C.R3,C.inj,fun k o e=>?_,fun G e=>.inl (C.V9 G e),⟨fun c e=>.inl (C.L7.1 c e),C.L7.2⟩,fun G e=>⟨mk0 G (.inl e) (C.L2 G e).1,(C.L2 G e).2⟩,fun G e=>mk0 G (.inr e) (C.old G e),C.above,C.few,C.cg0,C.aj0,C.dfn,C.past⟩
 ·obtain⟨ρ',h1,h2⟩:=I5.replace hs hb hv hy hp';exact⟨ρ',h1,fun k hk=>by
   have hkb:k≠b:=fun e=>hk (.inr e);rw[h2 k hkb];exact hlw k fun e=>hk (.inl e)⟩
 ·have:=u5 (u:=u) (u':=O2 u b x') (a:=p.1) (c5 u x' (Ne.symm (hl.stay i p hp)));rw[this.1,this.2];exact C.stays i p hp
 ·have hk:k≠b:=fun z=>by subst z;have e2:X.X3 k=some o:=e;rw[hl.X3]at e2;cases e2
  exact⟨x8 k hk (C.X3 k o e).1,(C.X3 k o e).2⟩
section
variable {P:Program}{Post:Value->World->Prop}{X:Gh}{h:Nat}{u:World}{g:Goroutine}{b:Nat}
theorem Fin.freeze {c:Array Value} {T:TypeId} {f f':Nat×Nat} (hl:z9 X b) (hb:u.heap[b]? =some (.cells c T f)) (hf:∀i,inR f i->inR f' i) (hF:Fin P Post (X.lower b) h g (O2 u b (.cells c T f'))):Fin P Post X h g u:=by
 refine Fin.Iy0 (fun live Tr gs w q C=>C.swap hl hb rfl fun p y hp=>?_) hF;cases hp with
 |same=>exact⟨.cut #[] f,by have:=bs0.cut c #[] T f f' hf;simpa using this⟩
 |cut _ rest _ f0 _ h0=>exact⟨.cut rest f0,.cut c rest T f0 f' fun i hi=>hf i (h0 i hi)⟩
 |gone=>exact⟨.gone y,.gone _ _ _⟩
def nothing:Obj:=.cells #[] 0 (0,0)
theorem Fin.chan (hl:z9 X b) (hw:¬X.low b) (B9:X.D4 b= .all) {k:Nat} (hb:u.heap[b]? =some (.chan 0 #[] false k k false)) (hF:Fin P Post {X.lower b with I7:=fun c=>X.I7 c\/c=b} h g (O2 u b nothing)):Fin P Post X h g u:=by
 refine Fin.Iy0 (fun live Tr gs w q C=>?_) hF;have C':=C.swap (x':=nothing) hl hb rfl fun p y hp=>⟨.gone y,.gone _ _ _⟩
 obtain⟨ρ,hs,hlw⟩:=C.T9;obtain⟨y,hy,hl0⟩:=hs.obj b _ hb;rw[hlw b hw,B9]at hl0;have hyb:y= .chan 0 #[] false k k false:=by cases hl0;rfl
 subst hyb;refine⟨C'.T9,C'.idle,C'.free,C'.size,C'.num,C'.stays,fun c hc=>?_,fun i s e=>.inl (C'.R3 i s e),C'.inj,C'.X3,C'.V9,⟨fun c e=>e.elim (C'.L7.1 c) fun e=>.inr e,fun G hG=>⟨fun e=>e.elim (C'.L7.2 G hG).1 (hl.L2 G hG),(C'.L7.2 G hG).2⟩⟩,C'.L2,C'.old,C'.above,C'.few,C'.cg0,C'.aj0,C'.dfn,C'.past⟩;rcases hc with hc|rfl
 ·exact C'.chans c hc
 ·exact⟨⟨0,(0,0),K6 u hb⟩,hl.X3,k,hy⟩
theorem Fin.stay {l:Q3} (hl:∀p∈l,u.cell? p.1=some p.2/\u.frozen? p.1=true) (hF:Fin P Post {X with stay:=upd X.stay h l} h g u):Fin P Post X h g u:=by
 refine Fin.Iy0 (fun live Tr gs w q C=>?_) hF;have Iz0:∀i,i≠h->upd X.stay h l i=X.stay i:=fun i hi=>upd_ne _ _ hi;refine⟨C.T9,fun i y hi hy=>?_,C.free,C.size,C.num,fun i p hp=>?_,C.chans,C.R3,C.inj,C.X3,C.V9,C.L7,C.L2,C.old,fun j hj=>?_,C.few,C.cg0,C.aj0,C.dfn,?_⟩
 ·have:=C.idle i y hi hy;unfold Idle at this⊢;show(match X.G1 i with|some s=>Way P (i==0) (upd X.stay h l i) s (q i) y|none=>_);rw[Iz0 i hi];exact this
 ·have hp':p∈upd X.stay h l i:=hp;by_cases e:i=h
  ·subst e;rw[upd_same]at hp';exact hl p hp'
  ·rw[Iz0 i e]at hp';exact C.stays i p hp'
 ·have:=C.above j hj;refine⟨this.1,this.2.1,this.2.2.1,?_⟩;show upd X.stay h l j=[];rw[Iz0 j (by have:=C.size;omega)];exact this.2.2.2
 ·refine PastH.still C.past (fun z=>z.1 rfl) (fun i hi l'=>?_) (fun l' n5=>?_) (fun i hi=>.inl hi) (fun hi=>C.past.hears h hi)
  ·show(∃p∈upd X.stay h l i,_)↔_;rw[Iz0 i hi];exact Iff.rfl
  ·obtain⟨p,hp,rfl⟩:=(n5:∃p∈upd X.stay h l h,l'= .cell p.1)
   have hp:p∈l:=by have hp':p∈upd X.stay h l h:=hp;rwa [upd_same]at hp'
   refine⟨rfl,?_⟩;rintro⟨a',G,hG,ha,hb,ho⟩;simp only[Loc.cell.injEq]at ha;subst ha;have hc:Cut u G:=hG.elim (fun e=>(C.L2 G e).1) (C.old G);obtain⟨c,T,f,hc,hs⟩:=hc;obtain⟨c',T',f',w6,_,hv'⟩:=C4 (hl p hp).1;rw[hb,hc]at w6;cases w6;have:=(Array.getElem?_eq_some_iff.1 hv').1;omega
end
end
section
attribute [local irreducible] KK
theorem count_le {live:Nat->Bool} {i:Nat}:∀{n:Nat},i<n->live i=true->0<count live n:=by
 intro n hn hl;have:=Go.ConcN.le_sumTo (f:=fun i=>if live i then 1 else 0) hn;simp only[hl,if_true]at this;exact this
theorem x7.of_block {G:I4} {st sm:Int} {w w':World} (h:x7 G st sm w) (e:w'.heap[G.blk]? =w.heap[G.blk]?):x7 G st sm w':=by
 obtain⟨c,T,hb,hc⟩:=h;exact⟨c,T,e.trans hb,hc⟩
section
variable {P:Program}{Post:Value->World->Prop}{X:Gh}{u:World}{g:Goroutine}
theorem Fin.wm0 {f':Nat×Nat} {b:Nat} {c:Array Value} {T:TypeId} (cm0:X.cap=0) (hl:z9 X b) (hw:¬X.low b) (B9:X.D4 b= .all) (hb:u.heap[b]? =some (.cells (c ++ #[.int .u64 0,.int .u32 0]) T (0,0))) (_h0:0 <=c.size)
  (hF:Fin P Post {X.lower b with L2:=some ⟨b,c.size⟩,old:=X.L2.toList++X.old} 0 g (O2 u b (.cells c T f'))):Fin P Post X 0 g u:=by
 refine Fin.Iy0 (fun live Tr gs w q C=>?_) hF;have C':=C.swap (x':=.cells c T f') hl hb rfl fun p y hp=>by
  generalize hq:(Obj.cells (c ++ #[.int .u64 0,.int .u32 0]) T (0,0))=z at hp;cases hp with
  |same=>subst hq;exact⟨_,.cut c _ T (0,0) f' fun _ h=>by unfold inR at h;omega⟩
  |cut c' rest T' f f2 hf=>
   obtain⟨rfl,rfl,rfl⟩:=Obj.cells.inj hq;exact⟨.cut (#[.int .u64 0,.int .u32 0]++rest) f,by rw[Array.append_assoc];exact .cut c _ _ f f' fun i hi=>by have:=hf i hi;unfold inR at this;omega⟩
  |gone T' f o=>
   obtain⟨h1,_,_⟩:=Obj.cells.inj hq;have:=congrArg Array.size h1;simp at this
 obtain⟨ρ,hs,hlw⟩:=C.T9;obtain⟨y,hy,hl0⟩:=hs.obj b _ hb;rw[hlw b hw,B9]at hl0;have hyb:y= .cells (c ++ #[.int .u64 0,.int .u32 0]) T (0,0):=by cases hl0;rfl
 subst hyb;have hz:count live gs.size+X.pend=0:=by have:=C.few;omega
 have kb0:∀i,live i=false:=fun i=>by
  rcases Nat.lt_or_ge i gs.size with hi|hi
  ·cases e:live i with
   |false=>rfl
   |true=>have:=count_le hi e;omega
  ·exact(C.above i hi).2.2.1
 refine⟨C'.T9,fun i y hi hy=>?_,C'.free,C'.size,C'.num,C'.stays,C'.chans,C'.R3,C'.inj,C'.X3,fun G e=>?_,⟨C'.L7.1,fun G hG=>?_⟩,fun G e=>?_,fun G e=>?_,C'.above,C'.few,fun i e=>absurd e (by rw[kb0 i];simp),C'.aj0,C'.dfn,?_⟩
 ·have:=C'.idle i y hi hy;unfold Idle at this⊢;simp only[kb0,Bool.false_eq_true,if_false]at this⊢;exact this
 ·cases e;exact .inr rfl
 ·rcases hG with hG|hG
  ·cases hG;exact⟨hl.I7,hl.X3⟩
  ·have hG':G∈X.L2.toList++X.old:=hG;exact C.L7.2 G ((List.mem_append.1 hG').imp (fun z=>by simpa using z) id)
 ·cases e;refine⟨⟨c,T,f',K6 u hb,rfl⟩,c,T,?_,rfl⟩;rw[hy];have:(((count live gs.size+X.pend)*KK:Nat):Int)=0:=by rw[hz,Nat.zero_mul];rfl
  show _=some (Obj.cells (c ++ #[.int .u64 (((count live gs.size+X.pend)*KK:Nat):Int),.int .u32 0]) T (0,0));rw[this]
 ·have e':G∈X.L2.toList++X.old:=e;rcases List.mem_append.1 e' with e'|e'
  ·exact(C'.L2 G (show X.L2=some G by simpa using e')).1
  ·exact C'.old G e'
 ·refine PastH.Cj0 C'.past (fun l n5=>?_) (fun i l hi hS=>?_) (fun l n5=>by obtain⟨a,G,_,rfl,_⟩:=n5;rfl) (fun i hi=>hi.elim id fun z=>by rw[kb0 i]at z;cases z)
  ·obtain⟨a,G,hG,ha,n7,ho⟩:=n5;refine⟨a,G,.inr ?_,ha,n7,ho⟩;show G∈X.L2.toList++X.old;rcases hG with hG|hG
   ·exact List.mem_append_left _ (by have hG:X.L2=some G:=hG;simpa using hG)
   ·exact List.mem_append_right _ hG
  ·rintro⟨a,G,hG,ha,n7,ho⟩;obtain⟨p,hp,rfl⟩:=hS;simp only[Loc.cell.injEq]at ha;subst ha;have hp0:p∈X.stay i:=hp;rcases hG with hG|hG
   ·cases hG;exact hl.stay i p hp0 n7
   ·have hG':G∈X.L2.toList++X.old:=hG;have hc:Cut u G:=(List.mem_append.1 hG').elim (fun z=>(C.L2 G (by simpa using z)).1) (C.old G);obtain⟨c1,T1,f1,hc,hs1⟩:=hc;obtain⟨c',T',f',w6,_,hv'⟩:=C4 (C.stays i p hp0).1;rw[n7,hc]at w6;cases w6;have:=(Array.getElem?_eq_some_iff.1 hv').1;omega
end
def Gh.pass (X:Gh) (h j:Nat) (sh:Option B5):Gh:={X with G1:=upd (upd X.G1 j none) h sh}
section
variable {P:Program}{X:Gh}{h:Nat}{u:World}{live:Nat->Bool}{T:Trace}{gs:Array Goroutine}{w:World}{q:Nat->Nat}
theorem Ring.pass (C:Ring P X h u live T gs w q) {j k:Nat} {s:B5} (hj:X.G1 j=some s) (hjh:j≠h) (fa0:X.dn=0) (hk:w.heap[s.ch]? =some (.chan 0 #[] false k k false)) {G4:Array Goroutine} {T':Trace} {H':Goroutine} (n2:G4.size=gs.size)
  (Op0:∀x,x≠h->x≠j->G4[x]? =gs[x]?) (hH:G4[h]? =some H') (Mq0:∀x,Deaf T' x=Deaf T x) {sh:Option B5} (hsh:∀s',sh=some s'->X.I7 s'.ch/\∀i s2,i≠j->X.G1 i=some s2->s2.ch≠s'.ch) {nh:Nat} (Oq0:Idle P (X.pass h j sh) live T' h nh H')
  (zh0:PastH X.Sh (Us live) X.St (X.Mem h) (fun g=>X.Lo h g/\g≠j) j T'):Ring P (X.pass h j sh) j u live T' G4 (w.setChan s.ch 0 #[] false (k+1) (k+1) false) (upd q h nh):=by
 obtain⟨ρ,hs,hlw⟩:=C.T9;obtain⟨x8,Cl0,_⟩:=C.chans s.ch (C.R3 j s hj);have r3:∀b,b≠s.ch->(w.setChan s.ch 0 #[] false (k+1) (k+1) false).heap[b]? =w.heap[b]?:=fun b hb=>heap_setChan_ne w _ _ _ _ _ _ (Ne.symm hb);have G2:(w.setChan s.ch 0 #[] false (k+1) (k+1) false).heap[s.ch]? =some (.chan 0 #[] false (k+1) (k+1) false):=heap_setChan_self w hk _ _ _ _ _ _;have m6:∀i,i≠h->i≠j->(X.pass h j sh).G1 i=X.G1 i:=fun i h1 h2=>by
  show upd (upd X.G1 j none) h sh i=_;rw[upd_ne _ _ h1,upd_ne _ _ h2]
 have Or0:(X.pass h j sh).G1 h=sh:=upd_same _ _ _;have Cm0:(X.pass h j sh).G1 j=none:=by
  show upd (upd X.G1 j none) h sh j=_;rw[upd_ne _ _ hjh,upd_same]
 have ml0:j<gs.size:=by
  rcases Nat.lt_or_ge j gs.size with z|z
  ·exact z
  ·have:=(C.above j z).2.1;rw[hj]at this;cases this
 have hgb:∀G,X.L2=some G->G.blk≠s.ch:=fun G hG e=>(C.L7.2 G (.inl hG)).1 (e▸C.R3 j s hj);have hold:∀i s2,(X.pass h j sh).G1 i=some s2->(i≠h/\i≠j/\X.G1 i=some s2)\/(i=h/\sh=some s2):=fun i s2 e=>by
  by_cases e1:i=h
  ·subst e1;rw[Or0]at e;exact .inr ⟨rfl,e⟩
  ·by_cases e2:i=j
   ·subst e2;rw[Cm0]at e;cases e
   ·rw[m6 i e1 e2]at e;exact .inl ⟨e1,e2,e⟩
 refine⟨⟨fun b=>if b=s.ch then .gone (.chan 0 #[] false (k+1) (k+1) false) else ρ b,⟨hs.os,hs.output,rfl,rfl,by have:=hs.size;simpa [World.setChan,j3]using this,fun b x hx=>?_,fun b hb=>?_,hs.A6⟩,fun b hb=>?_⟩,
  fun x y hx hy=>?_,Cm0,by rw[n2];exact ml0,by rw[n2];exact C.num,C.stays,fun c hc=>⟨(C.chans c hc).1,(C.chans c hc).2.1,?_⟩,fun i s2 e=>?_,fun i i' s1 s2 e1 e2 hc=>?_,fun b o e=>?_,C.V9,C.L7,fun G e=>⟨(C.L2 G e).1,?_⟩,C.old,fun i hi=>?_,by rw[n2];exact C.few,C.cg0,fun i hi hor=>?_,(zh0.hears j (.inr (by rw[hj];simp))).trans fa0.symm,?_⟩
 ·by_cases e:b=s.ch
  ·subst e;obtain⟨T0,f0,hg⟩:=x8;have W3:u.heap[s.ch]? =some x:=hx;rw[hg]at W3;obtain rfl:=Option.some.inj W3;exact⟨_,G2,by rw[if_pos rfl];exact .gone _ _ _⟩
  ·obtain⟨y,h1,h2⟩:=hs.obj b x hx;exact⟨y,(r3 b e).trans h1,by rw[if_neg e];exact h2⟩
 ·obtain⟨T0,f0,hg⟩:=x8;have h1:s.ch<u.heap.size:=(Array.getElem?_eq_some_iff.1 hg).1;have h2:u.heap.size <=b:=hb;rw[if_neg (by omega)];exact hs.new b hb
 ·have:b≠s.ch:=fun e=>hb (e▸C.L7.1 s.ch (C.R3 j s hj));show(if b=s.ch then _ else ρ b)=_;rw[if_neg this];exact hlw b hb
 ·by_cases e:x=h
  ·subst e;rw[hH]at hy;obtain rfl:=Option.some.inj hy;rw[upd_same];exact Oq0
  ·rw[Op0 x e hx]at hy;have X3:=C.idle x y e hy;unfold Idle at X3⊢;rw[m6 x e hx,Mq0,upd_ne q nh e];exact X3
 ·by_cases e:c=s.ch
  ·subst e;exact⟨k+1,G2⟩
  ·obtain⟨k',hk'⟩:=(C.chans c hc).2.2;exact⟨k',(r3 c e).trans hk'⟩
 ·rcases hold i s2 e with⟨_,_,e⟩|⟨_,e⟩
  ·exact C.R3 i s2 e
  ·exact(hsh s2 e).1
 ·rcases hold i s1 e1 with⟨_,a2,f1⟩|⟨f0,f1⟩ <;> rcases hold i' s2 e2 with⟨_,b2,f2⟩|⟨f3,f2⟩
  ·exact C.inj i i' s1 s2 f1 f2 hc
  ·exact absurd hc ((hsh s2 f2).2 i s1 a2 f1)
  ·exact absurd hc.symm ((hsh s1 f1).2 i' s2 b2 f2)
  ·rw[f0,f3]
 ·obtain⟨h1,h2,p,y,h3,h4⟩:=C.X3 b o e;have:b≠s.ch:=fun e2=>by subst e2;have e':X.X3 s.ch=some o:=e;rw[Cl0]at e';cases e'
  exact⟨h1,h2,p,y,(r3 b this).trans h3,h4⟩
 ·rw[n2];exact(C.L2 G e).2.of_block (r3 _ (hgb G e))
 ·rw[n2]at hi;have:=C.above i hi;refine⟨by rw[Mq0];exact this.1,?_,this.2.2⟩;rw[m6 i (by have:=C.size;omega) (by omega)];exact this.2.1
 ·rcases hor with hor|rfl
  ·cases e:(X.pass h j sh).G1 i with
   |none=>exact absurd e hor
   |some s2=>
    rcases hold i s2 e with⟨_,_,e⟩|⟨rfl,_⟩
    ·exact C.aj0 i hi (.inl (by rw[e];simp))
    ·exact C.aj0 i hi (.inr rfl)
  ·exact C.aj0 i hi (.inl (by rw[hj];simp))
 ·refine(zh0.fewer (Mem':=(X.pass h j sh).Mem j) fun x hx=>?_).loosen fun x hx=>?_
  ·rcases hx with⟨rfl,_⟩|hx
   ·exact .inr (by rw[hj];simp)
   ·cases e:(X.pass h j sh).G1 x with
    |none=>exact absurd e hx
    |some s2=>
     rcases hold x s2 e with⟨_,_,e⟩|⟨rfl,_⟩
     ·exact .inr (by rw[e];simp)
     ·exact .inl ⟨rfl,fa0⟩
  ·exact⟨hx.2,by rw[m6 x hx.1.1 hx.2];exact hx.1.2⟩
end
section
variable {P:Program}{Post:Value->World->Prop}{X:Gh}{h:Nat}{u:World}
def sd0 (P:Program) (X:Gh) (h:Nat) (sh:Option B5) (n:Nat) (g:Goroutine):Prop:=match sh with
 |some s'=>Way P (h==0) (X.stay h) s' n g
 |none=>0<h/\∃G,X.L2=some G/\Lt P G n 0 g
theorem Fin.give {g a₂:Goroutine} {s:B5} {j nh:Nat} {v z':Value} (g4:g.status= .running) (hj:X.G1 j=some s) (hjh:j≠h) (fa0:X.dn=0) (hsend:∀w,stepG P (h==0) g w= .comm a₂ #[scase s.ch v z'] true .send w #[])
  (sh:Option B5) (hsh:∀s',sh=some s'->X.I7 s'.ch/\∀i s2,i≠j->X.G1 i=some s2->s2.ch≠s'.ch) (Os0:sd0 P X h sh nh (Go.Conc.served a₂ undef)) (hF:Fin P Post (X.pass h j sh) j (Go.Conc.served s.me (recvd false v true)) u):Fin P Post X h g u:=by
 have Oq0:∀{live:Nat->Bool} {T T':Trace} {gs:Array Goroutine} {w:World} {q:Nat->Nat},Ring P X h u live T gs w q->Deaf T' h=0->Idle P (X.pass h j sh) live T' h nh (Go.Conc.served a₂ undef):=by
  intro live T T' gs w q C hd;unfold Idle;have:(X.pass h j sh).G1 h=sh:=upd_same _ _ _;rw[this];unfold sd0 at Os0;cases sh with
  |some s'=>exact Os0
  |none=>
   obtain⟨h0,G,hG,hL⟩:=Os0;refine⟨h0,?_⟩;rw[C.aj0 h (by omega) (.inr rfl)];simp only[if_true];exact⟨G,hG,by rw[hd];exact hL⟩
 have fin:∀live T gs G4 w q k (g₁:Nat->Nat) (ops:Array MemOp) (fh fj:FuncId) (ph pj:String) sl,Ring P X h u live (T++ops) gs w q->w.heap[s.ch]? =some (.chan 0 #[] false k k false)->G4.size=gs.size->(∀x,x≠h->x≠j->G4[x]? =gs[x]?) ->
   G4[h]? =some (Go.Conc.served a₂ undef)->G4[j]? =some (Go.Conc.served s.me (recvd false v true))->Ends P Post (crowd G4 (w.setChan s.ch 0 #[] false (k+1) (k+1) false) sl) (T++(ops++met h j fh ph fj pj s.ch k 0)):=by
  intro live T gs G4 w q k g₁ ops fh fj ph pj sl C hk n2 Op0 hH hJ;have hMh:X.Mem h h:=.inl ⟨rfl,fa0⟩;have hMj:X.Mem h j:=.inr (by rw[hj];simp);have p2:=PastH.give C.past hMh hMj fh ph fj pj s.ch k 0;have hD:∀x,Deaf ((T++ops)++met h j fh ph fj pj s.ch k 0) x=Deaf (T++ops) x:=fun x=>Deaf_quiet (met_quiet _ _ _ _ _ _ _ _ _ x);have:=Ring.pass C hj hjh fa0 hk n2 Op0 hH hD hsh (Oq0 C (by rw[hD];exact C.past.hears h hMh)) p2;rw[<- Array.append_assoc];exact hF _ _ _ _ _ _ hJ this
 have await:∀(μ:Nat) live T gs w sl q,sumTo gs.size q=μ->gs[h]? =some (parked a₂ #[scase s.ch v z'] .send)->0<q j->Ring P X h u live T gs w q->Ends P Post (crowd gs w sl) T:=by
  intro μ
  induction μ using Nat.strongRecOn with
  |_ μ ih=>
   intro live T gs w sl q hμ hg hqj C;have ml0:j<gs.size:=by
    rcases Nat.lt_or_ge j gs.size with z|z
    ·exact z
    ·have:=(C.above j z).2.1;rw[hj]at this;cases this
   have ub0:Way P (j==0) (X.stay j) s (q j) gs[j]:=by
    have:=C.idle j gs[j] hjh (Array.getElem?_eq_getElem ml0);unfold Idle at this;rw[hj]at this;exact this
   have Ub0:gs[j].status= .running:=ub0.status.elim (·.1) fun z=>by omega
   obtain⟨i,gi,d,Y4,hi,hgi,S2⟩:=crowd_pick (P:=P) (w:=w) (sl:=sl) (C.awake hg (.inr rfl)) ⟨j,gs[j],Array.getElem?_eq_getElem ml0,Ub0⟩;have Cd:=C.at d;obtain⟨k,hk⟩:=(Cd.chans s.ch (Cd.R3 j s hj)).2.2;have hih:i≠h:=by rintro rfl;rw[hg]at hi;obtain rfl:=Option.some.inj hi;cases hgi
   by_cases ej:i=j/\gl0 P (i==0) s gi
   ·obtain⟨rfl,hat⟩:=ej;have hp:partners (gs.setIfInBounds i ph) s.ch true=[(h,0)]:=by
     rw[partners_one (stand_get (Ne.symm hih) hg) fun x y hxh hy=>by
      rcases getElem?_stand gs i x y hy with⟨_,rfl⟩|⟨_,hy'⟩
      ·exact offersAt_ph _ _
      ·exact(C.idle x y hxh hy').noSend _]
     simp[offersAt_parked_send]
    have hrt:=crowd_recv_meets (sl:=Y4) hi (hat.2.2.2.2 (w.at d)) hk (Ne.symm hih) hg hp;refine Ends.step (S2.trans hrt) ?_;rw[show(MemOp.ofEvents i gi.frame.fn gi.frame.place #[]:Array MemOp)=#[] from rfl];refine fin live T gs _ (w.at d) q k (fun _=>0) #[] _ _ _ _ Y4 (by simpa using Cd) hk (by simp) (fun x hx hxj=>by rw[Array.getElem?_setIfInBounds_ne (fun z=>hxj z.symm),Array.getElem?_setIfInBounds_ne (fun z=>hx z.symm)]) ?_ ?_
    ·rw[Array.getElem?_setIfInBounds_ne hih,Array.getElem?_setIfInBounds_self_of_lt C.size,finishComm_send]
    ·rw[Array.getElem?_setIfInBounds_self_of_lt (by simpa using ml0),finishComm_recv]
   ·obtain⟨G4,ops,q',w',aa0,hrt,n2,hgh,hqo,hq0,C',T2,_⟩:=Cd.by_step (sl:=Y4) hi hih hgi hg (fun w' hS=>again_send_open (by rw[hS.2.2 s.ch (Cd.R3 j s hj)];exact hk))
     (fun s' hs' hat=>by
      rw[offersAt_parked_send,if_neg];intro ec;have hij:=C.inj i j s' s hs' hj ec.symm;subst hij;rw[hj]at hs';obtain rfl:=Option.some.inj hs';exact ej ⟨rfl,hat⟩)
    refine Ends.step (S2.trans hrt) (ih _ (by rw[n2,<- hμ];exact T2) aa0 _ G4 w' Y4 q' rfl hgh ?_ C');by_cases hij:j=i
    ·subst hij;rcases Nat.eq_zero_or_pos (q' j)with h0|h0
     ·exact absurd ⟨rfl,hq0 s hj h0⟩ ej
     ·exact h0
    ·rw[hqo j hij];exact hqj
 refine Fin.Y8 g4 fun live T gs w sl d Y4 q hg S2 C=>?_;have ml0:j<gs.size:=by
  rcases Nat.lt_or_ge j gs.size with z|z
  ·exact z
  ·have:=(C.above j z).2.1;rw[hj]at this;cases this
 have ub0:Way P (j==0) (X.stay j) s (q j) gs[j]:=by
  have:=C.idle j gs[j] hjh (Array.getElem?_eq_getElem ml0);unfold Idle at this;rw[hj]at this;exact this
 obtain⟨k,hk⟩:=(C.chans s.ch (C.R3 j s hj)).2.2;have Ja0:∀(x:Nat) (y:Goroutine),x≠j->(gs.setIfInBounds h ph)[x]? =some y->offersAt y s.ch false=[]:=by
  intro x y hxj hy;rcases getElem?_stand gs h x y hy with⟨_,rfl⟩|⟨hx,hy'⟩
  ·exact offersAt_ph _ _
  ·exact(C.idle x y hx hy').Oo0 fun s' hs' w6=>hxj (C.inj x j s' s hs' hj w6)
 rcases ub0.status with⟨hjr,hqj⟩|⟨_,hq0⟩
 ·have hp:partners (gs.setIfInBounds h ph) s.ch false=[]:=partners_nil fun x y hy=>by
   by_cases hxj:x=j
   ·subst hxj;rw[stand_get hjh (Array.getElem?_eq_getElem ml0)]at hy;obtain rfl:=Option.some.inj hy;exact offersAt_of_not_blocked (by rw[hjr];simp) _ _
   ·exact Ja0 x y hxj hy
  have hw:∀cc∈#[scase s.ch v z'],NoWays (w.at d) (gs.setIfInBounds h ph) cc:=by
   intro cc hcc;simp only[List.mem_toArray,List.mem_cons,List.not_mem_nil,or_false]at hcc;subst hcc;exact ways_send_none hk (Nat.le_refl _) hp
  have hrt:=crowd_waits (sl:=Y4) hg (hsend (w.at d)) hw;refine Ends.step (S2.trans hrt) ?_;rw[show(MemOp.ofEvents h g.frame.fn g.frame.place #[]:Array MemOp)=#[] from rfl,Array.append_empty];refine await _ live T _ (w.at d) Y4 q rfl (Array.getElem?_setIfInBounds_self_of_lt C.size) hqj ?_;exact⟨C.T9,fun x y hx hy=>C.idle x y hx (by rwa [Array.getElem?_setIfInBounds_ne (fun e=>hx e.symm)]at hy),C.free,by simpa using C.size,by simpa using C.num,C.stays,C.chans,C.R3,C.inj,C.X3,C.V9,C.L7,by simpa using C.L2,C.old,fun x hx=>C.above x (by simpa using hx),by simpa using C.few,C.cg0,C.aj0,C.dfn,C.past⟩
 ·have hpk:gs[j]=parked s.me #[rcase s.ch s.z] (.recv false):=by rw[hq0]at ub0;exact ub0.1
  have hgj:gs[j]? =some (parked s.me #[rcase s.ch s.z] (.recv false)):=by rw[<- hpk];exact Array.getElem?_eq_getElem ml0
  have hp:partners (gs.setIfInBounds h ph) s.ch false=[(j,0)]:=by
   rw[partners_one (stand_get hjh hgj) fun x y hxj hy=>Ja0 x y hxj hy,offersAt_parked_recv,if_pos rfl];rfl
  have hrt:=crowd_send_meets (sl:=Y4) hg (hsend (w.at d)) hk hjh hgj hp;refine Ends.step (S2.trans hrt) ?_;rw[show(MemOp.ofEvents h g.frame.fn g.frame.place #[]:Array MemOp)=#[] from rfl];refine fin live T gs _ (w.at d) q k (fun _=>0) #[] _ _ _ _ Y4 (by simpa using C) hk (by simp) (fun x hx hxj=>by rw[Array.getElem?_setIfInBounds_ne (fun z=>hx z.symm),Array.getElem?_setIfInBounds_ne (fun z=>hxj z.symm)]) ?_ ?_
  ·rw[Array.getElem?_setIfInBounds_self_of_lt (by simpa using C.size),finishComm_send]
  ·rw[Array.getElem?_setIfInBounds_ne (Ne.symm hjh),Array.getElem?_setIfInBounds_self_of_lt ml0,finishComm_recv]
end
end
section
attribute [local irreducible] KK
section
variable {P:Program}{Post:Value->World->Prop}{X:Gh}{u:World}
def Gh.hire (X:Gh) (s:B5):Gh:={X with G1:=upd X.G1 0 (some s),pend:=0,n:=X.n+1}
theorem Fin.spawn {g g' child:Goroutine} {s:B5} {nh:Nat} {G:I4} (g4:g.status= .running) (fa0:X.dn=0) (if0:X.pend=1) (hG:X.L2=some G) (hgo:∀w,stepG P true g w= .spawn g' child w #[])
  (X5:X.I7 s.ch) (o7:∀i s2,X.G1 i=some s2->s2.ch≠s.ch) (sc0:Way P true (X.stay 0) s nh g') (hF:Fin P Post (X.hire s) X.n child u):Fin P Post X 0 g u:=by
 refine Fin.Y8 g4 fun live T gs w sl d Y4 q hg S2 C=>?_;have hrt:=runT_crowd_spawn (P:=P) (sl:=Y4) (i:=0) hg (hgo (w.at d));have Cn0:(((MemOp.ofEvents 0 g.frame.fn g.frame.place #[]:Array MemOp).push {g:=0,fn:=g.frame.fn,pos:=g.frame.place,act:=.go gs.size}).push {g:=gs.size,fn:=child.frame.fn,pos:=g.frame.place,act:=.start})=
   #[{g:=0,fn:=g.frame.fn,pos:=g.frame.place,act:=.go gs.size},{g:=gs.size,fn:=child.frame.fn,pos:=g.frame.place,act:=.start}]:=rfl
 rw[Cn0]at hrt;refine Ends.step (S2.trans hrt) ?_;have h0:=C.size;have se0:=C.above gs.size (Nat.le_refl _);have hc0:gs.size≠0:=by omega
 have hD:∀x,Deaf (T ++ #[{g:=0,fn:=g.frame.fn,pos:=g.frame.place,act:=.go gs.size},{g:=gs.size,fn:=child.frame.fn,pos:=g.frame.place,act:=.start}]) x=Deaf T x:=fun x=>Deaf_quiet (fun op H5 d=>by
  simp only[List.mem_toArray,List.mem_cons,List.not_mem_nil,or_false]at H5;rcases H5 with rfl|rfl <;> rfl)
 have p:=PastH.born (c:=gs.size) C.past (.inl ⟨rfl,fa0⟩) se0.1 (fun l ⟨p,hp,_⟩=>by rw[se0.2.2.2]at hp;cases hp) (.inl rfl) g.frame.fn g.frame.place child.frame.fn;have m6:∀i,i≠0->(X.hire s).G1 i=X.G1 i:=fun i hi=>upd_ne X.G1 _ hi;have sf0:(X.hire s).G1 0=some s:=upd_same X.G1 0 (some s);have ev0:count (upd live gs.size true) (gs.size+1)=count live gs.size+1:=by
  show sumTo gs.size _+_=_;rw[show sumTo gs.size (fun i=>if upd live gs.size true i=true then 1 else 0)=count live gs.size from Aw0 true (Nat.le_refl _)];show _+(if upd live gs.size true gs.size=true then 1 else 0)=_;rw[upd_same];rfl
 have n2:((gs.setIfInBounds 0 g').push child).size=gs.size+1:=by simp
 refine hF (upd live gs.size true) _ _ _ Y4 (upd q 0 nh) (by rw[<- C.num,Array.getElem?_push,if_pos (by simp)]) ?_;rw[<- C.num];refine⟨C.T9,fun x y hx hy=>?_,by rw[m6 _ hc0];exact se0.2.1,by rw[n2];omega,by rw[n2,C.num];rfl,C.stays,C.chans,fun i s2 e=>?_,fun i i' s1 s2 e1 e2 hc=>?_,C.X3,C.V9,C.L7,fun G' e=>⟨(C.L2 G' e).1,?_⟩,C.old,fun x hx=>?_,?_,fun i hi=>?_,fun i hi hor=>?_,((hD _).trans se0.1).trans fa0.symm,?_⟩
 ·have hxl:x<gs.size:=by
   have:=(Array.getElem?_eq_some_iff.1 hy).1;rw[n2]at this;omega
  rw[Array.getElem?_push,if_neg (by simp;omega)]at hy;unfold Idle;by_cases e:x=0
  ·subst e;rw[Array.getElem?_setIfInBounds_self_of_lt h0]at hy;obtain rfl:=Option.some.inj hy;rw[sf0,upd_same];exact sc0
  ·rw[Array.getElem?_setIfInBounds_ne (fun z=>e z.symm)]at hy;rw[m6 x e,hD,upd_ne q nh e,upd_ne live true (show x≠gs.size by omega)];have:=C.idle x y e hy;unfold Idle at this;exact this
 ·by_cases e0:i=0
  ·subst e0;rw[sf0]at e;obtain rfl:=Option.some.inj e;exact X5
  ·rw[m6 i e0]at e;exact C.R3 i s2 e
 ·by_cases a:i=0 <;> by_cases b:i'=0
  ·rw[a,b]
  ·subst a;rw[sf0]at e1;rw[m6 i' b]at e2;obtain rfl:=Option.some.inj e1;exact absurd hc.symm (o7 i' s2 e2)
  ·subst b;rw[sf0]at e2;rw[m6 i a]at e1;obtain rfl:=Option.some.inj e2;exact absurd hc (o7 i s1 e1)
  ·rw[m6 i a]at e1;rw[m6 i' b]at e2;exact C.inj i i' s1 s2 e1 e2 hc
 ·have:=(C.L2 G' e).2;rw[if0]at this;rw[n2,ev0];exact this
 ·rw[n2]at hx;have:=C.above x (by omega);exact⟨by rw[hD];exact this.1,by rw[m6 x (by omega)];exact this.2.1,by rw[upd_ne live true (by omega)];exact this.2.2.1,this.2.2.2⟩
 ·rw[n2,ev0];have:=C.few;rw[if0]at this;exact this
 ·by_cases e:i=gs.size
  ·subst e;exact⟨hc0,by show X.L2≠none;rw[hG];simp⟩
  ·rw[upd_ne live true e]at hi;exact C.cg0 i hi
 ·by_cases e:i=gs.size
  ·subst e;exact upd_same _ _ _
  ·rw[upd_ne live true e];rw[m6 i hi]at hor;exact C.aj0 i hi (.inl (hor.resolve_right e))
 ·refine((p.leave (Us':=Us (upd live gs.size true)) fun x hx=>?_).fewer (Mem':=(X.hire s).Mem gs.size) fun x hx=>?_).loosen fun x hx=>?_
  ·rcases hx with hx|hx
   ·exact .inl (.inl hx)
   ·by_cases e:x=gs.size
    ·exact .inr e
    ·rw[upd_ne live true e]at hx;exact .inl (.inr hx)
  ·rcases hx with⟨e,_⟩|hx
   ·exact .inr e
   ·by_cases e:x=0
    ·exact .inl (.inl ⟨e,fa0⟩)
    ·rw[m6 x e]at hx;exact .inl (.inr hx)
  ·refine⟨fun e=>?_,?_⟩
   ·subst e;exact hx.2 se0.2.1
   ·rw[m6 x hx.1];exact hx.2
end
end
section
attribute [local irreducible] KK
structure Base (X:Gh) (u:World) (use:Nat->Bool) (T:Trace) (n:Nat) (w:World):Prop where
 T9:∃ρ,I5 ρ (j3 u w.tape w.drawn) w/\∀b,¬X.low b->ρ b=X.D4 b
 free:X.G1 0=none
 size:0<n
 num:n=X.n
 stays:∀i p,p∈X.stay i->u.cell? p.1=some p.2/\u.frozen? p.1=true
 chans:∀c,X.I7 c->bt0 u c/\X.X3 c=none/\∃k,w.heap[c]? =some (.chan 0 #[] false k k false)
 R3:∀i s,X.G1 i=some s->X.I7 s.ch
 inj:∀i j s s',X.G1 i=some s->X.G1 j=some s'->s.ch=s'.ch->i=j
 X3:∀b o,X.X3 b=some o->bt0 u b/\e4 o=false/\∃p y,w.heap[b]? =some y/\bs0 p o y
 V9:∀G,X.L2=some G->X.low G.blk
 L7:(∀c,X.I7 c->X.low c)/\X.Sep
 cut:∀G,X.L2=some G->Cut u G
 old:∀G∈X.old,Cut u G
 above:∀j,n <=j->Deaf T j=0/\X.G1 j=none/\use j=false/\X.stay j=[]
 cg0:∀i,use i=true->i≠0/\X.L2≠none
 aj0:∀i,X.G1 i≠none->i≠0->use i=true
 dfn:Deaf T 0=X.dn
 past:PastH X.Sh (Us use) X.St (X.Mem 0) (X.Lo 0) 0 T
section
variable {P:Program}{X:Gh}{u:World}{live use use':Nat->Bool}{T:Trace}{gs:Array Goroutine}{w w':World}{q:Nat->Nat}{n:Nat}
theorem Ring.base (C:Ring P X 0 u live T gs w q):Base X u live T gs.size w :=
 ⟨C.T9,C.free,C.size,C.num,C.stays,C.chans,C.R3,C.inj,C.X3,C.V9,C.L7,fun G e=>(C.L2 G e).1,C.old,C.above,C.cg0,fun i h hi=>C.aj0 i hi (.inl h),C.dfn,C.past⟩
theorem Base.ring (B:Base X u live T gs.size w) (hi:∀i g,i≠0->gs[i]? =some g->Idle P X live T i (q i) g) (hg:∀G,X.L2=some G->x7 G (((count live gs.size+X.pend)*KK:Nat):Int) 0 w) (hf:count live gs.size+X.pend <=X.cap/\X.cap <=65536):Ring P X 0 u live T gs w q :=
 ⟨B.T9,hi,B.free,B.size,B.num,B.stays,B.chans,B.R3,B.inj,B.X3,B.V9,B.L7,fun G e=>⟨B.cut G e,hg G e⟩,B.old,B.above,hf,B.cg0,fun i hi h=>h.elim (fun z=>B.aj0 i z hi) fun z=>absurd z hi,B.dfn,B.past⟩
theorem Base.Co0 (B:Base X u use T n w) {i:Nat} {l:Loc} (hl:X.St i l):l.isMemory=true/\¬X.Sh l:=by
 obtain⟨p,hp,rfl⟩:=hl;refine⟨rfl,?_⟩;rintro⟨a',G,hG,ha,hb,ho⟩;simp only[Loc.cell.injEq]at ha;subst ha;have hc:Cut u G:=hG.elim (B.cut G) (B.old G);obtain⟨c,T1,f,hc,hs⟩:=hc;obtain⟨c',T',f',w6,_,hv'⟩:=C4 (B.stays i p hp).1;rw[hb,hc]at w6;cases w6;have:=(Array.getElem?_eq_some_iff.1 hv').1;omega
def GEv (G:I4) (x:Nat) (e:Event):Prop:=(∀b,(MemAct.ofEvent e).touch? =some b->(∃a,b.loc= .cell a/\a.block=G.blk/\G.off <=a.off)/\b.kind≠.plain/\(x≠0->b.kind= .atomic))/\∀a,e.loc≠.mark (.release a)
theorem cn0 {G:I4} {x:Nat} {e:Event} (h:wl0 e=true):GEv G x e:=⟨fun b hb=>(by rw[X7 h]at hb;cases hb),fun a ha=>by unfold wl0 at h;rw[ha]at h;cases h⟩
theorem uc0 {G:I4} {x:Nat} {e:Event} (h:Event.mute e=true):GEv G x e:=⟨fun b hb=>(by rw[touch_mute h]at hb;cases hb),fun a ha=>by
 obtain⟨l,w,s⟩:=e;cases ha;cases h⟩
theorem Base.step (B:Base X u use T n w) {x:Nat} {fn:FuncId} {pos:String} {es:Array Event} {G:I4} (hG:X.L2=some G) (hx:x<n) (hsx:X.G1 x=none) (y9:∀e∈es,GEv G x e) (hu:(∀e∈es,(MemAct.ofEvent e).touch? =none)\/(x=0\/use x=true/\∀k,k<es.size->deafBehind (Deaf T x) (es.extract 0 k)≠0))
  (hus:∀i,use' i=true->use i=true) (hls:∀i,X.G1 i≠none->i≠0->use' i=true) {pend cap dn:Nat} (J8:dn=if x=0 then deafBehind X.dn es else X.dn) (gm0:∃ρ,I5 ρ (j3 u w'.tape w'.drawn) w'/\∀b,¬X.low b->ρ b=X.D4 b) (x8:∀b,b≠G.blk->w'.heap[b]? =w.heap[b]?) :
  Base {X with pend:=pend,cap:=cap,dn:=dn} u use' (T++MemOp.ofEvents x fn pos es) n w':=by
 have hgn:∀b,(X.I7 b\/X.X3 b≠none)->w'.heap[b]? =w.heap[b]?:=fun b hb=>x8 b (fun e=>by
  subst e;have:=B.L7.2 G (.inl hG);exact hb.elim this.1 fun z=>z this.2)
 have du0:∀op∈MemOp.ofEvents x fn pos es,op.g=x:=r2;have hd0:Deaf (T++MemOp.ofEvents x fn pos es) 0=dn:=by
  by_cases e:x=0
  ·subst e;rw[Deaf_own,B.dfn,J8,if_pos rfl]
  ·rw[Deaf_other T e _ du0,B.dfn,J8,if_neg e]
 refine⟨gm0,B.free,B.size,B.num,B.stays,fun c hc=>⟨(B.chans c hc).1,(B.chans c hc).2.1,?_⟩,B.R3,B.inj,fun b o e=>?_,B.V9,B.L7,B.cut,B.old,fun j hj=>?_,fun i hi=>B.cg0 i (hus i hi),hls,hd0,?_⟩
 ·obtain⟨k,hk⟩:=(B.chans c hc).2.2;exact⟨k,(hgn c (.inl hc)).trans hk⟩
 ·obtain⟨h1,h2,p,y,h3,h4⟩:=B.X3 b o e;exact⟨h1,h2,p,y,(hgn b (.inr (by have e':X.X3 b=some o:=e;rw[e'];simp))).trans h3,h4⟩
 ·have:=B.above j hj;refine⟨by rw[Deaf_other T (g':=x) (by omega) _ du0];exact this.1,this.2.1,?_,this.2.2.2⟩;cases e:use' j with
  |false=>rfl
  |true=>have:=hus j e;rw[this]at *;simp_all
 ·have H0:Past X.Sh (Us use) X.St (fun g=>X.G1 g≠none) (X.Lo 0) (Knows T 0) T:=B.past.fewer fun g hg=>.inr hg;have hh:∀g',X.G1 g'≠none->Deaf (T++MemOp.ofEvents x fn pos es) g'=0:=fun g' z6=>by
   rw[Deaf_other T (show x≠g' from fun e=>z6 (by rw[<- e];exact hsx)) _ du0];exact H0.hears g' z6
  have p1:Past X.Sh (Us use) X.St (fun g=>X.G1 g≠none) (X.Lo 0) (Knows (T++MemOp.ofEvents x fn pos es) 0) (T++MemOp.ofEvents x fn pos es):=by
   rcases hu with hu|hu
   ·exact H0.appMute (g:=x) (fun i=>Knows.app _) (fun op H5=>by obtain⟨e,he,rfl⟩:=Go.Conc.mem_ofEvents H5;exact hu e he) hh
   ·refine H0.Mp0 (g:=x) (hu.elim (fun e=>.inl e) fun e=>.inr e.1) (fun g l hl=>(B.Co0 hl).2) (fun i=>Knows.app _) du0 (fun op H5 b hb=>?_) (fun r3 i hi1 hi2=>?_) hh
    ·obtain⟨e,he,rfl⟩:=Go.Conc.mem_ofEvents H5;obtain⟨⟨a,h1,h2,h3⟩,h4⟩:=(y9 e he).1 b hb;exact⟨⟨a,G,.inl hG,h1,h2,h3⟩,h4⟩
    ·obtain⟨m,rfl⟩:∃m,i=T.size+m:=⟨i-T.size,by omega⟩
     have hm:m<es.size:=by
      have n2:(MemOp.ofEvents x fn pos es).size=es.size:=by rw[ofEvents_eq];simp
      omega
     rw[Go.Conc.deaf_inside T x fn pos es m (Nat.le_of_lt hm)];exact(hu.resolve_left r3).2 m hm
  refine PastH.still (p1.leave (Us':=Us use') fun g hg=>hg.imp id (hus g)) (fun z=>z.1 rfl) (fun _ _ _=>Iff.rfl) (fun l hl=>B.Co0 hl) (fun g hg=>?_) (fun hg=>?_)
  ·rcases hg with⟨e,_⟩|hg
   ·exact .inr e
   ·exact .inl hg
  ·rcases hg with⟨_,e⟩|hg
   ·exact hd0.trans e
   ·exact absurd B.free hg
end
end
section
attribute [local irreducible] KK
def oy0 (P:Program) (G:I4) (g g':Goroutine) (es:Array Event):Prop :=
 g.status= .running/\g'.status= .running/\(∀e∈es,GEv G 0 e)/\∀w st sm,x7 G st sm w->stepG P true g w= .go g' w es
def Jb0 (P:Program) (G:I4) (K:Goroutine->Prop):Nat->Nat->Goroutine->Prop
 |0,d,g=>d=0/\K g
 |n+1,d,g=>(d=0/\K g)\/∃g' es,oy0 P G g g' es/\Jb0 P G K n (deafBehind d es) g'
def Cp0 (P:Program) (G:I4) (K:Goroutine->Prop):Nat->Nat->Goroutine->Prop
 |0,_,_=>False
 |n+1,d,g=>(∃g' es,oy0 P G g g' es/\Cp0 P G K n (deafBehind d es) g')\/(g.status= .running/\∀v:Nat,v<2147483647->∃g',g'.status= .running /\
   (∀w,x7 G ((v*KK:Nat):Int) 0 w->stepG P true g w= .go g' (w.setCell (stA G) (.int .u64 (((v+1)*KK:Nat):Int))) #[rdA (stA G),wrA (stA G)])/\Jb0 P G K n d g')
section
variable {P:Program}{Post:Value->World->Prop}{X:Gh}{u:World}{live:Nat->Bool}{T:Trace}{gs:Array Goroutine}{w w':World}{q:Nat->Nat}
theorem Ring.main (C:Ring P X 0 u live T gs w q) {G:I4} (hG:X.L2=some G) {g g':Goroutine} {es:Array Event} (y9:∀e∈es,GEv G 0 e) {pend cap:Nat} (gm0:∃ρ,I5 ρ (j3 u w'.tape w'.drawn) w'/\∀b,¬X.low b->ρ b=X.D4 b) (x8:∀b,b≠G.blk->w'.heap[b]? =w.heap[b]?)
  (hat:x7 G (((count live gs.size+pend)*KK:Nat):Int) 0 w') (hf:count live gs.size+pend <=cap/\cap <=65536) :
  Ring P {X with pend:=pend,cap:=cap,dn:=deafBehind X.dn es} 0 u live (T++MemOp.ofEvents 0 g.frame.fn g.frame.place es) ((gs.map (woken P g g' w')).setIfInBounds 0 g') w' q/\((gs.map (woken P g g' w')).setIfInBounds 0 g')[0]? =some g':=by
 have n2:((gs.map (woken P g g' w')).setIfInBounds 0 g').size=gs.size:=by simp
 refine⟨?_,Array.getElem?_setIfInBounds_self_of_lt (by simpa using C.size)⟩;have B:=C.base.step (fn:=g.frame.fn) (pos:=g.frame.place) (use':=live) (pend:=pend) (cap:=cap) hG C.size C.free y9 (.inr (.inl rfl)) (fun _ h=>h) (fun i h hi=>C.aj0 i hi (.inl h)) (dn:=deafBehind X.dn es) (by rw[if_pos rfl]) gm0 x8;rw[<- n2]at B;refine B.ring (fun i y hi hy=>?_) (fun G' e=>?_) (by rw[n2];exact hf)
 ·rw[Array.getElem?_setIfInBounds_ne (fun e=>hi e.symm),Array.getElem?_map]at hy;obtain⟨y₀,hy₀,rfl⟩:=Option.map_eq_some_iff.1 hy;have X3:=C.idle i y₀ hi hy₀;rw[woken_of_again (X3.again (w:=w') fun s e=>?_)]
  ·exact X3.other (fun z=>hi z.symm) r2
  ·obtain⟨k,hk⟩:=(C.chans _ (C.R3 i s e)).2.2;exact⟨k,(x8 _ fun e2=>(C.L7.2 G (.inl hG)).1 (e2▸C.R3 i s e)).trans hk⟩
 ·have e':X.L2=some G':=e;rw[hG]at e';obtain rfl:=Option.some.inj e';rw[n2];exact hat
theorem Fin.Uc0 {G:I4} {g g':Goroutine} {es:Array Event} (hG:X.L2=some G) (hh:oy0 P G g g' es) (hF:Fin P Post {X with dn:=deafBehind X.dn es} 0 g' u):Fin P Post X 0 g u:=by
 obtain⟨hr,_,y9,S2⟩:=hh;refine Fin.Y8 hr fun live T gs w sl d Y4 q hg y3 C=>?_;have hat:=(C.L2 G hG).2;obtain⟨C',G2⟩:=C.main hG (g:=g) (g':=g') y9 (w':=w.at d) C.T9 (fun _ _=>rfl) hat C.few;exact Ends.step (y3.trans (runT_crowd_go (sl:=Y4) (i:=0) hg (S2 _ _ _ hat))) (hF _ _ _ _ _ _ G2 C')
theorem Fin.Ud0 {G:I4} (hG:X.L2=some G) {K:Goroutine->Prop} (hK:∀g,K g->Fin P Post {X with dn:=0} 0 g u):∀(n d:Nat) (g:Goroutine),Jb0 P G K n d g->Fin P Post {X with dn:=d} 0 g u
 |0,d,g,h=>by obtain⟨rfl,h⟩:=h;exact hK g h
 |n+1,d,g,h=>by
  rcases h with⟨rfl,h⟩|⟨g',es,hh,h⟩
  ·exact hK g h
  ·exact Fin.Uc0 (X:={X with dn:=d}) hG hh (Fin.Ud0 hG hK n _ g' h)
theorem C9 {G:I4} {x:Nat}:∀e∈#[rdA (stA G),wrA (stA G)],GEv G x e:=by
 intro e he;simp only[List.mem_toArray,List.mem_cons,List.not_mem_nil,or_false]at he;refine⟨fun b hb=>?_,by rcases he with rfl|rfl <;> simp[rdA,wrA]⟩;rcases he with rfl|rfl <;> simp[rdA,wrA,MemAct.ofEvent,MemAct.touch?]at hb <;> subst hb <;> exact⟨⟨stA G,rfl,rfl,Nat.le_refl _⟩,by simp,fun _=>rfl⟩
theorem gn0 {G:I4} (d:Nat):deafBehind d #[rdA (stA G),wrA (stA G)]=d:=rfl
theorem Fin.Cq0 {G:I4} (hG:X.L2=some G) (hp:X.pend=0) (hc:X.cap<65536) {K:Goroutine->Prop} (hK:∀g,K g->Fin P Post {X with pend:=1,cap:=X.cap+1,dn:=0} 0 g u):∀(n d:Nat) (g:Goroutine),Cp0 P G K n d g->Fin P Post {X with dn:=d} 0 g u
 |0,d,g,h=>h.elim
 |n+1,d,g,h=>by
  unfold Cp0 at h;rcases h with⟨g',es,hh,h⟩|⟨hr,ua0⟩
  ·exact Fin.Uc0 (X:={X with dn:=d}) hG hh (Fin.Cq0 hG hp hc hK n _ g' h)
  ·refine Fin.Y8 hr fun live T gs w sl dd Y4 q hg y3 C=>?_;have hat:=(C.L2 G hG).2;have mj0:=C.few;have hp':({X with dn:=d}:Gh).pend=0:=hp;rw[hp',Nat.add_zero]at hat mj0;have dx1:count live gs.size <=X.cap:=mj0.1;obtain⟨g',hr',S2,hB⟩:=ua0 (count live gs.size) (by omega);obtain⟨ρ,hs,hlw⟩:=C.T9;have mk0:=(C.L2 G hG).1;obtain⟨ρ',h1,h2⟩:=I5.setSt hs mk0 hat (((count live gs.size+1)*KK:Nat):Int);obtain⟨C',G2⟩:=C.main hG (g:=g) (g':=g') (pend:=1) (cap:=X.cap+1) C9 (w':=(w.at dd).setCell (stA G) (.int .u64 (((count live gs.size+1)*KK:Nat):Int)))
    ⟨ρ',h1,fun b hb=>(h2 b fun e=>hb (e▸C.V9 G hG)).trans (hlw b hb)⟩ (fun b hb=>D1 _ _ hb) (hat.setSt _) ⟨by omega,by omega⟩
   refine Ends.step (y3.trans (runT_crowd_go (sl:=Y4) (i:=0) hg (S2 _ hat))) ?_;rw[gn0]at C';exact Fin.Ud0 (X:={X with pend:=1,cap:=X.cap+1}) hG hK n d g' hB _ _ _ _ _ _ G2 C'
theorem Fin.ends {g:Goroutine} {v:Value} (hr:g.status= .running) (o7:∀i,X.G1 i=none) (cm0:X.cap=0) (S2:∀w,stepG P true g w= .ended (.done v) w #[])
  (Ue0:∀ρ w,I5 ρ (j3 u w.tape w.drawn) w->(∀b,¬X.low b->ρ b=X.D4 b)->Post v w):Fin P Post X 0 g u:=by
 refine Fin.Y8 hr fun live T gs w sl d Y4 q hg y3 C=>?_;have hz:count live gs.size+X.pend=0:=by have:=C.few;omega
 have kb0:∀i,live i=false:=fun i=>by
  rcases Nat.lt_or_ge i gs.size with hi|hi
  ·cases e:live i with
   |false=>rfl
   |true=>have:=count_le hi e;omega
  ·exact(C.above i hi).2.2.1
 have hq:∀i g,i≠0->gs[i]? =some g->QuitsD P (q i) (Deaf T i) g:=fun i g hi hg=>by
  have:=C.idle i g hi hg;unfold Idle at this;rw[o7 i]at this;simp only[kb0,Bool.false_eq_true,if_false]at this;exact this.2
 have hrt:=runT_many_ended (P:=P) (sl:=Y4) (i:=0) hg (S2 (w.at d));rw[show(MemOp.ofEvents 0 g.frame.fn g.frame.place #[]:Array MemOp)=#[] from rfl]at hrt;have jz0:=y3.trans hrt;obtain⟨ρ,hs,hlw⟩:=C.T9;refine⟨0,crowd gs w sl,_,_,T,by simp only[runNT,jz0];simp,rfl,by unfold step;rw[jz0],v,rfl,Ue0 ρ (w.at d) hs hlw,C.past.clean,C.past.over (.inl rfl) (fun x hx=>hx.2 (o7 x)),⟨fun x hx=>?_,rfl⟩,fun j x hx hj=>?_⟩
 ·obtain⟨j,hj⟩:=List.mem_iff_getElem?.1 hx;rw[List.getElem?_drop]at hj;exact⟨_,(hq (1+j) x (by omega) (by simpa [crowd]using hj)).leaves⟩
 ·exact⟨q j,(hq j x hj hx).hears _⟩
end
end
section
attribute [local irreducible] KK
section
variable (P:Program)(G:I4)(K:Goroutine->Prop)(E:Nat->Nat->Goroutine->Prop)
def WE:Nat->Nat->Goroutine->Prop
 |0,d,g=>d=0/\K g
 |n+1,d,g=>(d=0/\K g)\/∃g' es,g.status= .running/\(∀e∈es,GEv G 0 e)/\(∀w,x7 G 0 0 w->stepG P true g w= .go g' w es)/\WE n (deafBehind d es) g'
def Cr0 (n d:Nat) (g:Goroutine):Prop :=
 g.status= .running/\g.offers=none/\(∀w st,x7 G st 0 w->stepG P true g w= .go {g with status:=.blocked} w #[])/\∃g',(∀w,x7 G 0 1 w->stepG P true g w= .go g' (w.setCell (smA G) (.int .u32 0)) (semEvents (smA G)))/\E n d g'
def WS:Nat->Nat->Goroutine->Prop
 |0,_,_=>False
 |n+1,d,g=>(∃g' es,oy0 P G g g' es/\WS n (deafBehind d es) g')\/(0<d/\Cr0 P G E n d g)
def WH:Nat->Option Nat->Nat->Nat->Goroutine->Prop
 |0,_,_,_,_=>False
 |n+1,o,V,d,g=>(∃g' es,oy0 P G g g' es/\WH n o V (deafBehind d es) g')\/(g.status= .running/\match o with
  |none=>∀v:Nat,v <=V->∃g',(∀w,x7 G ((v*KK:Nat):Int) 0 w->stepG P true g w= .go g' w #[rdA (stA G)])/\(v=0->E n d g')/\(v≠0->WH n (some v) V d g')
  |some vs=>(∃g',(∀w,x7 G ((vs*KK:Nat):Int) 0 w->stepG P true g w= .go g' (w.setCell (stA G) (.int .u64 ((vs*KK+1:Nat):Int))) #[rdA (stA G),wrA (stA G)])/\WS P G E n d g') /\
    ∀v:Nat,v<vs->∃g',(∀w,x7 G ((v*KK:Nat):Int) 0 w->stepG P true g w= .go g' w #[rdA (stA G)])/\WH n none v d g')
end
inductive Md where
 |free
 |wait
 |last (i s:Nat)
 |done
def Ax0 (m:Md) (c:Nat):Int×Int:=match m with
 | .free=>(((c*KK:Nat):Int),0)
 | .wait=>(((c*KK+1:Nat):Int),0)
 | .last _ 0=>(0,0)
 | .last _ (_+1)=>(1,0)
 | .done=>(0,1)
def V7 (lv:Nat->Bool) (m:Md) (i:Nat):Bool:=lv i ||(match m with| .last j _=>i==j|_=>false)
def C6 (P:Program) (G:I4) (lv:Nat->Bool) (m:Md) (T:Trace) (i n:Nat) (g:Goroutine):Prop :=
 if lv i then Lt P G n (Deaf T i) g else match m with
  | .last j s=>if i=j then Lst P G n s (Deaf T i) g else QuitsD P n (Deaf T i) g
  |_=>QuitsD P n (Deaf T i) g
def posOf (m:Md) (lv:Nat->Bool) (n:Nat):Prop:=match m with
 | .free=>True
 | .wait=>0<count lv n
 | .last i s=>count lv n=0/\i≠0/\i<n/\lv i=false/\s <=2
 | .done=>count lv n=0
structure Wr (P:Program) (X:Gh) (G:I4) (u:World) (lv:Nat->Bool) (m:Md) (d:Nat) (T:Trace) (gs:Array Goroutine) (w:World) (q:Nat->Nat):Prop where
 base:Base {X with pend:=0,cap:=0,dn:=d} u (V7 lv m) T gs.size w
 L2:X.L2=some G
 empty:∀i,X.G1 i=none
 idle:∀i g,i≠0->gs[i]? =some g->C6 P G lv m T i (q i) g
 x6:x7 G (Ax0 m (count lv gs.size)).1 (Ax0 m (count lv gs.size)).2 w
 pos:posOf m lv gs.size
 few:count lv gs.size <=65536
theorem C6.status {P:Program} {G:I4} {lv:Nat->Bool} {m:Md} {T:Trace} {i n:Nat} {g:Goroutine} (h:C6 P G lv m T i n g):g.status= .running\/g.status= .finished:=by
 unfold C6 at h;split at h
 ·exact .inl h.running
 ·split at h
  ·split at h
   ·exact .inl h.running
   ·exact h.status
  ·exact h.status
theorem C6.other {P:Program} {G:I4} {lv lv':Nat->Bool} {m m':Md} {T:Trace} {i n x:Nat} {g:Goroutine} (h:C6 P G lv m T i n g) (hx:x≠i) {ops:Trace} (du0:∀op∈ops,op.g=x) (hl:lv' i=lv i) (hm:m'=m\/((∀s,m≠.last i s)/\∀s,m'≠.last i s)):C6 P G lv' m' (T++ops) i n g:=by
 unfold C6 at h⊢;rw[Deaf_other T hx ops du0,hl];rcases hm with rfl|⟨h1,h2⟩
 ·exact h
 ·cases hlv:lv i with
  |true=>rw[hlv]at h;exact h
  |false=>
   rw[hlv]at h;simp only[Bool.false_eq_true,if_false]at h⊢;have h3:QuitsD P n (Deaf T i) g:=by
    cases m with
    |last j s=>simp only at h;rw[if_neg (fun e=>h1 s (by rw[e]))]at h;exact h
    |_=>exact h
   cases m' with
   |last j s=>simp only;rw[if_neg (fun e=>h2 s (by rw[e]))];exact h3
   |_=>exact h3
section
variable {P:Program}{X:Gh}{G:I4}{u:World}{lv:Nat->Bool}{m:Md}{d:Nat}{T:Trace}{gs:Array Goroutine}{w:World}{q:Nat->Nat}
theorem Wr.move (C:Wr P X G u lv m d T gs w q) {i n:Nat} {g g':Goroutine} {es:Array Event} {w':World} {lv':Nat->Bool} {m':Md} {sl:Option (Nat×Nat)} (hi:gs[i]? =some g) (r3:i≠0) (S2:stepG P false g w= .go g' w' es) (y9:∀e∈es,GEv G i e)
  (hu:(∀e∈es,(MemAct.ofEvent e).touch? =none)\/(V7 lv m i=true/\∀k,k<es.size->deafBehind (Deaf T i) (es.extract 0 k)≠0)) (hus:∀j,V7 lv' m' j=true->V7 lv m j=true) (gm0:∃ρ,I5 ρ (j3 u w'.tape w'.drawn) w'/\∀b,¬X.low b->ρ b=X.D4 b) (x8:∀b,b≠G.blk->w'.heap[b]? =w.heap[b]?)
  (hq:q i=n+1) (jy0:C6 P G lv' m' (T++MemOp.ofEvents i g.frame.fn g.frame.place es) i n g') (hl:∀j,j≠i->lv' j=lv j) (hm:m'=m\/((∀j,j≠i->∀s,m≠.last j s)/\∀j,j≠i->∀s,m'≠.last j s)) (dv0:x7 G (Ax0 m' (count lv' gs.size)).1 (Ax0 m' (count lv' gs.size)).2 w')
  (tz0:posOf m' lv' gs.size) (ev0:count lv' gs.size <=count lv gs.size) :
  ∃G4 ops q',runT P (crowd gs w sl) i=(.next (crowd G4 w' sl),ops)/\G4.size=gs.size/\(∀g0,gs[0]? =some g0->G4[0]? =some (woken P g g' w' g0))/\Wr P X G u lv' m' d (T++ops) G4 w' q'/\sumTo G4.size q'<sumTo gs.size q:=by
 have T2:i<gs.size:=(Array.getElem?_eq_some_iff.1 hi).1;have hi0:(i==0)=false:=by simpa using r3
 have n2:((gs.map (woken P g g' w')).setIfInBounds i g').size=gs.size:=by simp
 refine⟨_,_,upd q i n,runT_crowd_go (sl:=sl) hi (by rw[hi0];exact S2),n2,fun g0 h0=>?_,⟨?_,C.L2,C.empty,fun x y hx hy=>?_,by rw[n2];exact dv0,by rw[n2];exact tz0,by rw[n2];exact Nat.le_trans ev0 C.few⟩,?_⟩
 ·rw[Array.getElem?_setIfInBounds_ne r3,Array.getElem?_map,h0];rfl
 ·rw[n2];exact C.base.step (fn:=g.frame.fn) (pos:=g.frame.place) (G:=G) C.L2 T2 (C.empty i) y9 (hu.imp id .inr) hus (fun j hj=>absurd (C.empty j) hj) (by rw[if_neg r3]) gm0 x8
 ·by_cases e:x=i
  ·subst e;rw[Array.getElem?_setIfInBounds_self_of_lt (by simpa using T2)]at hy;obtain rfl:=Option.some.inj hy;rw[upd_same];exact jy0
  ·rw[Array.getElem?_setIfInBounds_ne (fun z=>e z.symm),Array.getElem?_map]at hy;obtain⟨y₀,hy₀,rfl⟩:=Option.map_eq_some_iff.1 hy;have h1:=C.idle x y₀ hx hy₀;rw[woken_of_again (again_of_running h1.status w'),upd_ne q n e];exact h1.other (fun z=>e z.symm) r2 (hl x e) (hm.imp id fun z=>⟨z.1 x e,z.2 x e⟩)
 ·rw[n2];have h2:sumTo gs.size (upd q i n)+(n+1)=sumTo gs.size q+n:=by
   have:=sumTo_upd q n id T2;simpa [hq]using this
  omega
end
end
section
attribute [local irreducible] KK
theorem jl0 {G:I4} {x:Nat}:∀e∈semEvents (smA G),GEv G x e:=by
 intro e he;simp only[semEvents,List.mem_toArray,List.mem_cons,List.not_mem_nil,or_false]at he;refine⟨fun b hb=>?_,by rcases he with rfl|rfl|rfl|rfl <;> simp⟩;rcases he with rfl|rfl|rfl|rfl <;> simp[MemAct.ofEvent,MemAct.touch?]at hb <;> subst hb <;> exact⟨⟨smA G,rfl,rfl,Nat.le_succ _⟩,by simp,fun _=>rfl⟩
theorem fb0 {G:I4} (d:Nat):deafBehind d (semEvents (smA G))=d:=by
 simp[deafBehind,semEvents]
theorem ig0 {G:I4} {d:Nat} (hd:0<d):∀k,k<(semEvents (smA G)).size->deafBehind d ((semEvents (smA G)).extract 0 k)≠0:=by
 intro k hk;have hk:k<4:=hk;rcases k with _|_|_|_|k <;> first|omega|(simp[semEvents,deafBehind];try omega)
theorem Y7 {d:Nat} {es:Array Event} (h:∀e∈es,e.loc≠.mark .disable/\e.loc≠.mark .enable) (k:Nat):deafBehind d (es.extract 0 k)=d :=
 deafBehind_still (fun e he=>h e (by
  obtain⟨j,hj,rfl⟩:=Array.mem_iff_getElem.1 he;simp only[Array.getElem_extract];exact Array.getElem_mem _)) d
theorem go0 {G:I4} {x:Nat}:∀e∈#[rdA (stA G)],GEv G x e:=by
 intro e he;simp only[List.mem_toArray,List.mem_cons,List.not_mem_nil,or_false]at he;subst he;refine⟨fun b hb=>?_,by simp[rdA]⟩;simp[rdA,MemAct.ofEvent,MemAct.touch?]at hb;subst hb;exact⟨⟨stA G,rfl,rfl,Nat.le_refl _⟩,by simp,fun _=>rfl⟩
theorem Cs0 {G:I4} {x:Nat}:∀e∈#[wrA (stA G)],GEv G x e:=by
 intro e he;simp only[List.mem_toArray,List.mem_cons,List.not_mem_nil,or_false]at he;subst he;refine⟨fun b hb=>?_,by simp[wrA]⟩;simp[wrA,MemAct.ofEvent,MemAct.touch?]at hb;subst hb;exact⟨⟨stA G,rfl,rfl,Nat.le_refl _⟩,by simp,fun _=>rfl⟩
theorem jm0 {a:Addr}:∀e∈#[rdA a,wrA a],e.loc≠.mark .disable/\e.loc≠.mark .enable:=by
 intro e he;simp only[List.mem_toArray,List.mem_cons,List.not_mem_nil,or_false]at he;rcases he with rfl|rfl <;> exact⟨by simp[rdA,wrA],by simp[rdA,wrA]⟩
theorem y8 {a:Addr}:∀e∈#[rdA a],e.loc≠.mark .disable/\e.loc≠.mark .enable:=by
 intro e he;simp only[List.mem_toArray,List.mem_cons,List.not_mem_nil,or_false]at he;subst he;exact⟨by simp[rdA],by simp[rdA]⟩
theorem fc0 {a:Addr}:∀e∈#[wrA a],e.loc≠.mark .disable/\e.loc≠.mark .enable:=by
 intro e he;simp only[List.mem_toArray,List.mem_cons,List.not_mem_nil,or_false]at he;subst he;exact⟨by simp[wrA],by simp[wrA]⟩
section
variable {P:Program}{X:Gh}{G:I4}{u:World}{lv:Nat->Bool}{m:Md}{d:Nat}{T:Trace}{gs:Array Goroutine}{w:World}{q:Nat->Nat}
theorem ud0 (P:Program) (g g':Goroutine) (w':World) (g0:Goroutine):woken P g g' w' g0=g0\/woken P g g' w' g0=g0.again w':=by
 unfold woken;split
 ·exact .inr rfl
 ·exact .inl rfl
theorem Wr.kc0 (C:Wr P X G u lv m d T gs w q) (v:Int):∃ρ,I5 ρ (j3 u (w.setCell (stA G) (.int .u64 v)).tape (w.setCell (stA G) (.int .u64 v)).drawn) (w.setCell (stA G) (.int .u64 v))/\∀b,¬X.low b->ρ b=X.D4 b:=by
 obtain⟨ρ,hs,hlw⟩:=C.base.T9;obtain⟨ρ',h1,h2⟩:=I5.setSt hs (C.base.cut G C.L2) C.x6 v;exact⟨ρ',h1,fun b hb=>(h2 b fun e=>hb (e▸C.base.V9 G C.L2)).trans (hlw b hb)⟩
theorem Wr.Ct0 (C:Wr P X G u lv m d T gs w q) (v:Int):∃ρ,I5 ρ (j3 u (w.setCell (smA G) (.int .u32 v)).tape (w.setCell (smA G) (.int .u32 v)).drawn) (w.setCell (smA G) (.int .u32 v))/\∀b,¬X.low b->ρ b=X.D4 b:=by
 obtain⟨ρ,hs,hlw⟩:=C.base.T9;obtain⟨ρ',h1,h2⟩:=I5.setSm hs (C.base.cut G C.L2) C.x6 v;exact⟨ρ',h1,fun b hb=>(h2 b fun e=>hb (e▸C.base.V9 G C.L2)).trans (hlw b hb)⟩
def Cu0 (P:Program) (X:Gh) (G:I4) (u:World) (lv:Nat->Bool) (m:Md) (d:Nat) (T:Trace) (gs:Array Goroutine) (w:World) (q:Nat->Nat) (i:Nat) (sl:Option (Nat×Nat)):Prop :=
 ∃G4 ops q' w' lv' m',runT P (crowd gs w sl) i=(.next (crowd G4 w' sl),ops)/\G4.size=gs.size/\(∀g0,gs[0]? =some g0->G4[0]? =some g0\/G4[0]? =some (g0.again w'))/\Wr P X G u lv' m' d (T++ops) G4 w' q'/\sumTo G4.size q'<sumTo gs.size q /\
   count lv' G4.size <=count lv gs.size/\(m= .free↔m'= .free)/\(m'= .done->m= .done\/∀g0,gs[0]? =some g0->G4[0]? =some (g0.again w'))
theorem Wr.by (C:Wr P X G u lv m d T gs w q) {i:Nat} {g:Goroutine} {sl:Option (Nat×Nat)} (hi:gs[i]? =some g) (r3:i≠0) (g4:g.status= .running) :
  Cu0 P X G u lv m d T gs w q i sl:=by
 have T2:i<gs.size:=(Array.getElem?_eq_some_iff.1 hi).1;have X3:=C.idle i g r3 hi;have pack:∀{g':Goroutine} {w':World} {lv':Nat->Bool} {m':Md} {es:Array Event},(∃G4 ops q',runT P (crowd gs w sl) i=(.next (crowd G4 w' sl),ops)/\G4.size=gs.size/\(∀g0,gs[0]? =some g0->G4[0]? =some (woken P g g' w' g0))/\Wr P X G u lv' m' d (T++ops) G4 w' q'/\sumTo G4.size q'<sumTo gs.size q) ->
   count lv' gs.size <=count lv gs.size->(m= .free↔m'= .free)->(m'= .done->m= .done\/∀g0,woken P g g' w' g0=g0.again w')->Cu0 P X G u lv m d T gs w q i sl:=by
  rintro g' w' lv' m' es ⟨G4,ops,q',h1,h2,h3,h4,h5⟩ hc hf hd;refine⟨G4,ops,q',w',lv',m',h1,h2,fun g0 h0=>?_,h4,h5,by rw[h2];exact hc,hf,fun e=>(hd e).imp id fun z g0 h0=>?_⟩
  ·rw[h3 g0 h0];rcases ud0 P g g' w' g0 with e|e <;> rw[e]
   ·exact .inl rfl
   ·exact .inr rfl
  ·rw[h3 g0 h0,z g0]
 unfold C6 at X3;cases hl:lv i with
 |true=>
  rw[hl]at X3;simp only[if_true]at X3;have tz0:=count_le T2 hl;cases hq:q i with
  |zero=>rw[hq]at X3;exact X3.elim
  |succ k=>
   rw[hq]at X3;unfold Lt at X3;rcases X3 with⟨g',es,⟨_,hsy,y3⟩,hL⟩|⟨_,hd0,ua0⟩
   ·refine pack (es:=es) (C.move (sl:=sl) hi r3 (y3 w _ _ C.x6) (fun e he=>cn0 (hsy e he)) (.inl fun e he=>X7 (hsy e he)) (fun _ h=>h) C.base.T9 (fun _ _=>rfl) hq ?_ (fun _ _=>rfl) (.inl rfl) C.x6 C.pos (Nat.le_refl _)) (Nat.le_refl _) Iff.rfl fun e=>.inl e;unfold C6;rw[hl,if_pos rfl,Deaf_own];exact hL
   ·have ev0:=oq0 hl T2;generalize hv:count (upd lv i false) gs.size=v at ev0;have hvb:v<2147483647:=by have:=C.few;omega
    have hdf:V7 lv m i=true/\∀j,j < #[rdA (stA G),wrA (stA G)].size->deafBehind (Deaf T i) (#[rdA (stA G),wrA (stA G)].extract 0 j)≠0:=⟨by unfold V7;rw[hl];rfl,fun j _=>by rw[Y7 jm0];omega⟩
    have hdd:Deaf (T++MemOp.ofEvents i g.frame.fn g.frame.place #[rdA (stA G),wrA (stA G)]) i=Deaf T i:=by rw[Deaf_own];exact deafBehind_still jm0 _
    have hus:∀(m':Md),(∀j s,m'= .last j s->j=i)->(∀j s,m≠.last j s)->∀j,V7 (upd lv i false) m' j=true->V7 lv m j=true:=fun m' hm1 hm2 j hj=>by
     unfold V7 at hj⊢;by_cases e:j=i
     ·subst e;rw[hl];rfl
     ·rw[upd_ne lv false e]at hj;cases h2:lv j with
      |true=>rfl
      |false=>
       rw[h2]at hj;cases m' with
       |last j' s'=>have:=hm1 j' s' rfl;subst this;simp[e]at hj
       |_=>simp at hj
    cases m with
    |free=>
     obtain⟨g',y3,ez0,_⟩:=ua0 v 0 (by omega) hvb;have hg:x7 G (((v+1)*KK+0:Nat):Int) 0 w:=by have:=C.x6;rw[ev0]at this;exact this
     have S2:=y3 w hg;rw[Nat.add_zero]at S2;refine pack (es:=#[rdA (stA G),wrA (stA G)]) (C.move (sl:=sl) (m':=.free) (lv':=upd lv i false) hi r3 S2 C9 (.inr hdf) (hus .free (fun _ _ e=>by cases e) (fun _ _ e=>by cases e)) (C.kc0 _) (fun b hb=>D1 _ _ hb) hq ?_ (fun j hj=>upd_ne lv false hj) (.inl rfl) ?_ trivial (by omega)) (by omega) Iff.rfl fun e=>.inl e
     ·unfold C6;rw[upd_same,if_neg (by simp),hdd];exact ez0 (by omega)
     ·have:=C.x6.setSt ((v*KK:Nat):Int);rw[hv];exact this
    |wait=>
     obtain⟨g',y3,ez0,Cv0⟩:=ua0 v 1 (by omega) hvb;have hg:x7 G (((v+1)*KK+1:Nat):Int) 0 w:=by have:=C.x6;rw[ev0]at this;exact this
     have S2:=y3 w hg;by_cases hv0:v=0
     ·subst hv0;refine pack (es:=#[rdA (stA G),wrA (stA G)]) (C.move (sl:=sl) (m':=.last i 2) (lv':=upd lv i false) hi r3 S2 C9 (.inr hdf) (hus (.last i 2) (fun j s e=>by cases e;rfl) (fun _ _ e=>by cases e)) (C.kc0 _) (fun b hb=>D1 _ _ hb) hq ?_ (fun j hj=>upd_ne lv false hj)
       (.inr ⟨fun j _ s e=>(by cases e),fun j hj s e=>(by cases e;exact hj rfl)⟩) ?_ ⟨hv,r3,T2,upd_same _ _ _,Nat.le_refl _⟩ (by omega)) (by omega) ⟨fun e=>(by cases e),fun e=>(by cases e)⟩ fun e=>by cases e
      ·unfold C6;rw[upd_same,if_neg (by simp)];simp only[if_true];rw[hdd];exact Cv0 ⟨rfl,rfl⟩
      ·have:=C.x6.setSt ((0*KK+1:Nat):Int);have e1:((0*KK+1:Nat):Int)=1:=by rw[Nat.zero_mul];rfl
       rw[e1]at this⊢;exact this
     ·refine pack (es:=#[rdA (stA G),wrA (stA G)]) (C.move (sl:=sl) (m':=.wait) (lv':=upd lv i false) hi r3 S2 C9 (.inr hdf) (hus .wait (fun _ _ e=>by cases e) (fun _ _ e=>by cases e)) (C.kc0 _) (fun b hb=>D1 _ _ hb) hq ?_ (fun j hj=>upd_ne lv false hj) (.inl rfl) ?_ (by show 0<count _ _;omega) (by omega)) (by omega) Iff.rfl fun e=>.inl e
      ·unfold C6;rw[upd_same,if_neg (by simp),hdd];exact ez0 (by omega)
      ·have:=C.x6.setSt ((v*KK+1:Nat):Int);rw[hv];exact this
    |last j s=>have:=C.pos.1;omega
    |done=>have:count lv gs.size=0:=C.pos;omega
 |false=>
  rw[hl]at X3;simp only[Bool.false_eq_true,if_false]at X3;have quit:QuitsD P (q i) (Deaf T i) g->(∀s,m≠.last i s)->Cu0 P X G u lv m d T gs w q i sl:=fun hQ hml=>by
   cases hq:q i with
   |zero=>rw[hq]at hQ;rw[hQ.1]at g4;cases g4
   |succ k=>
    rw[hq]at hQ;rcases hQ with⟨hf,_⟩|⟨_,g',es,hm,y3,hQ⟩
    ·rw[hf]at g4;cases g4
    ·refine pack (es:=es) (C.move (sl:=sl) hi r3 (y3 w) (fun e he=>uc0 (hm e he)) (.inl fun e he=>touch_mute (hm e he)) (fun _ h=>h) C.base.T9 (fun _ _=>rfl) hq ?_ (fun _ _=>rfl) (.inl rfl) C.x6 C.pos (Nat.le_refl _)) (Nat.le_refl _) Iff.rfl fun e=>.inl e;unfold C6;rw[hl,if_neg (by simp),Deaf_own];cases m with
     |last j s=>simp only;rw[if_neg (fun e=>hml s (by rw[e]))];exact hQ
     |_=>exact hQ
  cases m with
  |last j s=>
   simp only at X3;by_cases hij:i=j
   ·subst hij;rw[if_pos rfl]at X3;obtain⟨hc0,_,_,_,hs2⟩:=C.pos;have Ot0:V7 lv (.last i s) i=true:=by unfold V7;simp
    cases hq:q i with
    |zero=>rw[hq]at X3;exact X3.elim
    |succ k=>
     rw[hq]at X3;unfold Lst at X3;obtain⟨hd0,X3⟩:=X3;rcases X3 with⟨g',es,⟨_,hsy,y3⟩,hnm,hL⟩|⟨_,X3⟩
     ·refine pack (es:=es) (C.move (sl:=sl) hi r3 (y3 w _ _ C.x6) (fun e he=>cn0 (hsy e he)) (.inl fun e he=>X7 (hsy e he)) (fun _ h=>h) C.base.T9 (fun _ _=>rfl) hq ?_ (fun _ _=>rfl) (.inl rfl) C.x6 C.pos (Nat.le_refl _)) (Nat.le_refl _) Iff.rfl fun e=>.inl e;unfold C6;rw[hl,if_neg (by simp)];simp only[if_true];rw[Deaf_own,deafBehind_still hnm];exact hL
     ·rcases s with _|_|_|s
      ·
       simp only at X3;obtain⟨hwk,g',y3,hQ⟩:=X3;have S2:=y3 w C.x6;refine pack (es:=semEvents (smA G)) (C.move (sl:=sl) (m':=.done) (lv':=lv) hi r3 S2 jl0 (.inr ⟨Ot0,ig0 hd0⟩) (fun j hj=>by unfold V7 at hj⊢;simp at hj;rw[hj];rfl) (C.Ct0 _) (fun b hb=>D1 _ _ hb) hq ?_ (fun _ _=>rfl) (.inr ⟨fun j hj s e=>(by cases e;exact hj rfl),fun j _ s e=>(by cases e)⟩) (C.x6.setSm _) hc0 (Nat.le_refl _)) (Nat.le_refl _) ⟨fun e=>(by cases e),fun e=>(by cases e)⟩ fun _=>.inr fun g0=>?_
       ·unfold C6;rw[hl,if_neg (by simp),Deaf_own,fb0];exact hQ
       ·unfold woken;rw[if_pos];rw[hwk];rcases hQ.status with e|e <;> rw[e] <;> rfl
      ·simp only at X3;obtain⟨g',y3,hL⟩:=X3;have S2:=y3 w C.x6;refine pack (es:=#[wrA (stA G)]) (C.move (sl:=sl) (m':=.last i 0) (lv':=lv) hi r3 S2 Cs0 (.inr ⟨Ot0,fun j _=>by rw[Y7 fc0];omega⟩) (fun j hj=>hj) (C.kc0 _) (fun b hb=>D1 _ _ hb) hq ?_ (fun _ _=>rfl) (.inr ⟨fun j hj s e=>(by cases e;exact hj rfl),fun j hj s e=>(by cases e;exact hj rfl)⟩) (C.x6.setSt _) ⟨hc0,r3,T2,hl,by omega⟩ (Nat.le_refl _)) (Nat.le_refl _) ⟨fun e=>(by cases e),fun e=>(by cases e)⟩ fun e=>by cases e
       unfold C6;rw[hl,if_neg (by simp)];simp only[if_true];rw[Deaf_own,deafBehind_still fc0];exact hL
      ·simp only at X3;obtain⟨g',y3,hL⟩:=X3;have S2:=y3 w C.x6;refine pack (es:=#[rdA (stA G)]) (C.move (sl:=sl) (m':=.last i 1) (lv':=lv) hi r3 S2 go0 (.inr ⟨Ot0,fun j _=>by rw[Y7 y8];omega⟩) (fun j hj=>hj) C.base.T9 (fun b hb=>rfl) hq ?_ (fun _ _=>rfl) (.inr ⟨fun j hj s e=>(by cases e;exact hj rfl),fun j hj s e=>(by cases e;exact hj rfl)⟩) C.x6 ⟨hc0,r3,T2,hl,by omega⟩ (Nat.le_refl _)) (Nat.le_refl _) ⟨fun e=>(by cases e),fun e=>(by cases e)⟩ fun e=>by cases e
       unfold C6;rw[hl,if_neg (by simp)];simp only[if_true];rw[Deaf_own,deafBehind_still y8];exact hL
      ·omega
   ·rw[if_neg hij]at X3;exact quit X3 fun s' e=>by cases e;exact hij rfl
  |free=>exact quit X3 fun s e=>by cases e
  |wait=>exact quit X3 fun s e=>by cases e
  |done=>exact quit X3 fun s e=>by cases e
end
end
section
attribute [local irreducible] KK
theorem kd0 {lv:Nat->Bool}:∀{n:Nat},0<count lv n->∃i,i<n/\lv i=true
 |0,h=>by simp[count,sumTo]at h
 |n+1,h=>by
  cases e:lv n with
  |true=>exact⟨n,by omega,e⟩
  |false=>
   have:count lv (n+1)=count lv n:=by
    show sumTo n _+(if lv n then 1 else 0)=_;rw[e];rfl
   obtain⟨i,h1,h2⟩:=kd0 (n:=n) (by rw[<- this];exact h);exact⟨i,by omega,h2⟩
theorem ke0 (lv:Nat->Bool):V7 lv .free=lv:=funext fun i=>by unfold V7;simp
section
variable {P:Program}{Post:Value->World->Prop}{X:Gh}{G:I4}{u:World}{lv:Nat->Bool}{m:Md}{d:Nat}{T:Trace}{gs:Array Goroutine}{w:World}{q:Nat->Nat}{K:Goroutine->Prop}
theorem Fin.we (hG:X.L2=some G) (hK:∀g,K g->Fin P Post {X with pend:=0,cap:=0,dn:=0} 0 g u):∀(n d:Nat) (g:Goroutine),WE P G K n d g->Fin P Post {X with pend:=0,cap:=0,dn:=d} 0 g u
 |0,d,g,h=>by obtain⟨rfl,h⟩:=h;exact hK g h
 |n+1,d,g,h=>by
  rcases h with⟨rfl,h⟩|⟨g',es,hr,y9,S2,h⟩
  ·exact hK g h
  ·refine Fin.Y8 hr fun live T gs w sl dd Y4 q hg y3 C=>?_;have hat:=(C.L2 G hG).2;have mj0:=C.few;have hc:count live gs.size=0:=by have h1:count live gs.size+0 <=0:=mj0.1;omega
   have hz:(((count live gs.size+0)*KK:Nat):Int)=0:=by rw[hc,Nat.zero_add,Nat.zero_mul];rfl
   have al1:x7 G 0 0 (w.at dd):=by have h2:x7 G (((count live gs.size+0)*KK:Nat):Int) 0 (w.at dd):=hat;rw[hz]at h2;exact h2
   obtain⟨C',G2⟩:=C.main hG (g:=g) (g':=g') (pend:=0) (cap:=0) y9 (w':=w.at dd) C.T9 (fun _ _=>rfl) hat mj0;exact Ends.step (y3.trans (runT_crowd_go (sl:=Y4) (i:=0) hg (S2 _ al1))) (Fin.we hG hK n _ g' h _ _ _ _ _ _ G2 C')
theorem Wr.toRing (C:Wr P X G u lv .free d T gs w q) (hc:count lv gs.size=0):Ring P {X with pend:=0,cap:=0,dn:=d} 0 u lv T gs w q:=by
 have B:=C.base;rw[ke0]at B;refine B.ring (fun i g hi hg=>?_) (fun G' e=>?_) ⟨?_,by show(0:Nat) <=65536;omega⟩
 ·have:=C.idle i g hi hg;have T2:i<gs.size:=(Array.getElem?_eq_some_iff.1 hg).1;have hl:lv i=false:=by
   cases e:lv i with
   |false=>rfl
   |true=>have:=count_le T2 e;omega
  unfold C6 at this;unfold Idle;rw[show({X with pend:=0,cap:=0,dn:=d}:Gh).G1 i=none from C.empty i];rw[hl]at this⊢;simp only[Bool.false_eq_true,if_false]at this⊢;exact⟨by omega,this⟩
 ·have e':X.L2=some G':=e;rw[C.L2]at e';obtain rfl:=Option.some.inj e';have:=C.x6;exact this
 ·show count lv gs.size+0 <=0;omega
theorem Wr.at (C:Wr P X G u lv m d T gs w q) (k:Nat):Wr P X G u lv m d T gs (w.at k) q :=
 ⟨⟨let⟨ρ,hs,hl⟩:=C.base.T9;⟨ρ,I5.at hs k,hl⟩,C.base.free,C.base.size,C.base.num,C.base.stays,C.base.chans,C.base.R3,C.base.inj,C.base.X3,C.base.V9,C.base.L7,C.base.cut,C.base.old,C.base.above,C.base.cg0,C.base.aj0,C.base.dfn,C.base.past⟩,C.L2,C.empty,C.idle,C.x6,C.pos,C.few⟩
theorem Wr.awake (C:Wr P X G u lv m d T gs w q) {a:Goroutine} (ha:gs[0]? =some a) (hs:a.status= .running\/a.status= .blocked):∀g∈gs,awake g:=by
 intro g hg;obtain⟨i,hi,rfl⟩:=Array.mem_iff_getElem.1 hg;by_cases e:i=0
 ·subst e;have:gs[0]=a:=by simpa [Array.getElem?_eq_getElem hi]using ha
  rw[this];exact awake_of (hs.elim .inl fun x=>.inr (.inl x))
 ·exact awake_of ((C.idle i _ e (Array.getElem?_eq_getElem hi)).status.elim .inl fun x=>.inr (.inr x))
theorem Wr.main (C:Wr P X G u lv m d T gs w q) {g g':Goroutine} {es:Array Event} {w':World} {m':Md} (y9:∀e∈es,GEv G 0 e) (gm0:∃ρ,I5 ρ (j3 u w'.tape w'.drawn) w'/\∀b,¬X.low b->ρ b=X.D4 b) (x8:∀b,b≠G.blk->w'.heap[b]? =w.heap[b]?)
  (hm:m'=m\/((∀j s,m≠.last j s)/\∀j s,m'≠.last j s)) (dv0:x7 G (Ax0 m' (count lv gs.size)).1 (Ax0 m' (count lv gs.size)).2 w') (tz0:posOf m' lv gs.size) :
  Wr P X G u lv m' (deafBehind d es) (T++MemOp.ofEvents 0 g.frame.fn g.frame.place es) ((gs.map (woken P g g' w')).setIfInBounds 0 g') w' q/\((gs.map (woken P g g' w')).setIfInBounds 0 g')[0]? =some g':=by
 have n2:((gs.map (woken P g g' w')).setIfInBounds 0 g').size=gs.size:=by simp
 have hus:∀j,V7 lv m' j=true->V7 lv m j=true:=fun j hj=>by
  rcases hm with rfl|⟨h1,h2⟩
  ·exact hj
  ·unfold V7 at hj⊢;cases m' with
   |last j s=>exact absurd rfl (h2 j s)
   |_=>simp at hj;rw[hj];rfl
 refine⟨⟨?_,C.L2,C.empty,fun x y hx hy=>?_,by rw[n2];exact dv0,by rw[n2];exact tz0,by rw[n2];exact C.few⟩,Array.getElem?_setIfInBounds_self_of_lt (by simpa using C.base.size)⟩
 ·rw[n2];exact C.base.step (fn:=g.frame.fn) (pos:=g.frame.place) (G:=G) C.L2 C.base.size (C.empty 0) y9 (.inr (.inl rfl)) hus (fun j hj=>absurd (C.empty j) hj) (by rw[if_pos rfl]) gm0 x8
 ·rw[Array.getElem?_setIfInBounds_ne (fun z=>hx z.symm),Array.getElem?_map]at hy;obtain⟨y₀,hy₀,rfl⟩:=Option.map_eq_some_iff.1 hy;have h1:=C.idle x y₀ hx hy₀;rw[woken_of_again (again_of_running h1.status w')];exact h1.other (fun z=>hx z.symm) r2 rfl (hm.imp id fun z=>⟨z.1 x,z.2 x⟩)
theorem again_blocked {g:Goroutine} (hr:g.status= .running) (ho:g.offers=none) (w:World):({g with status:=.blocked}:Goroutine).again w=g:=by
 cases g;simp only at hr ho;subst hr;subst ho;rfl
theorem Fin.sem (hG:X.L2=some G) (hK:∀g,K g->Fin P Post {X with pend:=0,cap:=0,dn:=0} 0 g u):∀(μ n d:Nat) (g:Goroutine) (b:Bool) lv m T gs w sl q,μ=3*sumTo gs.size q+3*n+(if b then 1 else 0)->Wr P X G u lv m d T gs w q->m≠.free ->
  (if b then gs[0]? =some g/\WS P G (WE P G K) n d g else m≠.done/\gs[0]? =some {g with status:=.blocked}/\∃k,n=k+1/\0<d/\Cr0 P G (WE P G K) k d g)->Ends P Post (crowd gs w sl) T:=by
 intro μ
 induction μ using Nat.strongRecOn with
 |_ μ ih=>
  intro n d g b lv m T gs w sl q hμ C hmf hb;have ue0:(∃(i:Nat) (g:Goroutine),gs[i]? =some g/\g.status= .running)/\∀g∈gs,awake g:=by
   cases b with
   |true=>
    obtain⟨h0,hW⟩:=hb;have hr:g.status= .running:=by
     cases n with
     |zero=>exact hW.elim
     |succ n=>
      rcases hW with⟨_,_,hh,_⟩|⟨_,hh⟩
      ·exact hh.1
      ·exact hh.1
    exact⟨⟨0,g,h0,hr⟩,C.awake h0 (.inl hr)⟩
   |false=>
    obtain⟨hmd,h0,k,_,_,_⟩:=hb;refine⟨?_,C.awake h0 (.inr rfl)⟩;cases m with
    |free=>exact absurd rfl hmf
    |done=>exact absurd rfl hmd
    |wait=>
     obtain⟨i,hi,hl⟩:=kd0 (show 0<count lv gs.size from C.pos);have hi0:i≠0:=(C.base.cg0 i (by unfold V7;rw[hl];rfl)).1;have:=C.idle i gs[i] hi0 (Array.getElem?_eq_getElem hi);unfold C6 at this;rw[hl,if_pos rfl]at this;exact⟨i,gs[i],Array.getElem?_eq_getElem hi,this.running⟩
    |last i s=>
     obtain⟨_,hi0,hi,hl,_⟩:=C.pos;have:=C.idle i gs[i] hi0 (Array.getElem?_eq_getElem hi);unfold C6 at this;rw[hl,if_neg (by simp)]at this;simp only[if_true]at this;exact⟨i,gs[i],Array.getElem?_eq_getElem hi,this.running⟩
  obtain⟨i,gi,dd,Y4,hi,hgi,S2⟩:=crowd_pick (P:=P) (w:=w) (sl:=sl) ue0.2 ue0.1;have Cd:=C.at dd;by_cases e:i=0
  ·subst e;cases b with
   |false=>obtain⟨_,h0,_⟩:=hb;rw[h0]at hi;obtain rfl:=Option.some.inj hi;cases hgi
   |true=>
    obtain⟨h0,hW⟩:=hb;rw[h0]at hi;obtain rfl:=Option.some.inj hi;cases n with
    |zero=>exact hW.elim
    |succ n=>
     rcases hW with⟨g',es,⟨_,_,y9,y3⟩,hW⟩|⟨hd0,hr,ho,sg0,g',Cw0,hE⟩
     ·obtain⟨C',G2⟩:=Cd.main (g:=g) (g':=g') (m':=m) y9 Cd.base.T9 (fun _ _=>rfl) (.inl rfl) Cd.x6 Cd.pos;exact Ends.step (S2.trans (runT_crowd_go (sl:=Y4) (i:=0) h0 (y3 _ _ _ Cd.x6))) (ih _ (by simp only[Array.size_setIfInBounds,Array.size_map];rw[hμ];simp only[if_true];omega) n _ g' true lv m _ _ _ Y4 q rfl C' hmf ⟨G2,hW⟩)
     ·have blk:m≠.done->(∃st,x7 G st 0 (w.at dd))->Ends P Post (crowd gs w sl) T:=fun hmd ⟨st,hat⟩=>by
       have hgo:=sg0 _ _ hat;have hrt:=runT_crowd_go (P:=P) (sl:=Y4) (i:=0) h0 hgo;rw[show(MemOp.ofEvents 0 g.frame.fn g.frame.place #[]:Array MemOp)=#[] from rfl]at hrt;obtain⟨C',G2⟩:=Cd.main (g:=g) (g':={g with status:=.blocked}) (es:=#[]) (m':=m) (fun e he=>by simp at he) Cd.base.T9 (fun _ _=>rfl) (.inl rfl) Cd.x6 Cd.pos;rw[show(MemOp.ofEvents 0 g.frame.fn g.frame.place #[]:Array MemOp)=#[] from rfl]at C';exact Ends.step (S2.trans hrt) (ih _ (by simp only[Array.size_setIfInBounds,Array.size_map];rw[hμ];simp) (n+1) d g false lv m _ _ _ Y4 q rfl C' hmf ⟨hmd,G2,n,rfl,hd0,hr,ho,sg0,g',Cw0,hE⟩)
      cases m with
      |free=>exact absurd rfl hmf
      |wait=>exact blk (fun e=>by cases e) ⟨_,Cd.x6⟩
      |last i s=>exact blk (fun e=>by cases e) (by
        have:=Cd.x6;cases s with
        |zero=>exact⟨_,this⟩
        |succ s=>exact⟨_,this⟩)
      |done=>
       obtain⟨C',G2⟩:=Cd.main (g:=g) (g':=g') (es:=semEvents (smA G)) (m':=.free) (w':=(w.at dd).setCell (smA G) (.int .u32 0)) jl0 (Cd.Ct0 0) (fun b hb=>D1 _ _ hb) (.inr ⟨fun j s e=>(by cases e),fun j s e=>(by cases e)⟩)
        (by
         have h1:count lv gs.size=0:=Cd.pos;have h2:x7 G 0 0 _:=Cd.x6.setSm 0;have h3:(((count lv gs.size)*KK:Nat):Int)=0:=by rw[h1,Nat.zero_mul];rfl
         show x7 G (((count lv gs.size)*KK:Nat):Int) 0 _;rw[h3];exact h2) trivial
       rw[fb0]at C';have R:=C'.toRing (by simp only[Array.size_setIfInBounds,Array.size_map];exact Cd.pos);exact Ends.step (S2.trans (runT_crowd_go (sl:=Y4) (i:=0) h0 (Cw0 _ Cd.x6))) (Fin.we hG hK n d g' hE _ _ _ _ Y4 _ G2 R)
  ·obtain⟨G4,ops,q',w',lv',m',hrt,n2,h0',C',T2,_,Cx0,Cy0⟩:=Cd.by (sl:=Y4) hi e hgi
   have Ou0:m'≠.free:=fun e=>hmf (Cx0.2 e);refine Ends.step (S2.trans hrt) ?_;cases b with
   |true=>
    obtain⟨h0,hW⟩:=hb;have hr:g.status= .running:=by
     cases n with
     |zero=>exact hW.elim
     |succ n=>
      rcases hW with⟨_,_,hh,_⟩|⟨_,hh⟩
      ·exact hh.1
      ·exact hh.1
    refine ih _ (by rw[hμ];simp only[if_true];omega) n d g true lv' m' _ G4 w' Y4 q' rfl C' Ou0 ⟨?_,hW⟩;rcases h0' g h0 with z|z
    ·exact z
    ·rw[again_of_running (.inl hr)]at z;exact z
   |false=>
    obtain⟨hmd,h0,k,hk,hd0,sh0⟩:=hb;have hA:G4[0]? =some (({g with status:=.blocked}:Goroutine).again w')->Ends P Post (crowd G4 w' Y4) (T++ops):=fun z=>by
     rw[again_blocked sh0.1 sh0.2.1]at z;exact ih _ (by rw[hμ];simp only[if_true];simp;omega) n d g true lv' m' _ G4 w' Y4 q' rfl C' Ou0 ⟨z,by rw[hk];exact .inr ⟨hd0,sh0⟩⟩
    by_cases J8:m'= .done
    ·exact hA ((Cy0 J8).resolve_left hmd _ h0)
    ·rcases h0' _ h0 with z|z
     ·exact ih _ (by rw[hμ];simp;omega) n d g false lv' m' _ G4 w' Y4 q' rfl C' Ou0 ⟨J8,z,k,hk,hd0,sh0⟩
     ·exact hA z
end
end
section
attribute [local irreducible] KK
section
variable {P:Program}{Post:Value->World->Prop}{X:Gh}{G:I4}{u:World}{K:Goroutine->Prop}
theorem Fin.head (hG:X.L2=some G) (hK:∀g,K g->Fin P Post {X with pend:=0,cap:=0,dn:=0} 0 g u):∀(μ n:Nat) (o:Option Nat) (V d:Nat) (g:Goroutine) lv T gs w sl q,μ=n+sumTo gs.size q->Wr P X G u lv .free d T gs w q->gs[0]? =some g->WH P G (WE P G K) n o V d g->0<d\/True ->
  (match o with|none=>count lv gs.size <=V|some vs=>0<vs/\count lv gs.size <=vs)->Ends P Post (crowd gs w sl) T:=by
 intro μ
 induction μ using Nat.strongRecOn with
 |_ μ ih=>
  intro n o V d g lv T gs w sl q hμ C h0 hW _ hV;cases n with
  |zero=>exact hW.elim
  |succ n=>
   have hr:g.status= .running:=by
    unfold WH at hW;rcases hW with⟨_,_,hh,_⟩|hh
    ·exact hh.1
    ·exact hh.1
   obtain⟨i,gi,dd,Y4,hi,hgi,S2⟩:=crowd_pick (P:=P) (w:=w) (sl:=sl) (C.awake h0 (.inl hr)) ⟨0,g,h0,hr⟩;have Cd:=C.at dd;by_cases e:i=0
   ·subst e;rw[h0]at hi;obtain rfl:=Option.some.inj hi;have hat:x7 G ((count lv gs.size*KK:Nat):Int) 0 (w.at dd):=Cd.x6;unfold WH at hW;rcases hW with⟨g',es,⟨_,_,y9,y3⟩,hW⟩|⟨_,hW⟩
    ·obtain⟨C',G2⟩:=Cd.main (g:=g) (g':=g') (m':=.free) y9 Cd.base.T9 (fun _ _=>rfl) (.inl rfl) Cd.x6 Cd.pos;exact Ends.step (S2.trans (runT_crowd_go (sl:=Y4) (i:=0) h0 (y3 _ _ _ Cd.x6))) (ih _ (by simp only[Array.size_setIfInBounds,Array.size_map];omega) n o V _ g' lv _ _ _ Y4 q rfl C' G2 hW (.inr trivial) (by simpa using hV))
    ·have kf0:∀g',stepG P true g (w.at dd)= .go g' (w.at dd) #[rdA (stA G)]->(∀T' G4,Wr P X G u lv .free d T' G4 (w.at dd) q->G4.size=gs.size->G4[0]? =some g'->Ends P Post (crowd G4 (w.at dd) Y4) T')->Ends P Post (crowd gs w sl) T:=fun g' hgo hk=>by
      obtain⟨C',G2⟩:=Cd.main (g:=g) (g':=g') (es:=#[rdA (stA G)]) (m':=.free) go0 Cd.base.T9 (fun _ _=>rfl) (.inl rfl) Cd.x6 Cd.pos;rw[deafBehind_still y8]at C';exact Ends.step (S2.trans (runT_crowd_go (sl:=Y4) (i:=0) h0 hgo)) (hk _ _ C' (by simp) G2)
     cases o with
     |none=>
      have hV':count lv gs.size <=V:=hV;obtain⟨g',y3,hz,hnz⟩:=hW (count lv gs.size) hV';refine kf0 g' (y3 _ hat) fun T' G4 C' n2 G2=>?_;by_cases hc:count lv gs.size=0
      ·exact Fin.we hG hK n d g' (hz hc) _ _ _ _ Y4 _ G2 (C'.toRing (by rw[n2];exact hc))
      ·exact ih _ (by rw[n2];omega) n (some (count lv gs.size)) V d g' lv T' G4 _ Y4 q rfl C' G2 (hnz hc) (.inr trivial) ⟨by omega,by rw[n2];exact Nat.le_refl _⟩
     |some vs=>
      obtain⟨hvs,hle⟩:=hV;obtain⟨⟨g1,si0,hS⟩,Cz0⟩:=hW;by_cases hc:count lv gs.size=vs
      ·subst hc;obtain⟨C',G2⟩:=Cd.main (g:=g) (g':=g1) (es:=#[rdA (stA G),wrA (stA G)]) (m':=.wait) C9 (Cd.kc0 ((count lv gs.size*KK+1:Nat):Int)) (fun b hb=>D1 _ _ hb) (.inr ⟨fun j s e=>(by cases e),fun j s e=>(by cases e)⟩) (Cd.x6.setSt _) hvs;rw[gn0]at C';exact Ends.step (S2.trans (runT_crowd_go (sl:=Y4) (i:=0) h0 (si0 _ hat))) (Fin.sem hG hK _ n d g1 true lv .wait _ _ _ Y4 q rfl C' (fun e=>(by cases e)) ⟨G2,hS⟩)
      ·obtain⟨g',y3,hH⟩:=Cz0 (count lv gs.size) (by omega);refine kf0 g' (y3 _ hat) fun T' G4 C' n2 G2=>?_;exact ih _ (by rw[n2];omega) n none (count lv gs.size) d g' lv T' G4 _ Y4 q rfl C' G2 hH (.inr trivial) (by rw[n2];exact Nat.le_refl _)
   ·obtain⟨G4,ops,q',w',lv',m',hrt,n2,h0',C',T2,n6,Cx0,_⟩:=Cd.by (sl:=Y4) hi e hgi
    have hmf:m'= .free:=Cx0.1 rfl;subst hmf;refine Ends.step (S2.trans hrt) (ih _ (by omega) (n+1) o V d g lv' _ G4 w' Y4 q' rfl C' ?_ hW (.inr trivial) ?_)
    ·rcases h0' g h0 with z|z
     ·exact z
     ·rw[again_of_running (.inl hr)]at z;exact z
    ·cases o with
     |none=>exact Nat.le_trans n6 hV
     |some vs=>exact⟨hV.1,Nat.le_trans n6 hV.2⟩
theorem Fin.wait {g:Goroutine} {n:Nat} (hG:X.L2=some G) (o7:∀i,X.G1 i=none) (hp:X.pend=0) (hd:X.dn=0) (hW:WH P G (WE P G K) n none X.cap 0 g) (hK:∀g,K g->Fin P Post {X with pend:=0,cap:=0,dn:=0} 0 g u):Fin P Post X 0 g u:=by
 intro live T gs w sl q hg C;have hat:=(C.L2 G hG).2;have mj0:=C.few;rw[hp,Nat.add_zero]at hat mj0;have B:=C.base;refine Fin.head hG hK _ n none X.cap 0 g live T gs w sl q rfl ⟨?_,hG,o7,fun i y hi hy=>?_,hat,trivial,by omega⟩ hg hW (.inr trivial) mj0.1
 ·rw[ke0];exact⟨B.T9,B.free,B.size,B.num,B.stays,B.chans,B.R3,B.inj,B.X3,B.V9,B.L7,B.cut,B.old,B.above,B.cg0,B.aj0,B.dfn.trans hd,by
   have:=B.past;refine this.fewer fun x hx=>?_;rcases hx with⟨e,_⟩|hx
   ·exact .inl ⟨e,hd⟩
   ·exact .inr hx⟩
 ·have:=C.idle i y hi hy;unfold Idle at this;rw[o7 i]at this;unfold C6;obtain⟨_,this⟩:=this;cases e:live i with
  |true=>
   rw[e]at this;simp only[if_true]at this⊢;obtain⟨G',hG',hL⟩:=this;rw[hG]at hG';obtain rfl:=Option.some.inj hG';exact hL
  |false=>
   rw[e]at this;simp only[Bool.false_eq_true,if_false]at this⊢;exact this
end
end
section
attribute [local irreducible] KK
def kg0 (w:World):World:={w with heap:=w.heap.map fun o=>if e4 o then nothing else o}
def X0 (w:World):Gh where
 G1:=fun _=>none
 stay:=fun _=>[]
 L2:=none
 old:=[]
 X3:=fun _=>none
 I7:=fun _=>False
 low:=fun _=>False
 D4:=fun b=>match w.heap[b]? with
  |some o=>if e4 o then .gone o else .all
  |none=>.all
 cap:=0
 pend:=0
 dn:=0
 n:=1
theorem Da0 (w:World) (n:Nat):(X0 w).W8 n :=
 ⟨fun _ _ h=>(by cases h),fun _ _ h=>(by cases h),fun _ h=>h.elim,fun _ h=>h.elim (fun z=>(by cases z)) fun z=>(by cases z),fun _ h=>h.elim⟩
theorem zi0 {w:World} {b:Nat} (h:w.heap.size <=b):(X0 w).D4 b= .all:=by
 show(match w.heap[b]? with|some o=>if e4 o then j6.gone o else .all|none=>.all)=_;rw[Array.getElem?_eq_none h]
theorem Db0 (w:World):I5 (X0 w).D4 (j3 (kg0 w) w.tape w.drawn) w:=by
 refine⟨rfl,rfl,rfl,rfl,by simp[j3,kg0],fun b x hx=>?_,fun b hb=>zi0 (by simpa [j3,kg0]using hb),fun b x hx=>?_⟩
 ·have W3:(w.heap.map fun o=>if e4 o then nothing else o)[b]? =some x:=hx;rw[Array.getElem?_map]at W3;obtain⟨o,ho,rfl⟩:=Option.map_eq_some_iff.1 W3;refine⟨o,ho,?_⟩;show bs0 (match w.heap[b]? with|some o=>if e4 o then j6.gone o else .all|none=>.all) _ _;rw[ho];cases hv:e4 o
  ·simp only[hv,Bool.false_eq_true,if_false];exact .same o
  ·simp only[hv,if_true];exact .gone _ _ _
 ·have W3:(w.heap.map fun o=>if e4 o then nothing else o)[b]? =some x:=hx;rw[Array.getElem?_map]at W3;obtain⟨o,ho,rfl⟩:=Option.map_eq_some_iff.1 W3;cases hv:e4 o
  ·simp[hv]
  ·simp[nothing,e4]
theorem Fin.start {P:Program} {Post:Value->World->Prop} {g:Goroutine} {w:World} (hF:Fin P Post (X0 w) 0 g (kg0 w)):Ends P Post (solo g w) #[]:=by
 rw[solo_eq_crowd];have o7:∀i a,touchAt (#[]:Trace) i=some a->False:=fun i a h=>by simp[touchAt,Trace.act?]at h
 refine hF (fun _=>false) #[] #[g] w none (fun _=>0) rfl ⟨⟨_,Db0 w,fun _ _=>rfl⟩,fun i y hi hy=>?_,rfl,by simp,rfl,fun _ _ h=>(by cases h),fun _ h=>h.elim,fun _ _ h=>(by cases h),fun _ _ _ _ h=>(by cases h),fun _ _ h=>(by cases h),fun _ h=>(by cases h),⟨fun _ h=>h.elim,fun _ h=>h.elim (fun z=>(by cases z)) fun z=>(by cases z)⟩,fun _ h=>(by cases h),fun _ h=>(by cases h),
  fun j hj=>⟨rfl,rfl,rfl,rfl⟩,⟨Nat.le_refl _,by show(0:Nat) <=65536;omega⟩,fun _ h=>(by cases h),fun i hi h=>h.elim (fun z=>absurd rfl z) fun z=>absurd z hi,rfl,⟨fun said=>?_,fun i a h=>(o7 i a h).elim,fun i a h=>(o7 i a h).elim,fun g' z6=>rfl,fun i a g' h=>(o7 i a h).elim⟩⟩
 ·have:i=0:=by
   have:=(Array.getElem?_eq_some_iff.1 hy).1;simp at this;omega
  exact absurd this hi
 ·rintro⟨i,j,_,⟨a,b,ha,_⟩,_⟩;exact o7 i a ha
end
end Go.Yc
end
section
namespace Go.Vy
open Go Go.Conc Go.Yc
inductive Out where
 |val (v:Value)
 |skip
 |enter (f:FuncId) (args:Array Value)
 |panic (v:Value)
def Out.res:Out->World->Result Next
 | .val v,w=>.ok (.value v) w
 | .skip,w=>.ok .skip w
 | .enter f args,w=>.ok (.enter f args) w
 | .panic v,w=>.halt (.panic v) w
def zj0 (P:Program) (S:Sem Next) (u:World) (r:Out) (u':World):Prop :=
 ∀ρ x,I5 ρ u x->V8 u u'/\∃x' es,S.runT P x #[]=(r.res x',es)/\I5 ρ u' x'/\∀e∈es,ew0 u e
structure Does (P:Program) (S:Sem Next) (u:World) (r:Out) (u':World):Prop where
 tape:u'.tape=u.tape
 drawn:u'.drawn=u.drawn
 go:∀τ d,zj0 P S (j3 u τ d) r (j3 u' τ d)
theorem Out.tv0 (r:Out) (w:World):tv0 (r.res w):=by cases r <;> trivial
theorem Jc0 (r:Out) (w w':World):atW (r.res w) w'=r.res w':=by cases r <;> rfl
theorem Az0 (r:Out) (w:World):ex0 (r.res w)=w:=by cases r <;> rfl
theorem ea0 {P:Program} {S:Sem Next} {u u':World} {r:Out} (ht:E1 P S) (hr:S.run P u=r.res u'):zj0 P S u r u':=by
 intro ρ x hs;have h1:(S.runT P u #[]).1=r.res u':=by rw[Sem.runT_eq];exact hr
 have hf:Yc.tv0 (S.runT P u #[]).1:=by rw[h1];exact r.tv0 u'
 obtain⟨⟨x',h2,h3⟩,h4,h5⟩:=B6 ht hs hf;rw[h1,Az0]at h3 h4;rw[h1,Jc0]at h2;exact⟨h4,x',_,h2,h3,fun e he=>(h5 e he).resolve_left (by simp)⟩
theorem Does.A1 {P:Program} {S:Sem Next} {u u':World} {r:Out} (ht:E1 P S) (h1:u'.tape=u.tape) (h2:u'.drawn=u.drawn) (hr:∀τ d,S.run P (j3 u τ d)=r.res (j3 u' τ d)):Does P S u r u':=⟨h1,h2,fun τ d=>ea0 ht (hr τ d)⟩
structure Cl (P:Program) (main:Bool) (Z:Goroutine->World->Prop):Prop where
 own:∀g u,g.status= .running->(∀τ d,∃g' u' d',r5 P main g (j3 u τ d) g' u'/\Z g' (j3 u' u.tape d'))->Z g u
class Ctx (P:Program) where
 main:Bool
 Zs:(Goroutine->World->Prop)->Prop
 cl:∀Z,Zs Z->Cl P main Z
theorem jn0 {P:Program} {Post:Value->World->Prop} {X:Gh} {h:Nat} {g:Goroutine} {u:World} {τ:Tape} {d:Nat} (hF:Fin P Post X h g (j3 u τ d)):Fin P Post X h g u :=
 fun live T gs w sl q hg C=>hF live T gs w sl q hg ⟨C.T9,C.idle,C.free,C.size,C.num,C.stays,C.chans,C.R3,C.inj,C.X3,C.V9,C.L7,C.L2,C.old,C.above,C.few,C.cg0,C.aj0,C.dfn,C.past⟩
theorem am0 (P:Program) (Post:Value->World->Prop) (X:Gh) (h:Nat):Cl P (h==0) (Fin P Post X h) :=
 ⟨fun _ _ hr hs=>Fin.own hr fun τ d=>by
  obtain⟨g',u',d',hF,hZ⟩:=hs τ d;exact⟨g',u',hF,jn0 hZ⟩⟩
section
variable {P:Program}{main:Bool}{Z:Goroutine->World->Prop}
theorem Cl.ctl (hZ:Cl P main Z) {g g':Goroutine} {u:World} (hr:g.status= .running) (hr':g'.status= .running) (hs:∀w,stepG P main g w= .go g' w #[]) (h:Z g' u):Z g u :=
 hZ.own g u hr fun τ d=>⟨g',j3 u τ d,u.drawn,⟨hr',fun ρ w hw=>⟨V8.refl _,w,#[],hs w,hw,fun e he=>by simp at he⟩⟩,h⟩
end
def wn0 (Z:Goroutine->World->Prop) (b:Frame) (k:List Item) (cs:List Frame):Exit->Act->World->Prop
 | .normal,a,w=>Z (G (b.at a k) cs) w
 | .exit id,a,w=>∃k',exitTo id k=some k'/\Z (G (b.at a k') cs) w
 | .goto l,a,w=>∃k',gotoIn l k=some k'/\Z (G (b.at a k') cs) w
 | .ret,a,w=>∀todo,Z (G {b.at a todo with mode:=.returning} cs) w
 | .panic ch,a,w=>∀todo,Z (G {b.at a todo with mode:=.panicking ch} cs) w
 | .outgrown,_,_=>False
theorem wn0.push {Z:Goroutine->World->Prop} {b:Frame} {x:Item} {k:List Item} {cs:List Frame} {e:Exit} {a:Act} {w:World} (hx:x.plain=true) (he:e≠.normal) (h:wn0 Z b k cs e a w):wn0 Z b (x::k) cs e a w:=by
 cases e with
 |normal=>exact absurd rfl he
 |exit id=>obtain⟨k',hk,h⟩:=h;exact⟨k',by cases x <;> simp_all [exitTo,Item.plain],h⟩
 |goto l=>obtain⟨k',hk,h⟩:=h;exact⟨k',by cases x <;> simp_all [gotoIn,Item.plain],h⟩
 |ret=>exact h
 |panic ch=>exact h
 |outgrown=>exact h
def ac0 (P:Program) (fn:Func) (tmps:Array Value) (w:World) (v:Value):Prop:=∀τ d ρ x,I5 ρ (j3 w τ d) x->∃x' es,(results fn tmps).runT P x #[]=(.ok v x',es)/\I5 ρ (j3 w τ d) x'/\∀e∈es,ew0 (j3 w τ d) e
def Leaves (P:Program) (fr:Frame) (w:World):Ending->Prop
 | .returned v=>fr.mode= .returning/\fr.defers=[]/\fr.kind= .normal/\∃fn,P.funcs[fr.fn]? =some fn/\ac0 P fn fr.tmps w v
 | .panicked chain=>fr.mode= .panicking chain/\fr.defers=[]/\fr.catches P=false
 | .outgrown=>False
def Calls (P:Program) [Ctx P] (f:FuncId) (args:Array Value) (w:World) (R:Ending->World->Prop):Prop :=
 ∀Z,Ctx.Zs P Z->∀cs,(∀e w' fr,R e w'->fr.fn=f->Leaves P fr w' e->Z (G fr cs) w')->Z (G (Frame.enter P f args .normal) cs) w
theorem Calls.mono {P:Program} [Ctx P] {f:FuncId} {args:Array Value} {w:World} {R R':Ending->World->Prop} (h:Calls P f args w R) (hr:∀e w',R e w'->R' e w'):Calls P f args w R' :=
 fun Z hZ cs hk=>h Z hZ cs fun e w' fr he hf hl=>hk e w' fr (hr e w' he) hf hl
theorem D9 {P:Program} {main:Bool} {Z:Goroutine->World->Prop} (hZ:Cl P main Z) {fr c:Frame} {cs:List Frame} {w:World} {v:Value} (h:Leaves P fr w (.returned v)) (hk:Z (G (c.finish v) cs) w):Z (G fr (c::cs)) w:=by
 obtain⟨hm,hd,hn,fn,hf,hr⟩:=h;refine hZ.own _ _ rfl fun τ d=>⟨G (c.finish v) cs,j3 w τ d,w.drawn,⟨rfl,fun ρ x hx=>?_⟩,hk⟩
 obtain⟨x',es,g4,W3,hev⟩:=hr τ d ρ x hx;rw[Sem.runT_eq]at g4;obtain⟨h1,h2⟩:=Prod.mk.inj g4;refine⟨V8.refl _,x',seen P fr.fn es ++ #[],?_,W3,fun e he=>?_⟩
 ·simp[G,stepG,unwind,doReturn,hm,hd,hn,hf,h1,h2,GStep.after]
 ·have he':e∈seen P fr.fn es:=by simpa using he
  exact hev e (mem_seen he')
theorem co0 {P:Program} {main:Bool} {Z:Goroutine->World->Prop} (hZ:Cl P main Z) {fr c:Frame} {cs:List Frame} {w:World} {chain:List PanicEntry} (h:Leaves P fr w (.panicked chain)) (hk:Z (G (c.raise chain) cs) w):Z (G fr (c::cs)) w:=by
 obtain⟨hm,hd,hc⟩:=h;exact hZ.ctl rfl rfl (fun w=>by simp[G,stepG,unwind,hm,hd,hc]) hk
section
variable {P:Program}[Ctx P]
def Uf0 (P:Program) [Ctx P] (o:Oper) (a:Act) (next:Act->World->Prop) (Q:Exit->Act->World->Prop) (r:Out) (w:World):Prop:=match r with
 | .val v=>next (a.put o.dst v) w
 | .skip=>next (a.put o.dst undef) w
 | .enter f args=>Calls P f args w fun
  | .returned v,w''=>next (a.put o.dst v) w''
  | .panicked chain,w''=>Q (.panic chain) a w''
  | .outgrown,_=>False
 | .panic v=>Q (.panic [{v,recovered:=false}]) a w
def mr0 (P:Program) [Ctx P] (o:Oper) (a:Act) (w:World) (next:Act->World->Prop) (Q:Exit->Act->World->Prop):Prop :=
 ∀τ d,∃r w',zj0 P (execOp a.eval o) (j3 w τ d) r w'/\Uf0 P o a next Q r (j3 w' w.tape w.drawn)
def wpOps (P:Program) [Ctx P] (ops:Array Oper) (Q:Exit->Act->World->Prop):List Nat->Act->World->Prop
 | [],a,w=>Q .normal a w
 |i::rest,a,w=>match ops[i]? with
  |none=>False
  |some o=>if Region.wanted o (yielded ops a.tmps) then mr0 P o a w (wpOps P ops Q rest) Q else wpOps P ops Q rest (a.put o.dst undef) w
def wpList (P:Program) [Ctx P] (ops:Array Oper) (Q:Exit->Act->World->Prop):List Oper->Act->World->Prop
 | [],a,w=>Q .normal a w
 |o::rest,a,w=>if Region.wanted o (yielded ops a.tmps) then mr0 P o a w (wpList P ops Q rest) Q else wpList P ops Q rest (a.put o.dst undef) w
def cwp (P:Program) [Ctx P] (c:Code) (Q:Exit->Act->World->Prop) (a:Act) (w:World):Prop :=
 ∀Z,Ctx.Zs P Z->∀b k cs,b.kind≠.early->(∀e a' w',Q e a' w'->wn0 Z b k cs e a' w')->Z (G (b.at a (.code c::k)) cs) w
variable {Q Q':Exit->Act->World->Prop}{a:Act}{w:World}{ops:Array Oper}
theorem dl0 {o:Oper} {next next':Act->World->Prop} (hn:∀a w,next a w->next' a w) (hq:∀e a w,Q e a w->Q' e a w) (h:mr0 P o a w next Q):mr0 P o a w next' Q':=by
 intro τ d;obtain⟨r,w',h1,h2⟩:=h τ d;refine⟨r,w',h1,?_⟩;cases r with
 |val v=>exact hn _ _ h2
 |skip=>exact hn _ _ h2
 |enter f args=>exact Calls.mono h2 fun e w'' he=>by cases e <;> first|exact hn _ _ he|exact hq _ _ _ he|exact he
 |panic v=>exact hq _ _ _ h2
theorem Z7 {o:Oper} {next:Act->World->Prop} {r:Out} {w':World} (h:Does P (execOp a.eval o) w r w') (hk:Uf0 P o a next Q r w'):mr0 P o a w next Q:=by
 intro τ d;refine⟨r,j3 w' τ d,h.go τ d,?_⟩;have:j3 (j3 w' τ d) w.tape w.drawn=w':=by rw[<- h.tape,<- h.drawn];rfl
 rw[this];exact hk
theorem wp_ops:∀(l:List Nat) (a:Act) (w:World),wpOps P ops Q l a w->∀Z,Ctx.Zs P Z->∀b k cs,b.kind≠.early->(∀e a' w',Q e a' w'->wn0 Z b k cs e a' w')->Z (G (b.at a (.inRegion ops l::k)) cs) w
 | [],a,w,h,Z,hZ,b,k,cs,hb,hk=>(Ctx.cl Z hZ).ctl rfl rfl (fun w=>stepG_region_end) (hk _ _ _ h)
 |i::rest,a,w,h,Z,hZ,b,k,cs,hb,hk=>by
  unfold wpOps at h;cases ho:ops[i]? with
  |none=>rw[ho]at h;exact h.elim
  |some o=>
   rw[ho]at h;simp only at h;cases hw:Region.wanted o (yielded ops a.tmps)with
   |false=>
    rw[hw]at h;exact(Ctx.cl Z hZ).ctl rfl rfl (fun w=>stepG_unwanted ho hw) (wp_ops rest _ _ h Z hZ b k cs hb hk)
   |true=>
    rw[hw,if_pos rfl]at h;have ch0:∀v,(b.at a (.inRegion ops (i::rest)::k)).finish v=b.at (a.put o.dst v) (.inRegion ops rest::k):=by
     intro v;rw[Frame.finish_at,ho];rfl
    have Dc0:(b.kind==CallKind.early)=false:=by simpa using hb
    refine(Ctx.cl Z hZ).own _ _ rfl fun τ d=>?_;obtain⟨r,w',hr,hK⟩:=h τ d;have fol:∀g',g'.status= .running->(∀x x' es,(execOp a.eval o).runT P x #[]=(r.res x',es)->stepG P (Ctx.main P) (G (b.at a (.inRegion ops (i::rest)::k)) cs) x= .go g' x' (seen P b.fn es))->r5 P (Ctx.main P) (G (b.at a (.inRegion ops (i::rest)::k)) cs) (j3 w τ d) g' w':=by
     intro g' z6 hs;refine⟨z6,fun ρ x hx=>?_⟩;obtain⟨h1,x',es,h2,h3,h4⟩:=hr ρ x hx;exact⟨h1,x',_,hs x x' es h2,h3,fun e he=>h4 e (mem_seen he)⟩
    have split:∀x x' es,(execOp a.eval o).runT P x #[]=(r.res x',es)->(execOp a.eval o).run P x=r.res x'/\(execOp a.eval o).events P x #[]=es:=fun x x' es h=>by
     rw[Sem.runT_eq]at h;exact Prod.mk.inj h
    cases r with
    |val v=>
     refine⟨G (b.at (a.put o.dst v) (.inRegion ops rest::k)) cs,w',w.drawn,fol _ rfl fun x x' es h=>?_,wp_ops rest _ _ hK Z hZ b k cs hb hk⟩;obtain⟨h1,h2⟩:=split x x' es h;rw[stepG_value ho hw hb h1,listed,h2]
    |skip=>
     refine⟨G (b.at (a.put o.dst undef) (.inRegion ops rest::k)) cs,w',w.drawn,fol _ rfl fun x x' es h=>?_,wp_ops rest _ _ hK Z hZ b k cs hb hk⟩;obtain⟨h1,h2⟩:=split x x' es h;rw[stepG_none ho hw hb h1,listed,h2]
    |enter f args=>
     refine⟨G (Frame.enter P f args .normal) (b.at a (.inRegion ops (i::rest)::k)::cs),w',w.drawn,fol _ rfl fun x x' es h=>?_,hK Z hZ _ fun e w'' fr he hf hl=>?_⟩
     ·obtain⟨h1,h2⟩:=split x x' es h;rw[stepG_enter ho hw hb h1,listed,h2]
     ·cases e with
      |returned v=>
       refine U576 ?_;exact wp_ops rest _ _ he Z hZ b k cs hb hk
      |panicked chain=>
       refine U561 ?_;exact hk _ _ _ he _
      |outgrown=>exact he.elim
    |panic v=>
     refine⟨G {b.at a (.inRegion ops (i::rest)::k)with mode:=.panicking [{v,recovered:=false}]} cs,w',w.drawn,fol _ rfl fun x x' es h=>?_,hk _ _ _ hK _⟩;obtain⟨h1,h2⟩:=split x x' es h;have h1':(execOp a.eval o).run P x= .halt (.panic v) x':=h1;rw[stepG_oper ho hw];simp[stepG.apply,h1',h2,G,Frame.at,Dc0,GStep.after,Frame.raise]
theorem wp_mono {c:Code} (h:cwp P c Q a w) (hq:∀e a w,Q e a w->Q' e a w):cwp P c Q' a w:=fun Z hZ b k cs hb hk=>h Z hZ b k cs hb fun e a' w' he=>hk e a' w' (hq e a' w' he)
theorem wp_skip (h:Q .normal a w):cwp P .skip Q a w:=fun Z hZ _b _k _cs _hb hk=>(Ctx.cl Z hZ).ctl rfl rfl (fun _=>stepG_skip) (hk _ _ _ h)
theorem wp_exit {id:Nat} (h:Q (.exit id) a w):cwp P (.exit id) Q a w:=fun Z hZ b k cs hb hk=>by
 obtain⟨k',h1,h2⟩:=hk _ _ _ h;exact(Ctx.cl Z hZ).ctl rfl rfl (fun _=>stepG_exit h1) h2
theorem wp_ret (h:Q .ret a w):cwp P .ret Q a w:=fun Z hZ _b _k _cs _hb hk=>(Ctx.cl Z hZ).ctl rfl rfl (fun _=>stepG_ret') (hk _ _ _ h _)
theorem wp_seq {x y:Code} (h:cwp P x (Exit.then (cwp P y Q) Q) a w):cwp P (.seq x y) Q a w:=by
 intro Z hZ b k cs hb hk;refine(Ctx.cl Z hZ).ctl rfl rfl (fun _=>stepG_seq) (h Z hZ b (.code y::k) cs hb fun e a' w' he=>?_);cases e with
 |normal=>exact he Z hZ b k cs hb hk
 |exit id=>exact(hk _ _ _ he).push rfl (by simp)
 |goto l=>exact(hk _ _ _ he).push rfl (by simp)
 |ret=>exact(hk _ _ _ he).push rfl (by simp)
 |panic ch=>exact(hk _ _ _ he).push rfl (by simp)
 |outgrown=>exact(hk _ _ _ he).push rfl (by simp)
theorem wp_cond {c:Operand} {x y:Code} {t:Bool} (hc:a.eval c= .bool t) (h:cwp P (if t then x else y) Q a w):cwp P (.cond c x y) Q a w :=
 fun Z hZ b k cs hb hk=>(Ctx.cl Z hZ).ctl rfl rfl (fun _=>stepG_cond hc) (h Z hZ b k cs hb hk)
theorem wp_cond_true {c:Operand} {x y:Code} (hc:a.eval c= .bool true) (h:cwp P x Q a w):cwp P (.cond c x y) Q a w:=wp_cond hc h
theorem wp_cond_false {c:Operand} {x y:Code} (hc:a.eval c= .bool false) (h:cwp P y Q a w):cwp P (.cond c x y) Q a w:=wp_cond hc h
theorem wp_block {id:Nat} {c:Code} (h:cwp P c (Exit.inBlock id Q) a w):cwp P (.block id c) Q a w:=by
 intro Z hZ b k cs hb hk;refine(Ctx.cl Z hZ).ctl rfl rfl (fun _=>stepG_block) (h Z hZ b (.inBlock id::k) cs hb fun e a' w' he=>?_);cases e with
 |normal=>exact(Ctx.cl Z hZ).ctl rfl rfl (fun _=>stepG_inBlock) (hk _ _ _ he)
 |exit id'=>
  by_cases X3:id'=id
  ·simp only[Exit.inBlock,X3,if_true]at he;exact⟨k,by simp[exitTo,X3],hk _ _ _ he⟩
  ·simp only[Exit.inBlock,X3,if_false]at he;obtain⟨k',h1,h2⟩:=hk _ _ _ he;have:(id==id')=false:=by simp;exact fun h=>X3 h.symm
   exact⟨k',by simp[exitTo,this,h1],h2⟩
 |goto l=>
  obtain⟨k',h1,h2⟩:=hk _ _ _ he;exact⟨k',by simp[gotoIn,h1],h2⟩
 |ret=>exact hk _ _ _ he
 |panic ch=>exact hk _ _ _ he
 |outgrown=>exact hk _ _ _ he
theorem wp_loop_ghost {c:Code} (I:Nat->Act->World->Prop) (k₀:Nat) (h₀:I k₀ a w) (round:∀n a w,I n a w->cwp P c (Exit.then (fun a' w'=>∃n',n'<n/\I n' a' w') Q) a w):cwp P (.loop c) Q a w:=by
 intro Z hZ b k cs hb hk;have key:∀n a w,I n a w->Z (G (b.at a (.code c :: .inLoop c::k)) cs) w:=by
  intro n
  induction n using Nat.strongRecOn with
  |_ n ih=>
   intro a w hI;refine round n a w hI Z hZ b (.inLoop c::k) cs hb fun e a' w' he=>?_;cases e with
   |normal=>
    obtain⟨n',hn,hI'⟩:=he;exact(Ctx.cl Z hZ).ctl rfl rfl (fun _=>stepG_inLoop) (ih n' hn a' w' hI')
   |exit id=>exact(hk _ _ _ he).push rfl (by simp)
   |goto l=>exact(hk _ _ _ he).push rfl (by simp)
   |ret=>exact(hk _ _ _ he).push rfl (by simp)
   |panic ch=>exact(hk _ _ _ he).push rfl (by simp)
   |outgrown=>exact(hk _ _ _ he).push rfl (by simp)
 exact(Ctx.cl Z hZ).ctl rfl rfl (fun _=>stepG_loop) (key k₀ a w h₀)
theorem kh0 (pre:List Oper):∀(l:List Oper) (a:Act) (w:World),wpList P (pre++l).toArray Q l a w->wpOps P (pre++l).toArray Q ((List.range l.length).map (pre.length + ·)) a w
 | [],_,_,h=>h
 |o::l,a,w,h=>by
  have h0:(pre++o::l).toArray[pre.length]? =some o:=by simp
  have e:(List.range (o::l).length).map (pre.length + ·)=pre.length::(List.range l.length).map ((pre ++ [o]).length + ·):=by
   simp[List.range_succ_eq_map,List.map_map];intro x _;omega
  rw[e];unfold wpOps;rw[h0];simp only;unfold wpList at h;have key:∀a w,wpList P (pre++o::l).toArray Q l a w->wpOps P (pre++o::l).toArray Q ((List.range l.length).map ((pre ++ [o]).length + ·)) a w:=fun a w hh=>by
   have:=kh0 (pre ++ [o]) l a w;rw[List.append_assoc]at this;exact this hh
  split
  ·rename_i hw;rw[if_pos hw]at h;exact dl0 key (fun _ _ _ z=>z) h
  ·rename_i hw;rw[if_neg hw]at h;exact key _ _ h
theorem wp_region_lit {id:Nat} {l:List Oper} (h:wpList P l.toArray Q l a w):cwp P (.region id l.toArray false) Q a w:=by
 intro Z hZ b k cs hb hk;refine(Ctx.cl Z hZ).ctl rfl rfl (fun _=>stepG_region) (wp_ops _ _ _ ?_ Z hZ b k cs hb hk);have:=kh0 (P:=P) (Q:=Q) [] l a w;simp only[List.nil_append,List.length_nil,Nat.zero_add,List.map_id']at this;simpa using this h
theorem wp_region_draw {id:Nat} (h:∀t,wpOps P ops Q (Region.schedule (P.follows .mixedOrders) ops t) a {w with drawn:=w.drawn+1}):cwp P (.region id ops true) Q a w:=by
 intro Z hZ b k cs hb hk;refine(Ctx.cl Z hZ).own _ _ rfl fun τ d=>?_;refine⟨G (b.at a (.inRegion ops (Region.schedule (P.follows .mixedOrders) ops (τ d (.order b.fn id)))::k)) cs,{j3 w τ d with drawn:=d+1},w.drawn+1,⟨rfl,fun ρ x hx=>⟨⟨Nat.le_refl _,fun _ o ho=>⟨o,ho,N3.refl o⟩⟩,{x with drawn:=x.drawn+1},#[],?_,?_,fun e he=>by simp at he⟩⟩,wp_ops _ _ _ (h _) Z hZ b k cs hb hk⟩
 ·rw[stepG_region_draw,hx.tape,hx.drawn];rfl
 ·exact⟨hx.os,hx.output,hx.tape,by show x.drawn+1=d+1;rw[hx.drawn];rfl,hx.size,hx.obj,hx.new,hx.A6⟩
def bodyPost (P:Program) [Ctx P] (fn:Func) (R:Ending->World->Prop):Exit->Act->World->Prop
 | .normal,a,w| .ret,a,w=>a.defers=[]/\∃v,ac0 P fn a.tmps w v/\R (.returned v) w
 | .panic chain,a,w=>a.defers=[]/\R (.panicked chain) w
 |_,_,_=>False
theorem calls_of_wp {f:FuncId} {fn:Func} {c:Code} {args:Array Value} {R:Ending->World->Prop} (hf:P.funcs[f]? =some fn) (hb:fn.body=some c)
  (h:cwp P c (bodyPost P fn R) {tmps:=args++Array.replicate (fn.ntmps-args.size) undef,defers:=[]} w):Calls P f args w R:=by
 intro Z hZ cs hk;rw[enter_at args hf hb];refine h Z hZ (base f) [] cs (by simp[base]) fun e a' w' he=>?_;have an0:∀a' w' todo,(a'.defers=[]/\∃v,ac0 P fn a'.tmps w' v/\R (.returned v) w')->Z (G {(base f).at a' todo with mode:=.returning} cs) w':=fun a' w' todo ⟨hd,v,hr,hR⟩=>
  hk _ _ _ hR rfl ⟨rfl,hd,rfl,fn,hf,hr⟩
 cases e with
 |normal=>exact(Ctx.cl Z hZ).ctl rfl rfl (fun _=>stepG_end) (an0 a' w' [] he)
 |ret=>exact fun todo=>an0 a' w' todo he
 |panic chain=>exact fun todo=>hk _ _ _ he.2 rfl ⟨rfl,he.1,by simp[Frame.catches,Frame.at,base,hf]⟩
 |exit id=>exact he.elim
 |goto l=>exact he.elim
 |outgrown=>exact he.elim
end
end Go.Vy
end
section
namespace Go.Yc
open Go
section
theorem S1 {α:Type} {P:Program} (a:α):E1 P (pure a:Sem α):=trivial
theorem N1 {α β:Type} {P:Program} {s:Sem α} {f:α->Sem β} (h:E1 P s) (hf:∀a,E1 P (f a)):E1 P (s >>=f):=g6 hf h
theorem Mr0 {α β:Type} {P:Program} {s:Sem α} {f:α->β} (h:E1 P s):E1 P (f <$> s):=g6 (f:=fun a=>pure (f a)) (fun _=>trivial) h
theorem j4 {α:Type} {P:Program} (h:Halt):E1 P (.halt h:Sem α):=trivial
theorem Dd0 {P:Program} (a:Addr) (m:Mode):E1 P (load a m):=fun _=>trivial
theorem sj0 {P:Program} (a:Addr) (v:Value) (m:Mode):E1 P (store a v m):=trivial
theorem Ms0 {P:Program} {o:Obj} (h:e4 o=false):E1 P (newObj o):=⟨h,fun _=>trivial⟩
theorem fd0 {P:Program} (q:Question):E1 P (choose q):=fun _=>trivial
theorem gp0 {P:Program}:E1 P program:=trivial
theorem uf0 {P:Program} (r:Nat):E1 P (getObj r):=fun _=>trivial
theorem sk0 {α:Type} {P:Program} (s:String):E1 P (stuck s:Sem α):=trivial
theorem ec0 {α:Type} {P:Program} (s:Unsupported):E1 P (unsupported s:Sem α):=trivial
theorem pa0 {P:Program} (n:Nat):E1 P (askRoom n):=by
 unfold askRoom;split
 ·show(if wi0 Mark.noRoom=true then E1 P (Sem.pure ()) else dead P (Sem.pure ()));exact trivial
 ·trivial
theorem De0 {α β:Type} {P:Program} {f:α->Sem β} (hf:∀a,E1 P (f a)):∀(l:List α),E1 P (l.mapM f)
 | []=>by rw[List.mapM_nil];trivial
 |x::l=>by
  rw[List.mapM_cons];exact N1 (hf x) fun _=>N1 (De0 hf l) fun _=>trivial
theorem k2 {α β:Type} {P:Program} {f:α->Sem β} (hf:∀a,E1 P (f a)) (l:Array α):E1 P (l.mapM f):=by
 rw[Array.mapM_eq_mapM_toList];exact Mr0 (De0 hf _)
attribute [local irreducible] E1 dead
theorem E9 {P:Program} (t:TypeId):E1 P (typeInfo t):=by
 unfold typeInfo
 repeat' (first|exact S1 _|exact j4 _|exact gp0|(refine N1 ?_ (fun _=>?_))|(refine k2 (fun _=>?_) _)|split|(dsimp only))
theorem Z2 {P:Program} (t:TypeId):E1 P (underlying t):=by
 unfold underlying
 repeat' (first|exact S1 _|exact j4 _|exact gp0|(refine N1 ?_ (fun _=>?_))|(refine k2 (fun _=>?_) _)|split|(dsimp only))
theorem z8 {P:Program} (t:TypeId):E1 P (zeroValue t):=by
 unfold zeroValue
 repeat' (first|exact S1 _|exact j4 _|exact E9 _|(refine N1 ?_ (fun _=>?_))|(refine k2 (fun _=>?_) _)|split|(dsimp only))
theorem D6 {P:Program} (t:TypeId):E1 P (sizeOf t):=by
 unfold sizeOf
 repeat' (first|exact S1 _|exact E9 _|(refine N1 ?_ (fun _=>?_))|(refine k2 (fun _=>?_) _)|split|(dsimp only))
theorem zk0 {P:Program} (t:TypeId):E1 P (isAgg t):=by
 unfold isAgg
 repeat' (first|exact S1 _|exact Z2 _|(refine N1 ?_ (fun _=>?_))|(refine k2 (fun _=>?_) _)|split|(dsimp only))
theorem ca0 {P:Program} (a:Addr):∀(n i:Nat) (acc:Array Value),E1 P (loadCellsFrom a i n acc)
 |0,_,_=>by unfold loadCellsFrom;exact S1 _
 |n+1,i,acc=>by
  unfold loadCellsFrom;exact N1 (Dd0 _ _) fun _=>ca0 a n _ _
theorem ih0 {P:Program} (a:Addr) (n:Nat):E1 P (loadCells a n):=by
 unfold loadCells
 repeat' (first|exact ca0 _ _ _ _|(refine N1 ?_ (fun _=>?_))|(refine k2 (fun _=>?_) _)|split|(dsimp only))
theorem Z8 {P:Program} (a:Addr):∀(vs:List Value) (i:Nat),E1 P (storeCells a vs i)
 | [],_=>by unfold storeCells;exact S1 _
 |v::vs,i=>by
  unfold storeCells;exact N1 (sj0 _ _ _) fun _=>Z8 a vs _
theorem pb0 {P:Program} (t:TypeId) (a:Addr):E1 P (loadVar t a):=by
 unfold loadVar
 repeat' (first|exact S1 _|exact ih0 _ _|exact zk0 _|exact D6 _|exact Dd0 _ _|(refine N1 ?_ (fun _=>?_))|(refine k2 (fun _=>?_) _)|split|(dsimp only))
theorem ki0 {P:Program} (t:TypeId) (a:Addr) (v:Value):E1 P (storeVar t a v):=by
 unfold storeVar
 repeat' (first|exact j4 _|exact Z8 _ _ _|exact D6 _|(refine N1 ?_ (fun _=>?_))|(refine k2 (fun _=>?_) _)|split|(dsimp only))
theorem fe0 {P:Program} (t:TypeId) (c:Array Value):E1 P (newRow t c):=by
 unfold newRow
 repeat' (first|exact S1 _|exact Ms0 rfl|(refine N1 ?_ (fun _=>?_))|(refine k2 (fun _=>?_) _)|split|(dsimp only))
theorem kj0 {P:Program} (t:TypeId) (v:Value):E1 P (newVar t v):=by
 unfold newVar
 repeat' (first|exact fe0 _ _|(refine N1 ?_ (fun _=>?_))|(refine k2 (fun _=>?_) _)|split|(dsimp only))
theorem Df0 {P:Program} (t:TypeId):E1 P (elemOf t):=by
 unfold elemOf
 repeat' (first|exact S1 _|exact j4 _|exact Z2 _|(refine N1 ?_ (fun _=>?_))|(refine k2 (fun _=>?_) _)|split|(dsimp only))
theorem Ov0 {P:Program} (t:TypeId) (c:Array Value) (o:Nat):E1 P (part t c o):=by
 unfold part
 repeat' (first|exact S1 _|exact j4 _|exact zk0 _|exact D6 _|(refine N1 ?_ (fun _=>?_))|(refine k2 (fun _=>?_) _)|split|(dsimp only))
theorem e5 {α:Type} {P:Program} (e:RuntimeError):E1 P (runtimePanic e:Sem α):=by
 unfold runtimePanic
 repeat' (first|exact j4 _|exact Df0 _|exact kj0 _ _|exact gp0|(refine N1 ?_ (fun _=>?_))|(refine k2 (fun _=>?_) _)|split|(dsimp only))
theorem ed0 {α:Type} {P:Program} (k:IntKind) (x y:Int) (c:BoundsCode):E1 P (boundsPanic k x y c:Sem α):=by
 unfold boundsPanic
 repeat' (first|exact S1 _|exact Mr0 (fd0 _)|exact e5 _|exact fd0 _|(refine N1 ?_ (fun _=>?_))|(refine k2 (fun _=>?_) _)|split|(dsimp only))
theorem gq0 {P:Program} (v:Value):E1 P (asIntOf v):=by
 unfold asIntOf
 repeat' (first|exact S1 _|exact j4 _|(refine N1 ?_ (fun _=>?_))|(refine k2 (fun _=>?_) _)|split|(dsimp only))
theorem sl0 {P:Program} (v:Value):E1 P (asInt v):=by
 unfold asInt
 repeat' (first|exact S1 _|exact gq0 _|(refine N1 ?_ (fun _=>?_))|(refine k2 (fun _=>?_) _)|split|(dsimp only))
theorem Dg0 {P:Program} (v:Value):E1 P (asBool v):=by
 unfold asBool
 repeat' (first|exact S1 _|exact j4 _|(refine N1 ?_ (fun _=>?_))|(refine k2 (fun _=>?_) _)|split|(dsimp only))
theorem Jd0 {P:Program} (v:Value):E1 P (asAgg v):=by
 unfold asAgg
 repeat' (first|exact S1 _|exact j4 _|(refine N1 ?_ (fun _=>?_))|(refine k2 (fun _=>?_) _)|split|(dsimp only))
theorem ff0 {P:Program} (v:Value):E1 P (asAddr v):=by
 unfold asAddr
 repeat' (first|exact S1 _|exact j4 _|exact e5 _|(refine N1 ?_ (fun _=>?_))|(refine k2 (fun _=>?_) _)|split|(dsimp only))
theorem Je0 {P:Program} (t:TypeId) (h:Bool) (o:Value):E1 P (Instr.alloc t h o):=by
 unfold Instr.alloc
 repeat' (first|exact S1 _|exact kj0 _ _|exact ki0 _ _ _|exact z8 _|(refine N1 ?_ (fun _=>?_))|(refine k2 (fun _=>?_) _)|split|(dsimp only))
theorem Uh0 {P:Program} (t:TypeId) (v:Value):E1 P (Instr.box t v):=by
 unfold Instr.box
 repeat' (first|exact S1 _|exact kj0 _ _|(refine N1 ?_ (fun _=>?_))|(refine k2 (fun _=>?_) _)|split|(dsimp only))
theorem Jf0 {P:Program} (t:TypeId) (p:Array (Nat×Value)):E1 P (Instr.build t p):=by
 unfold Instr.build
 repeat' (first|exact S1 _|exact j4 _|exact D6 _|exact z8 _|exact Z2 _|(refine N1 ?_ (fun _=>?_))|(refine k2 (fun _=>?_) _)|split|(dsimp only))
theorem sm0 {P:Program} (t:TypeId) (n:Nat) (p:Array (Nat×Value)):E1 P (Instr.buildSlice t n p):=by
 unfold Instr.buildSlice
 repeat' (first|exact S1 _|exact j4 _|exact fe0 _ _|exact D6 _|exact z8 _|exact Z2 _|(refine N1 ?_ (fun _=>?_))|(refine k2 (fun _=>?_) _)|split|(dsimp only))
theorem F9 {P:Program} (v:Value):E1 P (Instr.sureAddr v):=by
 unfold Instr.sureAddr
 repeat' (first|exact S1 _|exact j4 _|(refine N1 ?_ (fun _=>?_))|(refine k2 (fun _=>?_) _)|split|(dsimp only))
theorem Dh0 {P:Program} (t:TypeId) (v:Value):E1 P (Instr.loadAt t v):=by
 unfold Instr.loadAt
 repeat' (first|exact F9 _|exact pb0 _ _|(refine N1 ?_ (fun _=>?_))|(refine k2 (fun _=>?_) _)|split|(dsimp only))
theorem Ba0 {P:Program} (t:TypeId) (v x:Value):E1 P (Instr.storeAt t v x):=by
 unfold Instr.storeAt
 repeat' (first|exact F9 _|exact ki0 _ _ _|(refine N1 ?_ (fun _=>?_))|(refine k2 (fun _=>?_) _)|split|(dsimp only))
theorem Bb0 {P:Program} (t:TypeId) (v x:Value):E1 P (Instr.indexAt t v x):=by
 unfold Instr.indexAt
 repeat' (first|exact S1 _|exact j4 _|exact F9 _|exact gq0 _|exact ed0 _ _ _ _|exact D6 _|exact Z2 _|(refine N1 ?_ (fun _=>?_))|(refine k2 (fun _=>?_) _)|split|(dsimp only))
theorem Bc0 {P:Program} (v:Value) (n:Nat):E1 P (Instr.extract v n):=by
 unfold Instr.extract
 repeat' (first|exact S1 _|exact j4 _|(refine N1 ?_ (fun _=>?_))|(refine k2 (fun _=>?_) _)|split|(dsimp only))
theorem Jg0 {P:Program} (t:TypeId) (v:Value) (n:Nat):E1 P (Instr.field t v n):=by
 unfold Instr.field
 repeat' (first|exact j4 _|exact Jd0 _|exact Ov0 _ _ _|exact Z2 _|(refine N1 ?_ (fun _=>?_))|(refine k2 (fun _=>?_) _)|split|(dsimp only))
theorem jb0 {P:Program} (t:TypeId) (v:Value):E1 P (Instr.makeInterface t v):=by
 unfold Instr.makeInterface
 repeat' (first|exact S1 _|exact j4 _|exact Z2 _|(refine N1 ?_ (fun _=>?_))|(refine k2 (fun _=>?_) _)|split|(dsimp only))
theorem ug0 {P:Program} (t:TypeId) (a b:Value):E1 P (Instr.makeSlice t a b):=by
 unfold Instr.makeSlice
 repeat' (first|exact S1 _|exact j4 _|exact sl0 _|exact e5 _|exact fe0 _ _|exact D6 _|exact z8 _|exact Z2 _|exact E9 _|exact pa0 _|exact fd0 _|(refine N1 ?_ (fun _=>?_))|(refine k2 (fun _=>?_) _)|split|(dsimp only))
theorem wo0 {P:Program} (t:TypeId) (a:Value):E1 P (Instr.makeChan t a):=by
 unfold Instr.makeChan
 repeat' (first|exact S1 _|exact j4 _|exact sl0 _|exact e5 _|exact Z2 _|exact E9 _|exact Ms0 rfl|(refine N1 ?_ (fun _=>?_))|(refine k2 (fun _=>?_) _)|split|(dsimp only))
theorem sn0 {P:Program} (x:Value) (y:Nat) (c:BoundsCode):E1 P (Instr.sliceBound x y c):=by
 unfold Instr.sliceBound
 repeat' (first|exact S1 _|exact gq0 _|exact ed0 _ _ _ _|(refine N1 ?_ (fun _=>?_))|(refine k2 (fun _=>?_) _)|split|(dsimp only))
theorem ee0 {P:Program} (b:Bool) (l c:Nat) (x y z:Option Value):E1 P (Instr.sliceBounds b l c x y z):=by
 unfold Instr.sliceBounds
 repeat' (first|exact S1 _|exact j4 _|exact sn0 _ _ _|(refine N1 ?_ (fun _=>?_))|(refine k2 (fun _=>?_) _)|split|(dsimp only))
theorem Jh0 {P:Program} (t:TypeId) (v:Value) (x y z:Option Value):E1 P (Instr.slice t v x y z):=by
 unfold Instr.slice
 repeat' (first|exact S1 _|exact j4 _|exact ee0 _ _ _ _ _ _|exact ff0 _|exact D6 _|exact Z2 _|(refine N1 ?_ (fun _=>?_))|(refine k2 (fun _=>?_) _)|split|(dsimp only))
theorem Bd0 {P:Program} (t:TypeId) (v:Value) (x y z:Option Value):E1 P (Instr.sliceAt t v x y z):=by
 unfold Instr.sliceAt
 repeat' (first|exact S1 _|exact Jh0 _ _ _ _ _|exact ee0 _ _ _ _ _ _|exact F9 _|exact D6 _|exact Z2 _|(refine N1 ?_ (fun _=>?_))|(refine k2 (fun _=>?_) _)|split|(dsimp only))
theorem Ji0 {P:Program} (o:UnOp) (x:Value):E1 P (Op.unary o x):=by
 unfold Op.unary
 repeat' (first|exact S1 _|exact j4 _|(refine N1 ?_ (fun _=>?_))|(refine k2 (fun _=>?_) _)|split|(dsimp only))
theorem zl0 {P:Program} (x:Value):E1 P (Builtin.lenOf x):=by
 unfold Builtin.lenOf
 repeat' (first|exact S1 _|exact j4 _|(refine N1 ?_ (fun _=>?_))|(refine k2 (fun _=>?_) _)|split|(dsimp only))
theorem fg0 {P:Program} (s n:Nat) (x:Value):E1 P (Builtin.firstCells s n x):=by
 unfold Builtin.firstCells
 repeat' (first|exact S1 _|exact j4 _|exact ih0 _ _|(refine N1 ?_ (fun _=>?_))|(refine k2 (fun _=>?_) _)|split|(dsimp only))
theorem Ui0 {P:Program} (a:Array TypeId) (t:TypeId) (x:Array Value):E1 P (Builtin.len_ a t x):=by
 unfold Builtin.len_
 repeat' (first|exact S1 _|exact j4 _|exact Z2 _|exact uf0 _|(refine N1 ?_ (fun _=>?_))|(refine k2 (fun _=>?_) _)|split|(dsimp only))
theorem Uj0 {P:Program} (a:Array TypeId) (t:TypeId) (x:Array Value):E1 P (Builtin.cap_ a t x):=by
 unfold Builtin.cap_
 repeat' (first|exact S1 _|exact j4 _|exact Z2 _|exact uf0 _|(refine N1 ?_ (fun _=>?_))|(refine k2 (fun _=>?_) _)|split|(dsimp only))
theorem Ow0 {P:Program} (a:Array TypeId) (t:TypeId) (x:Array Value):E1 P (Builtin.copy_ a t x):=by
 unfold Builtin.copy_
 repeat' (first|exact S1 _|exact j4 _|exact fg0 _ _ _|exact zl0 _|exact Z8 _ _ _|exact D6 _|exact Z2 _|(refine N1 ?_ (fun _=>?_))|(refine k2 (fun _=>?_) _)|split|(dsimp only))
end
end Go.Yc
end
section
namespace Go.Vc
open Go
abbrev Env:=Nat->Value
def upd (e:Env) (d:Nat) (v:Value):Env:=fun t=>if t=d then v else e t
def Y2 (e:Env) (d:Option Nat) (v:Value):Env:=match d with|some d=>upd e d v|none=>e
def ev (e:Env) (x:Operand):Value:=match x with
 | .tmp t=>e t
 | .const v=>v
 | .global g=>.pointer (some ⟨g,0,none⟩)
 | .func f=>.func (.func f) #[] #[]
theorem upd_same (e:Env) (d:Nat) (v:Value):upd e d v d=v:=if_pos rfl
theorem upd_ne (e:Env) {d t:Nat} (v:Value) (h:t≠d):upd e d v t=e t:=if_neg h
theorem V2 {e:Env} {t:Nat} {v:Value} (h:e t=v):e=upd e t v:=by
 funext s;unfold upd;split
 ·rename_i hs;rw[hs,h]
 ·rfl
structure G9 (n:Nat) (a:Act) (e:Env):Prop where
 size:a.tmps.size=n
 defers:a.defers=[]
 get:∀t,a.tmps.getD t undef=e t
theorem G9.eval {n:Nat} {a:Act} {e:Env} (h:G9 n a e):a.eval=ev e:=by
 funext x;cases x <;> simp[Act.eval,ev,h.get]
def Y3 (n:Nat) (d:Option Nat):Bool:=match d with|some d=>Nat.blt d n|none=>true
theorem G9.put {n:Nat} {a:Act} {e:Env} (h:G9 n a e) {d:Option Nat} (hd:Y3 n d=true) (v:Value):G9 n (a.put d v) (Y2 e d v):=by
 cases d with
 |none=>exact h
 |some d=>
  have J5:d<n:=by simpa [Y3,Nat.blt_eq]using hd
  refine⟨by simp[Act.put,h.size],by simp[Act.put,h.defers],fun t=>?_⟩;have hg:=h.get t;simp only[Act.put,Y2,upd,Array.getD_eq_getD_getElem?,Array.getElem?_setIfInBounds]at hg⊢;by_cases htd:t=d
  ·subst htd;simp[h.size,J5]
  ·simp only[htd,if_false,Ne.symm htd];exact hg
def lift (n:Nat) (Q:Exit->Env->World->Prop):Exit->Act->World->Prop:=fun x a w=>∃e,G9 n a e/\Q x e w
def W (P:Program) (n:Nat) (c:Code) (Q:Exit->Env->World->Prop) (e:Env) (w:World):Prop :=
 ∀a,G9 n a e->c.wp P (lift n Q) a w
def y7 (next:Env->World->Prop) (Q:Exit->Env->World->Prop):Exit->Env->World->Prop
 | .normal,e,w=>next e w
 |x,e,w=>Q x e w
def E6 (id:Nat) (Q:Exit->Env->World->Prop):Exit->Env->World->Prop
 | .exit id',e,w=>if id'=id then Q .normal e w else Q (.exit id') e w
 |x,e,w=>Q x e w
section
variable {P:Program}{n:Nat}{Q Q':Exit->Env->World->Prop}{e:Env}{w:World}
theorem W.mono {c:Code} (hq:∀x e w,Q x e w->Q' x e w) (h:W P n c Q e w):W P n c Q' e w :=
 fun a ha=>wp_mono (h a ha) fun x _ _ ⟨e',r,q⟩=>⟨e',r,hq x _ _ q⟩
theorem W.seq {x y:Code} (h:W P n x (y7 (W P n y Q) Q) e w):W P n (.seq x y) Q e w:=by
 intro a ha;refine wp_seq (wp_mono (h a ha) ?_);rintro ex a' w' ⟨e',r,q⟩;cases ex with
 |normal=>exact q a' r
 |exit id=>exact⟨e',r,q⟩
 |goto l=>exact⟨e',r,q⟩
 |ret=>exact⟨e',r,q⟩
 |panic ch=>exact⟨e',r,q⟩
 |outgrown=>exact⟨e',r,q⟩
theorem W.skip (h:Q .normal e w):W P n .skip Q e w:=fun _ ha=>wp_skip ⟨e,ha,h⟩
theorem W.exit {id:Nat} (h:Q (.exit id) e w):W P n (.exit id) Q e w:=fun _ ha=>wp_exit ⟨e,ha,h⟩
theorem W.ret (h:Q .ret e w):W P n .ret Q e w:=fun _ ha=>wp_ret ⟨e,ha,h⟩
theorem W.cond {c:Operand} {x y:Code} {b:Bool} (hc:ev e c= .bool b) (ht:b=true->W P n x Q e w) (hf:b=false->W P n y Q e w) :
  W P n (.cond c x y) Q e w:=by
 intro a ha;have w6:a.eval c= .bool b:=by rw[ha.eval];exact hc
 cases b
 ·exact wp_cond_false w6 (hf rfl a ha)
 ·exact wp_cond_true w6 (ht rfl a ha)
theorem W.J4 {c:Operand} {x y:Code} (hc:ev e c= .bool true) (ht:W P n x Q e w):W P n (.cond c x y) Q e w :=
 W.cond hc (fun _=>ht) (fun h=>by cases h)
theorem W.v5 {c:Operand} {x y:Code} (hc:ev e c= .bool false) (hf:W P n y Q e w):W P n (.cond c x y) Q e w :=
 W.cond hc (fun h=>by cases h) (fun _=>hf)
theorem W.block {id:Nat} {c:Code} (h:W P n c (E6 id Q) e w):W P n (.block id c) Q e w:=by
 intro a ha;refine wp_block (wp_mono (h a ha) ?_);rintro ex a' w' ⟨e',r,q⟩;cases ex with
 |normal=>exact⟨e',r,q⟩
 |exit id'=>
  simp only[E6]at q;simp only[Exit.inBlock];split
  ·rename_i h;rw[if_pos h]at q;exact⟨e',r,q⟩
  ·rename_i h;rw[if_neg h]at q;exact⟨e',r,q⟩
 |goto l=>exact⟨e',r,q⟩
 |ret=>exact⟨e',r,q⟩
 |panic ch=>exact⟨e',r,q⟩
 |outgrown=>exact⟨e',r,q⟩
theorem W.loop {c:Code} (I:Nat->Env->World->Prop) (k₀:Nat) (h₀:I k₀ e w)
  (round:∀k e w,I k e w->W P n c (y7 (fun e' w'=>∃k',k'<k/\I k' e' w') Q) e w):W P n (.loop c) Q e w:=by
 intro a ha;refine wp_loop_ghost (fun k a w=>∃e,G9 n a e/\I k e w) k₀ ⟨e,ha,h₀⟩ ?_;rintro k a w ⟨e,ha,hI⟩;refine wp_mono (round k e w hI a ha) ?_;rintro ex a' w' ⟨e',r,q⟩;cases ex with
 |normal=>obtain⟨k',hk,hI'⟩:=q;exact⟨k',hk,e',r,hI'⟩
 |exit id=>exact⟨e',r,q⟩
 |goto l=>exact⟨e',r,q⟩
 |ret=>exact⟨e',r,q⟩
 |panic ch=>exact⟨e',r,q⟩
 |outgrown=>exact⟨e',r,q⟩
def L (P:Program) (n:Nat) (ops:Array Oper) (Q:Exit->Env->World->Prop) (l:List Oper) (e:Env) (w:World):Prop :=
 (∀o∈l,Y3 n o.dst=true)->∀a,G9 n a e->wpList P ops (lift n Q) l a w
def Di0 (n:Nat) (l:List Oper):Bool:=l.all fun o=>Y3 n o.dst
theorem W.region {id:Nat} {l:List Oper} (hB:Di0 n l=true) (h:L P n l.toArray Q l e w):W P n (.region id l.toArray false) Q e w :=
 fun a ha=>wp_region_lit (h (fun o ho=>List.all_eq_true.1 hB o ho) a ha)
variable {ops:Array Oper}{o:Oper}{rest:List Oper}{w':World}{v:Value}
theorem L.nil (h:Q .normal e w):L P n ops Q [] e w:=fun _ _ ha=>wpList_nil ⟨e,ha,h⟩
def H2 (ops:Array Oper) (e:Env) (j:Nat):Option Bool :=
 match(ops[j]?).bind (·.dst)with
 |some t=>match e t with| .bool b=>some b|_=>none
 |none=>none
theorem ii0 {a:Act} (ha:G9 n a e) (j:Nat):yielded ops a.tmps j=H2 ops e j:=by
 unfold yielded H2;cases h:(ops[j]?).bind (·.dst)with
 |none=>simp
 |some t=>
  have hg:=ha.get t;simp only[Option.bind_some,Array.getD_eq_getD_getElem?]at hg⊢;cases h2:a.tmps[t]? with
  |none=>rw[h2]at hg;simp only[Option.getD_none]at hg;rw[<- hg];rfl
  |some u=>rw[h2]at hg;simp only[Option.getD_some]at hg;rw[<- hg];cases u <;> rfl
theorem k4 {a:Act} (ha:G9 n a e) (o:Oper):Region.wanted o (yielded ops a.tmps)=Region.wanted o (H2 ops e):=by
 have:yielded ops a.tmps=H2 ops e:=funext (ii0 ha);rw[this]
theorem L.Ox0 (hw:Region.wanted o (H2 ops e)=true) (hr:(execOp (ev e) o).run P w= .ok (.value v) w') (k:L P n ops Q rest (Y2 e o.dst v) w'):L P n ops Q (o::rest) e w:=by
 intro hd a ha;unfold wpList;refine U299 ?_;unfold Oper.wp;rw[ha.eval,hr,Oper.upon_value];exact k (fun o' ho'=>hd o' (List.mem_cons_of_mem _ ho')) _ (ha.put (hd o List.mem_cons_self) v)
theorem L.Dj0 (hw:Region.wanted o (H2 ops e)=true) (hr:(execOp (ev e) o).run P w= .ok .skip w') (k:L P n ops Q rest (Y2 e o.dst undef) w'):L P n ops Q (o::rest) e w:=by
 intro hd a ha;unfold wpList;refine U299 ?_;unfold Oper.wp;rw[ha.eval,hr,Oper.upon_skip];exact k (fun o' ho'=>hd o' (List.mem_cons_of_mem _ ho')) _ (ha.put (hd o List.mem_cons_self) undef)
def Ret (R:Value->World->Prop):Ending->World->Prop
 | .returned v,w=>R v w
 |_,_=>False
def C (P:Program) (f:FuncId) (args:Array Value) (w:World) (R:Value->World->Prop):Prop:=Calls P f args w (Ret R)
theorem L.Dk0 {f:FuncId} {args:Array Value} {R:Value->World->Prop} (hw:Region.wanted o (H2 ops e)=true) (hr:(execOp (ev e) o).run P w= .ok (.enter f args) w)
  (hc:C P f args w R) (k:∀v w',R v w'->L P n ops Q rest (Y2 e o.dst v) w'):L P n ops Q (o::rest) e w:=by
 intro hd a ha;unfold wpList;refine U299 ?_;unfold Oper.wp;rw[ha.eval,hr,Oper.upon_enter];refine Calls.mono hc fun x w' hx=>?_;cases x with
 |returned v=>exact k v w' hx (fun o' ho'=>hd o' (List.mem_cons_of_mem _ ho')) _ (ha.put (hd o List.mem_cons_self) v)
 |panicked ch=>exact hx.elim
 |outgrown=>exact hx.elim
end
section
variable {P:Program}{n:Nat}{Q:Exit->Env->World->Prop}{e:Env}{w w':World}{ops:Array Oper}{rest:List Oper}{v:Value}
variable {d:Nat}{op:Op}{ty:TypeId}{ps:String}{af:Array Edge}
theorem L.va (hr:(execOp (ev e) ⟨some d,op,ty,ps,af,none⟩).run P w= .ok (.value v) w') (k:L P n ops Q rest (upd e d v) w'):L P n ops Q (⟨some d,op,ty,ps,af,none⟩::rest) e w :=
 L.Ox0 rfl hr k
theorem L.st (hr:(execOp (ev e) ⟨none,op,ty,ps,af,none⟩).run P w= .ok .skip w') (k:L P n ops Q rest e w'):L P n ops Q (⟨none,op,ty,ps,af,none⟩::rest) e w :=
 L.Dj0 rfl hr k
theorem L.call {f:FuncId} {args:Array Value} {R:Value->World->Prop} (hr:(execOp (ev e) ⟨some d,op,ty,ps,af,none⟩).run P w= .ok (.enter f args) w)
  (hc:C P f args w R) (k:∀v w',R v w'->L P n ops Q rest (upd e d v) w'):L P n ops Q (⟨some d,op,ty,ps,af,none⟩::rest) e w :=
 L.Dk0 rfl hr hc k
end
def hav (G:List Nat) (f e:Env):Env:=fun t=>if G.contains t then f t else e t
def K1 (G:List Nat) (e' e:Env):Prop:=∀t,G.contains t=false->e' t=e t
theorem K1.refl (G:List Nat) (e:Env):K1 G e e:=fun _ _=>rfl
theorem K1.upd {G:List Nat} {e' e:Env} {d:Nat} {v:Value} (hd:G.contains d=true) (h:K1 G e' e):K1 G (upd e' d v) e:=fun t ht=>by
 have:t≠d:=fun h=>by subst h;rw[hd]at ht;cases ht
 rw[upd_ne _ _ this];exact h t ht
theorem K1.out {G:List Nat} {e' e:Env} (h:K1 G e' e):∃f,e'=hav G f e:=⟨e',by
 funext t;unfold hav;split
 ·rfl
 ·rename_i ht;exact h t (by simpa using ht)⟩
section
end
end Go.Vc
end
