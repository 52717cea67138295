/- What the claim leans on, part 1. Laws. -/
import Derived.Conc.TokenTrace
import GoSem.Claim
import Derived.Below
import Derived.Conc.Token
import Derived.Conc.Listed
import Derived.Orders
import Derived.Deep.LoopGhost
import Derived.Conc.CompanyDraw
import GoSem.Dispatch
import Derived.WalkKit
set_option linter.unusedVariables false
namespace Go
structure B(Q:Prop):Prop where
  v:Q
section
variable{P Q:Prop}
theorem U47(h:P:=by refine AtR.leaveD (j0 _) rfl Tryz.func68 rfl hcm ?_;exact QuitsD.mono hT (by omega)):P:=h
theorem U14(h:P:=by refine U10 ?_;exact⟨rfl,hb⟩):P:=h
theorem U369(h:P:=by refine U99 ?_;exact⟨_,by omega,⟨i+1,a2,q+1,cp2,rfl,rfl,rfl,rfl,rfl,rfl,rfl,(by omega),(by rw[hrl,List.length_append,hq];rfl),(by rw[hrl,List.map_append];simpa [Et0,hc]using hO2),hb⟩⟩):P:=h
theorem U372(h:P:=by rw[Gs0 h8 hP];exact⟨hp,e7.mem.set hp (sa:=sa) (by decide) (by decide) (j1 o) (j9.of n3) (.inl rfl) (by unfold T6;simp only[lf0];exact hB) rfl fun _ _ _ _ _ _ h=>Aj0 h⟩):P:=h
theorem U373(h:P:=by rw[Gt0 h8 hP];exact⟨hp,e7.mem.set hp (sa:=sa) (by decide) (by decide) (j1 o) (j9.of n3) (.inl rfl) (by unfold T6;simp only[lf0];exact hB) rfl fun _ _ _ _ _ _ h=>Aj0 h⟩):P:=h
theorem U374(h:P:=by rw[hm.hit j p t hp hd (E7 j hj)];exact(wh0 e0 ops.toList vals t j p (by rw[hlz];exact hp) hd (fun i' p' hp' E5=>h.one i' j p' p t (by rw[<- hlz];exact hp') hp E5 hd) _ hj).symm):P:=h
theorem U189(h:P:=by refine U61 ?_;exact⟨rfl,u0,F',h',r',⟨hK,w8⟩,hC0,hCn,n3,ht⟩):P:=h
theorem U190(h:P:=by refine AtR.Ee0 I2 rfl Tryz.func70 rfl ?_;exact Pg0 hK):P:=h
theorem U269(h:P:=by refine U69 ?_;exact⟨rfl,hb⟩):P:=h
theorem U409(h:P:=by refine U99 ?_;exact⟨_,by omega,⟨i+1,a,q,cp,rfl,rfl,rfl,rfl,rfl,rfl,rfl,(by omega),(by rw[hrl];exact hq),(by rw[hrl];exact hO),hb⟩⟩):P:=h
theorem U86(h:P:=by refine U61 ?_;exact⟨rfl,ak0⟩):P:=h
theorem U454(h:P:=by refine ZA.done hZ ?_;exact ZA.leaves (fn:=Tryz.f83) (f:=83) rfl func83 rfl (fun fr h8 h9=>hK _ fr h2 h8 h9)):P:=h
theorem U495(h:P:=by have hZ':Ctx.Zs prog (Fin prog Post {X' with pend:=0,cap:=0,dn:=0} 0):=V3;refine ZA.back (aj0 prog Post {X' with pend:=0,cap:=0,dn:=0} 0) (i:=1) rfl rfl ha h9 ?_;exact Kd0 hE hT hJ' (by rw[<- l9];rfl) rfl):P:=h
theorem U499(h:P:=by rw[if_neg (by omega),if_neg (by omega)];exact h1.new b (by show u.heap.size <=b;omega)):P:=h
theorem U502(h:P:=by refine L.va (F0 rfl underlying2 rfl (C3.A0 0 (v:=.int .i64 0) rfl)) ?_;exact U14):P:=h
theorem U206(h:P:=by have hb:=N0 hb I1;exact U14):P:=h
theorem U207(h:P:=by refine U194 ?_;exact⟨rfl,hC,n3⟩):P:=h
theorem U525(h:P:=by rw[<- hv];exact next w (hl (fun j=>listed.getD j false) w hDi hVD fb0 hJ)):P:=h
theorem U294(h:P:=by refine U115 ?_;exact⟨b15,rfl,Lj0,xw0,hb⟩):P:=h
theorem U122(h:P:=by refine U30 ?_;refine U73 ?_;exact⟨_,rfl,by simp only[decide_eq_true_eq];unfold G8;omega,hb⟩):P:=h
theorem U297(h:P:=by refine U10 ?_;exact⟨F',tt,hgn,htt,rfl⟩):P:=h
theorem U298(h:P:=by refine U103 ?_;exact U269):P:=h
theorem U208(h:P:=by refine U121 ?_;intro hb;exact U298):P:=h
theorem U301(h:P:=by refine U115 ?_;exact⟨b2,rfl,lt2,g6,hb⟩):P:=h
theorem U561(h:P:=by refine AtR.Ee0 W0 rfl Tryz.func66 rfl ?_;exact Ef0 hK):P:=h
theorem U211(h:P:=by refine U10 ?_;exact⟨s1,r1,e7,Y7,hl1,rfl⟩):P:=h
theorem U220(h:P:=by have B5:=Q7.ef0 hB1 hg;have hB1:=D1;refine U194 ?_;exact⟨rfl,hB1,hg⟩):P:=h
theorem U312(h:P:=by refine U194 ?_;exact⟨rfl,hC,hg⟩):P:=h
variable(k:Q)
include k
theorem U6(h:Q->P:=by intro O;refine W.seq ?_;exact W.region rfl O):P:=h k
theorem U7(h:Q->P:=by intro O;refine L.nil ?_;show W _ _ _ _ _ _;exact O):P:=h k
theorem U30(h:Q->P:=by intro O;refine L.va (ub0 rfl) ?_;exact U7 O):P:=h k
theorem U69(h:Q->P:=by intro O;(repeat(first|refine T.nrm ?_|refine B.nrm ?_|refine N.nrm ?_));exact ends.none (.inl rfl) rfl O):P:=h k
theorem U99(h:Q->P:=by intro O;refine L.nil ?_;exact T.nrm O):P:=h k
theorem U100(h:Q->P:=by intro O;refine U6 ?_;exact L.va (T5 rfl) O):P:=h k
theorem U70(h:Q->P:=by intro O;refine U6 ?_;exact L.va (O0 rfl underlying52 rfl sz3 (by decide)) O):P:=h k
theorem U34(h:Q->P:=by intro O;refine L.va (fc0 rfl) ?_;exact U7 O):P:=h k
theorem U223(h:Q->P:=by intro O;refine I0.off (j0 _) rfl rfl ?_;exact I0.off (j0 _) rfl rfl O):P:=h k
theorem U35(h:Q->P:=by intro O;refine L.off rfl ?_;exact L.off rfl O):P:=h k
theorem U101(h:Q->P:=by intro O;refine ZA.W hZ hb ?_;exact W.region rfl O):P:=h k
theorem U144(h:Q->P:=by intro O;refine At.seq (j0 _) ?_;exact At.region (j0 _) O):P:=h k
theorem U3(h:Q->P:=by intro O;have hb:Below w0.heap.size w0 w0:=Below.refl _ _;refine U6 ?_;revert hb;exact O):P:=h k
theorem U2(h:Q->P:=by intro O;refine U99 ?_;show ZA _ _ _ _ _ _ _;exact O):P:=h k
theorem U313(h:Q->P:=by intro O;refine W.q5 rfl ?_;exact W.skip O):P:=h k
theorem U224(h:Q->P:=by intro O;refine B.nrm ?_;show W _ _ _ _ _ _;exact O):P:=h k
theorem U314(h:Q->P:=by intro O;refine U223 ?_;exact I0.val (j0 _) (Z0 _) rfl (v:=.bool false) (bc0 rfl rfl) O):P:=h k
theorem U44(h:Q->P:=by intro O;refine U7 ?_;exact W.J4 rfl O):P:=h k
theorem U315(h:Q->P:=by intro O;refine F.va rfl rfl (fun w' r3=>(Y2 rfl)) ?_;exact F.va rfl rfl (fun w' r3=>(T5 rfl)) O):P:=h k
theorem U316(h:Q->P:=by intro O;have B5:=Q7.ef0 L1 hg;have hb:=I4 hb hb.size hg D8;revert B5 hb;exact O):P:=h k
theorem U24(h:Q->P:=by intro O;refine L.va (Y2 rfl) ?_;exact L.va (u1 rfl) O):P:=h k
theorem U317(h:Q->P:=by intro O;refine I0.val (j0 _) (Z0 _) rfl (v:=.bool false) (c7 (r:=false) rfl rfl (by decide)) ?_;exact I0.val (j0 _) (Z0 _) rfl (v:=.bool false) (J0 rfl) O):P:=h k
theorem U318(h:Q->P:=by intro O;refine D.va (fun w' r3=>(F0 rfl underlying91 rfl ((hA.E0 r3).A0 0 (v:=.p c.cb) rfl))) ?_;exact D.va (fun w' r3=>(u1 rfl)) O):P:=h k
theorem U225(h:Q->P:=by intro O;refine L.va (fc0 rfl) ?_;exact U99 O):P:=h k
theorem U319(h:Q->P:=by intro O;show W _ _ _ _ _ _;exact W.seq O):P:=h k
theorem U320(h:Q->P:=by intro O;refine I0.nil (j0 _) ?_;exact At.q5 (j0 _) rfl O):P:=h k
theorem U321(h:Q->P:=by intro O;refine U30 ?_;exact W.q5 rfl O):P:=h k
theorem U71(h:Q->P:=by intro O;refine U100 ?_;exact L.va (T5 rfl) O):P:=h k
theorem U4(h:Q->P:=by intro O;refine ZA.seq hZ ?_;exact U101 O):P:=h k
theorem U322(h:Q->P:=by intro O;refine I0.val A2 (Z0 _) rfl (v:=.pointer (some ⟨gr.blk,gr.off,none⟩)) (J0 rfl) ?_;exact I0.val A2 (Z0 _) rfl (v:=.pointer (some ⟨gr.blk,gr.off,none⟩)) (J3 rfl) O):P:=h k
theorem U145(h:Q->P:=by intro O;have hb:=N0 hb I1;have hT:=hT.E0 I1;revert hb hT;exact O):P:=h k
theorem U226(h:Q->P:=by intro O;refine I0.v8 (j0 _) (Z0 _) rfl rfl (v:=.bool false) (bs0 (r:=false) rfl rfl (by decide)) ?_;exact I0.val (j0 _) (Z0 _) rfl (v:=.bool false) (I7 rfl rfl) O):P:=h k
theorem U146(h:Q->P:=by intro O;refine L.va (G0 (cs:=[.int .i64 obj,.int .i64 num]) rfl underlying107 rfl fq0 rfl (hC.J1 rfl)) ?_;exact L.va (Y2 rfl) O):P:=h k
theorem U72(h:Q->P:=by intro O;refine At.seq (P0 _ gr 2) ?_;exact At.region (P0 _ gr 2) O):P:=h k
theorem U147(h:Q->P:=by intro O;refine U35 ?_;exact L.va (V8 rfl) O):P:=h k
theorem U73(h:Q->P:=by intro O;refine W.ret ?_;(repeat(first|refine T.ret ?_|refine B.ret ?_|refine N.ret ?_));exact ends.one (.inr rfl) rfl O):P:=h k
theorem U45(h:Q->P:=by intro O;refine L.va (Y2 rfl) ?_;exact L.va (T5 rfl) O):P:=h k
theorem U323(h:Q->P:=by intro O;refine U319 ?_;exact W.block O):P:=h k
theorem U46(h:Q->P:=by intro O;refine At.seq (j0 _) ?_;exact U144 O):P:=h k
theorem U227(h:Q->P:=by intro O;refine L.va (id0 rfl) ?_;exact U35 O):P:=h k
theorem U148(h:Q->P:=by intro O;refine W.skip ?_;exact U323 O):P:=h k
theorem U102(h:Q->P:=by intro O;(repeat(first|refine T.exit ?_|refine N.exit ?_|refine B.du1 (by decide) ?_));exact B.Op0 O):P:=h k
theorem U74(h:Q->P:=by intro O;refine W.fk0 9 (fun w'=>Below w.heap.size w w') (by kernel_rfl) (by kernel_rfl) (by kernel_rfl) (by kernel_rfl) ((Below.refl w.heap.size w).drew) ?_;exact D.va (fun w' r3=>(Y2 rfl)) O):P:=h k
theorem U36(h:Q->P:=by intro O;refine U7 ?_;exact U6 O):P:=h k
theorem U103(h:Q->P:=by intro O;refine U7 ?_;exact U313 O):P:=h k
theorem U104(h:Q->P:=by intro O;refine L.va (id0 rfl) ?_;exact L.on rfl O):P:=h k
theorem U228(h:Q->P:=by intro O;refine U320 ?_;exact At.skip (j0 _) O):P:=h k
theorem U324(h:B Q->P:=by intro O;refine I0.val (j0 _) (Z0 _) rfl (v:=.int .i32 (((v:Nat):Int))) (q3 (r:=((v:Nat):Int)) rfl Tryz.underlying136 Tryz.underlying21 (bd0 v (by omega))) ?_;exact I0.val (j0 _) (Z0 _) rfl (v:=.int .i32 (((v:Nat):Int))) (Q0 rfl) O.1):P:=h ⟨k⟩
theorem U58(h:Q->P:=by intro O;refine U30 ?_;exact W.J4 rfl O):P:=h k
theorem U149(h:Q->P:=by intro O;refine eg0.go ?_;refine W.seq ?_;exact U100 O):P:=h k
theorem U8(h:Q->P:=by intro O;refine U321 ?_;exact U6 O):P:=h k
theorem U9(h:Q->P:=by intro O;refine U7 ?_;exact W.block O):P:=h k
theorem U75(h:Q->P:=by intro O;refine U224 ?_;refine W.region rfl ?_;exact L.va (T5 rfl) O):P:=h k
theorem U12(h:Q->P:=by intro O;have E8:=F5.lq hb.size;have hb:=N0 hb F5.below;revert E8 hb;exact O):P:=h k
theorem U105(h:Q->P:=by intro O;refine I0.off (P0 _ gr 2) rfl rfl ?_;exact I0.off (P0 _ gr 2) rfl rfl O):P:=h k
theorem U150(h:Q->P:=by intro O;refine U44 ?_;exact U148 O):P:=h k
theorem U31(h:Q->P:=by intro O;refine U225 ?_;exact U149 O):P:=h k
theorem U76(h:Q->P:=by intro O;refine L.va (F0 rfl underlying111 rfl (hM.A0 0 (v:=(.iface 193 (.pointer (some ⟨sb,0,none⟩)))) rfl)) ?_;exact L.va (Y2 rfl) O):P:=h k
theorem U13(h:Q->P:=by intro O;refine At.seq A2 ?_;exact At.region A2 O):P:=h k
theorem U106(h:Q->P:=by intro O;refine At.seq (B3 _ gr) ?_;exact At.region (B3 _ gr) O):P:=h k
theorem U151(h:Q->P:=by intro O;refine I0.val (P0 _ gr 2) (Z0 _) rfl (v:=.pointer (some ⟨gr.blk,gr.off,none⟩)) (J0 rfl) ?_;exact I0.val (P0 _ gr 2) (Z0 _) rfl (v:=.pointer (some ⟨gr.blk,gr.off,none⟩)) (J3 rfl) O):P:=h k
theorem U25(h:Q->P:=by intro O;refine W.seq ?_;exact U70 O):P:=h k
theorem U325(h:Q->P:=by intro O;refine I0.val (j0 _) (Z0 _) rfl (v:=.int .u32 0) (q3 (r:=0) rfl Tryz.underlying136 Tryz.underlying139 (by decide)) ?_;exact I0.val (j0 _) (Z0 _) rfl (v:=.int .u32 0) (Q0 rfl) O):P:=h k
theorem U229(h:Q->P:=by intro O;refine I0.val (B3 _ gr) (Z0 _) rfl (v:=.pointer (some ⟨gr.blk,gr.off,none⟩)) (J0 rfl) ?_;exact I0.val (B3 _ gr) (Z0 _) rfl (v:=.pointer (some ⟨gr.blk,gr.off,none⟩)) (J3 rfl) O):P:=h k
theorem U326(h:Q->P:=by intro O;refine U103 ?_;exact U75 O):P:=h k
theorem U37(h:Q->P:=by intro O;refine U150 ?_;exact U71 O):P:=h k
theorem U230(h:Q->P:=by intro O;refine At.q5 (P0 _ gr 2) rfl ?_;exact At.skip (P0 _ gr 2) O):P:=h k
theorem U48(h:Q->P:=by intro O;refine AtR.leave0 (j0 _) S4 rfl Tryz.func66 rfl ?_;exact I0.nil (j0 _) O):P:=h k
theorem U231(h:Q->P:=by intro O;refine At.seq W0 ?_;exact At.region W0 O):P:=h k
theorem U152(h:Q->P:=by intro O;refine D.va (fun w' r3=>(O0 rfl underlying153 rfl My0 (by decide))) ?_;exact D.va (fun w' r3=>(F0 rfl underlying150 rfl ((hg.m.run.E0 r3).A0 7 (v:=.chan (some R.yb)) rfl))) O):P:=h k
theorem U0(h:Q->P:=by intro O;refine L.alloc (cs:=#[.int .i64 0,.int .i64 0,.int .i64 0,.int .i64 0]) Uq0 rfl (fun w b4 F4=>?_);have D8:=F4.lq hb.size;have hb:=N0 hb F4.below;have hT:=hT.E0 F4.below;have L1:=F4.blk;revert w b4 F4 D8 hb hT L1;exact O):P:=h k
theorem U77(h:Q->P:=by intro O;refine U72 ?_;exact I0.val (P0 _ gr 2) (Z0 _) rfl (v:=.int .u64 (((0*4294967296+1:Nat):Int))) (J0 rfl) O):P:=h k
theorem U59(h:Q->P:=by intro O;exact U36 O):P:=h k
theorem U327(h:B Q->P:=by intro O;refine L.va (ke0 rfl rfl (by omega)) ?_;exact L.va (T5 rfl) O.1):P:=h ⟨k⟩
theorem U153(h:Q->P:=by intro O;refine I0.v8 (P0 _ gr 2) (Z0 _) rfl rfl (v:=.bool false) (bs0 (r:=false) rfl rfl (by decide)) ?_;exact I0.val (P0 _ gr 2) (Z0 _) rfl (v:=.bool false) (I7 rfl rfl) O):P:=h k
theorem U328(h:Q->P:=by intro O;refine D.va (fun w' r3=>(Y2 rfl)) ?_;exact D.va (fun w' r3=>(O0 rfl underlying52 rfl sz2 (by decide))) O):P:=h k
theorem U60(h:Q->P:=by intro O;refine U24 ?_;exact L.va (O0 rfl underlying149 rfl sz4 (by decide)) O):P:=h k
theorem U154(h:Q->P:=by intro O;refine I0.off W0 rfl rfl ?_;exact I0.off W0 rfl rfl O):P:=h k
theorem U38(h:Q->P:=by intro O;refine L.va (uc0 rfl) ?_;exact U7 O):P:=h k
theorem U107(h:Q->P:=by intro O;refine L.va (u1 rfl) ?_;exact L.va (O0 rfl underlying149 rfl sz4 (by decide)) O):P:=h k
theorem U155(h:Q->P:=by intro O;refine U322 ?_;exact I0.val A2 (Z0 _) rfl (v:=.pointer (some ⟨gr.blk,gr.off,none⟩)) (A3 (s:=1) gr.off gr.off rfl Tryz.underlying138 rfl ks0 (by decide) rfl) O):P:=h k
theorem U156(h:Q->P:=by intro O;refine U322 ?_;exact I0.val A2 (Z0 _) rfl (v:=.pointer (some ⟨gr.blk,gr.off,none⟩)) (A3 (s:=1) gr.off gr.off rfl Tryz.underlying141 rfl kt0 (by decide) rfl) O):P:=h k
theorem U329(h:Q->P:=by intro O;refine L.va (F0 rfl underlying193 rfl (M5.A0 0 (v:=.pointer (some ⟨sb,0,none⟩)) rfl)) ?_;exact L.va (u1 rfl) O):P:=h k
theorem U1(h:Q->P:=by intro O;refine U316 ?_;intro B5 hb;have hT:=hT.mod B5 rfl;have L1:=D1;refine U59 ?_;revert hb hT L1;exact O):P:=h k
theorem U330(h:Q->P:=by intro O;refine L.va (F0 rfl underlying56 rfl (hC.A0 2 (v:=.pointer (some ⟨wb,0,none⟩)) rfl)) ?_;exact L.call (M0 rfl func44 rfl su0 rfl) (fx0 wb w hW) O):P:=h k
theorem U10(h:Q->P:=by intro O;refine U34 ?_;exact U73 O):P:=h k
theorem U232(h:Q->P:=by intro O;refine I0.val W0 (Z0 _) rfl (v:=.bool false) (c7 (r:=false) rfl rfl (by decide)) ?_;exact I0.val W0 (Z0 _) rfl (v:=.bool false) (J0 rfl) O):P:=h k
theorem U15(h:Q->P:=by intro O;refine C.enter (n:=146) func39 rfl rfl ?_;refine U3 ?_;intro hb;revert hb;exact O):P:=h k
theorem U157(h:Q->P:=by intro O;refine I0.val (j0 _) (Z0 _) rfl (v:=.bool true) (J0 rfl) ?_;exact I0.v8 (j0 _) (Z0 _) rfl rfl (v:=.int .i64 (-1)) (J0 rfl) O):P:=h k
theorem U233(h:Q->P:=by intro O;refine U227 ?_;exact U147 O):P:=h k
theorem U39(h:Q->P:=by intro O;refine At.seq I2 ?_;exact At.region I2 O):P:=h k
theorem U61(h:Q->P:=by intro O;refine L.nil ?_;exact U69 O):P:=h k
theorem U108(h:Q->P:=by intro O;refine L.va (u1 rfl) ?_;exact L.va (O0 rfl underlying153 rfl iw0 (by decide)) O):P:=h k
theorem U158(h:Q->P:=by intro O;refine I0.val (j0 _) (Z0 _) rfl (v:=.bool true) (J0 rfl) ?_;exact I0.v8 (j0 _) (Z0 _) rfl rfl (v:=.i (-1)) (J0 rfl) O):P:=h k
theorem U26(h:Q->P:=by intro O;refine At.seq H2 ?_;exact At.region H2 O):P:=h k
theorem U159(h:Q->P:=by intro O;refine U318 ?_;exact D.va (fun w' r3=>(O0 rfl underlying149 rfl Ek0 (by decide))) O):P:=h k
theorem U78(h:Q->P:=by intro O;refine I0.val (P0 _ gr 2) (Z0 _) rfl (v:=.bool false) (J0 rfl) ?_;exact U105 O):P:=h k
theorem U160(h:Q->P:=by intro O;refine U318 ?_;exact D.va (fun w' r3=>(O0 rfl underlying149 rfl sz3 (by decide))) O):P:=h k
theorem U234(h:Q->P:=by intro O;refine I0.val (j0 _) (Z0 _) rfl (v:=.int .u64 (((0*4294967296+0:Nat):Int))) (Q0 rfl) ?_;exact I0.nil (j0 _) O):P:=h k
theorem U235(h:Q->P:=by intro O;refine U46 ?_;exact I0.val (j0 _) (Z0 _) rfl (v:=.int .u32 0) (J0 rfl) O):P:=h k
theorem U16(h:Q->P:=by intro O;refine U2 ?_;exact ZA.seq hZ O):P:=h k
theorem U5(h:Q->P:=by intro O;refine U145 ?_;intro hb hT;refine U233 ?_;refine U326 ?_;revert hb hT;exact O):P:=h k
theorem U331(h:Q->P:=by intro O;refine U4 ?_;exact L.va (F0 rfl underlying91 rfl (hA.A0 0 (v:=.p c.cb) rfl)) O):P:=h k
theorem U236(h:Q->P:=by intro O;refine L.va (C8 (r:=2) (by decide) (by decide) rfl rfl) ?_;exact U31 O):P:=h k
theorem U79(h:Q->P:=by intro O;refine U154 ?_;exact I0.val W0 (Z0 _) rfl (v:=.bool false) (bc0 rfl rfl) O):P:=h k
theorem U237(h:Q->P:=by intro O;refine D.va (fun w' r3=>(T5 rfl)) ?_;exact D.va (fun w' r3=>(u1 rfl)) O):P:=h k
theorem U49(h:Q->P:=by intro O;refine U34 ?_;exact U6 O):P:=h k
theorem U238(h:Q->P:=by intro O;refine D.va (fun w' r3=>(O0 rfl underlying30 rfl Jo0 (by decide))) ?_;exact D.va (fun w' r3=>(F0 rfl underlying23 rfl ((hR.E0 r3).A0 3 (v:=.slice (pt R.eb) R.m R.m) rfl))) O):P:=h k
theorem U332(h:Q->P:=by intro O;refine D.va (fun w' r3=>(u1 rfl)) ?_;exact D.va (fun w' r3=>(O0 rfl underlying153 rfl iw0 (by decide))) O):P:=h k
theorem U239(h:Q->P:=by intro O;refine At.region n4 ?_;exact I0.val n4 (Z0 _) rfl (v:=.pointer (some ⟨gr.blk,gr.off,none⟩)) (J0 rfl) O):P:=h k
theorem U11(h:Q->P:=by intro O;have lt2:=F2.lq hb.size;have hb:=N0 hb F2.below;revert lt2 hb;exact O):P:=h k
theorem U161(h:Q->P:=by intro O;refine U144 ?_;exact I0.val (j0 _) (Z0 _) rfl (v:=.int .u64 (((v*4294967296+0:Nat):Int))) (J0 rfl) O):P:=h k
theorem U162(h:Q->P:=by intro O;refine U144 ?_;exact I0.val (j0 _) (Z0 _) rfl (v:=.int .u64 (((v*4294967296+1:Nat):Int))) (J0 rfl) O):P:=h k
theorem U240(h:Q->P:=by intro O;refine D.va (fun w' r3=>(F0 rfl underlying3 rfl ((hC.E0 r3).A0 0 (v:=.i (i:Int)) rfl))) ?_;exact D.va (fun w' r3=>W8 (i:=i) rfl rfl underlying23 sz3 hi) O):P:=h k
theorem U163(h:Q->P:=by intro O;refine U144 ?_;exact I0.val (j0 _) (Z0 _) rfl (v:=.int .u64 (((0*4294967296+0:Nat):Int))) (J0 rfl) O):P:=h k
theorem U241(h:Q->P:=by intro O;refine D.va (fun w' r3=>(F0 rfl underlying146 rfl (((hg.m.blk i _ (N5 hc)).E0 r3).A0 1 (v:=.p R.rb) rfl))) ?_;exact D.va (fun w' r3=>(u1 rfl)) O):P:=h k
theorem U333(h:Q->P:=by intro O;refine L.va (C8 (r:=5) (by decide) (by decide) rfl rfl) ?_;exact U31 O):P:=h k
theorem U334(h:Q->P:=by intro O;refine L.va (C8 (r:=3) (by decide) (by decide) rfl rfl) ?_;exact U31 O):P:=h k
theorem U335(h:Q->P:=by intro O;refine L.va (C8 (r:=6) (by decide) (by decide) rfl rfl) ?_;exact U31 O):P:=h k
theorem U336(h:Q->P:=by intro O;refine L.va (C8 (r:=4) (by decide) (by decide) rfl rfl) ?_;exact U31 O):P:=h k
theorem U242(h:Q->P:=by intro O;refine U2 ?_;exact ZA.fk0 hZ hb 11 (fun w'=>Below w.heap.size w w') (by kernel_rfl) (by kernel_rfl) (by kernel_rfl) (by kernel_rfl) (Below.refl w.heap.size w).drew O):P:=h k
theorem U62(h:Q->P:=by intro O;refine At.seq (P0 _ gr 2) ?_;exact U72 O):P:=h k
theorem U40(h:Q->P:=by intro O;refine I0.nil (j0 _) ?_;exact U46 O):P:=h k
theorem U337(h:B Q->P:=by intro O;refine I0.val (P0 _ gr 2) (Z0 _) rfl (v:=.int .u64 (((0:Nat):Int))) (bt0 (r:=((0:Nat):Int)) rfl rfl (by decide) (kr0 0 1 (by omega))) ?_;exact I0.val (P0 _ gr 2) (Z0 _) rfl (v:=.int .i32 (((0:Nat):Int))) (q3 (r:=((0:Nat):Int)) rfl Tryz.underlying136 Tryz.underlying21 (bd0 0 (by omega))) O.1):P:=h ⟨k⟩
theorem U338(h:B Q->P:=by intro O;refine I0.val A2 (Z0 _) rfl (v:=.int .u64 (((v*4294967296+1:Nat):Int))) (wt0 (r:=((v*4294967296+1:Nat):Int)) rfl rfl (add1 v (by omega))) ?_;refine I0.call A2 (Z0 _) [.pointer (some ⟨gr.blk,gr.off,none⟩),.int .u64 (((v*4294967296+0:Nat):Int)),.int .u64 (((v*4294967296+1:Nat):Int))] 13 rfl Tryz.func102 Wh0 rfl rfl rfl (fun cs2 hb2=>?_);revert cs2 hb2;exact O.1):P:=h ⟨k⟩
theorem U63(h:Q->P:=by intro O;refine W.region rfl ?_;exact U45 O):P:=h k
theorem U339(h:B Q->P:=by intro O;refine I0.val (j0 _) (Z0 _) rfl (v:=.int .u64 (((0:Nat):Int))) (bt0 (r:=((0:Nat):Int)) rfl rfl (by decide) (kr0 0 0 (by omega))) ?_;exact I0.val (j0 _) (Z0 _) rfl (v:=.int .i32 (((0:Nat):Int))) (q3 (r:=((0:Nat):Int)) rfl Tryz.underlying136 Tryz.underlying21 (bd0 0 (by omega))) O.1):P:=h ⟨k⟩
theorem U80(h:Q->P:=by intro O;refine W.seq ?_;exact U6 O):P:=h k
theorem U243(h:Q->P:=by intro O;refine W.fk0 13 (fun w'=>Below w.heap.size w w') (by kernel_rfl) (by kernel_rfl) (by kernel_rfl) (by kernel_rfl) ((Below.refl w.heap.size w).drew) ?_;exact U159 O):P:=h k
theorem U340(h:Q->P:=by intro O;refine I0.val (B3 _ gr) (Z0 _) rfl (v:=.int .u64 18446744073709551615) (q3 (r:=18446744073709551615) rfl Tryz.underlying3 Tryz.underlying136 (by decide)) ?_;exact I0.val (B3 _ gr) (Z0 _) rfl (v:=.int .u64 18446744069414584320) (Dx0 (r:=18446744069414584320) rfl rfl (by decide) (by decide)) O):P:=h k
theorem U244(h:Q->P:=by intro O;refine I0.val hY hb rfl (kp0 rfl underlying153 rfl My0 (by decide)) ?_;exact I0.stay (v:=.chan (some R.yb)) hb rfl (by simp) rfl underlying150 rfl O):P:=h k
theorem U164(h:Q->P:=by intro O;refine U13 ?_;exact I0.val A2 (Z0 _) rfl (v:=.int .u64 (((v*4294967296+0:Nat):Int))) (J0 rfl) O):P:=h k
theorem U341(h:B Q->P:=by intro O;refine I0.val A2 (Z0 _) rfl (v:=.int .u64 (((v:Nat):Int))) (bt0 (r:=((v:Nat):Int)) rfl rfl (by decide) (kr0 v 0 (by omega))) ?_;exact I0.val A2 (Z0 _) rfl (v:=.int .i32 (((v:Nat):Int))) (q3 (r:=((v:Nat):Int)) rfl Tryz.underlying136 Tryz.underlying21 (bd0 v (by omega))) O.1):P:=h ⟨k⟩
theorem U342(h:Q->P:=by intro O;have B5:=Q7.ef0 V6 hg;have hb:=I4 hb hb.size hg lt6;revert B5 hb;exact O):P:=h k
theorem U17(h:Q->P:=by intro O;refine F.nil ?_;show L _ _ _ _ _ _ _;exact O):P:=h k
theorem U343(h:Q->P:=by intro O;refine I0.val (P0 _ gr 0) (Z0 _) rfl (v:=.pointer (some ⟨gr.blk,gr.off,none⟩)) (J3 rfl) ?_;exact I0.val (P0 _ gr 0) (Z0 _) rfl (v:=.pointer (some ⟨gr.blk,gr.off+1,none⟩)) (A3 (s:=1) gr.off (gr.off+1) rfl Tryz.underlying141 rfl Ej0 (by decide) rfl) O):P:=h k
theorem U27(h:Q->P:=by intro O;refine L.va (uc0 rfl) ?_;exact U36 O):P:=h k
theorem U165(h:Q->P:=by intro O;refine U62 ?_;exact I0.val (P0 _ gr 2) (Z0 _) rfl (v:=.int .i32 (((0:Nat):Int))) (J0 rfl) O):P:=h k
theorem U166(h:Q->P:=by intro O;refine ZA.skip hZ ?_;exact ZA.seq hZ O):P:=h k
theorem U344(h:Q->P:=by intro O;refine L.va (O0 rfl underlying52 rfl sz3 (by decide)) ?_;refine L.on rfl ?_;exact L.va (F0 rfl underlying3 rfl (hB1.A0 2 (v:=.int .i64 o.call) rfl)) O):P:=h k
theorem U345(h:Q->P:=by intro O;refine U314 ?_;exact U228 O):P:=h k
theorem U245(h:Q->P:=by intro O;have neA:=O1.ne hA (hg.m.blk i c hc) (by decide);refine L.stC (i:=i) (o:=9) (vs:=[.bool false]) hg {c with wt:=false} hc rfl rfl rfl rfl sz4 rfl rfl (by decide) rfl (fun w hg n3=>?_);revert neA w hg n3;exact O):P:=h k
theorem U246(h:Q->P:=by intro O;refine U146 ?_;exact L.va (S3 (l:=[.tmp 2]) (vs:=[.pointer (some ⟨b2,0,none⟩)]) rfl) O):P:=h k
theorem U346(h:Q->P:=by intro O;refine I0.val (P0 _ gr 1) (Z0 _) rfl (v:=.pointer (some ⟨gr.blk,gr.off,none⟩)) (A3 (s:=1) gr.off gr.off rfl Tryz.underlying141 rfl kt0 (by decide) rfl) ?_;refine I0.call (P0 _ gr 1) (Z0 _) [.pointer (some ⟨gr.blk,gr.off,none⟩),.int .u64 0] 9 rfl Tryz.func97 bw1 rfl rfl rfl (fun cs4 hb4=>?_);revert cs4 hb4;exact O):P:=h k
theorem U247(h:Q->P:=by intro O;refine U160 ?_;exact D.va (fun w' r3=>(F0 rfl underlying3 rfl (((hg.m.blk i _ (N5 hc)).E0 r3).A0 0 (v:=.i (i:Int)) rfl))) O):P:=h k
theorem U248(h:Q->P:=by intro O;refine U146 ?_;exact L.va (S3 (l:=[.tmp 2,.tmp 5]) (vs:=[.pointer (some ⟨b2,0,none⟩),.pointer (some ⟨b5,0,none⟩)]) rfl) O):P:=h k
theorem U347(h:Q->P:=by intro O;refine I0.val (B3 _ gr) (Z0 _) rfl (v:=.pointer (some ⟨gr.blk,gr.off,none⟩)) (A3 (s:=1) gr.off gr.off rfl Tryz.underlying138 rfl ks0 (by decide) rfl) ?_;exact I0.val (B3 _ gr) (Z0 _) rfl (v:=.int .u64 18446744069414584320) (J0 rfl) O):P:=h k
theorem U64(h:Q->P:=by intro O;refine At.seq j3 ?_;exact At.region j3 O):P:=h k
theorem U167(h:Q->P:=by intro O;refine L.va (u1 rfl) ?_;exact L.va (O0 rfl underlying72 rfl Ur0 (by decide)) O):P:=h k
theorem U348(h:B Q->P:=by intro O;refine I0.val (P0 _ gr 2) (Z0 _) rfl (v:=.int .u64 1) (B6 (r:=1) rfl rfl (ej0 0 1 (by omega) (by omega))) ?_;exact I0.val (P0 _ gr 2) (Z0 _) rfl (v:=.int .u32 1) (q3 (r:=1) rfl Tryz.underlying136 Tryz.underlying139 (by decide)) O.1):P:=h ⟨k⟩
theorem U349(h:Q->P:=by intro O;refine I0.val (P0 _ gr 2) (Z0 _) rfl (v:=.pointer (some ⟨gr.blk,gr.off,none⟩)) (A3 (s:=1) gr.off gr.off rfl Tryz.underlying141 rfl kt0 (by decide) rfl) ?_;refine I0.call (P0 _ gr 2) (Z0 _) [.pointer (some ⟨gr.blk,gr.off,none⟩)] 7 rfl Tryz.func96 Js0 rfl rfl rfl (fun cs3 hb3=>?_);revert cs3 hb3;exact O):P:=h k
theorem U350(h:B Q->P:=by intro O;refine I0.val (j0 _) (Z0 _) rfl (v:=.int .u64 1) (B6 (r:=1) rfl rfl (ej0 v 1 (by omega) (by omega))) ?_;exact I0.val (j0 _) (Z0 _) rfl (v:=.int .u32 1) (q3 (r:=1) rfl Tryz.underlying136 Tryz.underlying139 (by decide)) O.1):P:=h ⟨k⟩
theorem U168(h:Q->P:=by intro O;refine U104 ?_;refine L.va (Y2 rfl) ?_;exact L.on rfl O):P:=h k
theorem U109(h:Q->P:=by intro O;refine At.seq W0 ?_;exact U231 O):P:=h k
theorem U81(h:Q->P:=by intro O;show W _ _ _ _ _ _;exact U6 O):P:=h k
theorem U169(h:Q->P:=by intro O;refine U70 ?_;exact L.va (F0 rfl underlying3 rfl (C3.A0 2 (v:=.int .i64 2) rfl)) O):P:=h k
theorem U170(h:Q->P:=by intro O;refine U70 ?_;exact L.va (F0 rfl underlying3 rfl (C3.A0 2 (v:=.int .i64 1) rfl)) O):P:=h k
theorem U171(h:Q->P:=by intro O;refine L.va (F0 rfl underlying3 rfl (C3.A0 0 (v:=.int .i64 3) rfl)) ?_;exact U9 O):P:=h k
theorem U172(h:Q->P:=by intro O;refine L.va (F0 rfl underlying3 rfl (C3.A0 0 (v:=.int .i64 5) rfl)) ?_;exact U9 O):P:=h k
theorem U173(h:Q->P:=by intro O;refine L.va (F0 rfl underlying3 rfl (C3.A0 0 (v:=.int .i64 1) rfl)) ?_;exact U9 O):P:=h k
theorem U174(h:Q->P:=by intro O;refine L.va (F0 rfl underlying3 rfl (C3.A0 0 (v:=.int .i64 4) rfl)) ?_;exact U9 O):P:=h k
theorem U351(h:Q->P:=by intro O;refine U25 ?_;exact L.va (F0 rfl underlying3 rfl (C3.A0 2 (v:=.int .i64 5) rfl)) O):P:=h k
theorem U352(h:Q->P:=by intro O;refine I0.val (P0 _ gr 1) (Z0 _) rfl (v:=.pointer (some ⟨gr.blk,gr.off,none⟩)) (A3 (s:=1) gr.off gr.off rfl Tryz.underlying138 rfl ks0 (by decide) rfl) ?_;exact I0.val (P0 _ gr 1) (Z0 _) rfl (v:=.int .u64 0) (J0 rfl) O):P:=h k
theorem U353(h:Q->P:=by intro O;refine I0.val (P0 _ gr 2) (Z0 _) rfl (v:=.pointer (some ⟨gr.blk,gr.off,none⟩)) (A3 (s:=1) gr.off gr.off rfl Tryz.underlying138 rfl ks0 (by decide) rfl) ?_;exact I0.Jm0 (Z0 _) rfl Tryz.func110 uu0 rfl rfl uv0 rfl O):P:=h k
theorem U175(h:Q->P:=by intro O;refine U6 ?_;exact L.va (B2 (r:=false) (by decide) (M4 (m:=5) (k:=1) rfl rfl)) O):P:=h k
theorem U176(h:Q->P:=by intro O;refine L.va (B2 (r:=false) (by decide) (M4 (m:=5) (k:=2) rfl rfl)) ?_;exact U8 O):P:=h k
theorem U177(h:Q->P:=by intro O;refine L.va (B2 (r:=false) (by decide) (M4 (m:=5) (k:=3) rfl rfl)) ?_;exact U8 O):P:=h k
theorem U178(h:Q->P:=by intro O;refine L.va (B2 (r:=false) (by decide) (M4 (m:=5) (k:=4) rfl rfl)) ?_;exact U8 O):P:=h k
theorem U179(h:Q->P:=by intro O;refine L.va (B2 (r:=true) (by decide) (M4 (m:=5) (k:=5) rfl rfl)) ?_;exact U58 O):P:=h k
theorem U354(h:B Q->P:=by intro O;refine I0.val A2 (Z0 _) rfl (v:=.int .u64 0) (B6 (r:=0) rfl rfl (ej0 v 0 (by omega) (by omega))) ?_;exact I0.val A2 (Z0 _) rfl (v:=.int .u32 0) (q3 (r:=0) rfl Tryz.underlying136 Tryz.underlying139 (by decide)) O.1):P:=h ⟨k⟩
theorem U355(h:Q->P:=by intro O;refine L.va (cm0 rfl rfl) ?_;exact U16 O):P:=h k
theorem U180(h:Q->P:=by intro O;refine L.va (X6 rfl) ?_;exact L.nil O):P:=h k
theorem U41(h:Q->P:=by intro O;refine L.va (ub0 rfl) ?_;exact U2 O):P:=h k
theorem U50(h:Q->P:=by intro O;refine U4 ?_;exact L.va (aw0 rfl) O):P:=h k
theorem U356(h:Q->P:=by intro O;have C3:=C3.E0 I1;refine U34 ?_;refine U25 ?_;revert C3;exact O):P:=h k
theorem U357(h:B Q->P:=by intro O;refine I0.val (j0 _) (Z0 _) rfl (v:=.int .u64 (((v*4294967296+0:Nat):Int))) (J0 rfl) ?_;exact I0.val (j0 _) (Z0 _) rfl (v:=.int .u64 0) (B6 (r:=0) rfl rfl (kq0 v 0 (by omega) (by omega))) O.1):P:=h ⟨k⟩
theorem U358(h:B Q->P:=by intro O;refine I0.val (j0 _) (Z0 _) rfl (v:=.int .u64 (((v*4294967296+1:Nat):Int))) (J0 rfl) ?_;exact I0.val (j0 _) (Z0 _) rfl (v:=.int .u64 0) (B6 (r:=0) rfl rfl (kq0 v 1 (by omega) (by omega))) O.1):P:=h ⟨k⟩
theorem U359(h:B Q->P:=by intro O;refine I0.val (j0 _) (Z0 _) rfl (v:=.int .u64 (((0*4294967296+0:Nat):Int))) (J0 rfl) ?_;exact I0.val (j0 _) (Z0 _) rfl (v:=.int .u64 0) (B6 (r:=0) rfl rfl (kq0 0 0 (by omega) (by omega))) O.1):P:=h ⟨k⟩
theorem U360(h:B Q->P:=by intro O;refine I0.val (P0 _ gr 2) (Z0 _) rfl (v:=.int .u64 0) (B6 (r:=0) rfl rfl (kq0 0 1 (by omega) (by omega))) ?_;exact I0.val (P0 _ gr 2) (Z0 _) rfl (v:=.bool false) (c7 (r:=false) rfl rfl (by decide)) O.1):P:=h ⟨k⟩
theorem U249(h:Q->P:=by intro O;refine L.on rfl ?_;exact L.va (M4 rfl rfl) O):P:=h k
theorem U250(h:Q->P:=by intro O;refine L.on rfl ?_;exact L.va (F0 rfl underlying26 rfl (g6.A0 0 (v:=.slice R.ea R.evs.length R.ec) rfl)) O):P:=h k
theorem U251(h:Q->P:=by intro O;refine U328 ?_;exact D.va (fun w' r3=>(F0 rfl underlying2 rfl ((C3.E0 r3).A0 3 (v:=.int .i64 vv) rfl))) O):P:=h k
theorem U252(h:Q->P:=by intro O;refine U224 ?_;exact U6 O):P:=h k
theorem U181(h:Q->P:=by intro O;refine L.nil ?_;exact B.nrm O):P:=h k
theorem U253(h:Q->P:=by intro O;refine U328 ?_;exact D.va (fun w' r3=>(F0 rfl underlying2 rfl ((C3.E0 r3).A0 3 (v:=.int .i64 7) rfl))) O):P:=h k
theorem U361(h:Q->P:=by intro O;refine AtR.leave1 (P0 _ gr 2) hb2 rfl Tryz.func94 rfl (.int .u64 (((0*4294967296+1:Nat):Int))) rfl ?_;exact I0.val (P0 _ gr 2) (Z0 _) rfl (v:=.int .u64 (((0*4294967296+1:Nat):Int))) (Q0 rfl) O):P:=h k
theorem U110(h:Q->P:=by intro O;have hE:=hE.E0 I1;have hc:=hc.E0 I1;revert hE hc;exact O):P:=h k
theorem U362(h:Q->P:=by intro O;refine L.va (u1 rfl) ?_;exact L.on rfl O):P:=h k
theorem U363(h:Q->P:=by intro O;refine AtR.leave1 (j0 _) hb2 rfl Tryz.func94 rfl (.int .u64 (((v*4294967296+0:Nat):Int))) rfl ?_;exact I0.val (j0 _) (Z0 _) rfl (v:=.int .u64 (((v*4294967296+0:Nat):Int))) (Q0 rfl) O):P:=h k
theorem U364(h:Q->P:=by intro O;refine AtR.leave1 (j0 _) hb2 rfl Tryz.func94 rfl (.int .u64 (((v*4294967296+1:Nat):Int))) rfl ?_;exact I0.val (j0 _) (Z0 _) rfl (v:=.int .u64 (((v*4294967296+1:Nat):Int))) (Q0 rfl) O):P:=h k
theorem U254(h:Q->P:=by intro O;refine D.va (fun w' r3=>(F0 rfl underlying146 rfl ((hC.E0 r3).A0 1 (v:=.p R.rb) rfl))) ?_;exact U332 O):P:=h k
theorem U365(h:Q->P:=by intro O;refine I0.toUnsafe Uk0 (Z0 _) rfl rfl (.inr rfl) Tryz.underlying172 Tryz.underlying128 Nj0 ?_;exact I0.sn0 q4 (Z0 _) .write (by simp) (.inr (.inr rfl)) rfl Tryz.func103 Wi0 rfl rfl Wt0 rfl O):P:=h k
theorem U18(h:Q->P:=by intro O;refine U145 ?_;intro hb hT;refine U356 ?_;intro C3;revert hb hT C3;exact O):P:=h k
theorem U19(h:Q->P:=by intro O;refine U110 ?_;intro hE hc;refine U356 ?_;intro C3;revert hE hc C3;exact O):P:=h k
theorem U255(h:Q->P:=by intro O;refine At.seq q4 ?_;exact At.region q4 O):P:=h k
theorem U366(h:B Q->P:=by intro O;refine I0.val q4 (Z0 _) rfl (v:=.int .u64 (((v*4294967296+0:Nat):Int))) (J0 rfl) ?_;exact I0.val q4 (Z0 _) rfl (v:=.int .u64 0) (B6 (r:=0) rfl rfl (kq0 v 0 (by omega) (by omega))) O.1):P:=h ⟨k⟩
theorem U182(h:Q->P:=by intro O;refine U24 ?_;exact L.va (O0 rfl underlying153 rfl El0 (by decide)) O):P:=h k
theorem U367(h:Q->P:=by intro O;refine I0.toUnsafe Ul0 (Z0 _) rfl rfl (.inl rfl) Tryz.underlying165 Tryz.underlying128 zo0 ?_;exact I0.sn0 I2 (Z0 _) .acquire (by simp) (.inl rfl) rfl Tryz.func100 Mz0 rfl rfl Nh0 rfl O):P:=h k
theorem U183(h:Q->P:=by intro O;refine L.va (Y2 rfl) ?_;exact L.va (r7 rfl rfl underlying61) O):P:=h k
theorem U184(h:Q->P:=by intro O;refine At.seq n4 ?_;exact At.region n4 O):P:=h k
theorem U185(h:Q->P:=by intro O;refine U24 ?_;exact L.va (O0 rfl underlying125 rfl Mu0 (by decide)) O):P:=h k
theorem U65(h:Q->P:=by intro O;refine U4 ?_;exact L.va (Y2 rfl) O):P:=h k
theorem U186(h:Q->P:=by intro O;refine L.va (F0 rfl underlying193 rfl (g6.A0 0 (v:=.pointer (some ⟨sb,0,none⟩)) rfl)) ?_;refine L.va (u1 rfl) ?_;exact L.va (O0 rfl underlying195 rfl fq0 (by decide)) O):P:=h k
theorem U368(h:Q->P:=by intro O;have P4:=P4.mod B5 rfl;have A5:=A5.mod B5 rfl;revert P4 A5;exact O):P:=h k
theorem U256(h:Q->P:=by intro O;have h5:=(Goes.T9 hg C3 (Nat.zero_lt_succ _) hF5).2;have hgn:Gn K w0 m F Q4 u F':=Gn.H5 ⟨hK,Goes.down g9 hg⟩ n3 ⟨E8,h5⟩;revert h5 hgn;exact O):P:=h k
theorem U187(h:Q->P:=by intro O;refine U329 ?_;exact L.va (O0 rfl underlying195 rfl sz4 (by decide)) O):P:=h k
theorem U370(h:Q->P:=by intro O;refine I0.val W0 (Z0 _) rfl (v:=.int .u32 0) (q3 (r:=0) rfl Tryz.underlying136 Tryz.underlying139 (by decide)) ?_;exact I0.val W0 (Z0 _) rfl (v:=.int .u32 0) (Q0 rfl) O):P:=h k
theorem U371(h:Q->P:=by intro O;refine AtR.leave1 A2 S4 rfl Tryz.func96 rfl (.int .u64 (((v*4294967296+0:Nat):Int))) rfl ?_;exact I0.val A2 (Z0 _) rfl (v:=.int .u64 (((v*4294967296+0:Nat):Int))) (Q0 rfl) O):P:=h k
theorem U257(h:Q->P:=by intro O;refine U107 ?_;exact L.va (F0 rfl underlying4 rfl ((hg.m.blk i c hc).A0 10 (v:=.bool c.st) rfl)) O):P:=h k
theorem U375(h:Q->P:=by intro O;refine I0.val j3 (Z0 _) rfl (v:=.pointer (some ⟨gr.blk,gr.off,none⟩)) (J0 rfl) ?_;exact I0.val j3 (Z0 _) rfl (v:=.pointer (some ⟨gr.blk,gr.off,none⟩)) (J3 rfl) O):P:=h k
theorem U376(h:Q->P:=by intro O;refine I0.v8 W0 (Z0 _) rfl rfl (v:=.i 1) (J0 rfl) ?_;exact I0.v8 W0 (Z0 _) rfl rfl (v:=.int .i32 1) (q3 (r:=1) rfl Tryz.underlying3 Tryz.underlying21 (by decide)) O):P:=h k
theorem U82(h:Q->P:=by intro O;refine I0.nil I2 ?_;exact At.seq I2 O):P:=h k
theorem U377(h:Q->P:=by intro O;refine I0.val I2 (Z0 _) rfl (v:=.pointer (some ⟨gr.blk,gr.off,none⟩)) (J0 rfl) ?_;exact I0.val I2 (Z0 _) rfl (v:=.pointer (some ⟨gr.blk,gr.off,none⟩)) (J3 rfl) O):P:=h k
theorem U378(h:Q->P:=by intro O;refine I0.val A2 (Z0 _) rfl (v:=.int .u64 (((v*4294967296+0:Nat):Int))) (J0 rfl) ?_;exact I0.val A2 (Z0 _) rfl (v:=.int .u64 (((v*4294967296+0:Nat):Int))) (J0 rfl) O):P:=h k
theorem U379(h:Q->P:=by intro O;refine I0.val A2 (Z0 _) rfl (v:=.int .u64 (((v*4294967296+0:Nat):Int))) (J0 rfl) ?_;exact I0.val A2 (Z0 _) rfl (v:=.int .u64 (((v*4294967296+1:Nat):Int))) (J0 rfl) O):P:=h k
theorem U258(h:Q->P:=by intro O;refine I0.val hY hb rfl (v:=.p R.rb) (J0 rfl) ?_;exact I0.val hY hb rfl (J3 rfl) O):P:=h k
theorem U380(h:Q->P:=by intro O;refine I0.v8 I2 (Z0 _) rfl rfl (v:=.int .u64 0) (B6 (r:=0) rfl rfl (by decide)) ?_;exact I0.v8 I2 (Z0 _) rfl rfl (v:=.bool false) (c7 (r:=false) rfl rfl (by decide)) O):P:=h k
theorem U259(h:Q->P:=by intro O;refine F.va rfl rfl (fun w' r3=>(Y2 rfl)) ?_;exact F.va rfl rfl (fun w' r3=>(u1 rfl)) O):P:=h k
theorem U381(h:B Q->P:=by intro O;refine I0.val A2 (Z0 _) rfl (v:=.int .i32 (((v:Nat):Int))) (J0 rfl) ?_;exact I0.val A2 (Z0 _) rfl (v:=.bool false) (Z8 (r:=false) rfl rfl (decide_eq_false (by omega))) O.1):P:=h ⟨k⟩
theorem U382(h:Q->P:=by intro O;refine I0.v8 (P0 _ gr 2) (Z0 _) rfl rfl (v:=.int .u32 1) (J0 rfl) ?_;exact I0.v8 (P0 _ gr 2) (Z0 _) rfl rfl (v:=.bool false) (Z8 (r:=false) rfl rfl (by decide)) O):P:=h k
theorem U188(h:Q->P:=by intro O;refine U3 ?_;intro hb;refine L.box (cs:=#[.pointer (some ⟨sb,0,none⟩)]) rfl rfl (fun w b2 F2=>?_);revert hb w b2 F2;exact O):P:=h k
theorem U383(h:Q->P:=by intro O;refine I0.v8 (j0 _) (Z0 _) rfl rfl (v:=.int .u32 0) (J0 rfl) ?_;exact I0.v8 (j0 _) (Z0 _) rfl rfl (v:=.bool true) (Z8 (r:=true) rfl rfl (by decide)) O):P:=h k
theorem U384(h:Q->P:=by intro O;refine I0.val (j0 _) (Z0 _) rfl (v:=.bool false) (J0 rfl) ?_;refine U223 ?_;exact U345 O):P:=h k
theorem U385(h:Q->P:=by intro O;refine I0.val (P0 _ gr 2) (Z0 _) rfl (v:=.bool false) (bs0 (r:=false) rfl rfl (by decide)) ?_;exact I0.val (P0 _ gr 2) (Z0 _) rfl (v:=.bool false) (J0 rfl) O):P:=h k
theorem U386(h:Q->P:=by intro O;refine U229 ?_;exact I0.val (B3 _ gr) (Z0 _) rfl (v:=.pointer (some ⟨gr.blk,gr.off,none⟩)) (A3 (s:=1) gr.off gr.off rfl Tryz.underlying141 rfl kt0 (by decide) rfl) O):P:=h k
theorem U387(h:Q->P:=by intro O;refine I0.val (P0 _ gr 2) (Z0 _) rfl (v:=.int .u32 1) (J0 rfl) ?_;exact I0.val (P0 _ gr 2) (Z0 _) rfl (v:=.bool true) (c7 (r:=true) rfl rfl (by decide)) O):P:=h k
theorem U388(h:Q->P:=by intro O;refine I0.val (P0 _ gr 0) (Z0 _) rfl (v:=.int .u32 1) (J0 rfl) ?_;exact I0.val (P0 _ gr 0) (Z0 _) rfl (v:=.bool true) (c7 (r:=true) rfl rfl (by decide)) O):P:=h k
theorem U389(h:Q->P:=by intro O;have K4:=K4.mod B5 rfl;have j5:=j5.mod B5 rfl;revert K4 j5;exact O):P:=h k
theorem U260(h:Q->P:=by intro O;refine L.va (u1 rfl) ?_;exact L.va (O0 rfl underlying145 rfl Eh0 (by decide)) O):P:=h k
theorem U390(h:B Q->P:=by intro O;refine I0.val W0 (Z0 _) rfl (v:=.bool true) (bs0 (r:=true) rfl rfl (decide_eq_true (by omega))) ?_;exact I0.val W0 (Z0 _) rfl (v:=.bool true) (J0 rfl) O.1):P:=h ⟨k⟩
theorem U261(h:Q->P:=by intro O;refine I0.val I2 (Z0 _) rfl (v:=.int .u64 0) (Q0 rfl) ?_;exact I0.nil I2 O):P:=h k
theorem U262(h:Q->P:=by intro O;refine I0.val n4 (Z0 _) rfl (v:=.int .u64 0) (Q0 rfl) ?_;exact I0.nil n4 O):P:=h k
theorem U263(h:Q->P:=by intro O;refine U2 ?_;exact ZA.q5 hZ rfl O):P:=h k
theorem U83(h:Q->P:=by intro O;refine I0.nil W0 ?_;refine At.q5 W0 rfl ?_;exact At.skip W0 O):P:=h k
theorem U391(h:Q->P:=by intro O;refine I0.val (j0 _) (Z0 _) rfl (v:=.int .u32 1) (J0 rfl) ?_;exact I0.val (j0 _) (Z0 _) rfl (v:=.bool true) (c7 (r:=true) rfl rfl (by decide)) O):P:=h k
theorem U392(h:Q->P:=by intro O;refine I0.val (j0 _) (Z0 _) rfl (v:=.bool false) (bs0 (r:=false) rfl rfl (by decide)) ?_;exact I0.val (j0 _) (Z0 _) rfl (v:=.bool false) (J0 rfl) O):P:=h k
theorem U264(h:Q->P:=by intro O;refine L.va (u1 rfl) ?_;exact L.va (O0 rfl underlying145 rfl sz3 (by decide)) O):P:=h k
theorem U265(h:Q->P:=by intro O;refine U45 ?_;exact L.va (u1 rfl) O):P:=h k
theorem U393(h:Q->P:=by intro O;refine I0.val (j0 _) (Z0 _) rfl (v:=.int .u32 0) (Pe0 (r:=0) rfl rfl (by decide)) ?_;exact I0.val (j0 _) (Z0 _) rfl (v:=.int .u32 0) (Q0 rfl) O):P:=h k
theorem U394(h:Q->P:=by intro O;refine I0.toUnsafe Zm0 (Z0 _) rfl rfl (.inl rfl) Tryz.underlying165 Tryz.underlying128 zo0 ?_;exact I0.Zn0 (Z0 _) rfl Tryz.func100 Mz0 rfl rfl Nh0 rfl O):P:=h k
theorem U191(h:Q->P:=by intro O;rw[S2 s0,S2 s7,S2 s8,S2 s9];exact O):P:=h k
theorem U192(h:Q->P:=by intro O;refine I0.nil (B3 _ gr) ?_;exact U106 O):P:=h k
theorem U395(h:Q->P:=by intro O;refine I0.val q4 (Z0 _) rfl (v:=.bool false) (c7 (r:=false) rfl rfl (by decide)) ?_;exact I0.val q4 (Z0 _) rfl (v:=.bool false) (J0 rfl) O):P:=h k
theorem U266(h:Q->P:=by intro O;refine D.va (fun w' r3=>(Y2 rfl)) ?_;exact D.va (fun w' r3=>(u1 rfl)) O):P:=h k
theorem U111(h:Q->P:=by intro O;show L _ _ _ _ _ _ _;exact L.va (Y2 rfl) O):P:=h k
theorem U267(h:Q->P:=by intro O;refine L.va (O0 rfl underlying149 rfl Pj0 (by decide)) ?_;exact L.on rfl O):P:=h k
theorem U396(h:Q->P:=by intro O;refine I0.val (P0 _ gr 2) (Z0 _) rfl (v:=.bool true) (J0 rfl) ?_;exact I0.v8 (P0 _ gr 2) (Z0 _) rfl rfl (v:=.int .i64 (-1)) (J0 rfl) O):P:=h k
theorem U193(h:Q->P:=by intro O;refine U34 ?_;exact W.block O):P:=h k
theorem U397(h:B Q->P:=by intro O;refine I0.val (j0 _) (Z0 _) rfl (v:=.int .u64 (((v:Nat):Int))) (bt0 (r:=((v:Nat):Int)) rfl rfl (by decide) (kr0 v 1 (by omega))) ?_;exact U324 O.1):P:=h ⟨k⟩
theorem U398(h:B Q->P:=by intro O;refine I0.val (j0 _) (Z0 _) rfl (v:=.int .u64 (((v:Nat):Int))) (bt0 (r:=((v:Nat):Int)) rfl rfl (by decide) (kr0 v 0 (by omega))) ?_;exact U324 O.1):P:=h ⟨k⟩
theorem U399(h:Q->P:=by intro O;refine I0.val I2 (Z0 _) rfl (v:=.int .u32 0) (J0 rfl) ?_;exact I0.val I2 (Z0 _) rfl (v:=.bool true) (Z8 (r:=true) rfl rfl (by decide)) O):P:=h k
theorem U400(h:Q->P:=by intro O;refine L.va (O0 rfl underlying115 rfl fq0 (by decide)) ?_;exact L.va (G0 (cs:=[.i obj,.i num]) rfl underlying107 rfl fq0 rfl (hC.J1 rfl)) O):P:=h k
theorem U401(h:Q->P:=by intro O;refine L.va (C2 (i:=0) (n:=2) rfl rfl underlying62 wv0 (by decide)) ?_;exact L.va (F0 rfl underlying61 rfl (hT.A0 0 (v:=.pointer none) rfl)) O):P:=h k
theorem U112(h:Q->P:=by intro O;refine W.region rfl ?_;exact L.va ck0 O):P:=h k
theorem U402(h:Q->P:=by intro O;refine L.va (F0 rfl underlying3 rfl (C3.A0 2 (v:=.int .i64 6) rfl)) ?_;exact L.va (B2 (r:=false) (by decide) (M4 (m:=6) (k:=5) rfl rfl)) O):P:=h k
theorem U403(h:Q->P:=by intro O;refine L.va (F0 rfl underlying3 rfl (C3.A0 2 (v:=.int .i64 9) rfl)) ?_;exact L.va (B2 (r:=false) (by decide) (M4 (m:=9) (k:=8) rfl rfl)) O):P:=h k
theorem U404(h:Q->P:=by intro O;refine I0.val (P0 _ gr 2) (Z0 _) rfl (v:=.bool true) (J0 rfl) ?_;exact I0.v8 (P0 _ gr 2) (Z0 _) rfl rfl (v:=.i (-1)) (J0 rfl) O):P:=h k
theorem U405(h:Q->P:=by intro O;refine L.va (F0 rfl underlying3 rfl (C3.A0 2 (v:=.int .i64 7) rfl)) ?_;exact L.va (B2 (r:=true) (by decide) (M4 (m:=7) (k:=7) rfl rfl)) O):P:=h k
theorem U406(h:Q->P:=by intro O;refine L.va (F0 rfl underlying3 rfl (C3.A0 2 (v:=.int .i64 8) rfl)) ?_;exact L.va (B2 (r:=true) (by decide) (M4 (m:=8) (k:=8) rfl rfl)) O):P:=h k
theorem U268(h:B Q->P:=by intro O;refine ZA.q5 hZ (rb (decide_eq_false (by omega))) ?_;exact ZA.exit hZ rfl O.1):P:=h ⟨k⟩
theorem U407(h:Q->P:=by intro O;refine L.on rfl ?_;refine L.va (B2 (r:=false) (by decide) (kc0 (m:=0) (k:=0) rfl rfl)) ?_;refine L.va (X6 rfl) ?_;exact U326 O):P:=h k
theorem U113(h:Q->P:=by intro O;refine ZA.Z2 hZ ?_;exact ZA.seq hZ O):P:=h k
theorem U408(h:Q->P:=by intro O;refine U26 ?_;exact I0.is0 (Z0 _) rfl (v:=.pointer (some ⟨bx,0,none⟩)) rfl Tryz.underlying86 rfl (.inr ⟨_,_,(.tail _ (.head _)),rfl,rfl⟩) O):P:=h k
theorem U114(h:Q->P:=by intro O;have N9:=F3.blk;refine L.box (cs:=#[.int .i64 x]) rfl rfl (fun w b5 F5=>?_);revert N9 w b5 F5;exact O):P:=h k
theorem U410(h:Q->P:=by intro O;refine L.va (F0 rfl underlying151 rfl (hM.run.A0 0 (v:=.slice R.ca R.cl.length R.cc) rfl)) ?_;exact L.va (O8 rfl underlying151 rfl) O):P:=h k
theorem U411(h:Q->P:=by intro O;refine L.va (ay0 (i:=i) rfl rfl underlying151 Ei0 hM.cls.sl R2) ?_;exact L.va (F0 (v:=.p c.cb) rfl underlying91 rfl (Es0 hM hc)) O):P:=h k
theorem U270(h:Q->P:=by intro O;refine I0.nil q4 ?_;exact At.J4 q4 rfl O):P:=h k
theorem U412(h:Q->P:=by intro O;refine L.va (F0 rfl underlying56 rfl (hC.A0 2 (v:=.pointer none) rfl)) ?_;exact L.call (M0 rfl func44 rfl su0 rfl) (Ao0 w) O):P:=h k
theorem U413(h:Q->P:=by intro O;refine At.region (P0 _ gr 0) ?_;exact I0.val (P0 _ gr 0) (Z0 _) rfl (v:=.pointer (some ⟨gr.blk,gr.off,none⟩)) (J0 rfl) O):P:=h k
theorem U414(h:B Q->P:=by intro O;refine W.fl 7 [4] [0,1,2,3,5,6,4] (fun w'=>True) (by kernel_rfl) (by kernel_rfl) (by kernel_rfl) (by kernel_rfl) (by kernel_rfl) trivial ?_;have n6:Below w.heap.size w w.drew:=(Below.refl w.heap.size w).drew;have hb:=N0 hb n6;have hW:=hW.E0 n6;have V6:=V6.E0 n6;revert n6 hb hW V6;exact O.1):P:=h ⟨k⟩
theorem U271(h:Q->P:=by intro O;refine L.va (Y2 rfl) ?_;exact L.va (r7 rfl rfl underlying56) O):P:=h k
theorem U272(h:Q->P:=by intro O;refine U24 ?_;exact L.va (O0 rfl underlying153 rfl iw0 (by decide)) O):P:=h k
theorem U415(h:Q->P:=by intro O;refine I0.val I2 (Z0 _) rfl (v:=.bool false) (I7 rfl rfl) ?_;exact I0.val I2 (Z0 _) rfl (v:=.bool false) (J0 rfl) O):P:=h k
theorem U416(h:Q->P:=by intro O;refine L.va (F0 rfl underlying25 rfl (((hM.E0 hb).blk i _ hc).A0 6 (v:=.func (.func f) #[] caps) rfl)) ?_;exact L.on rfl O):P:=h k
theorem U115(h:Q->P:=by intro O;refine U38 ?_;exact U73 O):P:=h k
theorem U417(h:Q->P:=by intro O;refine I0.val (P0 _ gr 2) (Z0 _) rfl (v:=.bool false) (ae0 (r:=false) rfl rfl (by decide)) ?_;exact I0.nil (P0 _ gr 2) O):P:=h k
theorem U418(h:Q->P:=by intro O;refine I0.val I2 (Z0 _) rfl (v:=.bool true) (J0 rfl) ?_;exact I0.v8 I2 (Z0 _) rfl rfl (v:=.int .u64 0) (J0 rfl) O):P:=h k
theorem U419(h:Q->P:=by intro O;refine I0.val q4 (Z0 _) rfl (v:=.bool false) (J0 rfl) ?_;exact I0.Um0 (Z0 _) rfl Tryz.func104 Wj0 rfl rfl Ww0 rfl O):P:=h k
theorem U273(h:Q->P:=by intro O;refine U104 ?_;exact L.va (O0 rfl underlying30 rfl Jp0 (by decide)) O):P:=h k
theorem U28(h:Q->P:=by intro O;rw[hw];exact O):P:=h k
theorem U420(h:Q->P:=by intro O;refine U146 ?_;exact L.va (S3 (l:=[.tmp 5,.tmp 3]) (vs:=[.pointer (some ⟨b5,0,none⟩),.pointer (some ⟨b3,0,none⟩)]) rfl) O):P:=h k
theorem U421(h:Q->P:=by intro O;refine I0.val W0 (Z0 _) rfl (v:=.bool true) (J0 rfl) ?_;exact I0.v8 W0 (Z0 _) rfl rfl (v:=.i 1) (J0 rfl) O):P:=h k
theorem U422(h:B Q->P:=by intro O;refine I0.val (j0 _) (Z0 _) rfl (v:=.int .u64 0) (B6 (r:=0) rfl rfl (ej0 v 0 (by omega) (by omega))) ?_;exact U325 O.1):P:=h ⟨k⟩
theorem U423(h:Q->P:=by intro O;refine L.va (O0 rfl underlying107 rfl sz3 (by decide)) ?_;exact L.va (F0 rfl underlying3 rfl (C3.A0 0 (v:=.i o) rfl)) O):P:=h k
theorem U424(h:Q->P:=by intro O;refine L.va (O0 rfl underlying107 rfl sz3 (by decide)) ?_;exact L.va (F0 rfl underlying3 rfl (C3.A0 1 (v:=.i n) rfl)) O):P:=h k
theorem U425(h:B Q->P:=by intro O;refine I0.val (j0 _) (Z0 _) rfl (v:=.int .u64 0) (B6 (r:=0) rfl rfl (ej0 0 0 (by omega) (by omega))) ?_;exact U325 O.1):P:=h ⟨k⟩
theorem U274(h:B Q->P:=by intro O;(have hF5:¬F b5:=fun z=>by have:=hK.tlt hT z;omega);(have hF2:¬F b2:=fun z=>by have:=hK.tlt hT z;omega);revert hF5 hF2;exact O.1):P:=h ⟨k⟩
theorem U426(h:Q->P:=by intro O;refine L.va (F0 rfl underlying67 rfl (g6.A0 0 (v:=.pointer (some ⟨cb,0,none⟩)) rfl)) ?_;exact L.va (u1 rfl) O):P:=h k
theorem U427(h:Q->P:=by intro O;refine L.va (F0 rfl underlying67 rfl (N9.A0 0 (v:=.pointer (some ⟨cb,0,none⟩)) rfl)) ?_;exact L.va (u1 rfl) O):P:=h k
theorem U428(h:Q->P:=by intro O;refine L.va (F0 rfl underlying65 rfl (g6.A0 0 (v:=.pointer (some ⟨cb,0,none⟩)) rfl)) ?_;exact L.va (u1 rfl) O):P:=h k
theorem U429(h:Q->P:=by intro O;refine L.va (F0 rfl underlying65 rfl (N9.A0 0 (v:=.pointer (some ⟨cb,0,none⟩)) rfl)) ?_;exact L.va (u1 rfl) O):P:=h k
theorem U430(h:Q->P:=by intro O;have P4:=P4.E0 I1;have A5:=A5.E0 I1;revert P4 A5;exact O):P:=h k
theorem U431(h:Q->P:=by intro O;have hb:=N0 hb I1;have hW:=hW.E0 I1;have V6:=V6.E0 I1;revert hb hW V6;exact O):P:=h k
theorem U84(h:Q->P:=by intro O;refine U7 ?_;exact W.region rfl O):P:=h k
theorem U194(h:Q->P:=by intro O;exact U61 O):P:=h k
theorem U85(h:Q->P:=by intro O;refine U44 ?_;exact W.region rfl O):P:=h k
theorem U51(h:Q->P:=by intro O;refine U389 ?_;intro K4 j5;have k5:=k5.mod B5 rfl;revert K4 j5 k5;exact O):P:=h k
theorem U275(h:Q->P:=by intro O;refine U7 ?_;exact W.seq O):P:=h k
theorem U116(h:Q->P:=by intro O;refine L.nil ?_;exact U252 O):P:=h k
theorem U432(h:Q->P:=by intro O;refine I0.val (P0 _ gr 2) (Z0 _) rfl (v:=.int .i32 (((0:Nat):Int))) (Q0 rfl) ?_;exact I0.nil (P0 _ gr 2) O):P:=h k
theorem U42(h:Q->P:=by intro O;refine U342 ?_;intro B5 hb;have hW:=hW.mod B5 rfl;refine U368 ?_;intro P4 A5;revert B5 hb hW P4 A5;exact O):P:=h k
theorem U195(h:Q->P:=by intro O;refine L.alloc (cs:=#[.int .i64 0]) zr2 rfl (fun w b5 F5=>?_);refine U12 ?_;intro E8 hb;revert w b5 F5 E8 hb;exact O):P:=h k
theorem U32(h:Q->P:=by intro O;refine U315 ?_;refine U315 ?_;exact F.va rfl rfl (fun w' r3=>(u1 rfl)) O):P:=h k
theorem U33(h:Q->P:=by intro O;refine U7 ?_;exact U80 O):P:=h k
theorem U276(h:Q->P:=by intro O;refine U6 ?_;refine L.va (B2 (r:=false) (by decide) (M4 (m:=2) (k:=1) rfl rfl)) ?_;refine U8 ?_;refine L.va (B2 (r:=true) (by decide) (M4 (m:=2) (k:=2) rfl rfl)) ?_;exact U58 O):P:=h k
theorem U433(h:B Q->P:=by intro O;refine I0.val W0 (Z0 _) rfl (v:=.bool false) (ae0 (r:=false) rfl rfl (decide_eq_false (by omega))) ?_;exact U83 O.1):P:=h ⟨k⟩
theorem U434(h:Q->P:=by intro O;refine I0.call (B3 _ gr) (Z0 _) [.pointer (some ⟨gr.blk,gr.off,none⟩),.int .u64 18446744069414584320] 10 rfl Tryz.func94 Wg0 rfl rfl rfl (fun cs2 hb2=>?_);refine U106 ?_;revert cs2 hb2;exact O):P:=h k
theorem U196(h:Q->P:=by intro O;refine At.region (P0 _ gr 1) ?_;refine I0.val (P0 _ gr 1) (Z0 _) rfl (v:=.pointer (some ⟨gr.blk,gr.off,none⟩)) (J0 rfl) ?_;exact I0.val (P0 _ gr 1) (Z0 _) rfl (v:=.pointer (some ⟨gr.blk,gr.off,none⟩)) (J3 rfl) O):P:=h k
theorem U277(h:Q->P:=by intro O;refine U384 ?_;refine U46 ?_;exact I0.val (j0 _) (Z0 _) rfl (v:=.int .i32 (((v:Nat):Int))) (J0 rfl) O):P:=h k
theorem U435(h:Q->P:=by intro O;refine I0.val (j0 _) (Z0 _) rfl (v:=.int .i32 (((0:Nat):Int))) (Q0 rfl) ?_;exact I0.nil (j0 _) O):P:=h k
theorem U436(h:Q->P:=by intro O;refine At.region I2 ?_;exact I0.val I2 (Z0 _) rfl (v:=.pointer (some ⟨gr.blk,gr.off,none⟩)) (J0 rfl) O):P:=h k
theorem U437(h:Q->P:=by intro O;refine I0.pt0 (B3 _ gr) (Z0 _) (.bool false) rfl Tryz.func90 Wf0 rfl rfl Wu0 ?_;exact I0.nil (B3 _ gr) O):P:=h k
theorem U438(h:Q->P:=by intro O;refine At.region A2 ?_;exact I0.up0 A2 (Z0 _) .disable (by simp) (.inl rfl) rfl Tryz.func88 Pt0 rfl rfl Pu0 O):P:=h k
theorem U439(h:Q->P:=by intro O;refine W.region rfl ?_;exact L.va (F0 rfl underlying67 rfl (M5.A0 0 (v:=.pointer (some ⟨cb,0,none⟩)) rfl)) O):P:=h k
theorem U117(h:Q->P:=by intro O;refine I0.nil W0 ?_;exact U109 O):P:=h k
theorem U440(h:Q->P:=by intro O;refine D.va (fun w' r3=>(u1 rfl)) ?_;exact D.va (fun w' r3=>(O0 rfl underlying123 rfl sz2 (by decide))) O):P:=h k
theorem U441(h:Q->P:=by intro O;refine D.va (fun w' r3=>(u1 rfl)) ?_;exact D.va (fun w' r3=>(O0 rfl underlying195 rfl sz3 (by decide))) O):P:=h k
theorem U66(h:Q->P:=by intro O;refine U30 ?_;exact U73 O):P:=h k
theorem U442(h:Q->P:=by intro O;refine AtR.leave1 (j0 _) hb2 rfl Tryz.func94 rfl (.int .u64 (((0*4294967296+0:Nat):Int))) rfl ?_;exact U234 O):P:=h k
theorem U443(h:Q->P:=by intro O;refine W.region rfl ?_;refine L.va (O0 rfl underlying52 rfl sz3 (by decide)) ?_;exact L.va (F0 rfl underlying3 rfl (hB1.A0 2 (v:=.int .i64 o.call) rfl)) O):P:=h k
theorem U118(h:Q->P:=by intro O;refine T.nrm ?_;show ZA _ _ _ _ _ _ _;exact O):P:=h k
theorem U43(h:B Q->P:=by intro O;refine U414 ?_;intro n6 hb hW V6;have P4:=P4.E0 n6;have A5:=A5.E0 n6;revert n6 hb hW V6 P4 A5;exact O.1):P:=h ⟨k⟩
theorem U444(h:Q->P:=by intro O;refine U231 ?_;exact I0.val W0 (Z0 _) rfl (v:=.int .u64 ((((v+1)*4294967296+0:Nat):Int))) (J0 rfl) O):P:=h k
theorem U445(h:Q->P:=by intro O;refine U231 ?_;exact I0.val W0 (Z0 _) rfl (v:=.int .u64 ((((0+1)*4294967296+0:Nat):Int))) (J0 rfl) O):P:=h k
theorem U446(h:Q->P:=by intro O;refine U60 ?_;exact L.va (F0 rfl underlying4 rfl (((hM.E0 hb).blk i _ hc).A0 9 (v:=.bool true) rfl)) O):P:=h k
theorem U278(h:Q->P:=by intro O;refine ZA.region hZ ?_;refine ZA.recover hZ (i:=0) (rest:=[]) rfl rfl rfl rfl hmd (fun c45 v hsv=>?_);revert c45 v hsv;exact O):P:=h k
theorem U279(h:Q->P:=by intro O;refine U3 ?_;intro hb;refine L.box (cs:=#[.pointer (some ⟨cb,0,none⟩)]) rfl rfl (fun w b2 F2=>?_);revert hb w b2 F2;exact O):P:=h k
theorem U447(h:Q->P:=by intro O;refine I0.val (j0 _) (Z0 _) rfl (v:=.bool false) (ae0 (r:=false) rfl rfl (by decide)) ?_;exact U228 O):P:=h k
theorem U197(h:Q->P:=by intro O;refine At.seq (P0 _ gr 0) ?_;refine At.seq (P0 _ gr 0) ?_;exact At.region (P0 _ gr 0) O):P:=h k
theorem U448(h:Q->P:=by intro O;refine U239 ?_;exact I0.val n4 (Z0 _) rfl (v:=.pointer (some ⟨gr.blk,gr.off,none⟩)) (J3 rfl) O):P:=h k
theorem U20(h:Q->P:=by intro O;refine U145 ?_;intro hb hT;have L1:=L1.E0 I1;refine U168 ?_;revert hb hT L1;exact O):P:=h k
theorem U449(h:Q->P:=by intro O;refine I0.val (P0 _ gr 2) (Z0 _) rfl (v:=.int .u32 1) (Q0 rfl) ?_;exact I0.nil (P0 _ gr 2) O):P:=h k
theorem U450(h:Q->P:=by intro O;refine I0.val (P0 _ gr 2) (Z0 _) rfl (v:=.int .u64 0) (Q0 rfl) ?_;exact I0.nil (P0 _ gr 2) O):P:=h k
theorem U451(h:Q->P:=by intro O;refine I0.val (P0 _ gr 1) (Z0 _) rfl (v:=.int .u64 1) (Q0 rfl) ?_;exact I0.nil (P0 _ gr 1) O):P:=h k
theorem U452(h:Q->P:=by intro O;refine I0.val H2 (Z0 _) rfl (v:=.bool true) (ae0 (r:=true) rfl rfl (by decide)) ?_;exact I0.nil H2 O):P:=h k
theorem U52(h:Q->P:=by intro O;refine U44 ?_;exact U6 O):P:=h k
theorem U453(h:Q->P:=by intro O;refine I0.val (j0 _) (Z0 _) rfl (v:=.bool false) (c7 (r:=false) rfl rfl (by decide)) ?_;exact U320 O):P:=h k
theorem U455(h:Q->P:=by intro O;refine L.va (T5 rfl) ?_;exact L.call (L3 rfl rfl rfl func81 rfl bs1 rfl) (Bw0 wb obj num _ hW) O):P:=h k
theorem U21(h:Q->P:=by intro O;refine Calls.O5 (n:=146) func39 rfl rfl ?_;have J8:=hc.os;have Y5:=hc.output;refine U6 ?_;revert J8 Y5;exact O):P:=h k
theorem U456(h:Q->P:=by intro O;refine I0.val (j0 _) (Z0 _) rfl (v:=.bool true) (bc0 rfl rfl) ?_;exact I0.nil (j0 _) O):P:=h k
theorem U457(h:Q->P:=by intro O;refine I0.val (P0 _ gr 0) (Z0 _) rfl (v:=.bool false) (J0 rfl) ?_;exact I0.nil (P0 _ gr 0) O):P:=h k
theorem U458(h:Q->P:=by intro O;have K4:=K4.E0 n6;have j5:=j5.E0 n6;revert K4 j5;exact O):P:=h k
theorem U459(h:Q->P:=by intro O;have K4:=K4.E0 I1;have j5:=j5.E0 I1;revert K4 j5;exact O):P:=h k
theorem U460(h:Q->P:=by intro O;refine I0.Ea0 (Z0 _) rfl Tryz.func111 Wm0 rfl rfl Wv0 rfl rfl ?_;exact I0.nil (P0 _ gr 0) O):P:=h k
theorem U461(h:Q->P:=by intro O;refine U39 ?_;exact I0.up0 I2 (Z0 _) .enable (by simp) (.inl rfl) rfl Tryz.func89 iy0 rfl rfl iz0 O):P:=h k
theorem U462(h:Q->P:=by intro O;refine U184 ?_;exact I0.up0 n4 (Z0 _) .enable (by simp) (.inl rfl) rfl Tryz.func89 iy0 rfl rfl iz0 O):P:=h k
theorem U463(h:Q->P:=by intro O;refine FP.va rfl rfl (fun w' r3=>(F0 rfl underlying31 rfl (r3.1.A0 0 (v:=.slice (some ⟨p.lgb,0,none⟩) p.m p.m) rfl))) ?_;refine FP.va rfl rfl (fun w' r3=>(Y2 rfl)) ?_;exact FP.call rfl rfl (fun w' r3=>M0 rfl func47 rfl bg1 rfl) (fun w' r3=>uo0) O):P:=h k
theorem U87(h:Q->P:=by intro O;have hW:=hW.E0 F5.below;have hC:=hC.E0 F5.below;revert hW hC;exact O):P:=h k
theorem U29(h:Q->P:=by intro O;refine U145 ?_;intro hb hT;refine U407 ?_;revert hb hT;exact O):P:=h k
theorem U53(h:Q->P:=by intro O;refine I0.val (P0 _ gr 2) (Z0 _) rfl (v:=.bool false) (bc0 rfl rfl) ?_;refine I0.nil (P0 _ gr 2) ?_;exact U230 O):P:=h k
theorem U464(h:Q->P:=by intro O;refine U192 ?_;exact I0.up0 (B3 _ gr) (Z0 _) .disable (by simp) rfl rfl Tryz.func88 Pt0 rfl rfl Pu0 O):P:=h k
theorem U465(h:Q->P:=by intro O;refine At.region (j0 _) ?_;exact I0.val (j0 _) (Z0 _) rfl (v:=.int .u32 1) (J0 rfl) O):P:=h k
theorem U466(h:Q->P:=by intro O;refine I0.val A2 (Z0 _) rfl (v:=.int .i32 (((v:Nat):Int))) (Q0 rfl) ?_;exact I0.nil A2 O):P:=h k
theorem U88(h:Q->P:=by intro O;have lt3:=F3.lq hb.size;have hb:=N0 hb F3.below;revert lt3 hb;exact O):P:=h k
theorem U467(h:Q->P:=by intro O;refine F.va rfl rfl (fun w' r3=>(O0 rfl underlying72 rfl Ur0 (by decide))) ?_;exact F.doo rfl rfl O):P:=h k
theorem U468(h:Q->P:=by intro O;refine F.va rfl rfl (fun w' r3=>(O0 rfl underlying72 rfl Us0 (by decide))) ?_;exact F.doo rfl rfl O):P:=h k
theorem U469(h:Q->P:=by intro O;refine F.va rfl rfl (fun w' r3=>(O0 rfl underlying72 rfl Po0 (by decide))) ?_;exact F.doo rfl rfl O):P:=h k
theorem U470(h:Q->P:=by intro O;refine F.va rfl rfl (fun w' r3=>(O0 rfl underlying72 rfl Pp0 (by decide))) ?_;exact F.doo rfl rfl O):P:=h k
theorem U471(h:Q->P:=by intro O;refine F.va rfl rfl (fun w' r3=>(O0 rfl underlying72 rfl Pq0 (by decide))) ?_;exact F.doo rfl rfl O):P:=h k
theorem U472(h:Q->P:=by intro O;refine I0.off q4 rfl rfl ?_;exact I0.val q4 (Z0 _) rfl (v:=.bool false) (bc0 rfl rfl) O):P:=h k
theorem U22(h:Q->P:=by intro O;refine U12 ?_;intro E8 hb;have hT:=hT.E0 F5.below;have C3:=F5.blk;refine U49 ?_;revert E8 hb hT C3;exact O):P:=h k
theorem U23(h:Q->P:=by intro O;have E8:=Nat.le_refl w.heap.size;have hE:=hE.E0 F5.below;have hc:=hc.E0 F5.below;have C3:=F5.blk;refine U49 ?_;revert E8 hE hc C3;exact O):P:=h k
theorem U473(h:Q->P:=by intro O;refine I0.val (B3 _ gr) (Z0 _) rfl (v:=.bool false) (Q0 rfl) ?_;exact I0.nil (B3 _ gr) O):P:=h k
theorem U474(h:Q->P:=by intro O;refine L.va (F0 rfl underlying69 rfl (g6.A0 0 (v:=.p cb) rfl)) ?_;exact L.va (u1 rfl) O):P:=h k
theorem U475(h:Q->P:=by intro O;refine L.va (F0 rfl underlying69 rfl (N9.A0 0 (v:=.p cb) rfl)) ?_;exact L.va (u1 rfl) O):P:=h k
theorem U54(h:Q->P:=by intro O;refine U431 ?_;intro hb hW V6;refine U430 ?_;intro P4 A5;revert hb hW V6 P4 A5;exact O):P:=h k
theorem U476(h:Q->P:=by intro O;refine I0.off I2 rfl rfl ?_;exact I0.val I2 (Z0 _) rfl (v:=.bool false) (bc0 rfl rfl) O):P:=h k
theorem U477(h:Q->P:=by intro O;refine U60 ?_;exact L.va (F0 rfl underlying4 rfl ((hM.blk i c hc).A0 9 (v:=.bool c.wt) rfl)) O):P:=h k
theorem U89(h:Q->P:=by intro O;have P5:=P5.mod B5 rfl;have Q5:=Q5.mod B5 rfl;revert P5 Q5;exact O):P:=h k
theorem U478(h:Q->P:=by intro O;refine U109 ?_;exact I0.val W0 (Z0 _) rfl (v:=.int .i32 ((((v+1):Nat):Int))) (J0 rfl) O):P:=h k
theorem U479(h:Q->P:=by intro O;refine L.va (F0 rfl underlying4 rfl (hC.A0 2 (v:=.bool h) rfl)) ?_;exact L.va (ov0 rfl) O):P:=h k
theorem U55(h:Q->P:=by intro O;refine U63 ?_;refine L.va (u1 rfl) ?_;exact L.va (O0 rfl underlying72 rfl Us0 (by decide)) O):P:=h k
theorem U198(h:Q->P:=by intro O;refine U103 ?_;exact U81 O):P:=h k
theorem U119(h:Q->P:=by intro O;refine U181 ?_;exact U252 O):P:=h k
theorem U56(h:Q->P:=by intro O;refine L.va (F0 rfl underlying3 rfl (C3.A0 0 (v:=.int .i64 2) rfl)) ?_;refine U9 ?_;exact U276 O):P:=h k
theorem U280(h:Q->P:=by intro O;refine L.va (id0 rfl) ?_;exact L.va (ov0 rfl) O):P:=h k
theorem U281(h:Q->P:=by intro O;have neE:=O1.ne hE hg.m.ends (by decide);refine L.stE (i:=i) hg hi rfl rfl sz3 (fun w hg n3=>?_);revert neE w hg n3;exact O):P:=h k
theorem U480(h:Q->P:=by intro O;refine I0.Pf0 (Z0 _) rfl Tryz.func99 bx1 rfl rfl bz1 rfl ?_;exact I0.nil (j0 _) O):P:=h k
theorem U481(h:Q->P:=by intro O;refine U36 ?_;exact L.va (F0 rfl underlying2 rfl (C3.A0 0 (v:=.int .i64 (x tt)) rfl)) O):P:=h k
theorem U482(h:Q->P:=by intro O;refine U246 ?_;exact L.va (S3 (l:=[.tmp 2]) (vs:=[.pointer (some ⟨b2,0,none⟩)]) rfl) O):P:=h k
theorem U199(h:Q->P:=by intro O;refine L.va (fc0 rfl) ?_;exact U2 O):P:=h k
theorem U200(h:Q->P:=by intro O;refine U4 ?_;exact L.va (T5 rfl) O):P:=h k
theorem U483(h:Q->P:=by intro O;refine AtR.leave0 (P0 _ gr 0) hb4 rfl Tryz.func97 rfl ?_;exact I0.nil (P0 _ gr 0) O):P:=h k
theorem U484(h:Q->P:=by intro O;refine I0.val q4 (Z0 _) rfl (v:=.bool false) (Q0 rfl) ?_;exact I0.nil q4 O):P:=h k
theorem U201(h:Q->P:=by intro O;have hZ:Ctx.Zs prog (Fin prog Post X 0):=V3;have hb:=Z0 80;revert hZ hb;exact O):P:=h k
theorem U282(h:Q->P:=by intro O;refine ZA.Z2 hZ ?_;exact ZA.inBlock hZ O):P:=h k
theorem U202(h:Q->P:=by intro O;have hZ:Ctx.Zs prog (Fin prog Post X 0):=V3;have hb:=Z0 48;revert hZ hb;exact O):P:=h k
theorem U485(h:Q->P:=by intro O;rw[S2 s6,S2 s39,S2 s40,S2 s41,S2 s4,S2 s1];exact O):P:=h k
theorem U486(h:Q->P:=by intro O;refine L.va (u1 rfl) ?_;exact L.va (O0 rfl underlying145 rfl fq0 (by decide)) O):P:=h k
theorem U487(h:Q->P:=by intro O;refine I0.val A2 (Z0 _) rfl (v:=.int .u32 0) (Q0 rfl) ?_;exact I0.nil A2 O):P:=h k
theorem U488(h:Q->P:=by intro O;refine I0.val A2 (Z0 _) rfl (v:=.bool false) (Q0 rfl) ?_;exact I0.nil A2 O):P:=h k
theorem U489(h:Q->P:=by intro O;refine L.va (u1 rfl) ?_;exact L.va (O0 rfl underlying115 rfl sz2 (by decide)) O):P:=h k
theorem U490(h:Q->P:=by intro O;refine L.va (u1 rfl) ?_;exact L.va (O0 rfl underlying132 rfl sz2 (by decide)) O):P:=h k
theorem U283(h:Q->P:=by intro O;refine C.enter (n:=11) func44 rfl rfl ?_;exact U6 O):P:=h k
theorem U491(h:Q->P:=by intro O;refine U2 ?_;refine ZA.call (i:=1) (rest:=[]) hZ hb (f:=80) (args:=#[.p R.rb]) rfl rfl (M0 rfl func80 rfl br1 rfl) (fun a ha=>?_);revert a ha;exact O):P:=h k
theorem U203(h:Q->P:=by intro O;refine L.va (C2 (i:=0) (n:=2) rfl rfl underlying64 st0 (by decide)) ?_;refine L.va (F0 rfl underlying63 rfl (hT.A0 2 (v:=.pointer none) rfl)) ?_;exact L.va (Y2 rfl) O):P:=h k
theorem U492(h:Q->P:=by intro O;refine wu0 (Q:=fun _ _ _=>False) hZ hb (fun _ _ _ hx=>hx.elim) ho ?_;show mi0 P _ a w _ _;exact O):P:=h k
theorem U284(h:Q->P:=by intro O;refine At.Z2 hY ?_;exact At.region hY O):P:=h k
theorem U493(h:Q->P:=by intro O;show E1 P (callFunc f (#[] ++ #[x,y].map ρ ++ #[]));exact Gi0 hf O2 hb hn he O):P:=h k
theorem U494(h:Q->P:=by intro O;refine I0.val (j0 _) (Z0 _) rfl (v:=.int .u32 1) (Q0 rfl) ?_;exact U40 O):P:=h k
theorem U67(h:Q->P:=by intro O;refine U4 ?_;exact U355 O):P:=h k
theorem U285(h:Q->P:=by intro O;refine U226 ?_;exact U277 O):P:=h k
theorem U496(h:Q->P:=by intro O;refine I0.val A2 (Z0 _) rfl (v:=.int .u64 0) (Q0 rfl) ?_;exact I0.nil A2 O):P:=h k
theorem U497(h:Q->P:=by intro O;refine U71 ?_;exact L.va (V0 (parts:=[(0,.tmp 10),(1,.tmp 11)]) rfl (xu0 obj num)) O):P:=h k
theorem U498(h:Q->P:=by intro O;refine AtR.leave1 (P0 _ gr 1) hb3 rfl Tryz.func96 rfl (.int .u64 1) rfl ?_;refine I0.val (P0 _ gr 1) (Z0 _) rfl (v:=.int .u64 (((0*4294967296+1:Nat):Int))) (J0 rfl) ?_;exact I0.val (P0 _ gr 1) (Z0 _) rfl (v:=.bool false) (c7 (r:=false) rfl rfl (by decide)) O):P:=h k
theorem U500(h:Q->P:=by intro O;refine U70 ?_;exact L.va (F0 rfl underlying3 rfl (C3.A0 2 (v:=.int .i64 3) rfl)) O):P:=h k
theorem U501(h:Q->P:=by intro O;refine U70 ?_;exact L.va (F0 rfl underlying3 rfl (C3.A0 2 (v:=.int .i64 4) rfl)) O):P:=h k
theorem U90(h:Q->P:=by intro O;refine U317 ?_;exact U345 O):P:=h k
theorem U204(h:Q->P:=by intro O;refine I0.nil I2 ?_;refine At.q5 I2 rfl ?_;exact At.skip I2 O):P:=h k
theorem U286(h:Q->P:=by intro O;refine I0.nil A2 ?_;refine At.q5 A2 rfl ?_;exact At.skip A2 O):P:=h k
theorem U57(h:Q->P:=by intro O;have hC:=hC.E0 F2.below;have g6:=F2.blk;revert hC g6;exact O):P:=h k
theorem U205(h:B Q->P:=by intro O;have g9:=hb;(have hF2:¬F b2:=fun z=>by have:=hK.tlt hT z;omega);revert g9 hF2;exact O.1):P:=h ⟨k⟩
theorem U503(h:Q->P:=by intro O;refine I0.val H2 (Z0 _) rfl (v:=.bool false) (Q0 rfl) ?_;exact I0.nil H2 O):P:=h k
theorem U120(h:Q->P:=by intro O;refine U103 ?_;show W _ _ _ _ _ _;exact O):P:=h k
theorem U287(h:Q->P:=by intro O;refine At.seq q4 ?_;exact U255 O):P:=h k
theorem U504(h:Q->P:=by intro O;refine I0.val H2 (Z0 _) rfl (v:=.bool true) (Q0 rfl) ?_;exact I0.nil H2 O):P:=h k
theorem U505(h:Q->P:=by intro O;refine L.va (B2 (r:=false) (by decide) (M4 (m:=2) (k:=1) rfl rfl)) ?_;exact U7 O):P:=h k
theorem U68(h:Q->P:=by intro O;refine U30 ?_;exact U6 O):P:=h k
theorem U506(h:Q->P:=by intro O;refine U237 ?_;exact D.va (fun w' r3=>(O0 rfl underlying72 rfl Pp0 (by decide))) O):P:=h k
theorem U507(h:Q->P:=by intro O;refine U237 ?_;exact D.va (fun w' r3=>(O0 rfl underlying72 rfl Po0 (by decide))) O):P:=h k
theorem U508(h:Q->P:=by intro O;refine U237 ?_;exact D.va (fun w' r3=>(O0 rfl underlying72 rfl Pq0 (by decide))) O):P:=h k
theorem U509(h:Q->P:=by intro O;refine U351 ?_;exact L.va (B2 (r:=false) (by decide) (M4 (m:=5) (k:=7) rfl rfl)) O):P:=h k
theorem U288(h:Q->P:=by intro O;refine W.q5 rfl ?_;refine W.exit ?_;exact U102 O):P:=h k
theorem U510(h:Q->P:=by intro O;refine U458 ?_;intro K4 j5;have k5:=k5.E0 n6;revert K4 j5 k5;exact O):P:=h k
theorem U511(h:Q->P:=by intro O;refine U459 ?_;intro K4 j5;have k5:=k5.E0 I1;revert K4 j5 k5;exact O):P:=h k
theorem U289(h:Q->P:=by intro O;refine I0.nil n4 ?_;exact At.seq n4 O):P:=h k
theorem U512(h:Q->P:=by intro O;refine L.va (B2 (r:=true) (by decide) (M4 (m:=1) (k:=1) rfl rfl)) ?_;exact U44 O):P:=h k
theorem U513(h:Q->P:=by intro O;refine U351 ?_;exact L.va (B2 (r:=true) (by decide) (M4 (m:=5) (k:=5) rfl rfl)) O):P:=h k
theorem U514(h:Q->P:=by intro O;refine I0.val (B3 _ gr) (Z0 _) rfl (v:=.int .u64 0) (Q0 rfl) ?_;exact U192 O):P:=h k
theorem U515(h:Q->P:=by intro O;refine I0.call A2 (Z0 _) [.pointer (some ⟨gr.blk,gr.off,none⟩)] 7 rfl Tryz.func96 Js0 rfl rfl rfl (fun cs1 S4=>?_);refine U13 ?_;revert cs1 S4;exact O):P:=h k
theorem U516(h:Q->P:=by intro O;refine I0.v8 q4 (Z0 _) rfl rfl (v:=.int .u32 0) (J0 rfl) ?_;refine I0.v8 q4 (Z0 _) rfl rfl (v:=.bool true) (Z8 (r:=true) rfl rfl (by decide)) ?_;exact I0.val q4 (Z0 _) rfl (v:=.bool true) (I7 rfl rfl) O):P:=h k
theorem U517(h:Q->P:=by intro O;refine W.ret ?_;(repeat(first|refine T.ret ?_|refine B.ret ?_|refine N.ret ?_));exact O):P:=h k
theorem U518(h:Q->P:=by intro O;refine AtR.leave1 A2 hb2 rfl Tryz.func102 rfl (.bool false) rfl ?_;exact U286 O):P:=h k
theorem U519(h:Q->P:=by intro O;refine L.va (F0 rfl underlying2 rfl (hC.A0 3 (v:=.int .i64 x) rfl)) ?_;refine L.pu 0 [.int .i64 x] #[.int .i64 x] sz2 hB1 (fun w D1 hg n2=>?_);revert w D1 hg n2;exact O):P:=h k
theorem U520(h:Q->P:=by intro O;refine AtR.leave1 q4 hb2 rfl Tryz.func102 rfl (.bool true) rfl ?_;exact U270 O):P:=h k
theorem U521(h:Q->P:=by intro O;refine L.va (Y2 rfl) ?_;refine L.kl0 (cs:=#[.p cb]) rfl rfl underlying151 Ei0 rfl ⟨_,Uu0⟩ (by decide) (fun w b35 F35=>?_);revert w b35 F35;exact O):P:=h k
theorem U290(h:Q->P:=by intro O;refine L.va (bw0 rfl) ?_;exact L.nil O):P:=h k
theorem U522(h:Q->P:=by intro O;refine I0.val W0 (Z0 _) rfl (v:=.bool false) (J0 rfl) ?_;exact U154 O):P:=h k
theorem U523(h:Q->P:=by intro O;refine I0.val W0 (Z0 _) rfl (v:=.int .u32 0) (J0 rfl) ?_;exact U232 O):P:=h k
theorem U524(h:Q->P:=by intro O;refine U39 ?_;exact I0.val I2 (Z0 _) rfl (v:=.bool false) (J0 rfl) O):P:=h k
theorem U526(h:Q->P:=by intro O;refine L.va (O0 rfl underlying105 rfl sz4 (by decide)) ?_;exact L.on rfl O):P:=h k
theorem U527(h:Q->P:=by intro O;refine I0.v8 W0 (Z0 _) rfl rfl (v:=.bool true) (bs0 (r:=true) rfl rfl (by decide)) ?_;refine I0.val W0 (Z0 _) rfl (v:=.bool true) (I7 rfl rfl) ?_;exact I0.val W0 (Z0 _) rfl (v:=.bool true) (J0 rfl) O):P:=h k
theorem U528(h:Q->P:=by intro O;refine U287 ?_;exact I0.val q4 (Z0 _) rfl (v:=.bool true) (J0 rfl) O):P:=h k
theorem U529(h:Q->P:=by intro O;refine At.region (B3 _ gr) ?_;exact I0.defer (B3 _ gr) (Z0 _) [] rfl O):P:=h k
theorem U530(h:Q->P:=by intro O;refine L.on rfl ?_;exact L.va (O0 rfl underlying49 rfl sz3 (by decide)) O):P:=h k
theorem U291(h:Q->P:=by intro O;refine U3 ?_;intro hb;refine L.box (cs:=#[.pointer none]) rfl rfl (fun w b2 F2=>?_);revert hb w b2 F2;exact O):P:=h k
theorem U292(h:Q->P:=by intro O;refine U3 ?_;intro hb;refine L.box (cs:=#[.pointer none]) rfl rfl (fun w b3 F3=>?_);revert hb w b3 F3;exact O):P:=h k
theorem U531(h:Q->P:=by intro O;refine U3 ?_;intro hb;refine L.box (cs:=#[.int .i64 o.z5,.int .i64 o.ga0,.int .i64 o.call,.int .i64 o.val]) rfl rfl (fun w b1 F1=>?_);revert hb w b1 F1;exact O):P:=h k
theorem U293(h:Q->P:=by intro O;show L _ _ _ _ _ _ _;exact U24 O):P:=h k
theorem U532(h:Q->P:=by intro O;refine U39 ?_;exact I0.val I2 (Z0 _) rfl (v:=.int .u64 0) (J0 rfl) O):P:=h k
theorem U533(h:Q->P:=by intro O;refine U184 ?_;exact I0.val n4 (Z0 _) rfl (v:=.int .u64 0) (J0 rfl) O):P:=h k
theorem U534(h:Q->P:=by intro O;have L1:=L1.other hg (S0.ne L1 aq0 (by decide));have R5:=R5.grown hg (fun r e=>by cases e;exact⟨_,_,_,l4 aq0⟩);revert L1 R5;exact O):P:=h k
theorem U535(h:Q->P:=by intro O;refine L.va (O0 rfl underlying153 rfl Mv0 (by decide)) ?_;exact U2 O):P:=h k
theorem U536(h:Q->P:=by intro O;refine U293 ?_;exact L.va (O0 rfl underlying149 rfl Mx0 (by decide)) O):P:=h k
theorem U121(h:Q->P:=by intro O;refine U3 ?_;intro hb;refine L.va (Y2 rfl) ?_;refine L.va (r7 rfl rfl underlying63) ?_;revert hb;exact O):P:=h k
theorem U295(h:Q->P:=by intro O;refine I0.val W0 (Z0 _) rfl (v:=.bool true) (I7 rfl rfl) ?_;refine I0.nil W0 ?_;exact At.J4 W0 rfl O):P:=h k
theorem U123(h:B Q->P:=by intro O;refine U224 ?_;refine W.region rfl ?_;exact U327 O.1):P:=h ⟨k⟩
theorem U296(h:Q->P:=by intro O;refine L.va ck0 ?_;exact L.va ck0 O):P:=h k
theorem U124(h:Q->P:=by intro O;have W6:=W6.mod B5 rfl;have K8:=K8.mod B5 rfl;revert W6 K8;exact O):P:=h k
theorem U537(h:Q->P:=by intro O;refine U24 ?_;exact L.va (O0 rfl underlying113 rfl Mu0 (by decide)) O):P:=h k
theorem U538(h:Q->P:=by intro O;refine L.va (Y2 rfl) ?_;exact L.va (H3 rfl rfl underlying91) O):P:=h k
theorem U91(h:Q->P:=by intro O;refine U9 ?_;exact U6 O):P:=h k
theorem U539(h:Q->P:=by intro O;refine L.va (O0 rfl underlying123 rfl Eh0 (by decide)) ?_;exact U330 O):P:=h k
theorem U540(h:Q->P:=by intro O;refine L.va (O0 rfl underlying132 rfl Eh0 (by decide)) ?_;exact U330 O):P:=h k
theorem U541(h:Q->P:=by intro O;refine U108 ?_;exact L.va (O0 rfl underlying30 rfl sz4 (by decide)) O):P:=h k
theorem U92(h:Q->P:=by intro O;refine U6 ?_;refine L.va (B2 (r:=true) (by decide) (M4 (m:=1) (k:=1) rfl rfl)) ?_;exact U58 O):P:=h k
theorem U542(h:Q->P:=by intro O;refine U6 ?_;exact U193 O):P:=h k
theorem U543(h:Q->P:=by intro O;refine L.va (O0 rfl underlying115 rfl Eh0 (by decide)) ?_;refine L.va (F0 rfl underlying56 rfl (hC.A0 2 (v:=.p wb) rfl)) ?_;exact L.call (M0 rfl func44 rfl su0 rfl) (fx0 wb w hW) O):P:=h k
theorem U209(h:Q->P:=by intro O;refine U103 ?_;refine U319 ?_;exact U6 O):P:=h k
theorem U93(h:Q->P:=by intro O;refine U6 ?_;refine L.va (B2 (r:=false) (by decide) (M4 (m:=3) (k:=1) rfl rfl)) ?_;refine U8 ?_;refine L.va (B2 (r:=false) (by decide) (M4 (m:=3) (k:=2) rfl rfl)) ?_;refine U8 ?_;refine L.va (B2 (r:=true) (by decide) (M4 (m:=3) (k:=3) rfl rfl)) ?_;exact U58 O):P:=h k
theorem U94(h:Q->P:=by intro O;refine U6 ?_;refine L.va (B2 (r:=false) (by decide) (M4 (m:=4) (k:=1) rfl rfl)) ?_;refine U8 ?_;refine L.va (B2 (r:=false) (by decide) (M4 (m:=4) (k:=2) rfl rfl)) ?_;refine U8 ?_;refine L.va (B2 (r:=false) (by decide) (M4 (m:=4) (k:=3) rfl rfl)) ?_;refine U8 ?_;refine L.va (B2 (r:=true) (by decide) (M4 (m:=4) (k:=4) rfl rfl)) ?_;exact U58 O):P:=h k
theorem U544(h:B Q->P:=by intro O;have hσ:=wm0 (V:=V) h (.cons hi0 hl) i (by omega) hs E7 (fun j hj=>hkf j hj) cj0 hV;rw[hσ];revert hσ;exact O.1):P:=h ⟨k⟩
theorem U545(h:Q->P:=by intro O;refine I0.nil (P0 _ gr 1) ?_;exact At.q5 (P0 _ gr 1) rfl O):P:=h k
theorem U546(h:Q->P:=by intro O;refine At.q5 (P0 _ gr 0) rfl ?_;exact At.skip (P0 _ gr 0) O):P:=h k
theorem U547(h:Q->P:=by intro O;refine I0.nil (P0 _ gr 0) ?_;exact At.J4 (P0 _ gr 0) rfl O):P:=h k
theorem U299(h:Q->P:=by intro O;refine ZD.seq hZ ?_;exact ZD.region hZ O):P:=h k
theorem U548(h:Q->P:=by intro O;refine U24 ?_;exact L.va (O0 rfl underlying149 rfl sz3 (by decide)) O):P:=h k
theorem U549(h:Q->P:=by intro O;refine U265 ?_;exact L.va (O0 rfl underlying72 rfl Po0 (by decide)) O):P:=h k
theorem U550(h:Q->P:=by intro O;refine U265 ?_;exact L.va (O0 rfl underlying72 rfl Pp0 (by decide)) O):P:=h k
theorem U551(h:Q->P:=by intro O;refine U265 ?_;exact L.va (O0 rfl underlying72 rfl Pq0 (by decide)) O):P:=h k
theorem U552(h:Q->P:=by intro O;refine L.va (F0 rfl underlying65 rfl (M5.A0 0 (v:=.pointer (some ⟨cb,0,none⟩)) rfl)) ?_;refine L.va (u1 rfl) ?_;exact L.va (O0 rfl underlying123 rfl sz2 (by decide)) O):P:=h k
theorem U125(h:B Q->P:=by intro O;refine U101 ?_;refine U327 ?_;refine U2 ?_;exact ZA.inLoop hZ O.1):P:=h ⟨k⟩
theorem U126(h:Q->P:=by intro O;have B5:=Q7.ef0 hC hg;have n3:=kg0 n3 hg;revert B5 n3;exact O):P:=h k
theorem U300(h:Q->P:=by intro O;refine At.seq (B3 _ gr) ?_;exact U106 O):P:=h k
theorem U553(h:Q->P:=by intro O;refine ci0 (Ctx.cl Z hZ) hl ?_;rw[Frame.raise_at];exact O):P:=h k
theorem U302(h:Q->P:=by intro O;refine U2 ?_;exact ZA.J4 hZ rfl O):P:=h k
theorem U127(h:Q->P:=by intro O;refine U168 ?_;exact U362 O):P:=h k
theorem U554(h:Q->P:=by intro O;refine At.block (P0 _ gr 0) ?_;exact At.loop (P0 _ gr 0) O):P:=h k
theorem U555(h:Q->P:=by intro O;refine L.va (aw0 rfl) ?_;exact L.va (O8 rfl underlying90 rfl) O):P:=h k
theorem U556(h:Q->P:=by intro O;refine L.va (aw0 rfl) ?_;exact L.va (O8 rfl underlying22 rfl) O):P:=h k
theorem U557(h:Q->P:=by intro O;refine L.va (ax0 rfl rfl) ?_;exact L.va (ax0 rfl rfl) O):P:=h k
theorem U303(h:Q->P:=by intro O;refine L.va (X6 rfl) ?_;exact U66 O):P:=h k
theorem U558(h:Q->P:=by intro O;refine At.seq (P0 _ gr 0) ?_;exact At.block (P0 _ gr 0) O):P:=h k
theorem U559(h:Q->P:=by intro O;refine I0.nil (P0 _ gr 2) ?_;exact At.seq (P0 _ gr 2) O):P:=h k
theorem U560(h:Q->P:=by intro O;refine At.skip (P0 _ gr 1) ?_;exact At.seq (P0 _ gr 1) O):P:=h k
theorem U304(h:Q->P:=by intro O;refine L.va (uc0 rfl) ?_;exact U2 O):P:=h k
theorem U562(h:B Q->P:=by intro O;refine U2 ?_;exact ZA.q5 hZ (rb (decide_eq_false (by omega))) O.1):P:=h ⟨k⟩
theorem U210(h:Q->P:=by intro O;exact U116 O):P:=h k
theorem U212(h:Q->P:=by intro O;exact U119 O):P:=h k
theorem U563(h:Q->P:=by intro O;refine At.q5 (B3 _ gr) rfl ?_;exact At.skip (B3 _ gr) O):P:=h k
theorem U213(h:Q->P:=by intro O;refine U35 ?_;exact U180 O):P:=h k
theorem U128(h:Q->P:=by intro O;refine U263 ?_;exact U166 O):P:=h k
theorem U305(h:Q->P:=by intro O;refine L.va (Y2 rfl) ?_;exact U115 O):P:=h k
theorem U214(h:Q->P:=by intro O;refine U344 ?_;refine U249 ?_;refine L.va (V8 rfl) ?_;exact L.nil O):P:=h k
theorem U564(h:Q->P:=by intro O;refine I0.nil (j0 _) ?_;exact At.inLoop (j0 _) O):P:=h k
theorem U95(h:Q->P:=by intro O;exact U275 O):P:=h k
theorem U565(h:Q->P:=by intro O;show ZA (Fin prog Post X1 0) 17 (base 33) cs _ _ w4;have hZ1:Ctx.Zs prog (Fin prog Post X1 0):=V3;revert hZ1;exact O):P:=h k
theorem U129(h:Q->P:=by intro O;refine U333 ?_;refine L.va (B2 (r:=true) (by decide) (D7 (m:=5) (k:=9) rfl rfl)) ?_;exact U37 O):P:=h k
theorem U130(h:Q->P:=by intro O;refine U336 ?_;refine L.va (B2 (r:=true) (by decide) (D7 (m:=4) (k:=9) rfl rfl)) ?_;exact U37 O):P:=h k
theorem U131(h:Q->P:=by intro O;refine U334 ?_;refine L.va (B2 (r:=true) (by decide) (D7 (m:=3) (k:=9) rfl rfl)) ?_;exact U37 O):P:=h k
theorem U132(h:Q->P:=by intro O;refine U236 ?_;refine L.va (B2 (r:=true) (by decide) (D7 (m:=2) (k:=9) rfl rfl)) ?_;exact U37 O):P:=h k
theorem U133(h:Q->P:=by intro O;refine U335 ?_;refine L.va (B2 (r:=true) (by decide) (D7 (m:=6) (k:=9) rfl rfl)) ?_;exact U37 O):P:=h k
theorem U134(h:Q->P:=by intro O;refine U34 ?_;exact U80 O):P:=h k
theorem U135(h:Q->P:=by intro O;refine L.va (C8 (r:=9) (by decide) (by decide) rfl rfl) ?_;refine U31 ?_;refine L.va (B2 (r:=true) (by decide) (D7 (m:=9) (k:=9) rfl rfl)) ?_;exact U37 O):P:=h k
theorem U136(h:Q->P:=by intro O;refine L.va (C8 (r:=7) (by decide) (by decide) rfl rfl) ?_;refine U31 ?_;refine L.va (B2 (r:=true) (by decide) (D7 (m:=7) (k:=9) rfl rfl)) ?_;exact U37 O):P:=h k
theorem U137(h:Q->P:=by intro O;refine L.va (C8 (r:=8) (by decide) (by decide) rfl rfl) ?_;refine U31 ?_;refine L.va (B2 (r:=true) (by decide) (D7 (m:=8) (k:=9) rfl rfl)) ?_;exact U37 O):P:=h k
theorem U138(h:Q->P:=by intro O;refine L.va (T5 rfl) ?_;refine U2 ?_;refine ZA.block hZ ?_;exact ZA.loop hZ O):P:=h k
theorem U215(h:Q->P:=by intro O;refine U443 ?_;refine L.va (M4 rfl rfl) ?_;exact L.va (id0 rfl) O):P:=h k
theorem U139(h:Q->P:=by intro O;refine U28 ?_;exact U198 O):P:=h k
theorem U140(h:Q->P:=by intro O;refine L.va (C8 (r:=10) (by decide) (by decide) rfl rfl) ?_;refine U31 ?_;refine L.va (B2 (r:=false) (by decide) (D7 (m:=10) (k:=9) rfl rfl)) ?_;refine U7 ?_;refine U288 ?_;exact U75 O):P:=h k
theorem U141(h:Q->P:=by intro O;refine U150 ?_;refine U542 ?_;refine W.rounds 10 ?_;refine U149 ?_;refine L.va (B2 (r:=true) (by decide) (D7 (m:=1) (k:=9) rfl rfl)) ?_;exact U37 O):P:=h k
theorem U566(h:Q->P:=by intro O;refine y9 (Ctx.cl Z hZ) hl ?_;rw[cb0];exact O):P:=h k
theorem U96(h:Q->P:=by intro O;have g6:=g6.E0 F5.below;have C3:=F5.blk;revert g6 C3;exact O):P:=h k
theorem U216(h:B Q->P:=by intro O;refine U285 ?_;refine I0.val (j0 _) (Z0 _) rfl (v:=.bool false) (ae0 (r:=false) rfl rfl (decide_eq_false (by omega))) ?_;exact U228 O.1):P:=h ⟨k⟩
theorem U217(h:B Q->P:=by intro O;refine I0.val (j0 _) (Z0 _) rfl (v:=.bool true) (bs0 (r:=true) rfl rfl (decide_eq_true (by omega))) ?_;refine I0.val (j0 _) (Z0 _) rfl (v:=.bool true) (J0 rfl) ?_;refine U223 ?_;refine I0.val (j0 _) (Z0 _) rfl (v:=.bool true) (I7 rfl rfl) ?_;refine I0.nil (j0 _) ?_;exact At.J4 (j0 _) rfl O.1):P:=h ⟨k⟩
theorem U142(h:Q->P:=by intro O;refine D.nil (fun w I1=>?_);have hg:=hg.E0 I1;revert w I1 hg;exact O):P:=h k
theorem U306(h:Q->P:=by intro O;refine ZA.inBlock hZ ?_;exact U331 O):P:=h k
theorem U567(h:Q->P:=by intro O;refine U65 ?_;exact L.va (H3 rfl rfl underlying91) O):P:=h k
theorem U568(h:Q->P:=by intro O;refine L.va (H3 rfl rfl underlying65) ?_;exact U52 O):P:=h k
theorem U569(h:Q->P:=by intro O;refine L.va (H3 rfl rfl underlying65) ?_;exact U209 O):P:=h k
theorem U570(h:Q->P:=by intro O;refine L.va (H3 rfl rfl underlying86) ?_;exact U209 O):P:=h k
theorem U571(h:B Q->P:=by intro O;have h1:=Int.emod_nonneg e (b:=(n:Int)) (by omega);have h2:=Int.emod_lt_of_pos e (b:=(n:Int)) (by omega);revert h1 h2;exact O.1):P:=h ⟨k⟩
theorem U572(h:Q->P:=by intro O;refine U50 ?_;exact L.va (O8 rfl underlying151 rfl) O):P:=h k
theorem U218(h:Q->P:=by intro O;refine W.region rfl ?_;refine L.va (M4 rfl rfl) ?_;exact U30 O):P:=h k
theorem U307(h:B Q->P:=by intro O;refine ZA.J4 hZ (rb (decide_eq_true (by omega))) ?_;refine U166 ?_;exact ZA.block hZ O.1):P:=h ⟨k⟩
theorem U219(h:Q->P:=by intro O;refine U235 ?_;refine U317 ?_;exact U314 O):P:=h k
theorem U308(h:Q->P:=by intro O;have hZ:Ctx.Zs prog (Fin prog Post X g):=V3;have hb:=bkd 113;revert hZ hb;exact O):P:=h k
theorem U143(h:Q->P:=by intro O;refine ZA.W hZ hb ?_;have hR:=hg.m.run;(have hC:=(hg.m.blk i c hc));revert hR hC;exact O):P:=h k
theorem U309(h:Q->P:=by intro O;have hZ:Ctx.Zs prog (Fin prog Post X 0):=V3;have hb:=Z0 76;revert hZ hb;exact O):P:=h k
theorem U310(h:Q->P:=by intro O;refine U321 ?_;exact W.region rfl O):P:=h k
theorem U221(h:Q->P:=by intro O;refine At.region q4 ?_;refine I0.val q4 (Z0 _) rfl (v:=.pointer (some ⟨gr.blk,gr.off,none⟩)) (J0 rfl) ?_;refine I0.val q4 (Z0 _) rfl (v:=.pointer (some ⟨gr.blk,gr.off,none⟩)) (J3 rfl) ?_;exact I0.val q4 (Z0 _) rfl (v:=.pointer (some ⟨gr.blk,gr.off+1,none⟩)) (A3 (s:=1) gr.off (gr.off+1) rfl Tryz.underlying141 rfl Ej0 (by decide) rfl) O):P:=h k
theorem U222(h:Q->P:=by intro O;refine U384 ?_;refine U46 ?_;exact I0.val (j0 _) (Z0 _) rfl (v:=.int .i32 (((0:Nat):Int))) (J0 rfl) O):P:=h k
theorem U97(h:Q->P:=by intro O;refine U510 ?_;intro K4 j5 k5;have P5:=P5.E0 n6;revert K4 j5 k5 P5;exact O):P:=h k
theorem U98(h:Q->P:=by intro O;refine U511 ?_;intro K4 j5 k5;have P5:=P5.E0 I1;revert K4 j5 k5 P5;exact O):P:=h k
theorem U573(h:Q->P:=by intro O;refine I0.nil j3 ?_;exact At.q5 j3 rfl O):P:=h k
theorem U574(h:Q->P:=by intro O;refine I0.nil q4 ?_;exact At.q5 q4 rfl O):P:=h k
theorem U575(h:Q->P:=by intro O;refine At.inBlock A2 ?_;exact At.inLoop A2 O):P:=h k
theorem U576(h:Q->P:=by intro O;refine W.region rfl ?_;exact L.va (aw0 rfl) O):P:=h k
theorem U577(h:Q->P:=by intro O;refine L.va (aw0 rfl) ?_;exact L.va (T5 rfl) O):P:=h k
theorem U311(h:Q->P:=by intro O;refine ZA.block hZ ?_;exact U331 O):P:=h k
end
abbrev Value.i(x:Int):Value:=.int .i64 x
abbrev Value.p(b:Nat):Value:=.pointer (some ⟨b,0,none⟩)
abbrev pt(b:Nat):Option Addr:=some ⟨b,0,none⟩
end Go
section
namespace Go.Yc
open Go Go.Conc
structure Past (Sh:Loc->Prop) (Us:Nat->Prop) (St:Nat->Loc->Prop) (Mem Lo:Nat->Prop) (K:Nat->Prop) (t:Trace):Prop where
 clean:∀said,¬Race said t
 known:∀i a,touchAt t i=some a->a.loc.isMemory=true->¬Sh a.loc->K i\/(a.write=false/\∃g,t.g? i=some g/\Lo g/\St g a.loc)
 wrote:∀i a,touchAt t i=some a->a.write=true->∀g,Mem g->St g a.loc->Knows t g i
 hears:∀g,Mem g->Deaf t g=0
 cd0:∀i a g,touchAt t i=some a->Sh a.loc->t.g? i=some g->(∀g',Us g'->Knows t g' i)\/(a.kind≠.plain/\(g≠0->a.kind= .atomic/\¬t.heard i))
def PastH (Sh:Loc->Prop) (Us:Nat->Prop) (St:Nat->Loc->Prop) (Mem Lo:Nat->Prop) (h:Nat) (t:Trace):Prop:=Past Sh Us St Mem Lo (Knows t h) t
section
variable {Sh:Loc->Prop}{Us Us':Nat->Prop}{St St':Nat->Loc->Prop}{Mem Mem' Lo Lo':Nat->Prop}{h:Nat}{K K':Nat->Prop}{t u:Trace}
theorem Past.fewer (H:Past Sh Us St Mem Lo K t) (hM:∀g,Mem' g->Mem g):Past Sh Us St Mem' Lo K t :=
 ⟨H.clean,H.known,fun i a ha hw g hg hS=>H.wrote i a ha hw g (hM g hg) hS,fun g hg=>H.hears g (hM g hg),H.cd0⟩
theorem Past.loosen (H:Past Sh Us St Mem Lo K t) (hL:∀g,Lo g->Lo' g):Past Sh Us St Mem Lo' K t :=
 ⟨H.clean,fun i a ha hm hs=>(H.known i a ha hm hs).imp id fun⟨x,g,hg,hl,hS⟩=>⟨x,g,hg,hL g hl,hS⟩,H.wrote,H.hears,H.cd0⟩
theorem Past.old_known (H:Past Sh Us St Mem Lo K t) (hK:∀i,K i->K' i) {i:Nat} {a:Touch} {x:MemOp} (W3:t[i]? =some x) (u5:x.act.touch? =some a) (hm:a.loc.isMemory=true) (hs:¬Sh a.loc) :
  K' i\/(a.write=false/\∃g,(t++u).g? i=some g/\Lo g/\St g a.loc) :=
 (H.known i a (by rw[touchAt_of W3];exact u5) hm hs).imp (hK i) fun⟨p,g,hg,hl,hS⟩=>⟨p,g,by rw[g?_old (lt_size_of_getElem? W3)];exact hg,hl,hS⟩
theorem Past.old_hears {g:Nat} (H:Past Sh Us St Mem Lo K t) (hu:∀op∈u,op.g=g) (hd:Mem g->Deaf (t++u) g=Deaf t g):∀g',Mem g'->Deaf (t++u) g'=0:=fun g' r6=>by
 by_cases e:g'=g
 ·subst e;exact(hd r6).trans (H.hears g' r6)
 ·exact(Deaf_other t (fun x=>e x.symm) u hu).trans (H.hears g' r6)
theorem Past.B7 (H:Past Sh Us St Mem Lo K t) {i g:Nat} {a:Touch} {x:MemOp} (W3:t[i]? =some x) (u5:x.act.touch? =some a) (hs:Sh a.loc) (hg:(t++u).g? i=some g) :
  (∀g',Us g'->Knows (t++u) g' i)\/(a.kind≠.plain/\(g≠0->a.kind= .atomic/\¬(t++u).heard i)):=by
 have R2:=lt_size_of_getElem? W3;rw[g?_old R2]at hg;rcases H.cd0 i a g (by rw[touchAt_of W3];exact u5) hs hg with this|this
 ·exact .inl fun g' r6=>(this g' r6).app u
 ·exact .inr ⟨this.1,fun D3=>⟨(this.2 D3).1,fun hh=>(this.2 D3).2 ((heard_old R2).1 hh)⟩⟩
theorem Past.leave (H:Past Sh Us St Mem Lo K t) (hU:∀g,Us' g->Us g):Past Sh Us' St Mem Lo K t :=
 ⟨H.clean,H.known,H.wrote,H.hears,fun i a g ha hs hg=>(H.cd0 i a g ha hs hg).imp (fun z g' r6=>z g' (hU g' r6)) id⟩
theorem PastH.Ce0 {Sh':Loc->Prop} (H:PastH Sh Us St Mem Lo h t) (hS:∀l,Sh l->Sh' l) (hLo:∀g l,Lo g->St g l->¬Sh' l) (hm:∀l,Sh' l->l.isMemory=true) (hU:∀g,Us g->g=h):PastH Sh' Us St Mem Lo h t :=
 ⟨H.clean,fun i a ha hm hs=>H.known i a ha hm fun z=>hs (hS _ z),H.wrote,H.hears,fun i a g ha hs hg=>by
  by_cases e:Sh a.loc
  ·exact H.cd0 i a g ha e hg
  ·rcases H.known i a ha (hm _ hs) e with hk|⟨_,g',_,hl,hS'⟩
   ·exact .inl fun g'' ac1=>by rw[hU g'' ac1];exact hk
   ·exact absurd hs (hLo g' _ hl hS')⟩
theorem Past.appMute {g:Nat} (H:Past Sh Us St Mem Lo K t) (hK:∀i,K i->K' i) (hn:∀op∈u,op.act.touch? =none) (hh:∀g',Mem g'->Deaf (t++u) g'=0):Past Sh Us St Mem Lo K' (t++u):=by
 refine⟨fun said=>noRace_appendMute (H.clean said) hn,fun i a ha hm hs=>?_,fun i a ha hw g' r6 hS=>?_,hh,fun i a g' ha hs r6=>?_⟩
 ·obtain⟨x,hx,u5⟩:=touch_of ha;rcases getElem?_append_cases hx with⟨_,W3⟩|⟨_,B8⟩
  ·exact H.old_known hK W3 u5 hm hs
  ·rw[hn x B8]at u5;cases u5
 ·obtain⟨x,hx,u5⟩:=touch_of ha;rcases getElem?_append_cases hx with⟨_,W3⟩|⟨_,B8⟩
  ·exact(H.wrote i a (by rw[touchAt_of W3];exact u5) hw g' r6 hS).app u
  ·rw[hn x B8]at u5;cases u5
 ·obtain⟨x,hx,u5⟩:=touch_of ha;rcases getElem?_append_cases hx with⟨_,W3⟩|⟨_,B8⟩
  ·exact H.B7 W3 u5 hs r6
  ·rw[hn x B8]at u5;cases u5
theorem Past.appRead {g:Nat} (H:Past Sh Us St Mem Lo K t) (hK:∀i,K i->K' i) (hg:Mem g) (hL:Lo g) (hu:∀op∈u,op.g=g) (hr:∀op∈u,∀b,op.act.touch? =some b->b.write=false/\St g b.loc/\¬Sh b.loc) (hd:Deaf (t++u) g=Deaf t g) :
  Past Sh Us St Mem Lo K' (t++u):=by
 refine⟨fun said=>noRace_append (H.clean said) hu fun i a ha op C5 b hb hc=>?_,fun i a ha hm hs=>?_,fun i a ha hw g' r6 hS=>?_,H.old_hears hu (fun _=>hd),fun i a g' ha hs r6=>?_⟩
 ·obtain⟨hb0,hbS,_⟩:=hr op C5 b hb;rcases hc.2.2.1 with x|x
  ·exact H.wrote i a ha x g hg (hc.1▸hbS)
  ·rw[hb0]at x;cases x
 ·obtain⟨x,hx,u5⟩:=touch_of ha;rcases getElem?_append_cases hx with⟨_,W3⟩|⟨_,B8⟩
  ·exact H.old_known hK W3 u5 hm hs
  ·exact .inr ⟨(hr x B8 a u5).1,g,by rw[g?_of hx,hu x B8],hL,(hr x B8 a u5).2.1⟩
 ·obtain⟨x,hx,u5⟩:=touch_of ha;rcases getElem?_append_cases hx with⟨_,W3⟩|⟨_,B8⟩
  ·exact(H.wrote i a (by rw[touchAt_of W3];exact u5) hw g' r6 hS).app u
  ·rw[(hr x B8 a u5).1]at hw;cases hw
 ·obtain⟨x,hx,u5⟩:=touch_of ha;rcases getElem?_append_cases hx with⟨_,W3⟩|⟨_,B8⟩
  ·exact H.B7 W3 u5 hs r6
  ·exact absurd hs (hr x B8 a u5).2.2
def HOk (Sh:Loc->Prop) (St:Nat->Loc->Prop) (h:Nat) (op:MemOp):Prop:=∀b,op.act.touch? =some b->¬Sh b.loc/\(b.write=true->∀g,g≠h->¬St g b.loc)
theorem PastH.appH (H:PastH Sh Us St Mem Lo h t) (hLo:¬Lo h) (hu:∀op∈u,op.g=h) (hs:∀op∈u,HOk Sh St h op) (hd:Deaf (t++u) h=Deaf t h):PastH Sh Us St Mem Lo h (t++u):=by
 refine⟨fun said=>noRace_append (H.clean said) hu fun i a ha op C5 b hb hc=>?_,fun i a ha hm hns=>?_,fun i a ha hw g hg hS=>?_,H.old_hears hu (fun _=>hd),fun i a g' ha V9 r6=>?_⟩
 ·obtain⟨h1,h2⟩:=hs op C5 b hb;rcases H.known i a ha hc.2.1 (hc.1▸h1)with hk|⟨hw,g,_,hl,hS⟩
  ·exact hk
  ·rcases hc.2.2.1 with x|x
   ·rw[hw]at x;cases x
   ·exact absurd (hc.1▸hS) (h2 x g fun e=>hLo (e▸hl))
 ·obtain⟨x,hx,u5⟩:=touch_of ha;rcases getElem?_append_cases hx with⟨_,W3⟩|⟨_,B8⟩
  ·exact H.old_known (fun i=>Knows.app u) W3 u5 hm hns
  ·have:=knows_own hx;rw[hu x B8]at this;exact .inl this
 ·obtain⟨x,hx,u5⟩:=touch_of ha;rcases getElem?_append_cases hx with⟨_,W3⟩|⟨_,B8⟩
  ·exact(H.wrote i a (by rw[touchAt_of W3];exact u5) hw g hg hS).app u
  ·by_cases e:g=h
   ·have:=knows_own hx;rw[hu x B8]at this;rw[e];exact this
   ·exact absurd hS ((hs x B8 a u5).2 hw g e)
 ·obtain⟨x,hx,u5⟩:=touch_of ha;rcases getElem?_append_cases hx with⟨_,W3⟩|⟨_,B8⟩
  ·exact H.B7 W3 u5 V9 r6
  ·exact absurd V9 (hs x B8 a u5).1
def GOk (Sh:Loc->Prop) (g:Nat) (op:MemOp):Prop:=∀b,op.act.touch? =some b->Sh b.loc/\b.kind≠.plain/\(g≠0->b.kind= .atomic)
theorem Past.Mh0 {g:Nat} (H:Past Sh Us St Mem Lo K t) (hUs:Us g) (Th0:∀g l,St g l->¬Sh l) (hK:∀i,K i->K' i) (hu:∀op∈u,op.g=g) (hs:∀op∈u,GOk Sh g op) (hdf:g≠0->∀i,t.size <=i->i<t.size+u.size->(t++u).deaf g i≠0)
  (hh:∀g',Mem g'->Deaf (t++u) g'=0):Past Sh Us St Mem Lo K' (t++u):=by
 refine⟨fun said=>noRace_append (H.clean said) hu fun i a ha op C5 b hb hc=>?_,fun i a ha hm hns=>?_,fun i a ha hw g' r6 hS=>?_,hh,fun i a g' ha V9 r6=>?_⟩
 ·obtain⟨h1,h2,h3⟩:=hs op C5 b hb;obtain⟨x,hx,u5⟩:=touch_of ha;rcases H.cd0 i a x.g ha (hc.1▸h1) (g?_of hx)with hsx|hsx
  ·exact hsx g hUs
  rcases hc.2.2.2 with y|y|⟨_,y1,y2⟩
  ·exact absurd y hsx.1
  ·exact absurd y h2
  ·have e1:g=0:=Classical.byContradiction fun e=>by have:=h3 e;rw[y2]at this;cases this
   have e2:x.g=0:=Classical.byContradiction fun e=>by have:=(hsx.2 e).1;rw[y1]at this;cases this
   have:=knows_own hx;rw[e2]at this;rw[e1];exact this
 ·obtain⟨x,hx,u5⟩:=touch_of ha;rcases getElem?_append_cases hx with⟨_,W3⟩|⟨_,B8⟩
  ·exact H.old_known hK W3 u5 hm hns
  ·exact absurd (hs x B8 a u5).1 hns
 ·obtain⟨x,hx,u5⟩:=touch_of ha;rcases getElem?_append_cases hx with⟨_,W3⟩|⟨_,B8⟩
  ·exact(H.wrote i a (by rw[touchAt_of W3];exact u5) hw g' r6 hS).app u
  ·exact absurd (hs x B8 a u5).1 (Th0 _ _ hS)
 ·obtain⟨x,hx,u5⟩:=touch_of ha;rcases getElem?_append_cases hx with⟨_,W3⟩|⟨hi,B8⟩
  ·exact H.B7 W3 u5 V9 r6
  ·obtain⟨h1,h2,h3⟩:=hs x B8 a u5;have hgx:g'=g:=by rw[g?_of hx]at r6;rw[<- hu x B8];exact(Option.some.inj r6).symm
   subst hgx;refine .inr ⟨h2,fun D3=>⟨h3 D3,?_⟩⟩;rintro⟨g2,hg2,hd2⟩;rw[r6]at hg2;obtain rfl:=Option.some.inj hg2;exact hdf D3 i hi (by have:=lt_size_of_getElem? hx;simpa using this) hd2
theorem PastH.still (H:PastH Sh Us St Mem Lo h t) (hLo:¬Lo h) (hSt:∀g,g≠h->∀l,St' g l↔St g l) (hS:∀l,St' h l->l.isMemory=true/\¬Sh l) (hM:∀g,Mem' g->Mem g\/g=h) (hd:Mem' h->Deaf t h=0):PastH Sh Us St' Mem' Lo h t :=
 ⟨H.clean,fun i a ha hm hs=>(H.known i a ha hm hs).imp id fun⟨x,g,hg,hl,hS'⟩=>⟨x,g,hg,hl,(hSt g (fun e=>hLo (e▸hl)) _).2 hS'⟩,
  fun i a ha hw g hg hl=>by
   by_cases e:g=h
   ·subst e;obtain⟨h1,h2⟩:=hS _ hl;rcases H.known i a ha h1 h2 with hk|⟨r3,_⟩
    ·exact hk
    ·rw[hw]at r3;cases r3
   ·exact H.wrote i a ha hw g ((hM g hg).resolve_right e) ((hSt g e _).1 hl),
  fun g hg=>by
   by_cases e:g=h
   ·subst e;exact hd hg
   ·exact H.hears g ((hM g hg).resolve_right e),H.cd0⟩
end
section
variable {Sh:Loc->Prop}{Us:Nat->Prop}{St:Nat->Loc->Prop}{Mem Lo:Nat->Prop}{h j:Nat}{t:Trace}
theorem PastH.give (H:PastH Sh Us St Mem Lo h t) (hh:Mem h) (hj:Mem j) (fh:FuncId) (ph:String) (fj:FuncId) (pj:String) (c k cap:Nat) :
  PastH Sh Us St Mem (fun g=>Lo g/\g≠j) j (t++met h j fh ph fj pj c k cap):=by
 have hn:=met_mute h j fh ph fj pj c k cap;have hq:=fun g=>met_quiet h j fh ph fj pj c k cap g;have e0:(t++met h j fh ph fj pj c k cap)[t.size]? =some {g:=h,fn:=fh,pos:=ph,act:=.send c k}:=by simp[met]
 have e3:(t++met h j fh ph fj pj c k cap)[t.size+3]? =some {g:=j,fn:=fj,pos:=pj,act:=.recvDone c k}:=by simp[met]
 have Ap0:HappensBefore (t++met h j fh ph fj pj c k cap) t.size (t.size+3) :=
  Relation.TransGen.single (.inr ⟨.handOver (act?_of e0) (act?_of e3),⟨h,g?_of e0,by rw[deaf_old (Nat.le_refl _)];exact H.hears h hh⟩,⟨j,g?_of e3,by rw[deaf_quiet (hq j) 3 (by simp[met])];exact H.hears j hj⟩⟩)
 refine⟨fun said=>noRace_appendMute (H.clean said) hn,fun i a ha hm hs=>?_,fun i a ha hw g hg hS=>?_,fun g hg=>(Deaf_quiet (hq g)).trans (H.hears g hg),fun i a g' ha V9 r6=>?_⟩
 ·obtain⟨x,hx,u5⟩:=touch_of ha;rcases getElem?_append_cases hx with⟨hi,W3⟩|⟨_,B8⟩
  ·rcases H.known i a (by rw[touchAt_of W3];exact u5) hm hs with hk|⟨p,g,hg,hl,hS⟩
   ·exact .inl ⟨t.size+3,_,e3,rfl,.inr ((hk.hb_new (Nat.le_refl _) e0 rfl).trans Ap0)⟩
   ·by_cases e:g=j
    ·subst e;have:=knows_own hx;rw[show x.g=g from by have:=g?_of W3;rw[hg]at this;exact(Option.some.inj this).symm]at this;exact .inl this
    ·exact .inr ⟨p,g,by rw[g?_old hi];exact hg,⟨hl,e⟩,hS⟩
  ·rw[hn x B8]at u5;cases u5
 ·obtain⟨x,hx,u5⟩:=touch_of ha;rcases getElem?_append_cases hx with⟨_,W3⟩|⟨_,B8⟩
  ·exact(H.wrote i a (by rw[touchAt_of W3];exact u5) hw g hg hS).app _
  ·rw[hn x B8]at u5;cases u5
 ·obtain⟨x,hx,u5⟩:=touch_of ha;rcases getElem?_append_cases hx with⟨_,W3⟩|⟨_,B8⟩
  ·exact H.B7 W3 u5 V9 r6
  ·rw[hn x B8]at u5;cases u5
theorem PastH.born {c:Nat} (H:PastH Sh Us St Mem Lo h t) (hh:Mem h) (hc0:Deaf t c=0) (hSt:∀l,¬St c l) (hUs:Us h) (fh:FuncId) (ph:String) (fc:FuncId) :
  PastH Sh (fun g=>Us g\/g=c) St (fun g=>Mem g\/g=c) Lo c (t ++ #[{g:=h,fn:=fh,pos:=ph,act:=.go c},{g:=c,fn:=fc,pos:=ph,act:=.start}]):=by
 generalize hu:(#[{g:=h,fn:=fh,pos:=ph,act:=.go c},{g:=c,fn:=fc,pos:=ph,act:=.start}]:Trace)=u;have hn:∀op∈u,op.act.touch? =none:=by
  intro op C5;subst hu;simp only[List.mem_toArray,List.mem_cons,List.not_mem_nil,or_false]at C5;rcases C5 with rfl|rfl <;> rfl
 have hq:∀g,∀op∈u,∀d,deafStep g d op=d:=by
  intro g op C5 d;subst hu;simp only[List.mem_toArray,List.mem_cons,List.not_mem_nil,or_false]at C5;rcases C5 with rfl|rfl <;> rfl
 have e0:(t++u)[t.size]? =some {g:=h,fn:=fh,pos:=ph,act:=.go c}:=by subst hu;simp
 have e1:(t++u)[t.size+1]? =some {g:=c,fn:=fc,pos:=ph,act:=.start}:=by subst hu;simp
 have Ap0:HappensBefore (t++u) t.size (t.size+1) :=
  Relation.TransGen.single (.inr ⟨.spawn (act?_of e0) (act?_of e1) (g?_of e1),⟨h,g?_of e0,by rw[deaf_old (Nat.le_refl _)];exact H.hears h hh⟩,⟨c,g?_of e1,by rw[deaf_quiet (hq c) 1 (by subst hu;simp)];exact hc0⟩⟩)
 refine⟨fun said=>noRace_appendMute (H.clean said) hn,fun i a ha hm hs=>?_,fun i a ha hw g hg hS=>?_,fun g hg=>(Deaf_quiet (hq g)).trans (hg.elim (H.hears g) fun e=>e▸hc0),fun i a g' ha V9 r6=>?_⟩
 ·obtain⟨x,hx,u5⟩:=touch_of ha;rcases getElem?_append_cases hx with⟨hi,W3⟩|⟨_,B8⟩
  ·rcases H.known i a (by rw[touchAt_of W3];exact u5) hm hs with hk|⟨p,g,hg,hl,hS⟩
   ·exact .inl ⟨t.size+1,_,e1,rfl,.inr ((hk.hb_new (Nat.le_refl _) e0 rfl).trans Ap0)⟩
   ·exact .inr ⟨p,g,by rw[g?_old hi];exact hg,hl,hS⟩
  ·rw[hn x B8]at u5;cases u5
 ·obtain⟨x,hx,u5⟩:=touch_of ha;rcases getElem?_append_cases hx with⟨_,W3⟩|⟨_,B8⟩
  ·rcases hg with hg|rfl
   ·exact(H.wrote i a (by rw[touchAt_of W3];exact u5) hw g hg hS).app u
   ·exact absurd hS (hSt _)
  ·rw[hn x B8]at u5;cases u5
 ·obtain⟨x,hx,u5⟩:=touch_of ha;rcases getElem?_append_cases hx with⟨_,W3⟩|⟨_,B8⟩
  ·have R2:=lt_size_of_getElem? W3;rcases H.cd0 i a g' (by rw[touchAt_of W3];exact u5) V9 (by rw[<- g?_old (u:=u) R2];exact r6)with y|y
   ·refine .inl fun g2 hg2=>?_;rcases hg2 with hg2|rfl
    ·exact(y g2 hg2).app u
    ·exact⟨t.size+1,_,e1,rfl,.inr (((y h hUs).hb_new (Nat.le_refl _) e0 rfl).trans Ap0)⟩
   ·exact .inr ⟨y.1,fun D3=>⟨(y.2 D3).1,fun hh=>(y.2 D3).2 ((heard_old R2).1 hh)⟩⟩
  ·rw[hn x B8]at u5;cases u5
theorem PastH.over (H:PastH Sh Us St Mem Lo 0 t) (hU:Us 0) (hL:∀g,¬Lo g):t.HandedOver:=by
 rintro i g hg D3 ⟨x,hx,hm,ep0⟩;by_cases hs:Sh x.loc
 ·rcases H.cd0 i x g hx hs hg with hk|this
  ·obtain⟨q,z,hq,hz,hb⟩:=hk 0 hU;rcases hb with rfl|hb
   ·rw[g?_of hq,hz]at hg;exact absurd (Option.some.inj hg).symm D3
   ·exact⟨q,by rw[g?_of hq,hz],hb⟩
  ·exact(ep0.elim (fun z=>absurd (this.2 D3).1 z) fun z=>absurd z (this.2 D3).2)
 ·rcases H.known i x hx hm hs with⟨q,z,hq,hz,hb⟩|⟨_,g',_,hl,_⟩
  ·rcases hb with rfl|hb
   ·rw[g?_of hq,hz]at hg;exact absurd (Option.some.inj hg).symm D3
   ·exact⟨q,by rw[g?_of hq,hz],hb⟩
  ·exact absurd hl (hL g')
end
end Go.Yc
end
section
namespace Go.Yc
open Go
def wa0:Mark->Bool
 | .acquire _| .release _| .releaseMerge _| .disable| .enable| .read _| .write _=>false
 |_=>true
def Z3:Obj->Bool
 | .view ..=>true
 |_=>false
def j6:Obj->Bool
 | .cells ..=>true
 |_=>false
def dead {α:Type} (P:Program):Sem α->Prop
 | .pure _=>False
 | .load _ _ k=>∀v,dead P (k v)
 | .store _ _ _ k=>dead P k
 | .new _ k=>∀r,dead P (k r)
 | .shape _ k=>∀s,dead P (k s)
 | .freeze _ _ k=>dead P k
 | .frozen _ k=>∀b,dead P (k b)
 | .getObj _ k=>∀o,dead P (k o)
 | .setObj _ _ k=>dead P k
 | .choose _ k=>∀n,dead P (k n)
 | .sys _ k=>∀r,dead P (k r)
 | .program k=>dead P (k P)
 | .mark _ k=>dead P k
 | .halt h=>∀v,h≠.panic v
def E1 {α:Type} (P:Program):Sem α->Prop
 | .pure _=>True
 | .load _ _ k=>∀v,E1 P (k v)
 | .store _ _ _ k=>E1 P k
 | .new o k=>Z3 o=false/\∀r,E1 P (k r)
 | .shape _ k=>∀s,dead P (k s)
 | .freeze _ _ k=>dead P k
 | .frozen _ k=>∀b,dead P (k b)
 | .getObj _ k=>∀o,E1 P (k o)
 | .setObj _ o k=>(Z3 o=false/\j6 o=false)/\E1 P k
 | .choose _ k=>∀n,E1 P (k n)
 | .sys _ k=>∀r,dead P (k r)
 | .program k=>E1 P (k P)
 | .mark m k=>if wa0 m then E1 P k else dead P k
 | .halt _=>True
theorem P3 {α β:Type} {P:Program} (f:α->Sem β):∀{s:Sem α},dead P s->dead P (s.bind f)
 | .pure _,h=>h.elim
 | .load _ _ k,h=>fun v=>P3 f (h v)
 | .store _ _ _ k,h=>P3 f (s:=k) h
 | .new _ k,h=>fun r=>P3 f (h r)
 | .shape _ k,h=>fun s=>P3 f (h s)
 | .freeze _ _ k,h=>P3 f (s:=k) h
 | .frozen _ k,h=>fun b=>P3 f (h b)
 | .getObj _ k,h=>fun o=>P3 f (h o)
 | .setObj _ _ k,h=>P3 f (s:=k) h
 | .choose _ k,h=>fun n=>P3 f (h n)
 | .sys _ k,h=>fun r=>P3 f (h r)
 | .program k,h=>P3 f (s:=k P) h
 | .mark _ k,h=>P3 f (s:=k) h
 | .halt _,h=>h
theorem Z5 {α β:Type} {P:Program} {f:α->Sem β} (hf:∀a,E1 P (f a)):∀{s:Sem α},E1 P s->E1 P (s.bind f)
 | .pure a,_=>hf a
 | .load _ _ k,h=>fun v=>Z5 hf (h v)
 | .store _ _ _ k,h=>Z5 hf (s:=k) h
 | .new _ k,h=>⟨h.1,fun r=>Z5 hf (h.2 r)⟩
 | .shape _ k,h=>fun s=>P3 f (h s)
 | .freeze _ _ k,h=>P3 f (s:=k) h
 | .frozen _ k,h=>fun b=>P3 f (h b)
 | .getObj _ k,h=>fun o=>Z5 hf (h o)
 | .setObj _ _ k,h=>⟨h.1,Z5 hf (s:=k) h.2⟩
 | .choose _ k,h=>fun n=>Z5 hf (h n)
 | .sys _ k,h=>fun r=>P3 f (h r)
 | .program k,h=>Z5 hf (s:=k P) h
 | .mark m k,h=>by
  unfold E1 at h;show E1 P (Sem.mark m (k.bind f));unfold E1;split at h
  ·rename_i hm;rw[if_pos hm];exact Z5 hf (s:=k) h
  ·rename_i hm;rw[if_neg hm];exact P3 f (s:=k) h
 | .halt _,_=>trivial
def inR (f:Nat×Nat) (i:Nat):Prop:=f.1 <=i/\i<f.2
inductive c6 where
 |all
 |cut (rest:Array Value) (f:Nat×Nat)
 |gone (o:Obj)
inductive bo0:c6->Obj->Obj->Prop
 |same (o:Obj):bo0 .all o o
 |cut (c rest:Array Value) (T:TypeId) (f f':Nat×Nat) (h:∀i,inR f i->inR f' i):bo0 (.cut rest f) (.cells c T f') (.cells (c++rest) T f)
 |gone (T:TypeId) (f:Nat×Nat) (o:Obj):bo0 (.gone o) (.cells #[] T f) o
structure D5 (ρ:Nat->c6) (u w:World):Prop where
 os:w.os=u.os
 output:w.output=u.output
 tape:w.tape=u.tape
 drawn:w.drawn=u.drawn
 size:w.heap.size=u.heap.size
 obj:∀(b:Nat) (x:Obj),u.heap[b]? =some x->∃y,w.heap[b]? =some y/\bo0 (ρ b) x y
 new:∀b,u.heap.size <=b->ρ b= .all
 u6:∀(b:Nat) (x:Obj),u.heap[b]? =some x->Z3 x=false
def N3 (x y:Obj):Prop:=match x,y with
 | .cells c T f,.cells c' T' f'=>c'.size=c.size/\T'=T/\f'=f/\∀i,inR f i->c'[i]? =c[i]?
 | .cells ..,_=>False
 |_,y=>j6 y=false
structure L8 (u u':World):Prop where
 size:u.heap.size <=u'.heap.size
 obj:∀(b:Nat) (x:Obj),u.heap[b]? =some x->∃y,u'.heap[b]? =some y/\N3 x y
theorem N3.refl:∀x,N3 x x
 | .cells ..=>⟨rfl,rfl,rfl,fun _ _=>rfl⟩
 | .pending ..=>rfl
 | .view ..=>rfl
 | .number ..=>rfl
 | .map ..=>rfl
 | .chan ..=>rfl
 | .stringIter ..=>rfl
 | .mapIter ..=>rfl
 | .loop ..=>rfl
 | .deferred ..=>rfl
 | .coro ..=>rfl
 | .finalizers ..=>rfl
theorem N3.trans {x y z:Obj} (h:N3 x y) (h':N3 y z):N3 x z:=by
 cases x <;> cases y <;> first|exact h.elim|skip
 case cells.cells=>
  cases z <;> first|exact h'.elim|skip
  obtain⟨h1,rfl,rfl,h2⟩:=h;obtain⟨h3,rfl,rfl,h4⟩:=h';exact⟨h3.trans h1,rfl,rfl,fun i hi=>(h4 i hi).trans (h2 i hi)⟩
 all_goals (first|(cases z <;> simp_all [N3,j6]))
theorem L8.refl (u:World):L8 u u:=⟨Nat.le_refl _,fun _ x h=>⟨x,h,N3.refl x⟩⟩
theorem L8.trans {u v x:World} (h:L8 u v) (h':L8 v x):L8 u x :=
 ⟨Nat.le_trans h.size h'.size,fun b o ho=>by
  obtain⟨o',h1,h2⟩:=h.obj b o ho;obtain⟨o'',h3,h4⟩:=h'.obj b o' h1;exact⟨o'',h3,h2.trans h4⟩⟩
def eq0 (u:World) (e:Event):Prop:=match e.loc with
 | .cell a=>a.block<u.heap.size->(∃v,u.cell? a=some v)/\(e.write=true->u.frozen? a=false)
 | .obj r=>r<u.heap.size->∃x,u.heap[r]? =some x/\j6 x=false
 | .mark m=>wa0 m=true
 |_=>False
theorem B4 {u:World} {a:Addr} {v:Value} (h:u.cell? a=some v):∃c T f,u.heap[a.block]? =some (.cells c T f)/\a.spot=none/\c[a.off]? =some v:=by
 unfold World.cell? at h;split at h
 ·rename_i c T f hb;split at h
  ·cases h
  ·rename_i hs;exact⟨c,T,f,hb,by cases hh:a.spot <;> simp_all,h⟩
 ·cases h
section
variable {ρ:Nat->c6}{u w u':World}{a:Addr}{v:Value}
theorem D5.cell (h:D5 ρ u w) (hc:u.cell? a=some v):w.cell? a=some v:=by
 obtain⟨c,T,f,hb,hs,hv⟩:=B4 hc;obtain⟨y,hy,hl⟩:=h.obj _ _ hb;unfold World.cell?;generalize ρ a.block=p at hl;cases hl with
 |same=>rw[hy];simp[hs,hv]
 |cut _ rest _ f0 _ hf=>
  rw[hy];simp only[hs,Option.isSome_none,Bool.false_eq_true,if_false];rw[Array.getElem?_append_left (Array.getElem?_eq_some_iff.1 hv).1];exact hv
 |gone=>simp at hv
theorem D5.frozen (h:D5 ρ u w) (hc:u.cell? a=some v) (hf:u.frozen? a=false):w.frozen? a=false:=by
 obtain⟨c,T,f,hb,hs,hv⟩:=B4 hc;obtain⟨y,hy,hl⟩:=h.obj _ _ hb;unfold World.frozen? at hf⊢;rw[hb]at hf;generalize ρ a.block=p at hl;cases hl with
 |same=>rw[hy];exact hf
 |cut _ rest _ f0 _ hf0=>
  rw[hy];simp only[Bool.and_eq_false_imp,decide_eq_true_eq,decide_eq_false_iff_not]at hf⊢;intro h1 h2;exact hf (hf0 _ ⟨h1,h2⟩).1 (hf0 _ ⟨h1,h2⟩).2
 |gone=>simp at hv
theorem heap_setCell (u:World) (a:Addr) (v:Value) (b:Nat):(u.setCell a v).heap[b]? =(u.heap[b]?).map fun o=>if b=a.block then(match o with| .cells c T f=>.cells (if a.spot.isSome then c else c.setIfInBounds a.off v) T f|o=>o) else o:=by
 unfold World.setCell;simp only[Array.getElem?_modify];by_cases h:a.block=b
 ·subst h;simp only[if_true];cases u.heap[a.block]? with
  |none=>rfl
  |some o=>cases o <;> rfl
 ·simp[h,Ne.symm h]
theorem D5.setCell (h:D5 ρ u w) (hc:u.cell? a=some v) (x:Value):D5 ρ (u.setCell a x) (w.setCell a x):=by
 obtain⟨c,T,f,hb,hs,hv⟩:=B4 hc;have R2:=(Array.getElem?_eq_some_iff.1 hv).1;refine⟨h.os,h.output,h.tape,h.drawn,by simp[World.setCell,h.size],fun b o ho=>?_,fun b hb=>h.new b (by simpa [World.setCell]using hb),fun b o ho=>?_⟩
 ·rw[heap_setCell]at ho⊢;obtain⟨o1,h1,rfl⟩:=Option.map_eq_some_iff.1 ho;obtain⟨y,hy,hl⟩:=h.obj b o1 h1;refine⟨_,by rw[hy];rfl,?_⟩;by_cases hba:b=a.block
  ·subst hba;rw[hb]at h1;obtain rfl:=Option.some.inj h1;simp only[if_true,hs,Option.isSome_none,Bool.false_eq_true,if_false];generalize ρ a.block=p at hl⊢;cases hl with
   |same=>exact .same _
   |cut _ rest _ f0 _ hf0=>
    show bo0 _ _ (.cells ((c++rest).setIfInBounds a.off x) T f0);rw[show(c++rest).setIfInBounds a.off x=c.setIfInBounds a.off x++rest by
     rw[Array.setIfInBounds_append_left R2]]
    exact .cut _ _ _ _ _ hf0
   |gone=>simp at hv
  ·simp only[hba,if_false];exact hl
 ·rw[heap_setCell]at ho;obtain⟨o1,h1,rfl⟩:=Option.map_eq_some_iff.1 ho;have:=h.u6 b o1 h1;by_cases hba:b=a.block
  ·simp only[hba,if_true];cases o1 <;> simp_all [Z3]
  ·simp only[hba,if_false];exact this
theorem tn0 (u:World) (a:Addr) (x:Value) (hz:u.frozen? a=false):L8 u (u.setCell a x):=by
 refine⟨by simp[World.setCell],fun b o ho=>?_⟩;rw[heap_setCell,ho];refine⟨_,rfl,?_⟩;by_cases hba:b=a.block
 ·subst hba;unfold World.frozen? at hz;rw[ho]at hz;simp only[if_true];cases o <;> simp only[N3,j6]
  rename_i c T f;split
  ·simp
  ·refine⟨by simp,trivial,trivial,fun i hi=>?_⟩;rw[Array.getElem?_setIfInBounds_ne];rintro rfl;obtain⟨lo,hi'⟩:=f;simp only[Bool.and_eq_false_imp,decide_eq_true_eq,decide_eq_false_iff_not]at hz;exact hz hi.1 hi.2
 ·simp only[hba,if_false];exact N3.refl o
theorem Cf0 (u:World) (o:Obj):L8 u {u with heap:=u.heap.push o}:=by
 refine⟨by simp,fun b x hx=>⟨x,?_,N3.refl x⟩⟩;have:=(Array.getElem?_eq_some_iff.1 hx).1;show(u.heap.push o)[b]? =some x;rw[Array.getElem?_push,if_neg (by omega)];exact hx
theorem D5.push (h:D5 ρ u w) {o:Obj} (ho:Z3 o=false):D5 ρ {u with heap:=u.heap.push o} {w with heap:=w.heap.push o}:=by
 refine⟨h.os,h.output,h.tape,h.drawn,by simp[h.size],fun b x hx=>?_,fun b hb=>h.new b (by simp at hb;omega),fun b x hx=>?_⟩
 ·have W3:(u.heap.push o)[b]? =some x:=hx;show ∃y,(w.heap.push o)[b]? =some y/\_;rw[Array.getElem?_push]at W3⊢;rw[h.size];split at W3
  ·rename_i hb;rw[if_pos hb];cases W3;exact⟨_,rfl,by rw[h.new b (by omega)];exact .same _⟩
  ·rename_i hb;rw[if_neg hb];exact h.obj b x W3
 ·have W3:(u.heap.push o)[b]? =some x:=hx;rw[Array.getElem?_push]at W3;split at W3
  ·cases W3;exact ho
  ·exact h.u6 b x W3
theorem wb0 {r:Nat} {x:Obj} (hr:u.heap[r]? =some x) (hx:j6 x=false) {o:Obj} (ho:j6 o=false):L8 u {u with heap:=u.heap.setIfInBounds r o}:=by
 refine⟨by simp,fun b y hy=>?_⟩;show ∃z,(u.heap.setIfInBounds r o)[b]? =some z/\_;rw[Array.getElem?_setIfInBounds];by_cases h:r=b
 ·subst h;have R2:=(Array.getElem?_eq_some_iff.1 hr).1;rw[hr]at hy;obtain rfl:=Option.some.inj hy;refine⟨o,by simp[R2],?_⟩;cases x <;> simp_all [N3,j6]
 ·exact⟨y,by simp[h,hy],N3.refl y⟩
theorem D5.setObj (h:D5 ρ u w) {r:Nat} {o x:Obj} (hr:u.heap[r]? =some x) (hx:j6 x=false) (ho:Z3 o=false):D5 ρ {u with heap:=u.heap.setIfInBounds r o} {w with heap:=w.heap.setIfInBounds r o}:=by
 have hal:ρ r= .all:=by
  obtain⟨y,_,hl⟩:=h.obj r x hr;generalize ρ r=p at hl⊢;cases hl <;> first|rfl|cases hx
 refine⟨h.os,h.output,h.tape,h.drawn,by simp[h.size],fun b x hx=>?_,fun b hb=>h.new b (by simpa using hb),fun b x hx=>?_⟩
 ·have W3:(u.heap.setIfInBounds r o)[b]? =some x:=hx;show ∃y,(w.heap.setIfInBounds r o)[b]? =some y/\_;rw[Array.getElem?_setIfInBounds]at W3⊢;by_cases l9:r=b
  ·subst l9;simp only[if_true]at W3⊢;rw[h.size];split at W3
   ·rename_i hb;rw[if_pos hb];cases W3;exact⟨_,rfl,by rw[hal];exact .same _⟩
   ·cases W3
  ·simp only[l9,if_false]at W3⊢;exact h.obj b x W3
 ·have W3:(u.heap.setIfInBounds r o)[b]? =some x:=hx;rw[Array.getElem?_setIfInBounds]at W3;by_cases l9:r=b
  ·subst l9;simp only[if_true]at W3;split at W3
   ·cases W3;exact ho
   ·cases W3
  ·simp only[l9,if_false]at W3;exact h.u6 b x W3
theorem eq0.back (he:L8 u u') {e:Event} (h:eq0 u' e):eq0 u e:=by
 obtain⟨l,wr,sy⟩:=e;cases l with
 |cell a=>
  intro R2;obtain⟨⟨v,hv⟩,hw⟩:=h (Nat.lt_of_lt_of_le R2 he.size);have hx:u.heap[a.block]? =some u.heap[a.block]:=Array.getElem?_eq_getElem R2;obtain⟨y,hy,hk⟩:=he.obj _ _ hx;obtain⟨c,T,f,hb,hs,hc⟩:=B4 hv;rw[hb]at hy;obtain rfl:=Option.some.inj hy;generalize u.heap[a.block]=x at hx hk;cases x <;> simp only[N3,j6,Bool.true_eq_false]at hk
  rename_i c0 T0 f0;obtain⟨h1,rfl,rfl,_⟩:=hk;have dz1:=(Array.getElem?_eq_some_iff.1 hc).1;refine⟨⟨c0[a.off]'(by omega),by unfold World.cell?;rw[hx];simp[hs,show a.off<c0.size by omega]⟩,fun hwr=>?_⟩;have:=hw hwr;unfold World.frozen? at this⊢;rw[hb]at this;rw[hx];exact this
 |obj r=>
  intro R2;obtain⟨x',W3,hc⟩:=h (Nat.lt_of_lt_of_le R2 he.size);have hx:u.heap[r]? =some u.heap[r]:=Array.getElem?_eq_getElem R2;obtain⟨y,hy,hk⟩:=he.obj _ _ hx;rw[W3]at hy;obtain rfl:=Option.some.inj hy;refine⟨_,hx,?_⟩;generalize u.heap[r]=x at hk;cases x <;> first|rfl|(cases x' <;> simp_all [N3,j6])
 |output=>exact h
 |goroutines=>exact h
 |mark m=>exact h
def to0 {α:Type}:Result α->Prop
 | .ok _ _=>True
 | .halt (.panic _) _=>True
 |_=>False
def atW {α:Type}:Result α->World->Result α
 | .ok a _,w=>.ok a w
 | .halt h _,w=>.halt h w
def er0 {α:Type}:Result α->World
 | .ok _ w=>w
 | .halt _ w=>w
def one:Value->Bool
 | .agg _=>false
 | .tuple _=>false
 |_=>true
theorem q9 {α:Type} {P:Program} {m:Mode} {a:Addr} {v:Value} {k:Sem α} (h:one v=true) (u:World) (es:Array Event):(Sem.store m a v k).runT P u es=match u.cell? a with
  |some _=>if u.frozen? a then(.halt (.unsupported (.unsafePointer "a write to bytes that a string shares")) u,es) else k.runT P (u.setCell a v) (es.push ⟨.cell a,true,m== .atomic⟩)
  |none=>match u.farStore P a v (m== .atomic)with
   | .ok (u,In0)=>k.runT P u (es++In0.toArray.map (⟨.cell ·,true,m== .atomic⟩))
   | .error h=>(.halt h u,es):=by
 cases v <;> first|rfl|cases h
theorem ce0 {α:Type} {P:Program} {m:Mode} {a:Addr} {v:Value} {k:Sem α} (h:one v=false) (u:World) (es:Array Event):(Sem.store m a v k).runT P u es=(.halt (.stuck "store: not the value of one cell") u,es):=by
 cases v <;> first|rfl|cases h
theorem ht0 {P:Program} {u:World} {a:Addr} {b:Bool} {h:Halt} (he:u.farLoad P a b= .error h):∀v,h≠.panic v:=by
 unfold World.farLoad at he;split at he
 ·split at he
  ·cases he
  ·cases he;intro v;simp
 ·cases he;unfold World.noCell;split <;> intro v <;> simp
theorem es0 {P:Program} {u:World} {a:Addr} {x:Value} {b:Bool} {h:Halt} (he:u.farStore P a x b= .error h):∀v,h≠.panic v:=by
 unfold World.farStore at he;split at he
 ·split at he
  ·cases he
  ·cases he;intro v;simp
 ·cases he;unfold World.noCell;split <;> intro v <;> simp
theorem au0 {α:Type} {h:Halt} {w:World} (hf:to0 (α:=α) (.halt h w)):∃v,h= .panic v:=by
 cases h <;> first|exact⟨_,rfl⟩|exact hf.elim
theorem Y1 {α:Type} {P:Program}:∀{s:Sem α},dead P s->∀(u:World) (es:Array Event),¬to0 (s.runT P u es).1
 | .pure _,h,_,_=>h.elim
 | .load m a k,h,u,es=>by
  unfold Sem.runT;split
  ·exact Y1 (h _) _ _
  ·split
   ·exact Y1 (h _) _ _
   ·rename_i he;intro hf;obtain⟨v,hv⟩:=au0 hf;exact ht0 he v hv
 | .store m a v k,h,u,es=>by
  cases ho:one v
  ·rw[ce0 ho];exact id
  ·rw[q9 ho];split
   ·split
    ·exact id
    ·exact Y1 (s:=k) h _ _
   ·split
    ·exact Y1 (s:=k) h _ _
    ·rename_i he;intro hf;obtain⟨v,hv⟩:=au0 hf;exact es0 he v hv
 | .new _ k,h,u,es=>Y1 (h _) _ _
 | .shape _ k,h,u,es=>Y1 (h _) _ _
 | .freeze _ _ k,h,u,es=>Y1 (s:=k) h _ _
 | .frozen _ k,h,u,es=>Y1 (h _) _ _
 | .getObj _ k,h,u,es=>by
  unfold Sem.runT;split
  ·exact id
  ·exact Y1 (h _) _ _
  ·exact id
 | .setObj _ _ k,h,u,es=>by
  unfold Sem.runT;split
  ·exact id
  ·exact Y1 (s:=k) h _ _
  ·exact id
 | .choose _ k,h,u,es=>by
  unfold Sem.runT;split
  ·exact Y1 (h _) _ _
  ·exact Y1 (h _) _ _
 | .sys _ k,h,u,es=>Y1 (h _) _ _
 | .program k,h,u,es=>Y1 (s:=k P) h _ _
 | .mark _ k,h,u,es=>Y1 (s:=k) h _ _
 | .halt hh,h,u,es=>by
  intro hf;obtain⟨v,hv⟩:=au0 hf;exact h v hv
structure tp0 {α:Type} (P:Program) (ρ:Nat->c6) (s:Sem α) (u w:World) (es:Array Event):Prop where
 out:∃w',s.runT P w es=(atW (s.runT P u es).1 w',(s.runT P u es).2)/\D5 ρ (er0 (s.runT P u es).1) w'
 evo:L8 u (er0 (s.runT P u es).1)
 evs:∀e∈(s.runT P u es).2,e∈es\/eq0 u e
theorem tp0.of {α β:Type} {P:Program} {ρ:Nat->c6} {s:Sem α} {t:Sem β} {u w u' w':World} {es es':Array Event} {f:Result β->Result α} (h:tp0 P ρ t u' w' es') (hu:s.runT P u es=(f (t.runT P u' es').1,(t.runT P u' es').2)) (hw:s.runT P w es=(f (t.runT P w' es').1,(t.runT P w' es').2))
  (hf:∀r w,f (atW r w)=atW (f r) w) (hfw:∀r,er0 (f r)=er0 r) (he:L8 u u') (r9:∀e∈es',e∈es\/eq0 u e):tp0 P ρ s u w es:=by
 obtain⟨⟨w2,h1,h2⟩,h3,h4⟩:=h;refine⟨⟨w2,?_,?_⟩,?_,?_⟩
 ·rw[hw,h1,hu];simp only[hf]
 ·rw[hu];simp only[hfw];exact h2
 ·rw[hu];simp only[hfw];exact he.trans h3
 ·rw[hu];intro e hee;rcases h4 e hee with h5|h5
  ·exact r9 e h5
  ·exact .inr (h5.back he)
theorem tp0.go {α:Type} {P:Program} {ρ:Nat->c6} {s t:Sem α} {u w u' w':World} {es es':Array Event} (h:tp0 P ρ t u' w' es') (hu:s.runT P u es=t.runT P u' es') (hw:s.runT P w es=t.runT P w' es') (he:L8 u u') (r9:∀e∈es',e∈es\/eq0 u e):tp0 P ρ s u w es :=
 tp0.of (f:=id) h hu hw (fun _ _=>rfl) (fun _=>rfl) he r9
theorem tq0 {o:Obj} (h:j6 o=true):∃c T f,o= .cells c T f:=by
 cases o <;> first|exact⟨_,_,_,rfl⟩|cases h
theorem l8 {u:World} {es:Array Event} {x:Event} (hx:eq0 u x):∀e∈es.push x,e∈es\/eq0 u e:=by
 intro e he;rcases Array.mem_push.1 he with h|rfl
 ·exact .inl h
 ·exact .inr hx
theorem D5.ask {ρ:Nat->c6} {u w:World} (h:D5 ρ u w) (d:Nat):D5 ρ {u with drawn:=d} {w with drawn:=d}:=⟨h.os,h.output,h.tape,rfl,h.size,h.obj,h.new,h.u6⟩
theorem w6 {α:Type} {P:Program} {ρ:Nat->c6}:∀{s:Sem α},E1 P s->∀{u w:World} {es:Array Event},D5 ρ u w->to0 (s.runT P u es).1->tp0 P ρ s u w es
 | .pure a,_,u,w,es,hs,_=>⟨⟨w,rfl,hs⟩,L8.refl u,fun e he=>.inl he⟩
 | .halt hh,_,u,w,es,hs,_=>⟨⟨w,rfl,hs⟩,L8.refl u,fun e he=>.inl he⟩
 | .load m a k,h,u,w,es,hs,hf=>by
  cases hc:u.cell? a with
  |some v=>
   have hu:(Sem.load m a k).runT P u es=(k v).runT P u (es.push ⟨.cell a,false,m== .atomic⟩):=by
    conv=>lhs;unfold Sem.runT
    rw[hc]
   have hw:(Sem.load m a k).runT P w es=(k v).runT P w (es.push ⟨.cell a,false,m== .atomic⟩):=by
    conv=>lhs;unfold Sem.runT
    rw[hs.cell hc]
   rw[hu]at hf;exact(w6 (h v) hs hf).go hu hw (L8.refl u) (l8 (fun _=>⟨⟨v,hc⟩,fun h9=>by cases h9⟩))
  |none=>
   exfalso;unfold Sem.runT at hf;rw[hc]at hf;have:∃hh,u.farLoad P a (m== .atomic)= .error hh:=by
    unfold World.farLoad;cases hb:u.heap[a.block]? with
    |none=>exact⟨_,rfl⟩
    |some o=>
     cases o
     case view at_ t=>exact absurd (hs.u6 _ _ hb) (by simp[Z3])
     all_goals exact⟨_,rfl⟩
   obtain⟨hh,he⟩:=this;rw[he]at hf;obtain⟨v,hv⟩:=au0 hf;exact ht0 he v hv
 | .store m a x k,h,u,w,es,hs,hf=>by
  cases ho:one x
  ·rw[ce0 ho]at hf;exact hf.elim
  ·cases hc:u.cell? a with
   |some v=>
    cases hz:u.frozen? a
    ·have hu:(Sem.store m a x k).runT P u es=k.runT P (u.setCell a x) (es.push ⟨.cell a,true,m== .atomic⟩):=by
      rw[q9 ho,hc,hz];rfl
     have hw:(Sem.store m a x k).runT P w es=k.runT P (w.setCell a x) (es.push ⟨.cell a,true,m== .atomic⟩):=by
      rw[q9 ho,hs.cell hc,hs.frozen hc hz];rfl
     rw[hu]at hf;exact(w6 (s:=k) h (hs.setCell hc x) hf).go hu hw (tn0 u a x hz) (l8 (fun _=>⟨⟨v,hc⟩,fun _=>hz⟩))
    ·rw[q9 ho,hc,hz]at hf;exact hf.elim
   |none=>
    exfalso;rw[q9 ho,hc]at hf;have:∃hh,u.farStore P a x (m== .atomic)= .error hh:=by
     unfold World.farStore;cases hb:u.heap[a.block]? with
     |none=>exact⟨_,rfl⟩
     |some o=>
      cases o
      case view at_ t=>exact absurd (hs.u6 _ _ hb) (by simp[Z3])
      all_goals exact⟨_,rfl⟩
    obtain⟨hh,he⟩:=this;rw[he]at hf;obtain⟨v,hv⟩:=au0 hf;exact es0 he v hv
 | .new o k,h,u,w,es,hs,hf=>by
  refine(w6 (h.2 u.heap.size) (hs.push h.1) hf).go rfl ?_ (Cf0 u o) (fun e he=>.inl he);show(k w.heap.size).runT P _ es=_;rw[hs.size]
 | .shape _ k,h,u,w,es,hs,hf=>absurd hf (Y1 (h _) _ _)
 | .freeze _ _ k,h,u,w,es,hs,hf=>absurd hf (Y1 (s:=k) h _ _)
 | .frozen _ k,h,u,w,es,hs,hf=>absurd hf (Y1 (h _) _ _)
 | .getObj r k,h,u,w,es,hs,hf=>by
  cases hb:u.heap[r]? with
  |none=>unfold Sem.runT at hf;rw[hb]at hf;exact hf.elim
  |some o=>
   cases hco:j6 o
   ·obtain⟨y,hy,hl⟩:=hs.obj r o hb;have hyo:y=o:=by generalize ρ r=p at hl;cases hl <;> first|rfl|cases hco
    subst hyo;have hu:(Sem.getObj r k).runT P u es=(k y).runT P u (es.push ⟨.obj r,false,y.isChan⟩):=by
     conv=>lhs;unfold Sem.runT
     rw[hb];cases y <;> first|rfl|cases hco
    have hw:(Sem.getObj r k).runT P w es=(k y).runT P w (es.push ⟨.obj r,false,y.isChan⟩):=by
     conv=>lhs;unfold Sem.runT
     rw[hy];cases y <;> first|rfl|cases hco
    rw[hu]at hf;exact(w6 (h y) hs hf).go hu hw (L8.refl u) (l8 (fun _=>⟨y,hb,hco⟩))
   ·obtain⟨c,T,f,rfl⟩:=tq0 hco;unfold Sem.runT at hf;rw[hb]at hf;exact hf.elim
 | .setObj r o k,h,u,w,es,hs,hf=>by
  cases hb:u.heap[r]? with
  |none=>unfold Sem.runT at hf;rw[hb]at hf;exact hf.elim
  |some y=>
   cases hco:j6 y
   ·obtain⟨y',hy,hl⟩:=hs.obj r y hb;have hyo:y'=y:=by generalize ρ r=p at hl;cases hl <;> first|rfl|cases hco
    subst hyo;have hu:(Sem.setObj r o k).runT P u es=k.runT P {u with heap:=u.heap.setIfInBounds r o} (es.push ⟨.obj r,true,o.isChan⟩):=by
     conv=>lhs;unfold Sem.runT
     rw[hb];cases y' <;> first|rfl|cases hco
    have hw:(Sem.setObj r o k).runT P w es=k.runT P {w with heap:=w.heap.setIfInBounds r o} (es.push ⟨.obj r,true,o.isChan⟩):=by
     conv=>lhs;unfold Sem.runT
     rw[hy];cases y' <;> first|rfl|cases hco
    rw[hu]at hf;exact(w6 (s:=k) h.2 (hs.setObj hb hco h.1.1) hf).go hu hw (wb0 hb hco h.1.2) (l8 (fun _=>⟨y',hb,hco⟩))
   ·obtain⟨c,T,f,rfl⟩:=tq0 hco;unfold Sem.runT at hf;rw[hb]at hf;exact hf.elim
 | .choose q k,h,u,w,es,hs,hf=>by
  cases hq:q.forced
  ·have hu:(Sem.choose q k).runT P u es=(k (q.cut (u.tape u.drawn q))).runT P {u with drawn:=u.drawn+1} es:=by
    conv=>lhs;unfold Sem.runT
    rw[hq];rfl
   have hw:(Sem.choose q k).runT P w es=(k (q.cut (u.tape u.drawn q))).runT P {w with drawn:=u.drawn+1} es:=by
    conv=>lhs;unfold Sem.runT
    rw[hq,hs.tape,hs.drawn];rfl
   rw[hu]at hf;exact(w6 (h _) (hs.ask _) hf).go hu hw ⟨Nat.le_refl _,fun _ x hx=>⟨x,hx,N3.refl x⟩⟩ (fun e he=>.inl he)
  ·have hu:(Sem.choose q k).runT P u es=(k 0).runT P u es:=by
    conv=>lhs;unfold Sem.runT
    rw[hq];rfl
   have hw:(Sem.choose q k).runT P w es=(k 0).runT P w es:=by
    conv=>lhs;unfold Sem.runT
    rw[hq];rfl
   rw[hu]at hf;exact(w6 (h 0) hs hf).go hu hw (L8.refl u) (fun e he=>.inl he)
 | .sys _ k,h,u,w,es,hs,hf=>absurd hf (Y1 (h _) _ _)
 | .program k,h,u,w,es,hs,hf=>(w6 (s:=k P) h hs hf).go rfl rfl (L8.refl u) (fun e he=>.inl he)
 | .mark m k,h,u,w,es,hs,hf=>by
  unfold E1 at h;split at h
  ·rename_i hm;exact(w6 (s:=k) h hs hf).go rfl rfl (L8.refl u) (l8 hm)
  ·exact absurd hf (Y1 (s:=k) h _ _)
end
end Go.Yc
end
section
namespace Go.Yc
open Go Go.Conc
open Go.ConcN (sumTo upd sumTo_upd upd_ne upd_same sumTo_congr)
section
def W2 (u:World) (τ:Tape) (d:Nat):World:={u with tape:=τ,drawn:=d}
theorem bo0.uniq {p:c6} {x y y':Obj} (h:bo0 p x y) (h':bo0 p x y'):y=y':=by
 cases h <;> cases h' <;> rfl
theorem p7 {c:Array Value} {T:TypeId} {f:Nat×Nat} {y:Obj} (hk:N3 (.cells c T f) y):∃c',y= .cells c' T f/\c'.size=c.size/\∀i,inR f i->c'[i]? =c[i]?:=by
 cases y <;> try(exact hk.elim)
 obtain⟨h1,rfl,rfl,h2⟩:=hk;exact⟨_,rfl,h1,h2⟩
def bp0 (u:World) (b:Nat):Prop:=∃T f,u.heap[b]? =some (.cells #[] T f)
theorem bp0.evo {u u':World} {b:Nat} (h:bp0 u b) (he:L8 u u'):bp0 u' b:=by
 obtain⟨T,f,hb⟩:=h;obtain⟨y,hy,hk⟩:=he.obj _ _ hb;obtain⟨c,rfl,h1,_⟩:=p7 hk;have:c=#[]:=by simpa using h1
 subst this;exact⟨_,_,hy⟩
theorem bp0.kept {ρ:Nat->c6} {u u' w w':World} {b:Nat} (h:bp0 u b) (he:L8 u u') (hs:D5 ρ u w) (hs':D5 ρ u' w'):w'.heap[b]? =w.heap[b]?:=by
 obtain⟨T,f,hb⟩:=h;obtain⟨y,hy,hk⟩:=he.obj _ _ hb;obtain⟨c,rfl,h1,_⟩:=p7 hk;have:c=#[]:=by simpa using h1
 subst this;obtain⟨z,hz,hl⟩:=hs.obj _ _ hb;obtain⟨z',hz',x5⟩:=hs'.obj _ _ hy;rw[hz,hz',hl.uniq x5]
theorem wc0 {u u':World} {a:Addr} {v:Value} (hc:u.cell? a=some v) (hf:u.frozen? a=true) (he:L8 u u'):u'.cell? a=some v/\u'.frozen? a=true:=by
 obtain⟨c,T,f,hb,hs,hv⟩:=B4 hc;obtain⟨y,hy,hk⟩:=he.obj _ _ hb;obtain⟨c',rfl,h1,h2⟩:=p7 hk;unfold World.frozen? at hf⊢;unfold World.cell?;rw[hb]at hf;rw[hy];obtain⟨lo,hi⟩:=f;refine⟨?_,hf⟩;simp only[hs,Option.isSome_none,Bool.false_eq_true,if_false];simp only[Bool.and_eq_true,decide_eq_true_eq]at hf;rw[h2 _ hf];exact hv
structure H4 where
 blk:Nat
 off:Nat
def stA (G:H4):Addr:=⟨G.blk,G.off,none⟩
def smA (G:H4):Addr:=⟨G.blk,G.off+1,none⟩
def KK:Nat:=4294967296
attribute [local irreducible] KK
def q7 (G:H4) (st sm:Int) (w:World):Prop:=∃c T,w.heap[G.blk]? =some (.cells (c ++ #[.int .u64 st,.int .u32 sm]) T (0,0))/\c.size=G.off
def Cut (u:World) (G:H4):Prop:=∃c T f,u.heap[G.blk]? =some (.cells c T f)/\c.size=G.off
theorem Cut.evo {u u':World} {G:H4} (h:Cut u G) (he:L8 u u'):Cut u' G:=by
 obtain⟨c,T,f,hb,hc⟩:=h;obtain⟨y,hy,hk⟩:=he.obj _ _ hb;obtain⟨c',rfl,h1,_⟩:=p7 hk;exact⟨_,_,_,hy,h1.trans hc⟩
theorem Cut.kept {ρ:Nat->c6} {u u' w w':World} {G:H4} {st sm:Int} (h:Cut u G) (he:L8 u u') (hs:D5 ρ u w) (hs':D5 ρ u' w') (hg:q7 G st sm w):q7 G st sm w':=by
 obtain⟨c,T,f,hb,hc⟩:=h;obtain⟨y,hy,hk⟩:=he.obj _ _ hb;obtain⟨c',rfl,h1,_⟩:=p7 hk;obtain⟨z,hz,hl⟩:=hs.obj _ _ hb;obtain⟨z',hz',x5⟩:=hs'.obj _ _ hy;obtain⟨c0,T0,hg,hc0⟩:=hg;rw[hz]at hg;obtain rfl:=Option.some.inj hg;generalize ρ G.blk=p at hl x5;generalize hz0:(Obj.cells (c0 ++ #[.int .u64 st,.int .u32 sm]) T0 (0,0))=z0 at hl;cases hl with
 |same=>
  obtain⟨rfl,_,_⟩:=Obj.cells.inj hz0;simp at hc;omega
 |cut _ rest _ f1 _ _=>
  obtain⟨h2,rfl,h3⟩:=Obj.cells.inj hz0;have n2:c.size=c0.size:=by omega
  have:rest=#[.int .u64 st,.int .u32 sm]:=(Array.append_inj_right h2 n2.symm).symm;subst this;cases x5 with
  |cut _ _ _ _ _ _=>exact⟨c',T0,by rw[hz',<- h3],h1.trans hc⟩
 |gone=>
  subst hz0;cases x5 with
  |gone=>exact⟨c0,T0,hz',hc0⟩
theorem q7.cells {G:H4} {st sm:Int} {w:World} (h:q7 G st sm w):w.cell? (stA G)=some (.int .u64 st)/\w.cell? (smA G)=some (.int .u32 sm)/\w.frozen? (stA G)=false/\w.frozen? (smA G)=false:=by
 obtain⟨c,T,hb,hc⟩:=h;refine⟨?_,?_,?_,?_⟩
 ·simp[World.cell?,stA,hb,<- hc]
 ·simp only[World.cell?,smA,hb,Option.isSome_none,Bool.false_eq_true,if_false];rw[Array.getElem?_append_right (by omega)];simp[<- hc]
 ·simp[World.frozen?,stA,hb]
 ·simp[World.frozen?,smA,hb]
def o5 (P:Program) (main:Bool) (g:Goroutine) (u:World) (g':Goroutine) (u':World):Prop :=
 g'.status= .running/\∀ρ w,D5 ρ u w->L8 u u'/\∃w' es,stepG P main g w= .go g' w' es/\D5 ρ u' w'/\∀e∈es,eq0 u e
structure y5 where
 ch:Nat
 z:Value
 me:Goroutine
def gf0 (P:Program) (main:Bool) (s:y5) (g:Goroutine):Prop :=
 g.status= .running/\g.frame=s.me.frame/\g.callers=s.me.callers/\g.dying=s.me.dying/\∀w,stepG P main g w= .comm s.me #[rcase s.ch s.z] true (.recv false) w #[]
abbrev Q3:=List (Addr×Value)
def Way (P:Program) (main:Bool) (l:Q3) (s:y5):Nat->Goroutine->Prop
 |0,g=>g=parked s.me #[rcase s.ch s.z] (.recv false)/\∃g₀,gf0 P main s g₀
 |n+1,g=>gf0 P main s g\/(0<n/\g.status= .running/\∃g' es,(∀e∈es,∃p∈l,e=⟨.cell p.1,false,false⟩)/\(∀w,(∀p∈l,w.cell? p.1=some p.2)->stepG P main g w= .go g' w es)/\Way P main l s n g')
theorem Way.status {P:Program} {main:Bool} {l:Q3} {s:y5}:∀{n:Nat} {g:Goroutine},Way P main l s n g->(g.status= .running/\0<n)\/(g.status= .blocked/\n=0)
 |0,_,h=>.inr ⟨by have:=h.1;subst this;rfl,rfl⟩
 |_+1,_,h=>.inl ⟨h.elim (fun x=>x.1) fun x=>x.2.1,by omega⟩
def wd0 (e:Event):Bool:=match e.loc with
 | .mark (.read _)| .mark (.write _)| .mark (.release _)=>false
 | .mark _=>true
 |_=>false
def rdA (a:Addr):Event:=⟨.cell a,false,true⟩
def wrA (a:Addr):Event:=⟨.cell a,true,true⟩
def Ti0 (P:Program) (G:H4) (g:Goroutine) (g':Goroutine) (es:Array Event):Prop :=
 g.status= .running/\(∀e∈es,wd0 e=true)/\∀w st sm,q7 G st sm w->stepG P false g w= .go g' w es
def Lst (P:Program) (G:H4):Nat->Nat->Nat->Goroutine->Prop
 |0,_,_,_=>False
 |n+1,s,d,g=>0<d/\((∃g' es,Ti0 P G g g' es/\(∀e∈es,e.loc≠.mark .disable/\e.loc≠.mark .enable)/\Lst P G n s d g')\/(g.status= .running/\match s with
  |2=>∃g',(∀w,q7 G 1 0 w->stepG P false g w= .go g' w #[rdA (stA G)])/\Lst P G n 1 d g'
  |1=>∃g',(∀w,q7 G 1 0 w->stepG P false g w= .go g' (w.setCell (stA G) (.int .u64 0)) #[wrA (stA G)])/\Lst P G n 0 d g'
  |_=>mayWake P g=true/\∃g',(∀w,q7 G 0 0 w->stepG P false g w= .go g' (w.setCell (smA G) (.int .u32 1)) (semEvents (smA G)))/\QuitsD P n d g'))
def Lt (P:Program) (G:H4):Nat->Nat->Goroutine->Prop
 |0,_,_=>False
 |n+1,d,g=>(∃g' es,Ti0 P G g g' es/\Lt P G n (deafBehind d es) g')\/(g.status= .running/\0<d/\∀v wt:Nat,wt <=1->v<2147483647->∃g',
   (∀w,q7 G (((v+1)*KK+wt:Nat):Int) 0 w->stepG P false g w= .go g' (w.setCell (stA G) (.int .u64 ((v*KK+wt:Nat):Int))) #[rdA (stA G),wrA (stA G)])/\(¬(v=0/\wt=1)->QuitsD P n d g')/\(v=0/\wt=1->Lst P G n 2 d g'))
theorem Lt.running {P:Program} {G:H4}:∀{n d:Nat} {g:Goroutine},Lt P G n d g->g.status= .running:=by
 intro n d g h;cases n with
 |zero=>exact h.elim
 |succ n=>
  unfold Lt at h;rcases h with⟨_,_,x,_⟩|x
  ·exact x.1
  ·exact x.1
theorem Lst.running {P:Program} {G:H4}:∀{n s d:Nat} {g:Goroutine},Lst P G n s d g->g.status= .running:=by
 intro n s d g h;cases n with
 |zero=>exact h.elim
 |succ n=>
  unfold Lst at h;rcases h with⟨_,⟨_,_,x,_⟩|x⟩
  ·exact x.1
  ·exact x.1
end
section
attribute [local irreducible] KK
structure Gh where
 G1:Nat->Option y5
 stay:Nat->Q3
 K2:Option H4
 old:List H4
 X3:Nat->Option Obj
 A7:Nat->Prop
 low:Nat->Prop
 C4:Nat->c6
 cap:Nat
 pend:Nat
 dn:Nat
 n:Nat
def Gh.Sh (X:Gh) (l:Loc):Prop:=∃a G,(X.K2=some G\/G∈X.old)/\l= .cell a/\a.block=G.blk/\G.off <=a.off
def Us (live:Nat->Bool) (g:Nat):Prop:=g=0\/live g=true
def Gh.St (X:Gh) (i:Nat) (l:Loc):Prop:=∃p∈X.stay i,l= .cell p.1
def Gh.Mem (X:Gh) (h g:Nat):Prop:=(g=h/\X.dn=0)\/X.G1 g≠none
def Gh.Lo (X:Gh) (h g:Nat):Prop:=g≠h/\X.G1 g≠none
def count (live:Nat->Bool) (n:Nat):Nat:=sumTo n fun i=>if live i then 1 else 0
def Idle (P:Program) (X:Gh) (live:Nat->Bool) (T:Trace) (i n:Nat) (g:Goroutine):Prop:=match X.G1 i with
 |some s=>Way P (i==0) (X.stay i) s n g
 |none=>0<i/\if live i then ∃G,X.K2=some G/\Lt P G n (Deaf T i) g else QuitsD P n (Deaf T i) g
def Gh.Sep (X:Gh):Prop:=∀G,(X.K2=some G\/G∈X.old)->¬X.A7 G.blk/\X.X3 G.blk=none
structure Ring (P:Program) (X:Gh) (h:Nat) (u:World) (live:Nat->Bool) (T:Trace) (gs:Array Goroutine) (w:World) (q:Nat->Nat):Prop where
 O9:∃ρ,D5 ρ (W2 u w.tape w.drawn) w/\∀b,¬X.low b->ρ b=X.C4 b
 idle:∀i g,i≠h->gs[i]? =some g->Idle P X live T i (q i) g
 free:X.G1 h=none
 size:h<gs.size
 num:gs.size=X.n
 stays:∀i p,p∈X.stay i->u.cell? p.1=some p.2/\u.frozen? p.1=true
 chans:∀c,X.A7 c->bp0 u c/\X.X3 c=none/\∃k,w.heap[c]? =some (.chan 0 #[] false k k false)
 R3:∀i s,X.G1 i=some s->X.A7 s.ch
 inj:∀i j s s',X.G1 i=some s->X.G1 j=some s'->s.ch=s'.ch->i=j
 X3:∀b o,X.X3 b=some o->bp0 u b/\Z3 o=false/\∃p y,w.heap[b]? =some y/\bo0 p o y
 P9:∀G,X.K2=some G->X.low G.blk
 C7:(∀c,X.A7 c->X.low c)/\X.Sep
 K2:∀G,X.K2=some G->Cut u G/\q7 G (((count live gs.size+X.pend)*KK:Nat):Int) 0 w
 old:∀G∈X.old,Cut u G
 above:∀j,gs.size <=j->Deaf T j=0/\X.G1 j=none/\live j=false/\X.stay j=[]
 few:count live gs.size+X.pend <=X.cap/\X.cap <=65536
 ca0:∀i,live i=true->i≠0/\X.K2≠none
 ag0:∀i,i≠0->(X.G1 i≠none\/i=h)->live i=true
 dfn:Deaf T h=X.dn
 past:PastH X.Sh (Us live) X.St (X.Mem h) (X.Lo h) h T
theorem Tj0 {X:Gh} {u:World} {h:Nat} (P2:∀i p,p∈X.stay i->u.cell? p.1=some p.2/\u.frozen? p.1=true) (hg:∀G,(X.K2=some G\/G∈X.old)->Cut u G) {e:Event} (he:eq0 u e) (fn:FuncId) (pos:String) :
  HOk X.Sh X.St h {g:=h,fn,pos,act:=.ofEvent e}/\e.loc≠.mark .disable/\e.loc≠.mark .enable:=by
 obtain⟨l,wr,sy⟩:=e;cases l with
 |cell a=>
  refine⟨fun b hb=>?_,by simp,by simp⟩;simp only[ofEvent_cell0,MemAct.touch?,Option.some.injEq]at hb;subst hb;refine⟨?_,fun hwr g _=>?_⟩
  ·rintro⟨a',G,hG,ha,hb,ho⟩;simp only[Loc.cell.injEq]at ha;subst ha;obtain⟨c,T,f,hc,hs⟩:=hg G hG;obtain⟨⟨v,hv⟩,_⟩:=he (by rw[hb];exact(Array.getElem?_eq_some_iff.1 hc).1);obtain⟨c',T',f',D6,_,hv'⟩:=B4 hv;rw[hb,hc]at D6;cases D6;have:=(Array.getElem?_eq_some_iff.1 hv').1;omega
  ·rintro⟨p,hp,ha⟩;simp only[Loc.cell.injEq]at ha;subst ha;obtain⟨h1,h2⟩:=P2 g p hp;obtain⟨c',T',f',D6,_,_⟩:=B4 h1;have:=(he (Array.getElem?_eq_some_iff.1 D6).1).2 hwr;rw[h2]at this;cases this
 |obj r=>
  refine⟨fun b hb=>?_,by simp,by simp⟩;have:b.loc= .obj r:=by
   cases wr <;> cases sy <;> simp[MemAct.ofEvent,MemAct.touch?]at hb <;> (try(subst hb;rfl))
  refine⟨?_,fun _ g _=>?_⟩
  ·rintro⟨a',G,_,ha,_⟩;rw[this]at ha;cases ha
  ·rintro⟨p,_,ha⟩;rw[this]at ha;cases ha
 |output=>exact he.elim
 |goroutines=>exact he.elim
 |mark m=>
  have hm:wa0 m=true:=he;cases m <;> first|(cases hm;done)|exact⟨fun b hb=>by simp[MemAct.ofEvent,MemAct.touch?]at hb,by simp,by simp⟩
section
variable {P:Program}{X:Gh}{h:Nat}{u:World}{live:Nat->Bool}{T:Trace}{gs:Array Goroutine}{w:World}{q:Nat->Nat}
theorem Way.again {main:Bool} {l:Q3} {s:y5} {n:Nat} {g:Goroutine} (hw:Way P main l s n g) (hc:∃k,w.heap[s.ch]? =some (.chan 0 #[] false k k false)):g.again w=g:=by
 rcases hw.status with⟨h1,_⟩|⟨_,rfl⟩
 ·exact again_of_running (.inl h1) w
 ·obtain⟨rfl,_⟩:=hw;obtain⟨k,hk⟩:=hc;exact again_recv_open hk
theorem Idle.again {i n:Nat} {g:Goroutine} (hi:Idle P X live T i n g) (hc:∀s,X.G1 i=some s->∃k,w.heap[s.ch]? =some (.chan 0 #[] false k k false)):g.again w=g:=by
 unfold Idle at hi;cases e:X.G1 i with
 |some s=>rw[e]at hi;exact Way.again hi (hc s e)
 |none=>
  rw[e]at hi;obtain⟨_,hi⟩:=hi;split at hi
  ·obtain⟨G,_,hl⟩:=hi;exact again_of_running (.inl hl.running) w
  ·exact again_of_running hi.status w
theorem Idle.other {i n g':Nat} {g:Goroutine} (hi:Idle P X live T i n g) (D3:g'≠i) {ops:Trace} (do0:∀op∈ops,op.g=g'):Idle P X live (T++ops) i n g:=by
 unfold Idle at hi⊢;rw[Deaf_other T D3 ops do0];exact hi
theorem Idle.awake {i n:Nat} {g:Goroutine} (hi:Idle P X live T i n g):awake g:=by
 unfold Idle at hi;cases e:X.G1 i with
 |some s=>rw[e]at hi;exact awake_of (hi.status.elim (fun x=>.inl x.1) fun x=>.inr (.inl x.1))
 |none=>
  rw[e]at hi;obtain⟨_,hi⟩:=hi;split at hi
  ·obtain⟨G,_,hl⟩:=hi;exact awake_of (.inl hl.running)
  ·exact awake_of (hi.status.elim .inl fun x=>.inr (.inr x))
theorem Ring.awake (C:Ring P X h u live T gs w q) {a:Goroutine} (ha:gs[h]? =some a) (hs:a.status= .running\/a.status= .blocked):∀g∈gs,awake g:=by
 intro g hg;obtain⟨i,hi,rfl⟩:=Array.mem_iff_getElem.1 hg;by_cases e:i=h
 ·subst e;have:gs[i]=a:=by simpa [Array.getElem?_eq_getElem hi]using ha
  rw[this];exact awake_of (hs.elim .inl fun x=>.inr (.inl x))
 ·exact(C.idle i _ e (Array.getElem?_eq_getElem hi)).awake
theorem D5.at {ρ:Nat->c6} (hs:D5 ρ (W2 u w.tape w.drawn) w) (d:Nat):D5 ρ (W2 u (w.at d).tape (w.at d).drawn) (w.at d):=⟨hs.os,hs.output,rfl,rfl,hs.size,hs.obj,hs.new,hs.u6⟩
theorem Ring.at (C:Ring P X h u live T gs w q) (d:Nat):Ring P X h u live T gs (w.at d) q :=
 ⟨let⟨ρ,hs,hl⟩:=C.O9;⟨ρ,D5.at hs d,hl⟩,C.idle,C.free,C.size,C.num,C.stays,C.chans,C.R3,C.inj,C.X3,C.P9,C.C7,C.K2,C.old,C.above,C.few,C.ca0,C.ag0,C.dfn,C.past⟩
theorem Ring.own (C:Ring P X h u live T gs w q) {g g':Goroutine} {u':World} (ha:gs[h]? =some g) (hF:o5 P (h==0) g (W2 u w.tape w.drawn) g' u') :
  ∃w' es,stepG P (h==0) g w= .go g' w' es/\Ring P X h u' live (T++MemOp.ofEvents h g.frame.fn g.frame.place es) ((gs.map (woken P g g' w')).setIfInBounds h g') w' q/\((gs.map (woken P g g' w')).setIfInBounds h g')[h]? =some g':=by
 obtain⟨hr,hF⟩:=hF;obtain⟨ρ,hs,hlw⟩:=C.O9;obtain⟨hE,w',es,P2,hs',hev⟩:=hF ρ w hs;have hE:L8 u u':=⟨hE.size,hE.obj⟩
 have hs1:D5 ρ {u with tape:=w.tape,drawn:=w.drawn} w:=hs;have n3:∀G,(X.K2=some G\/G∈X.old)->Cut u G:=fun G hG=>hG.elim (fun e=>(C.K2 G e).1) (C.old G);have Tk0:=fun e he=>Tj0 (X:=X) (h:=h) C.stays n3 (hev e he);have do0:∀op∈MemOp.ofEvents h g.frame.fn g.frame.place es,op.g=h:=fun op C5=>by obtain⟨e,_,rfl⟩:=Go.Conc.mem_ofEvents C5;rfl
 have hd:Deaf (T++MemOp.ofEvents h g.frame.fn g.frame.place es) h=Deaf T h:=by
  rw[Deaf_own];exact deafBehind_still (fun e he=>(Tk0 e he g.frame.fn g.frame.place).2) _
 have R5:∀c,X.A7 c->∃k,w'.heap[c]? =some (.chan 0 #[] false k k false):=fun c e=>by
  obtain⟨hg,_,k,hk⟩:=C.chans c e;exact⟨k,by rw[bp0.kept (u:=W2 u w.tape w.drawn) hg ⟨hE.size,hE.obj⟩ hs hs'];exact hk⟩
 refine⟨w',es,P2,⟨⟨ρ,?_,hlw⟩,fun i y hi hy=>?_,C.free,by simpa using C.size,by simpa using C.num,fun i p hp=>wc0 (C.stays i p hp).1 (C.stays i p hp).2 hE,
  fun c e=>⟨(C.chans c e).1.evo hE,(C.chans c e).2.1,R5 c e⟩,C.R3,C.inj,fun b o e=>?_,C.P9,C.C7,fun G e=>⟨(C.K2 G e).1.evo hE,?_⟩,fun G hG=>(C.old G hG).evo hE,fun j hj=>?_,by simpa using C.few,C.ca0,C.ag0,hd.trans C.dfn,?_⟩,Array.getElem?_setIfInBounds_self_of_lt (by simpa using C.size)⟩
 ·rw[hs'.tape,hs'.drawn];exact hs'
 ·rw[Array.getElem?_setIfInBounds_ne (fun e=>hi e.symm),Array.getElem?_map]at hy;obtain⟨y₀,hy₀,rfl⟩:=Option.map_eq_some_iff.1 hy;have X3:=C.idle i y₀ hi hy₀;rw[woken_of_again (X3.again fun s e=>R5 _ (C.R3 i s e))];exact X3.other (fun z=>hi z.symm) do0
 ·obtain⟨h1,h2,p,y,hy,hl⟩:=C.X3 b o e;exact⟨h1.evo hE,h2,p,y,by rw[bp0.kept (u:=W2 u w.tape w.drawn) h1 ⟨hE.size,hE.obj⟩ hs hs'];exact hy,hl⟩
 ·have:=Cut.kept (u:=W2 u w.tape w.drawn) (C.K2 G e).1 ⟨hE.size,hE.obj⟩ hs hs' (C.K2 G e).2;simpa using this
 ·simp only[Array.size_setIfInBounds,Array.size_map]at hj;rw[Deaf_other T (g':=h) (by have:=C.size;omega) _ do0];exact C.above j hj
 ·exact PastH.appH C.past (fun z=>z.1 rfl) do0 (fun op C5=>by obtain⟨e,he,rfl⟩:=Go.Conc.mem_ofEvents C5;exact(Tk0 e he _ _).1) hd
end
end
section
attribute [local irreducible] KK
theorem C1 (w:World) {a:Addr} (v:Value) {b:Nat} (h:b≠a.block):(w.setCell a v).heap[b]? =w.heap[b]?:=by
 rw[heap_setCell];cases w.heap[b]? with
 |none=>rfl
 |some o=>simp[h]
theorem D5.K2 {ρ:Nat->c6} {u w:World} {G:H4} {st sm:Int} (hs:D5 ρ (W2 u w.tape w.drawn) w) (hc:Cut u G) (hg:q7 G st sm w) (st' sm':Int) {w':World} (hw:w'.heap[G.blk]? =some (.cells ((let c:=w.heap[G.blk]?;match c with|some (.cells c _ _)=>c.extract 0 G.off|_=>#[]) ++ #[.int .u64 st',.int .u32 sm']) (match w.heap[G.blk]? with|some (.cells _ T _)=>T|_=>0) (0,0)))
  (ho:∀b,b≠G.blk->w'.heap[b]? =w.heap[b]?) (hz:w'.heap.size=w.heap.size) (h1:w'.os=w.os) (h2:w'.output=w.output):∃ρ',D5 ρ' (W2 u w'.tape w'.drawn) w'/\∀b,b≠G.blk->ρ' b=ρ b:=by
 obtain⟨c,T,f,hb,hcs⟩:=hc;obtain⟨c0,T0,hg,hc0⟩:=hg;obtain⟨z,hz0,hl⟩:=hs.obj _ _ (show(W2 u w.tape w.drawn).heap[G.blk]? =some _ from hb);rw[hz0]at hg;obtain rfl:=Option.some.inj hg;rw[hz0]at hw;simp only at hw;have ht:(c0 ++ #[Value.int .u64 st,Value.int .u32 sm]).extract 0 G.off=c0:=by rw[<- hc0];simp[Array.extract_append]
 rw[ht]at hw;obtain⟨p',hp'⟩:∃p',bo0 p' (.cells c T f) (.cells (c0 ++ #[.int .u64 st',.int .u32 sm']) T0 (0,0)):=by
  generalize ρ G.blk=p at hl;generalize hq:(Obj.cells (c0 ++ #[.int .u64 st,.int .u32 sm]) T0 (0,0))=z1 at hl;cases hl with
  |same=>
   obtain⟨rfl,_,_⟩:=Obj.cells.inj hq;simp at hcs;omega
  |cut _ rest _ f1 _ hf=>
   obtain⟨h3,rfl,h4⟩:=Obj.cells.inj hq;have n2:c.size=c0.size:=by omega
   have:c=c0:=(Array.append_inj_left h3 n2.symm).symm;subst this;rw[<- h4]at hf;exact⟨_,.cut _ _ _ _ _ hf⟩
  |gone=>exact⟨_,.gone _ _ _⟩
 refine⟨fun b=>if b=G.blk then p' else ρ b,⟨h1.trans hs.os,h2.trans hs.output,rfl,rfl,hz.trans hs.size,fun b x hx=>?_,fun b g7=>?_,hs.u6⟩,fun b hb=>if_neg hb⟩
 ·by_cases e:b=G.blk
  ·subst e;have W3:u.heap[G.blk]? =some x:=hx;rw[hb]at W3;obtain rfl:=Option.some.inj W3;exact⟨_,hw,by rw[if_pos rfl];exact hp'⟩
  ·rw[ho b e,if_neg e];exact hs.obj b x hx
 ·have R2:G.blk<u.heap.size:=(Array.getElem?_eq_some_iff.1 hb).1;have hb2:u.heap.size <=b:=g7;rw[if_neg (by omega)];exact hs.new b g7
theorem q7.setSt {G:H4} {st sm:Int} {w:World} (h:q7 G st sm w) (v:Int):q7 G v sm (w.setCell (stA G) (.int .u64 v)):=by
 obtain⟨c,T,hb,hc⟩:=h;refine⟨c,T,?_,hc⟩;rw[heap_setCell];simp only[stA,hb,Option.map_some,if_true,Option.isSome_none,Bool.false_eq_true,if_false];congr 2;apply Array.ext_getElem?;intro i;rw[Array.getElem?_setIfInBounds];by_cases hi:G.off=i
 ·subst hi;simp[<- hc]
 ·rw[if_neg hi];rcases Nat.lt_or_ge i c.size with h1|h1
  ·rw[Array.getElem?_append_left h1,Array.getElem?_append_left h1]
  ·rw[Array.getElem?_append_right h1,Array.getElem?_append_right h1];obtain⟨k,hk⟩:∃k,i-c.size=k+1:=⟨i-c.size-1,by omega⟩
   rw[hk];cases k <;> rfl
theorem q7.setSm {G:H4} {st sm:Int} {w:World} (h:q7 G st sm w) (v:Int):q7 G st v (w.setCell (smA G) (.int .u32 v)):=by
 obtain⟨c,T,hb,hc⟩:=h;refine⟨c,T,?_,hc⟩;rw[heap_setCell];simp only[smA,hb,Option.map_some,if_true,Option.isSome_none,Bool.false_eq_true,if_false];congr 2;apply Array.ext_getElem?;intro i;rw[Array.getElem?_setIfInBounds];by_cases hi:G.off+1=i
 ·subst hi;rw[if_pos rfl,if_pos (by simp;omega),Array.getElem?_append_right (by omega)];simp[<- hc]
 ·rw[if_neg hi];rcases Nat.lt_or_ge i c.size with h1|h1
  ·rw[Array.getElem?_append_left h1,Array.getElem?_append_left h1]
  ·rw[Array.getElem?_append_right h1,Array.getElem?_append_right h1];rcases Nat.eq_zero_or_pos (i-c.size)with h2|h2
   ·rw[h2];rfl
   ·obtain⟨k,hk⟩:∃k,i-c.size=k+2:=⟨i-c.size-2,by omega⟩
    rw[hk];cases k <;> rfl
structure yx0 (G:H4) (w w':World):Prop where
 other:∀b,b≠G.blk->w'.heap[b]? =w.heap[b]?
 size:w'.heap.size=w.heap.size
 os:w'.os=w.os
 output:w'.output=w.output
theorem yx0.setCell {G:H4} {w:World} {a:Addr} (ha:a.block=G.blk) (v:Value):yx0 G w (w.setCell a v) :=
 ⟨fun b hb=>C1 w v (by rw[ha];exact hb),by simp[World.setCell],rfl,rfl⟩
theorem q7.extract {G:H4} {st sm:Int} {w:World} (h:q7 G st sm w):w.heap[G.blk]? =some (.cells ((let c:=w.heap[G.blk]?;match c with|some (.cells c _ _)=>c.extract 0 G.off|_=>#[]) ++ #[.int .u64 st,.int .u32 sm]) (match w.heap[G.blk]? with|some (.cells _ T _)=>T|_=>0) (0,0)):=by
 obtain⟨c,T,hb,hc⟩:=h;have ht:(c ++ #[Value.int .u64 st,Value.int .u32 sm]).extract 0 G.off=c:=by rw[<- hc];simp[Array.extract_append]
 rw[hb];simp only[ht]
theorem cf0 {G:H4} {st sm:Int} {w:World} (h:q7 G st sm w) {a:Addr} (ha:a.block=G.blk) (hs:a.spot=none) (ho:G.off <=a.off) (v:Value) :
  (let c:=(w.setCell a v).heap[G.blk]?;match c with|some (.cells c _ _)=>c.extract 0 G.off|_=>#[])=(let c:=w.heap[G.blk]?;match c with|some (.cells c _ _)=>c.extract 0 G.off|_=>#[]) /\
  (match(w.setCell a v).heap[G.blk]? with|some (.cells _ T _)=>T|_=>0)=(match w.heap[G.blk]? with|some (.cells _ T _)=>T|_=>0):=by
 obtain⟨c,T,hb,hc⟩:=h;rw[heap_setCell,hb];simp only[Option.map_some,ha,if_true,hs,Option.isSome_none,Bool.false_eq_true,if_false,and_true];apply Array.ext_getElem?;intro i;simp only[Array.getElem?_extract,Array.getElem?_setIfInBounds,Nat.zero_add,Array.size_setIfInBounds];by_cases hi:i<G.off
 ·have:a.off≠i:=by omega
  simp[this]
 ·have:¬i<min G.off (c ++ #[Value.int .u64 st,Value.int .u32 sm]).size-0:=by omega
  rw[if_neg this,if_neg this]
theorem D5.setSt {ρ:Nat->c6} {u w:World} {G:H4} {st sm:Int} (hs:D5 ρ (W2 u w.tape w.drawn) w) (hc:Cut u G) (hg:q7 G st sm w) (v:Int):∃ρ',D5 ρ' (W2 u (w.setCell (stA G) (.int .u64 v)).tape (w.setCell (stA G) (.int .u64 v)).drawn) (w.setCell (stA G) (.int .u64 v))/\∀b,b≠G.blk->ρ' b=ρ b:=by
 have h1:=(hg.setSt v).extract;have h2:=cf0 hg (a:=stA G) rfl rfl (Nat.le_refl _) (.int .u64 v);rw[h2.1,h2.2]at h1;have t:=yx0.setCell (G:=G) (w:=w) (a:=stA G) rfl (.int .u64 v);exact D5.K2 hs hc hg v sm h1 t.other t.size rfl rfl
theorem D5.setSm {ρ:Nat->c6} {u w:World} {G:H4} {st sm:Int} (hs:D5 ρ (W2 u w.tape w.drawn) w) (hc:Cut u G) (hg:q7 G st sm w) (v:Int):∃ρ',D5 ρ' (W2 u (w.setCell (smA G) (.int .u32 v)).tape (w.setCell (smA G) (.int .u32 v)).drawn) (w.setCell (smA G) (.int .u32 v))/\∀b,b≠G.blk->ρ' b=ρ b:=by
 have h1:=(hg.setSm v).extract;have h2:=cf0 hg (a:=smA G) rfl rfl (Nat.le_succ _) (.int .u32 v);rw[h2.1,h2.2]at h1;have t:=yx0.setCell (G:=G) (w:=w) (a:=smA G) rfl (.int .u32 v);exact D5.K2 hs hc hg st v h1 t.other t.size rfl rfl
section
variable {P:Program}{X:Gh}{h:Nat}{u:World}{live:Nat->Bool}{T:Trace}{gs:Array Goroutine}{w:World}{q:Nat->Nat}
def ah0 (X:Gh) (w w':World):Prop:=w'.tape=w.tape/\w'.drawn=w.drawn/\(∀c,X.A7 c->w'.heap[c]? =w.heap[c]?)
theorem ah0.refl (w:World):ah0 X w w:=⟨rfl,rfl,fun _ _=>rfl⟩
theorem Ring.put (C:Ring P X h u live T gs w q) {i n':Nat} {g':Goroutine} {ops:Array MemOp} {E4:Array Goroutine} {W9:Nat->Bool} {w':World} (R2:i<gs.size) (hih:i≠h) (n2:E4.size=gs.size) (Oe0:∀x,x≠i->E4[x]? =gs[x]?) (G2:E4[i]? =some g')
  (do0:∀op∈ops,op.g=i) (jp0:Idle P X W9 (T++ops) i n' g') (hl:∀x,x≠i->W9 x=live x) (hli:W9 i=true->live i=true) (hls:X.G1 i≠none->W9 i=live i) (yy0:PastH X.Sh (Us W9) X.St (X.Mem h) (X.Lo h) h (T++ops))
  (gg0:∃ρ,D5 ρ (W2 u w'.tape w'.drawn) w'/\∀b,¬X.low b->ρ b=X.C4 b) (m8:∀b,(X.A7 b\/X.X3 b≠none)->w'.heap[b]? =w.heap[b]?) (Io0:∀G,X.K2=some G->q7 G (((count W9 E4.size+X.pend)*KK:Nat):Int) 0 w') (lz0:count W9 gs.size <=count live gs.size):Ring P X h u W9 (T++ops) E4 w' (upd q i n'):=by
 refine⟨gg0,fun x y hx hy=>?_,C.free,by rw[n2];exact C.size,by rw[n2];exact C.num,C.stays,fun c e=>⟨(C.chans c e).1,(C.chans c e).2.1,?_⟩,C.R3,C.inj,fun b o e=>?_,C.P9,C.C7,fun G e=>⟨(C.K2 G e).1,Io0 G e⟩,C.old,fun j hj=>?_,⟨by rw[n2];exact Nat.le_trans (Nat.add_le_add_right lz0 _) C.few.1,C.few.2⟩,fun j hj=>?_,fun j hj hs=>?_,(Deaf_other T hih ops do0).trans C.dfn,yy0⟩
 ·by_cases e:x=i
  ·subst e;rw[G2]at hy;obtain rfl:=Option.some.inj hy;rw[upd_same];exact jp0
  ·rw[Oe0 x e]at hy;rw[upd_ne q n' e];have:=(C.idle x y hx hy).other (fun z=>e z.symm) do0;unfold Idle at this⊢;rw[hl x e];exact this
 ·obtain⟨k,hk⟩:=(C.chans c e).2.2;exact⟨k,by rw[m8 _ (.inl e)];exact hk⟩
 ·obtain⟨h1,h2,p,y,hy,hk⟩:=C.X3 b o e;exact⟨h1,h2,p,y,by rw[m8 b (.inr (by have e':X.X3 b=some o:=e;rw[e'];simp))];exact hy,hk⟩
 ·rw[n2]at hj;rw[Deaf_other T (g':=i) (by omega) ops do0,hl j (by omega)];exact C.above j hj
 ·by_cases e:j=i
  ·subst e;exact C.ca0 j (hli hj)
  ·rw[hl j e]at hj;exact C.ca0 j hj
 ·by_cases e:j=i
  ·subst e;rcases hs with hs|hs
   ·rw[hls hs];exact C.ag0 j hj (.inl hs)
   ·exact absurd hs hih
  ·rw[hl j e];exact C.ag0 j hj hs
end
end
section
attribute [local irreducible] KK
theorem oi0 {live:Nat->Bool} {i n:Nat} (hi:live i=true) (hn:i<n):count live n=count (upd live i false) n+1:=by
 have:=sumTo_upd live false (fun b=>if b then 1 else 0) hn;simp only[hi,if_true,Bool.false_eq_true,if_false]at this;unfold count;omega
theorem Aq0 {live:Nat->Bool} {i n:Nat} (x:Bool) (hn:n <=i):count (upd live i x) n=count live n:=by
 unfold count;exact sumTo_congr fun j hj=>by rw[upd_ne live x (by omega)]
theorem r2 {g:Nat} {fn:FuncId} {pos:String} {es:Array Event}:∀op∈MemOp.ofEvents g fn pos es,op.g=g:=fun op C5=>by obtain⟨e,_,rfl⟩:=Go.Conc.mem_ofEvents C5;rfl
theorem N7 {e:Event} (h:wd0 e=true):(MemAct.ofEvent e).touch? =none:=by
 obtain⟨l,wr,sy⟩:=e;cases l with
 |mark m=>cases m <;> first|(cases h;done)|rfl
 |_=>cases h
section
variable {P:Program}{X:Gh}{h:Nat}{u:World}{live:Nat->Bool}{T:Trace}{gs:Array Goroutine}{w:World}{q:Nat->Nat}
theorem Idle.noSend {i n:Nat} {y:Goroutine} (hi:Idle P X live T i n y) (c:Nat):offersAt y c true=[]:=by
 unfold Idle at hi;cases e:X.G1 i with
 |some s=>
  rw[e]at hi;rcases hi.status with⟨h1,_⟩|⟨_,rfl⟩
  ·exact offersAt_of_not_blocked (by rw[h1];simp) _ _
  ·obtain⟨rfl,_⟩:=hi;exact offersAt_parked_recv' _ _ _ _ _
 |none=>
  rw[e]at hi;obtain⟨_,hi⟩:=hi;split at hi
  ·obtain⟨G,_,hl⟩:=hi;exact offersAt_of_not_blocked (by rw[hl.running];simp) _ _
  ·exact offersAt_of_not_blocked (fun hb=>by rcases hi.status with z|z <;> rw[z]at hb <;> cases hb) _ _
theorem Idle.Of0 {i n:Nat} {y:Goroutine} (hi:Idle P X live T i n y) {c:Nat} (hc:∀s,X.G1 i=some s->s.ch≠c):offersAt y c false=[]:=by
 unfold Idle at hi;cases e:X.G1 i with
 |some s=>
  rw[e]at hi;rcases hi.status with⟨h1,_⟩|⟨_,rfl⟩
  ·exact offersAt_of_not_blocked (by rw[h1];simp) _ _
  ·obtain⟨rfl,_⟩:=hi;rw[offersAt_parked_recv,if_neg (hc s e)]
 |none=>
  rw[e]at hi;obtain⟨_,hi⟩:=hi;split at hi
  ·obtain⟨G,_,hl⟩:=hi;exact offersAt_of_not_blocked (by rw[hl.running];simp) _ _
  ·exact offersAt_of_not_blocked (fun hb=>by rcases hi.status with z|z <;> rw[z]at hb <;> cases hb) _ _
theorem Ring.by_step (C:Ring P X h u live T gs w q) {i:Nat} {g gh:Goroutine} {sl:Option (Nat×Nat)} (hi:gs[i]? =some g) (D3:i≠h) (e4:g.status= .running) (hh:gs[h]? =some gh)
  (hA:∀w',ah0 X w w'->gh.again w'=gh) (hO:∀s,X.G1 i=some s->gf0 P (i==0) s g->offersAt gh s.ch true=[]) :
  ∃(E4:Array Goroutine) (ops:Array MemOp) (q':Nat->Nat) (w':World) (W9:Nat->Bool),runT P (crowd gs w sl) i=(.next (crowd E4 w' sl),ops)/\E4.size=gs.size/\E4[h]? =some gh/\(∀x,x≠i->q' x=q x) /\
   (∀s,X.G1 i=some s->q' i=0->gf0 P (i==0) s g)/\Ring P X h u W9 (T++ops) E4 w' q'/\sumTo gs.size q'<sumTo gs.size q/\ah0 X w w':=by
 have R2:i<gs.size:=(Array.getElem?_eq_some_iff.1 hi).1;have iu0:∀(w':World),ah0 X w w'->∀(a a':Goroutine) (x:Nat) (y:Goroutine),gs[x]? =some y->woken P a a' w' y=y:=fun w' hS a a' x y hy=>woken_of_again (by
  by_cases hx:x=h
  ·subst hx;rw[hh]at hy;obtain rfl:=Option.some.inj hy;exact hA w' hS
  ·exact(C.idle x y hx hy).again fun s e=>by obtain⟨k,hk⟩:=(C.chans _ (C.R3 x s e)).2.2;exact⟨k,by rw[hS.2.2 _ (C.R3 x s e)];exact hk⟩)
 have tr0:∀(w':World),ah0 X w w'->∀(a' g':Goroutine) (x:Nat),x≠i->((gs.map (woken P g a' w')).setIfInBounds i g')[x]? =gs[x]?:=by
  intro w' hS a' g' x hx;rw[Array.getElem?_setIfInBounds_ne (fun e=>hx e.symm),Array.getElem?_map];cases e:gs[x]? with
  |none=>rfl
  |some y=>simp[iu0 w' hS g a' x y e]
 have G2:∀(w':World) (a' g':Goroutine),((gs.map (woken P g a' w')).setIfInBounds i g')[i]? =some g':=fun w' a' g'=>Array.getElem?_setIfInBounds_self_of_lt (by simpa using R2);have Ip0:∀k,q i=k+1->sumTo gs.size (upd q i k)<sumTo gs.size q:=by
  intro k hqi;have h2:sumTo gs.size (upd q i k)+(k+1)=sumTo gs.size q+k:=by
   have:=sumTo_upd q k id R2;simpa [hqi]using this
  omega
 have X3:=C.idle i g D3 hi;unfold Idle at X3;cases e:X.G1 i with
 |none=>
  rw[e]at X3;obtain⟨ts0,hq⟩:=X3;have hi0:(i==0)=false:=by simp;omega
  have hMi:¬X.Mem h i:=fun z=>z.elim (fun z=>D3 z.1) fun z=>z e;cases hl:live i with
  |false=>
   rw[hl]at hq;simp only[Bool.false_eq_true,if_false]at hq;cases hqi:q i with
   |zero=>rw[hqi]at hq;rw[hq.1]at e4;cases e4
   |succ k=>
    rw[hqi]at hq;rcases hq with⟨hf,_⟩|⟨_,g',es,hm,u3,hq'⟩
    ·rw[hf]at e4;cases e4
    have hS:=ah0.refl (X:=X) w;refine⟨_,_,upd q i k,w,live,runT_crowd_go (sl:=sl) hi (by rw[hi0];exact u3 w),by simp,(tr0 w hS _ _ h (Ne.symm D3)).trans hh,fun x hx=>upd_ne q k hx,fun s hs=>(by cases hs),?_,Ip0 k hqi,hS⟩;refine C.put R2 D3 (by simp) (tr0 w hS _ _) (G2 w _ _) r2 (by unfold Idle;rw[e];simp only[hl,Bool.false_eq_true,if_false];exact⟨ts0,by rw[Deaf_own];exact hq'⟩) (fun _ _=>rfl) id (fun _=>rfl) ?_ C.O9 (fun _ _=>rfl) (fun G hG=>by simpa using(C.K2 G hG).2) (Nat.le_refl _);exact C.past.appMute (g:=i) (fun x=>Knows.app _) (fun op C5=>by obtain⟨e',he,rfl⟩:=Go.Conc.mem_ofEvents C5;exact touch_mute (hm e' he)) (C.past.old_hears r2 (fun z=>absurd z hMi))
  |true=>
   rw[hl]at hq;simp only[if_true]at hq;obtain⟨G,hG,hq⟩:=hq;obtain⟨ma0,dp0⟩:=C.K2 G hG;cases hqi:q i with
   |zero=>rw[hqi]at hq;exact hq.elim
   |succ k=>
    rw[hqi]at hq;unfold Lt at hq;rcases hq with⟨g',es,⟨_,hsy,u3⟩,hq'⟩|⟨_,hd0,tt0⟩
    ·have hS:=ah0.refl (X:=X) w;refine⟨_,_,upd q i k,w,live,runT_crowd_go (sl:=sl) hi (by rw[hi0];exact u3 w _ _ dp0),by simp,(tr0 w hS _ _ h (Ne.symm D3)).trans hh,fun x hx=>upd_ne q k hx,fun s hs=>(by cases hs),?_,Ip0 k hqi,hS⟩;refine C.put R2 D3 (by simp) (tr0 w hS _ _) (G2 w _ _) r2 (by unfold Idle;rw[e];simp only[hl,if_true];exact⟨ts0,G,hG,by rw[Deaf_own];exact hq'⟩) (fun _ _=>rfl) id (fun _=>rfl) ?_ C.O9 (fun _ _=>rfl) (fun G hG=>by simpa using(C.K2 G hG).2) (Nat.le_refl _);exact C.past.appMute (g:=i) (fun x=>Knows.app _) (fun op C5=>by obtain⟨e',he,rfl⟩:=Go.Conc.mem_ofEvents C5;exact N7 (hsy e' he)) (C.past.old_hears r2 (fun z=>absurd z hMi))
    ·have ep0:=oi0 hl R2;generalize hv0:count (upd live i false) gs.size=v0 at ep0;obtain⟨v,hv⟩:∃v,v=v0+X.pend:=⟨_,rfl⟩
     have ep0:count live gs.size+X.pend=v+1:=by omega
     have hvb:v<2147483647:=by have:=C.few;omega
     obtain⟨g',u3,et0,_⟩:=tt0 v 0 (by omega) hvb;have Tl0:q7 G (((v+1)*KK+0:Nat):Int) 0 w:=by rw[Nat.add_zero,<- ep0];exact dp0
     have P2:=u3 w Tl0;rw[Nat.add_zero]at P2;have hgv:=dp0.setSt ((v*KK:Nat):Int);have jq0:stepG P (i==0) g w= .go g' (w.setCell (stA G) (.int .u64 ((v*KK:Nat):Int))) #[rdA (stA G),wrA (stA G)]:=by rw[hi0];exact P2
     have hgn:∀b,(X.A7 b\/X.X3 b≠none)->(w.setCell (stA G) (.int .u64 ((v*KK:Nat):Int))).heap[b]? =w.heap[b]?:=fun b hb=>C1 w _ (fun e=>by
      have e:b=G.blk:=e;subst e;have:=C.C7.2 G (.inl hG);exact hb.elim this.1 fun z=>z this.2)
     have hS:ah0 X w (w.setCell (stA G) (.int .u64 ((v*KK:Nat):Int))):=⟨rfl,rfl,fun c hc=>hgn _ (.inl hc)⟩
     have hdq:∀t:Trace,∀j,j <=(MemOp.ofEvents i g.frame.fn g.frame.place #[rdA (stA G),wrA (stA G)]).size->(t++MemOp.ofEvents i g.frame.fn g.frame.place #[rdA (stA G),wrA (stA G)]).deaf i (t.size+j)=Deaf t i:=fun t=>deaf_quiet (fun op C5 d=>by
      obtain⟨e',he,rfl⟩:=Go.Conc.mem_ofEvents C5;simp only[List.mem_toArray,List.mem_cons,List.not_mem_nil,or_false]at he;rcases he with rfl|rfl <;> rfl)
     have hdd:Deaf (T++MemOp.ofEvents i g.frame.fn g.frame.place #[rdA (stA G),wrA (stA G)]) i=Deaf T i:=by
      rw[Deaf_own];exact deafBehind_still (fun e' he=>by
       simp only[List.mem_toArray,List.mem_cons,List.not_mem_nil,or_false]at he;rcases he with rfl|rfl <;> exact⟨by simp[rdA,wrA],by simp[rdA,wrA]⟩) _
     refine⟨_,_,upd q i k,_,upd live i false,runT_crowd_go (sl:=sl) hi jq0,by simp,(tr0 _ hS _ _ h (Ne.symm D3)).trans hh,fun x hx=>upd_ne q k hx,fun s hs=>(by cases hs),?_,Ip0 k hqi,hS⟩;refine C.put R2 D3 (by simp) (tr0 _ hS _ _) (G2 _ _ _) r2 (by unfold Idle;rw[e];simp only[upd_same,Bool.false_eq_true,if_false];exact⟨ts0,by rw[hdd];exact et0 (by omega)⟩) (fun x hx=>upd_ne live false hx) (fun z=>by rw[upd_same]at z;cases z) (fun z=>absurd e z) ?_ ?_ hgn (fun G' hG'=>?_) (by omega)
     ·refine Past.leave (Us:=Us live) ?_ (fun x hx=>?_)
      ·refine Past.Mh0 (g:=i) C.past (.inr hl) (fun g' l x5 V9=>?_) (fun x=>Knows.app _) r2 (fun op C5=>?_) (fun _ j hj1 hj2=>?_) (C.past.old_hears r2 (fun z=>absurd z hMi))
       ·obtain⟨p,hp,rfl⟩:=x5;obtain⟨a',G',hG',ha,hb,ho⟩:=V9;simp only[Loc.cell.injEq]at ha;subst ha;have hc:Cut u G':=hG'.elim (fun z=>(C.K2 G' z).1) (C.old G');obtain⟨c,T1,f,hc,hs⟩:=hc;obtain⟨c',T',f',D6,_,hv'⟩:=B4 (C.stays g' p hp).1;rw[hb,hc]at D6;cases D6;have:=(Array.getElem?_eq_some_iff.1 hv').1;omega
       ·obtain⟨e',he,rfl⟩:=Go.Conc.mem_ofEvents C5;intro b hb;simp only[List.mem_toArray,List.mem_cons,List.not_mem_nil,or_false]at he;rcases he with rfl|rfl <;> simp[rdA,wrA,MemAct.ofEvent,MemAct.touch?]at hb <;> subst hb <;> exact⟨⟨stA G,G,.inl hG,rfl,rfl,Nat.le_refl _⟩,by simp,fun _=>rfl⟩
       ·obtain⟨m,rfl⟩:∃m,j=T.size+m:=⟨j-T.size,by omega⟩
        rw[hdq T m (by omega)];omega
      ·rcases hx with hx|hx
       ·exact .inl hx
       ·by_cases ex:x=i
        ·subst ex;rw[upd_same]at hx;cases hx
        ·rw[upd_ne live false ex]at hx;exact .inr hx
     ·obtain⟨ρ,hs,hlw⟩:=C.O9;obtain⟨ρ',h1,h2⟩:=D5.setSt hs ma0 dp0 ((v*KK:Nat):Int);exact⟨ρ',h1,fun b hb=>(h2 b fun e=>hb (e▸C.P9 G hG)).trans (hlw b hb)⟩
     ·rw[hG]at hG';obtain rfl:=Option.some.inj hG';simp only[Array.size_setIfInBounds,Array.size_map,hv0,<- hv];exact hgv
 |some s=>
  rw[e]at X3;have hM:X.Mem h i:=.inr (by rw[e];simp);have hLo:X.Lo h i:=⟨D3,by rw[e];simp⟩
  have hS:=ah0.refl (X:=X) w;obtain⟨n,hqi⟩:∃n,q i=n+1:=by
   rcases X3.status with⟨_,h2⟩|⟨h1,_⟩
   ·exact⟨q i-1,by omega⟩
   ·rw[e4]at h1;cases h1
  rw[hqi]at X3;have Tm0:gf0 P (i==0) s g\/(0<n/\∃g' es,(∀e'∈es,∃p∈X.stay i,e'=⟨.cell p.1,false,false⟩)/\(∀w,(∀p∈X.stay i,w.cell? p.1=some p.2)->stepG P (i==0) g w= .go g' w es)/\Way P (i==0) (X.stay i) s n g') :=
   X3.elim .inl fun z=>.inr ⟨z.1,z.2.2⟩
  rcases Tm0 with hat|⟨hn0,g',es,r9,u3,rv0⟩
  ·obtain⟨k,hk⟩:=(C.chans _ (C.R3 i s e)).2.2;have hw:∀cc∈#[rcase s.ch s.z],NoWays w (gs.setIfInBounds i ph) cc:=by
    intro cc hcc;simp only[List.mem_toArray,List.mem_cons,List.not_mem_nil,or_false]at hcc;subst hcc;refine ways_recv_none hk (partners_nil fun x y hy=>?_);rcases getElem?_stand gs i x y hy with⟨_,rfl⟩|⟨hx,hy'⟩
    ·exact offersAt_ph _ _
    ·by_cases hxh:x=h
     ·subst hxh;rw[hh]at hy';obtain rfl:=Option.some.inj hy';exact hO s e hat
     ·exact(C.idle x y hxh hy').noSend _
   refine⟨_,_,upd q i 0,w,live,crowd_waits (sl:=sl) hi (hat.2.2.2.2 w) hw,by simp,(Array.getElem?_setIfInBounds_ne D3).trans hh,fun x hx=>upd_ne q 0 hx,fun s' hs' _=>by rw[<- Option.some.inj hs'];exact hat,?_,?_,hS⟩
   ·refine C.put R2 D3 (by simp) (fun x hx=>Array.getElem?_setIfInBounds_ne (fun z=>hx z.symm)) (Array.getElem?_setIfInBounds_self_of_lt R2) r2 (by unfold Idle;rw[e];exact⟨rfl,g,hat⟩) (fun _ _=>rfl) id (fun _=>rfl) ?_ C.O9 (fun _ _=>rfl) (fun G hG=>by simpa using(C.K2 G hG).2) (Nat.le_refl _);exact C.past.appMute (g:=i) (fun x=>Knows.app _) (fun op C5=>by obtain⟨e',he,rfl⟩:=Go.Conc.mem_ofEvents C5;simp at he) (C.past.old_hears r2 (fun _=>by rw[Deaf_own];rfl))
   ·have h2:sumTo gs.size (upd q i 0)+(n+1)=sumTo gs.size q+0:=by
     have:=sumTo_upd q 0 id R2;simpa [hqi]using this
    omega
  ·obtain⟨ρ,hs,_⟩:=C.O9;have P2:=u3 w fun p hp=>hs.cell (u:=W2 u w.tape w.drawn) (C.stays i p hp).1;refine⟨_,_,upd q i n,w,live,runT_crowd_go (sl:=sl) hi P2,by simp,(tr0 w hS _ _ h (Ne.symm D3)).trans hh,fun x hx=>upd_ne q n hx,fun s' _ hz=>by rw[upd_same]at hz;omega,?_,Ip0 n hqi,hS⟩;refine C.put R2 D3 (by simp) (tr0 w hS _ _) (G2 w _ _) r2 (by unfold Idle;rw[e];exact rv0) (fun _ _=>rfl) id (fun _=>rfl) ?_ C.O9 (fun _ _=>rfl) (fun G hG=>by simpa using(C.K2 G hG).2) (Nat.le_refl _);refine C.past.appRead (g:=i) (fun x=>Knows.app _) hM hLo r2 (fun op C5 b hb=>?_) ?_
   ·obtain⟨e',he,rfl⟩:=Go.Conc.mem_ofEvents C5;obtain⟨p,hp,rfl⟩:=r9 e' he;simp only[ofEvent_cell0,MemAct.touch?,Option.some.injEq]at hb;subst hb;refine⟨rfl,⟨p,hp,rfl⟩,?_⟩;rintro⟨a',G',hG',ha,hb,ho⟩;simp only[Loc.cell.injEq]at ha;subst ha;have hc:Cut u G':=hG'.elim (fun z=>(C.K2 G' z).1) (C.old G');obtain⟨c,T1,f,hc,hs⟩:=hc;obtain⟨c',T',f',D6,_,hv'⟩:=B4 (C.stays i p hp).1;rw[hb,hc]at D6;cases D6;have:=(Array.getElem?_eq_some_iff.1 hv').1;omega
   ·rw[Deaf_own];exact deafBehind_still (fun e' he=>by obtain⟨p,_,rfl⟩:=r9 e' he;exact⟨by simp,by simp⟩) _
end
end
section
attribute [local irreducible] KK
def Ends (P:Program) (Post:Value->World->Prop) (m:Machine) (t:Trace):Prop :=
 ∃N last o w' t',runNT P (N+1) m t=(.ended o w',t')/\runN P N m= .next last/\step P last= .ended o w'/\Conc.Good P Post last o w' t'
theorem dt0 {P:Program}:∀{N:Nat} {m m':Machine} {t t':Trace},runNT P N m t=(.next m',t')->runN P N m= .next m'
 |0,m,m',t,t',h=>by simp only[runNT,Prod.mk.injEq]at h;simp only[runN];exact h.1
 |N+1,m,m',t,t',h=>by
  simp only[runNT]at h;unfold runN step;cases e:stepT P m with
  |mk s ops=>
   rw[e]at h;cases s with
   |next m1=>exact dt0 h
   |ended o w=>simp at h
theorem ok0 {P:Program}:∀(a b:Nat) (m m':Machine),runN P a m= .next m'->runN P (a+b) m=runN P b m'
 |0,b,m,m',h=>by simp only[runN,Stepped.next.injEq]at h;rw[Nat.zero_add,h]
 |a+1,b,m,m',h=>by
  rw[show a+1+b=(a+b)+1 by omega];have h':(match step P m with| .next m=>runN P a m|e=>e)= .next m':=h;show(match step P m with| .next m=>runN P (a+b) m|e=>e)=_;cases e:step P m with
  |next m1=>rw[e]at h';exact ok0 a b m1 m' h'
  |ended o w=>rw[e]at h';cases h'
section
variable {P:Program}{Post:Value->World->Prop}
theorem Ends.steps {N:Nat} {m m':Machine} {t t':Trace} (h:runNT P N m t=(.next m',t')) (hE:Ends P Post m' t'):Ends P Post m t:=by
 obtain⟨M,last,o,w',t2,h1,h2,h3,h4⟩:=hE;exact⟨N+M,last,o,w',t2,by rw[Nat.add_assoc,runNT_add,h];exact h1,by rw[ok0 N M m m' (dt0 h)];exact h2,h3,h4⟩
theorem Ends.step {m m':Machine} {t:Trace} {ops:Array MemOp} (h:stepT P m=(.next m',ops)) (hE:Ends P Post m' (t++ops)):Ends P Post m t :=
 Ends.steps (N:=1) (by simp only[runNT,h]) hE
end
def Fin (P:Program) (Post:Value->World->Prop) (X:Gh) (h:Nat) (g:Goroutine) (u:World):Prop :=
 ∀live T gs w sl q,gs[h]? =some g->Ring P X h u live T gs w q->Ends P Post (crowd gs w sl) T
section
variable {P:Program}{Post:Value->World->Prop}{X:Gh}{h:Nat}{u:World}
theorem Ring.Tn0 {g:Goroutine} (e4:g.status= .running) (K:Machine->Trace->Prop) (hK:∀m m' t ops,stepT P m=(.next m',ops)->K m' (t++ops)->K m t)
  (jr0:∀live T gs w sl d W4 q,gs[h]? =some g->stepT P (crowd gs w sl)=runT P (crowd gs (w.at d) W4) h->Ring P X h u live T gs (w.at d) q->K (crowd gs w sl) T) :
  ∀(μ:Nat) live T gs w sl q,sumTo gs.size q=μ->gs[h]? =some g->Ring P X h u live T gs w q->K (crowd gs w sl) T:=by
 intro μ
 induction μ using Nat.strongRecOn with
 |_ μ ih=>
  intro live T gs w sl q hμ hg C;obtain⟨i,gi,d,W4,hi,hgi,P2⟩:=crowd_pick (P:=P) (w:=w) (sl:=sl) (C.awake hg (.inl e4)) ⟨h,g,hg,e4⟩;have Cd:=C.at d;by_cases e:i=h
  ·subst e;exact jr0 live T gs w sl d W4 q hg P2 Cd
  ·obtain⟨E4,ops,q',w',W9,hrt,n2,hgh,_,_,C',R2,_⟩:=Cd.by_step (sl:=W4) hi e hgi hg (fun w' _=>again_of_running (.inl e4) w') (fun s _ _=>offersAt_of_not_blocked (by rw[e4];simp) _ _);exact hK _ _ _ _ (P2.trans hrt) (ih _ (by rw[n2,<- hμ];exact R2) W9 (T++ops) E4 w' W4 q' rfl hgh C')
theorem Fin.Q8 {g:Goroutine} (e4:g.status= .running) (jr0:∀live T gs w sl d W4 q,gs[h]? =some g->stepT P (crowd gs w sl)=runT P (crowd gs (w.at d) W4) h->Ring P X h u live T gs (w.at d) q->Ends P Post (crowd gs w sl) T):Fin P Post X h g u :=
 fun live T gs w sl q hg C=>Ring.Tn0 e4 (Ends P Post) (fun _ _ _ _ h=>Ends.step h) jr0 _ live T gs w sl q rfl hg C
theorem Fin.own {g:Goroutine} (e4:g.status= .running) (hs:∀τ d,∃g' u',o5 P (h==0) g (W2 u τ d) g' u'/\Fin P Post X h g' u'):Fin P Post X h g u:=by
 refine Fin.Q8 e4 fun live T gs w sl d W4 q hg P2 C=>?_;obtain⟨g',u',hF,hK⟩:=hs (w.at d).tape (w.at d).drawn;obtain⟨w',es,hgo,C',G2⟩:=C.own hg hF;exact Ends.step (P2.trans (runT_crowd_go (sl:=W4) hg hgo)) (hK _ _ _ _ _ _ G2 C')
theorem Fin.Iq0 {g:Goroutine} {X':Gh} {u':World} (hw:∀live T gs w q,Ring P X h u live T gs w q->Ring P X' h u' live T gs w q) (hF:Fin P Post X' h g u'):Fin P Post X h g u :=
 fun live T gs w sl q hg C=>hF live T gs w sl q hg (hw live T gs w q C)
end
def N2 (u:World) (b:Nat) (o:Obj):World:={u with heap:=u.heap.setIfInBounds b o}
theorem hw0 (u:World) (b:Nat) (o:Obj) (k:Nat):(N2 u b o).heap[k]? =if b=k then(if b<u.heap.size then some o else none) else u.heap[k]?:=by
 simp only[N2,Array.getElem?_setIfInBounds]
theorem Y4 (u:World) {b k:Nat} (o:Obj) (h:b≠k):(N2 u b o).heap[k]? =u.heap[k]?:=by rw[hw0,if_neg h]
theorem E6 (u:World) {b:Nat} {o x:Obj} (h:u.heap[b]? =some x):(N2 u b o).heap[b]? =some o:=by
 rw[hw0,if_pos rfl,if_pos (Array.getElem?_eq_some_iff.1 h).1]
theorem p5 {u u':World} {a:Addr} (h:u'.heap[a.block]? =u.heap[a.block]?):u'.cell? a=u.cell? a/\u'.frozen? a=u.frozen? a:=by
 unfold World.cell? World.frozen?;rw[h];exact⟨rfl,rfl⟩
theorem D5.replace {ρ:Nat->c6} {u w:World} {b:Nat} {x x' y:Obj} {p:c6} (hs:D5 ρ (W2 u w.tape w.drawn) w) (hb:u.heap[b]? =some x) (hv:Z3 x'=false) (hy:w.heap[b]? =some y) (hl:bo0 p x' y):∃ρ',D5 ρ' (W2 (N2 u b x') w.tape w.drawn) w/\∀k,k≠b->ρ' k=ρ k:=by
 have R2:=(Array.getElem?_eq_some_iff.1 hb).1;refine⟨fun k=>if k=b then p else ρ k,⟨hs.os,hs.output,rfl,rfl,by have:=hs.size;simpa [N2,W2]using this,fun k z hz=>?_,fun k hk=>?_,fun k z hz=>?_⟩,fun k hk=>if_neg hk⟩
 ·have hz':(N2 u b x').heap[k]? =some z:=hz;by_cases e:k=b
  ·subst e;rw[E6 u hb]at hz';obtain rfl:=Option.some.inj hz';exact⟨y,hy,by rw[if_pos rfl];exact hl⟩
  ·rw[Y4 u x' (Ne.symm e)]at hz';obtain⟨y',h1,h2⟩:=hs.obj k z hz';exact⟨y',h1,by rw[if_neg e];exact h2⟩
 ·have hk':u.heap.size <=k:=by simpa [N2,W2]using hk
  rw[if_neg (by omega)];exact hs.new k hk'
 ·have hz':(N2 u b x').heap[k]? =some z:=hz;by_cases e:k=b
  ·subst e;rw[E6 u hb]at hz';obtain rfl:=Option.some.inj hz';exact hv
  ·rw[Y4 u x' (Ne.symm e)]at hz';exact hs.u6 k z hz'
structure u9 (X:Gh) (b:Nat):Prop where
 stay:∀i p,p∈X.stay i->p.1.block≠b
 X3:X.X3 b=none
 A7:¬X.A7 b
 K2:∀G,(X.K2=some G\/G∈X.old)->G.blk≠b
structure Gh.M8 (X:Gh) (n:Nat):Prop where
 stay:∀i p,p∈X.stay i->p.1.block<n
 X3:∀b o,X.X3 b=some o->b<n
 A7:∀b,X.A7 b->b<n
 K2:∀G,(X.K2=some G\/G∈X.old)->G.blk<n
 low:∀b,X.low b->b<n
theorem Gh.M8.mono {X:Gh} {n m:Nat} (h:X.M8 n) (hm:n <=m):X.M8 m :=
 ⟨fun i p hp=>Nat.lt_of_lt_of_le (h.stay i p hp) hm,fun b o e=>Nat.lt_of_lt_of_le (h.X3 b o e) hm,fun b e=>Nat.lt_of_lt_of_le (h.A7 b e) hm,fun G e=>Nat.lt_of_lt_of_le (h.K2 G e) hm,fun b e=>Nat.lt_of_lt_of_le (h.low b e) hm⟩
theorem Gh.M8.v9 {X:Gh} {n b:Nat} (h:X.M8 n) (hb:n <=b):u9 X b :=
 ⟨fun i p hp=>by have:=h.stay i p hp;omega,by
  cases e:X.X3 b with
  |none=>rfl
  |some o=>have:=h.X3 b o e;omega,fun e=>by have:=h.A7 b e;omega,fun G hG=>by have:=h.K2 G hG;omega⟩
def Gh.lower (X:Gh) (b:Nat):Gh:={X with low:=fun k=>X.low k\/k=b}
theorem Ring.swap {P:Program} {X:Gh} {h:Nat} {u:World} {live:Nat->Bool} {T:Trace} {gs:Array Goroutine} {w:World} {q:Nat->Nat} (C:Ring P X h u live T gs w q) {b:Nat} {x x':Obj} (hl:u9 X b) (hb:u.heap[b]? =some x) (hv:Z3 x'=false)
  (hlk:∀p y,bo0 p x y->∃p',bo0 p' x' y):Ring P (X.lower b) h (N2 u b x') live T gs w q:=by
 obtain⟨ρ,hs,hlw⟩:=C.O9;obtain⟨y,hy,hl0⟩:=hs.obj b x hb;obtain⟨p',hp'⟩:=hlk _ _ hl0;have ma0:∀G,(X.K2=some G\/G∈X.old)->Cut u G->Cut (N2 u b x') G:=fun G hG ⟨c,T,f,hc,hcs⟩=>⟨c,T,f,by rw[Y4 u x' (Ne.symm (hl.K2 G hG))];exact hc,hcs⟩
 have m8:∀k,k≠b->bp0 u k->bp0 (N2 u b x') k:=fun k hk ⟨T,f,hc⟩=>⟨T,f,by rw[Y4 u x' (Ne.symm hk)];exact hc⟩
 refine⟨?_,C.idle,C.free,C.size,C.num,fun i p hp=>?_,fun c hc=>⟨m8 c (fun e=>hl.A7 (e▸hc)) (C.chans c hc).1,(C.chans c hc).2⟩,C.R3,C.inj,fun k o e=>?_,fun G e=>.inl (C.P9 G e),⟨fun c e=>.inl (C.C7.1 c e),C.C7.2⟩,fun G e=>⟨ma0 G (.inl e) (C.K2 G e).1,(C.K2 G e).2⟩,fun G e=>ma0 G (.inr e) (C.old G e),C.above,C.few,C.ca0,C.ag0,C.dfn,C.past⟩
 ·obtain⟨ρ',h1,h2⟩:=D5.replace hs hb hv hy hp';exact⟨ρ',h1,fun k hk=>by
   have hkb:k≠b:=fun e=>hk (.inr e);rw[h2 k hkb];exact hlw k fun e=>hk (.inl e)⟩
 ·have:=p5 (u:=u) (u':=N2 u b x') (a:=p.1) (Y4 u x' (Ne.symm (hl.stay i p hp)));rw[this.1,this.2];exact C.stays i p hp
 ·have hk:k≠b:=fun z=>by subst z;have e2:X.X3 k=some o:=e;rw[hl.X3]at e2;cases e2
  exact⟨m8 k hk (C.X3 k o e).1,(C.X3 k o e).2⟩
section
variable {P:Program}{Post:Value->World->Prop}{X:Gh}{h:Nat}{u:World}{g:Goroutine}{b:Nat}
theorem Fin.freeze {c:Array Value} {T:TypeId} {f f':Nat×Nat} (hl:u9 X b) (hb:u.heap[b]? =some (.cells c T f)) (hf:∀i,inR f i->inR f' i) (hF:Fin P Post (X.lower b) h g (N2 u b (.cells c T f'))):Fin P Post X h g u:=by
 refine Fin.Iq0 (fun live Tr gs w q C=>C.swap hl hb rfl fun p y hp=>?_) hF;cases hp with
 |same=>exact⟨.cut #[] f,by have:=bo0.cut c #[] T f f' hf;simpa using this⟩
 |cut _ rest _ f0 _ h0=>exact⟨.cut rest f0,.cut c rest T f0 f' fun i hi=>hf i (h0 i hi)⟩
 |gone=>exact⟨.gone y,.gone _ _ _⟩
def nothing:Obj:=.cells #[] 0 (0,0)
theorem Fin.chan (hl:u9 X b) (hw:¬X.low b) (w9:X.C4 b= .all) {k:Nat} (hb:u.heap[b]? =some (.chan 0 #[] false k k false)) (hF:Fin P Post {X.lower b with A7:=fun c=>X.A7 c\/c=b} h g (N2 u b nothing)):Fin P Post X h g u:=by
 refine Fin.Iq0 (fun live Tr gs w q C=>?_) hF;have C':=C.swap (x':=nothing) hl hb rfl fun p y hp=>⟨.gone y,.gone _ _ _⟩
 obtain⟨ρ,hs,hlw⟩:=C.O9;obtain⟨y,hy,hl0⟩:=hs.obj b _ hb;rw[hlw b hw,w9]at hl0;have hyb:y= .chan 0 #[] false k k false:=by cases hl0;rfl
 subst hyb;refine⟨C'.O9,C'.idle,C'.free,C'.size,C'.num,C'.stays,fun c hc=>?_,fun i s e=>.inl (C'.R3 i s e),C'.inj,C'.X3,C'.P9,⟨fun c e=>e.elim (C'.C7.1 c) fun e=>.inr e,fun G hG=>⟨fun e=>e.elim (C'.C7.2 G hG).1 (hl.K2 G hG),(C'.C7.2 G hG).2⟩⟩,C'.K2,C'.old,C'.above,C'.few,C'.ca0,C'.ag0,C'.dfn,C'.past⟩;rcases hc with hc|rfl
 ·exact C'.chans c hc
 ·exact⟨⟨0,(0,0),E6 u hb⟩,hl.X3,k,hy⟩
theorem Fin.stay {l:Q3} (hl:∀p∈l,u.cell? p.1=some p.2/\u.frozen? p.1=true) (hF:Fin P Post {X with stay:=upd X.stay h l} h g u):Fin P Post X h g u:=by
 refine Fin.Iq0 (fun live Tr gs w q C=>?_) hF;have Ir0:∀i,i≠h->upd X.stay h l i=X.stay i:=fun i hi=>upd_ne _ _ hi;refine⟨C.O9,fun i y hi hy=>?_,C.free,C.size,C.num,fun i p hp=>?_,C.chans,C.R3,C.inj,C.X3,C.P9,C.C7,C.K2,C.old,fun j hj=>?_,C.few,C.ca0,C.ag0,C.dfn,?_⟩
 ·have:=C.idle i y hi hy;unfold Idle at this⊢;show(match X.G1 i with|some s=>Way P (i==0) (upd X.stay h l i) s (q i) y|none=>_);rw[Ir0 i hi];exact this
 ·have hp':p∈upd X.stay h l i:=hp;by_cases e:i=h
  ·subst e;rw[upd_same]at hp';exact hl p hp'
  ·rw[Ir0 i e]at hp';exact C.stays i p hp'
 ·have:=C.above j hj;refine⟨this.1,this.2.1,this.2.2.1,?_⟩;show upd X.stay h l j=[];rw[Ir0 j (by have:=C.size;omega)];exact this.2.2.2
 ·refine PastH.still C.past (fun z=>z.1 rfl) (fun i hi l'=>?_) (fun l' x5=>?_) (fun i hi=>.inl hi) (fun hi=>C.past.hears h hi)
  ·show(∃p∈upd X.stay h l i,_)↔_;rw[Ir0 i hi];exact Iff.rfl
  ·obtain⟨p,hp,rfl⟩:=(x5:∃p∈upd X.stay h l h,l'= .cell p.1)
   have hp:p∈l:=by have hp':p∈upd X.stay h l h:=hp;rwa [upd_same]at hp'
   refine⟨rfl,?_⟩;rintro⟨a',G,hG,ha,hb,ho⟩;simp only[Loc.cell.injEq]at ha;subst ha;have hc:Cut u G:=hG.elim (fun e=>(C.K2 G e).1) (C.old G);obtain⟨c,T,f,hc,hs⟩:=hc;obtain⟨c',T',f',D6,_,hv'⟩:=B4 (hl p hp).1;rw[hb,hc]at D6;cases D6;have:=(Array.getElem?_eq_some_iff.1 hv').1;omega
end
end
section
attribute [local irreducible] KK
theorem count_le {live:Nat->Bool} {i:Nat}:∀{n:Nat},i<n->live i=true->0<count live n:=by
 intro n hn hl;have:=Go.ConcN.le_sumTo (f:=fun i=>if live i then 1 else 0) hn;simp only[hl,if_true]at this;exact this
theorem q7.of_block {G:H4} {st sm:Int} {w w':World} (h:q7 G st sm w) (e:w'.heap[G.blk]? =w.heap[G.blk]?):q7 G st sm w':=by
 obtain⟨c,T,hb,hc⟩:=h;exact⟨c,T,e.trans hb,hc⟩
section
variable {P:Program}{Post:Value->World->Prop}{X:Gh}{u:World}{g:Goroutine}
theorem Fin.we0 {f':Nat×Nat} {b:Nat} {c:Array Value} {T:TypeId} (cg0:X.cap=0) (hl:u9 X b) (hw:¬X.low b) (w9:X.C4 b= .all) (hb:u.heap[b]? =some (.cells (c ++ #[.int .u64 0,.int .u32 0]) T (0,0))) (_h0:0 <=c.size)
  (hF:Fin P Post {X.lower b with K2:=some ⟨b,c.size⟩,old:=X.K2.toList++X.old} 0 g (N2 u b (.cells c T f'))):Fin P Post X 0 g u:=by
 refine Fin.Iq0 (fun live Tr gs w q C=>?_) hF;have C':=C.swap (x':=.cells c T f') hl hb rfl fun p y hp=>by
  generalize hq:(Obj.cells (c ++ #[.int .u64 0,.int .u32 0]) T (0,0))=z at hp;cases hp with
  |same=>subst hq;exact⟨_,.cut c _ T (0,0) f' fun _ h=>by unfold inR at h;omega⟩
  |cut c' rest T' f f2 hf=>
   obtain⟨rfl,rfl,rfl⟩:=Obj.cells.inj hq;exact⟨.cut (#[.int .u64 0,.int .u32 0]++rest) f,by rw[Array.append_assoc];exact .cut c _ _ f f' fun i hi=>by have:=hf i hi;unfold inR at this;omega⟩
  |gone T' f o=>
   obtain⟨h1,_,_⟩:=Obj.cells.inj hq;have:=congrArg Array.size h1;simp at this
 obtain⟨ρ,hs,hlw⟩:=C.O9;obtain⟨y,hy,hl0⟩:=hs.obj b _ hb;rw[hlw b hw,w9]at hl0;have hyb:y= .cells (c ++ #[.int .u64 0,.int .u32 0]) T (0,0):=by cases hl0;rfl
 subst hyb;have hz:count live gs.size+X.pend=0:=by have:=C.few;omega
 have js0:∀i,live i=false:=fun i=>by
  rcases Nat.lt_or_ge i gs.size with hi|hi
  ·cases e:live i with
   |false=>rfl
   |true=>have:=count_le hi e;omega
  ·exact(C.above i hi).2.2.1
 refine⟨C'.O9,fun i y hi hy=>?_,C'.free,C'.size,C'.num,C'.stays,C'.chans,C'.R3,C'.inj,C'.X3,fun G e=>?_,⟨C'.C7.1,fun G hG=>?_⟩,fun G e=>?_,fun G e=>?_,C'.above,C'.few,fun i e=>absurd e (by rw[js0 i];simp),C'.ag0,C'.dfn,?_⟩
 ·have:=C'.idle i y hi hy;unfold Idle at this⊢;simp only[js0,Bool.false_eq_true,if_false]at this⊢;exact this
 ·cases e;exact .inr rfl
 ·rcases hG with hG|hG
  ·cases hG;exact⟨hl.A7,hl.X3⟩
  ·have hG':G∈X.K2.toList++X.old:=hG;exact C.C7.2 G ((List.mem_append.1 hG').imp (fun z=>by simpa using z) id)
 ·cases e;refine⟨⟨c,T,f',E6 u hb,rfl⟩,c,T,?_,rfl⟩;rw[hy];have:(((count live gs.size+X.pend)*KK:Nat):Int)=0:=by rw[hz,Nat.zero_mul];rfl
  show _=some (Obj.cells (c ++ #[.int .u64 (((count live gs.size+X.pend)*KK:Nat):Int),.int .u32 0]) T (0,0));rw[this]
 ·have e':G∈X.K2.toList++X.old:=e;rcases List.mem_append.1 e' with e'|e'
  ·exact(C'.K2 G (show X.K2=some G by simpa using e')).1
  ·exact C'.old G e'
 ·refine PastH.Ce0 C'.past (fun l x5=>?_) (fun i l hi hS=>?_) (fun l x5=>by obtain⟨a,G,_,rfl,_⟩:=x5;rfl) (fun i hi=>hi.elim id fun z=>by rw[js0 i]at z;cases z)
  ·obtain⟨a,G,hG,ha,g7,ho⟩:=x5;refine⟨a,G,.inr ?_,ha,g7,ho⟩;show G∈X.K2.toList++X.old;rcases hG with hG|hG
   ·exact List.mem_append_left _ (by have hG:X.K2=some G:=hG;simpa using hG)
   ·exact List.mem_append_right _ hG
  ·rintro⟨a,G,hG,ha,g7,ho⟩;obtain⟨p,hp,rfl⟩:=hS;simp only[Loc.cell.injEq]at ha;subst ha;have hp0:p∈X.stay i:=hp;rcases hG with hG|hG
   ·cases hG;exact hl.stay i p hp0 g7
   ·have hG':G∈X.K2.toList++X.old:=hG;have hc:Cut u G:=(List.mem_append.1 hG').elim (fun z=>(C.K2 G (by simpa using z)).1) (C.old G);obtain⟨c1,T1,f1,hc,hs1⟩:=hc;obtain⟨c',T',f',D6,_,hv'⟩:=B4 (C.stays i p hp0).1;rw[g7,hc]at D6;cases D6;have:=(Array.getElem?_eq_some_iff.1 hv').1;omega
end
def Gh.pass (X:Gh) (h j:Nat) (sh:Option y5):Gh:={X with G1:=upd (upd X.G1 j none) h sh}
section
variable {P:Program}{X:Gh}{h:Nat}{u:World}{live:Nat->Bool}{T:Trace}{gs:Array Goroutine}{w:World}{q:Nat->Nat}
theorem Ring.pass (C:Ring P X h u live T gs w q) {j k:Nat} {s:y5} (hj:X.G1 j=some s) (hjh:j≠h) (eu0:X.dn=0) (hk:w.heap[s.ch]? =some (.chan 0 #[] false k k false)) {E4:Array Goroutine} {T':Trace} {H':Goroutine} (n2:E4.size=gs.size)
  (Og0:∀x,x≠h->x≠j->E4[x]? =gs[x]?) (hH:E4[h]? =some H') (Mi0:∀x,Deaf T' x=Deaf T x) {sh:Option y5} (V9:∀s',sh=some s'->X.A7 s'.ch/\∀i s2,i≠j->X.G1 i=some s2->s2.ch≠s'.ch) {nh:Nat} (Oh0:Idle P (X.pass h j sh) live T' h nh H')
  (yy0:PastH X.Sh (Us live) X.St (X.Mem h) (fun g=>X.Lo h g/\g≠j) j T'):Ring P (X.pass h j sh) j u live T' E4 (w.setChan s.ch 0 #[] false (k+1) (k+1) false) (upd q h nh):=by
 obtain⟨ρ,hs,hlw⟩:=C.O9;obtain⟨m8,Cg0,_⟩:=C.chans s.ch (C.R3 j s hj);have D3:∀b,b≠s.ch->(w.setChan s.ch 0 #[] false (k+1) (k+1) false).heap[b]? =w.heap[b]?:=fun b hb=>heap_setChan_ne w _ _ _ _ _ _ (Ne.symm hb);have G2:(w.setChan s.ch 0 #[] false (k+1) (k+1) false).heap[s.ch]? =some (.chan 0 #[] false (k+1) (k+1) false):=heap_setChan_self w hk _ _ _ _ _ _;have k6:∀i,i≠h->i≠j->(X.pass h j sh).G1 i=X.G1 i:=fun i h1 h2=>by
  show upd (upd X.G1 j none) h sh i=_;rw[upd_ne _ _ h1,upd_ne _ _ h2]
 have Oi0:(X.pass h j sh).G1 h=sh:=upd_same _ _ _;have Ch0:(X.pass h j sh).G1 j=none:=by
  show upd (upd X.G1 j none) h sh j=_;rw[upd_ne _ _ hjh,upd_same]
 have mb0:j<gs.size:=by
  rcases Nat.lt_or_ge j gs.size with z|z
  ·exact z
  ·have:=(C.above j z).2.1;rw[hj]at this;cases this
 have hgb:∀G,X.K2=some G->G.blk≠s.ch:=fun G hG e=>(C.C7.2 G (.inl hG)).1 (e▸C.R3 j s hj);have hold:∀i s2,(X.pass h j sh).G1 i=some s2->(i≠h/\i≠j/\X.G1 i=some s2)\/(i=h/\sh=some s2):=fun i s2 e=>by
  by_cases e1:i=h
  ·subst e1;rw[Oi0]at e;exact .inr ⟨rfl,e⟩
  ·by_cases e2:i=j
   ·subst e2;rw[Ch0]at e;cases e
   ·rw[k6 i e1 e2]at e;exact .inl ⟨e1,e2,e⟩
 refine⟨⟨fun b=>if b=s.ch then .gone (.chan 0 #[] false (k+1) (k+1) false) else ρ b,⟨hs.os,hs.output,rfl,rfl,by have:=hs.size;simpa [World.setChan,W2]using this,fun b x hx=>?_,fun b hb=>?_,hs.u6⟩,fun b hb=>?_⟩,
  fun x y hx hy=>?_,Ch0,by rw[n2];exact mb0,by rw[n2];exact C.num,C.stays,fun c hc=>⟨(C.chans c hc).1,(C.chans c hc).2.1,?_⟩,fun i s2 e=>?_,fun i i' s1 s2 e1 e2 hc=>?_,fun b o e=>?_,C.P9,C.C7,fun G e=>⟨(C.K2 G e).1,?_⟩,C.old,fun i hi=>?_,by rw[n2];exact C.few,C.ca0,fun i hi hor=>?_,(yy0.hears j (.inr (by rw[hj];simp))).trans eu0.symm,?_⟩
 ·by_cases e:b=s.ch
  ·subst e;obtain⟨T0,f0,hg⟩:=m8;have W3:u.heap[s.ch]? =some x:=hx;rw[hg]at W3;obtain rfl:=Option.some.inj W3;exact⟨_,G2,by rw[if_pos rfl];exact .gone _ _ _⟩
  ·obtain⟨y,h1,h2⟩:=hs.obj b x hx;exact⟨y,(D3 b e).trans h1,by rw[if_neg e];exact h2⟩
 ·obtain⟨T0,f0,hg⟩:=m8;have h1:s.ch<u.heap.size:=(Array.getElem?_eq_some_iff.1 hg).1;have h2:u.heap.size <=b:=hb;rw[if_neg (by omega)];exact hs.new b hb
 ·have:b≠s.ch:=fun e=>hb (e▸C.C7.1 s.ch (C.R3 j s hj));show(if b=s.ch then _ else ρ b)=_;rw[if_neg this];exact hlw b hb
 ·by_cases e:x=h
  ·subst e;rw[hH]at hy;obtain rfl:=Option.some.inj hy;rw[upd_same];exact Oh0
  ·rw[Og0 x e hx]at hy;have X3:=C.idle x y e hy;unfold Idle at X3⊢;rw[k6 x e hx,Mi0,upd_ne q nh e];exact X3
 ·by_cases e:c=s.ch
  ·subst e;exact⟨k+1,G2⟩
  ·obtain⟨k',hk'⟩:=(C.chans c hc).2.2;exact⟨k',(D3 c e).trans hk'⟩
 ·rcases hold i s2 e with⟨_,_,e⟩|⟨_,e⟩
  ·exact C.R3 i s2 e
  ·exact(V9 s2 e).1
 ·rcases hold i s1 e1 with⟨_,a2,f1⟩|⟨f0,f1⟩ <;> rcases hold i' s2 e2 with⟨_,b2,f2⟩|⟨f3,f2⟩
  ·exact C.inj i i' s1 s2 f1 f2 hc
  ·exact absurd hc ((V9 s2 f2).2 i s1 a2 f1)
  ·exact absurd hc.symm ((V9 s1 f1).2 i' s2 b2 f2)
  ·rw[f0,f3]
 ·obtain⟨h1,h2,p,y,h3,h4⟩:=C.X3 b o e;have:b≠s.ch:=fun e2=>by subst e2;have e':X.X3 s.ch=some o:=e;rw[Cg0]at e';cases e'
  exact⟨h1,h2,p,y,(D3 b this).trans h3,h4⟩
 ·rw[n2];exact(C.K2 G e).2.of_block (D3 _ (hgb G e))
 ·rw[n2]at hi;have:=C.above i hi;refine⟨by rw[Mi0];exact this.1,?_,this.2.2⟩;rw[k6 i (by have:=C.size;omega) (by omega)];exact this.2.1
 ·rcases hor with hor|rfl
  ·cases e:(X.pass h j sh).G1 i with
   |none=>exact absurd e hor
   |some s2=>
    rcases hold i s2 e with⟨_,_,e⟩|⟨rfl,_⟩
    ·exact C.ag0 i hi (.inl (by rw[e];simp))
    ·exact C.ag0 i hi (.inr rfl)
  ·exact C.ag0 i hi (.inl (by rw[hj];simp))
 ·refine(yy0.fewer (Mem':=(X.pass h j sh).Mem j) fun x hx=>?_).loosen fun x hx=>?_
  ·rcases hx with⟨rfl,_⟩|hx
   ·exact .inr (by rw[hj];simp)
   ·cases e:(X.pass h j sh).G1 x with
    |none=>exact absurd e hx
    |some s2=>
     rcases hold x s2 e with⟨_,_,e⟩|⟨rfl,_⟩
     ·exact .inr (by rw[e];simp)
     ·exact .inl ⟨rfl,eu0⟩
  ·exact⟨hx.2,by rw[k6 x hx.1.1 hx.2];exact hx.1.2⟩
end
section
variable {P:Program}{Post:Value->World->Prop}{X:Gh}{h:Nat}{u:World}
def rw0 (P:Program) (X:Gh) (h:Nat) (sh:Option y5) (n:Nat) (g:Goroutine):Prop:=match sh with
 |some s'=>Way P (h==0) (X.stay h) s' n g
 |none=>0<h/\∃G,X.K2=some G/\Lt P G n 0 g
theorem Fin.give {g a₂:Goroutine} {s:y5} {j nh:Nat} {v z':Value} (e4:g.status= .running) (hj:X.G1 j=some s) (hjh:j≠h) (eu0:X.dn=0) (hsend:∀w,stepG P (h==0) g w= .comm a₂ #[scase s.ch v z'] true .send w #[])
  (sh:Option y5) (V9:∀s',sh=some s'->X.A7 s'.ch/\∀i s2,i≠j->X.G1 i=some s2->s2.ch≠s'.ch) (Oj0:rw0 P X h sh nh (Go.Conc.served a₂ undef)) (hF:Fin P Post (X.pass h j sh) j (Go.Conc.served s.me (recvd false v true)) u):Fin P Post X h g u:=by
 have Oh0:∀{live:Nat->Bool} {T T':Trace} {gs:Array Goroutine} {w:World} {q:Nat->Nat},Ring P X h u live T gs w q->Deaf T' h=0->Idle P (X.pass h j sh) live T' h nh (Go.Conc.served a₂ undef):=by
  intro live T T' gs w q C hd;unfold Idle;have:(X.pass h j sh).G1 h=sh:=upd_same _ _ _;rw[this];unfold rw0 at Oj0;cases sh with
  |some s'=>exact Oj0
  |none=>
   obtain⟨h0,G,hG,hL⟩:=Oj0;refine⟨h0,?_⟩;rw[C.ag0 h (by omega) (.inr rfl)];simp only[if_true];exact⟨G,hG,by rw[hd];exact hL⟩
 have fin:∀live T gs E4 w q k (g₁:Nat->Nat) (ops:Array MemOp) (fh fj:FuncId) (ph pj:String) sl,Ring P X h u live (T++ops) gs w q->w.heap[s.ch]? =some (.chan 0 #[] false k k false)->E4.size=gs.size->(∀x,x≠h->x≠j->E4[x]? =gs[x]?) ->
   E4[h]? =some (Go.Conc.served a₂ undef)->E4[j]? =some (Go.Conc.served s.me (recvd false v true))->Ends P Post (crowd E4 (w.setChan s.ch 0 #[] false (k+1) (k+1) false) sl) (T++(ops++met h j fh ph fj pj s.ch k 0)):=by
  intro live T gs E4 w q k g₁ ops fh fj ph pj sl C hk n2 Og0 hH hJ;have hMh:X.Mem h h:=.inl ⟨rfl,eu0⟩;have hMj:X.Mem h j:=.inr (by rw[hj];simp);have p2:=PastH.give C.past hMh hMj fh ph fj pj s.ch k 0;have hD:∀x,Deaf ((T++ops)++met h j fh ph fj pj s.ch k 0) x=Deaf (T++ops) x:=fun x=>Deaf_quiet (met_quiet _ _ _ _ _ _ _ _ _ x);have:=Ring.pass C hj hjh eu0 hk n2 Og0 hH hD V9 (Oh0 C (by rw[hD];exact C.past.hears h hMh)) p2;rw[<- Array.append_assoc];exact hF _ _ _ _ _ _ hJ this
 have await:∀(μ:Nat) live T gs w sl q,sumTo gs.size q=μ->gs[h]? =some (parked a₂ #[scase s.ch v z'] .send)->0<q j->Ring P X h u live T gs w q->Ends P Post (crowd gs w sl) T:=by
  intro μ
  induction μ using Nat.strongRecOn with
  |_ μ ih=>
   intro live T gs w sl q hμ hg hqj C;have mb0:j<gs.size:=by
    rcases Nat.lt_or_ge j gs.size with z|z
    ·exact z
    ·have:=(C.above j z).2.1;rw[hj]at this;cases this
   have tu0:Way P (j==0) (X.stay j) s (q j) gs[j]:=by
    have:=C.idle j gs[j] hjh (Array.getElem?_eq_getElem mb0);unfold Idle at this;rw[hj]at this;exact this
   have To0:gs[j].status= .running:=tu0.status.elim (·.1) fun z=>by omega
   obtain⟨i,gi,d,W4,hi,hgi,P2⟩:=crowd_pick (P:=P) (w:=w) (sl:=sl) (C.awake hg (.inr rfl)) ⟨j,gs[j],Array.getElem?_eq_getElem mb0,To0⟩;have Cd:=C.at d;obtain⟨k,hk⟩:=(Cd.chans s.ch (Cd.R3 j s hj)).2.2;have hih:i≠h:=by rintro rfl;rw[hg]at hi;obtain rfl:=Option.some.inj hi;cases hgi
   by_cases ej:i=j/\gf0 P (i==0) s gi
   ·obtain⟨rfl,hat⟩:=ej;have hp:partners (gs.setIfInBounds i ph) s.ch true=[(h,0)]:=by
     rw[partners_one (stand_get (Ne.symm hih) hg) fun x y hxh hy=>by
      rcases getElem?_stand gs i x y hy with⟨_,rfl⟩|⟨_,hy'⟩
      ·exact offersAt_ph _ _
      ·exact(C.idle x y hxh hy').noSend _]
     simp[offersAt_parked_send]
    have hrt:=crowd_recv_meets (sl:=W4) hi (hat.2.2.2.2 (w.at d)) hk (Ne.symm hih) hg hp;refine Ends.step (P2.trans hrt) ?_;rw[show(MemOp.ofEvents i gi.frame.fn gi.frame.place #[]:Array MemOp)=#[] from rfl];refine fin live T gs _ (w.at d) q k (fun _=>0) #[] _ _ _ _ W4 (by simpa using Cd) hk (by simp) (fun x hx hxj=>by rw[Array.getElem?_setIfInBounds_ne (fun z=>hxj z.symm),Array.getElem?_setIfInBounds_ne (fun z=>hx z.symm)]) ?_ ?_
    ·rw[Array.getElem?_setIfInBounds_ne hih,Array.getElem?_setIfInBounds_self_of_lt C.size,finishComm_send]
    ·rw[Array.getElem?_setIfInBounds_self_of_lt (by simpa using mb0),finishComm_recv]
   ·obtain⟨E4,ops,q',w',W9,hrt,n2,hgh,hqo,hq0,C',R2,_⟩:=Cd.by_step (sl:=W4) hi hih hgi hg (fun w' hS=>again_send_open (by rw[hS.2.2 s.ch (Cd.R3 j s hj)];exact hk))
     (fun s' hs' hat=>by
      rw[offersAt_parked_send,if_neg];intro ec;have hij:=C.inj i j s' s hs' hj ec.symm;subst hij;rw[hj]at hs';obtain rfl:=Option.some.inj hs';exact ej ⟨rfl,hat⟩)
    refine Ends.step (P2.trans hrt) (ih _ (by rw[n2,<- hμ];exact R2) W9 _ E4 w' W4 q' rfl hgh ?_ C');by_cases hij:j=i
    ·subst hij;rcases Nat.eq_zero_or_pos (q' j)with h0|h0
     ·exact absurd ⟨rfl,hq0 s hj h0⟩ ej
     ·exact h0
    ·rw[hqo j hij];exact hqj
 refine Fin.Q8 e4 fun live T gs w sl d W4 q hg P2 C=>?_;have mb0:j<gs.size:=by
  rcases Nat.lt_or_ge j gs.size with z|z
  ·exact z
  ·have:=(C.above j z).2.1;rw[hj]at this;cases this
 have tu0:Way P (j==0) (X.stay j) s (q j) gs[j]:=by
  have:=C.idle j gs[j] hjh (Array.getElem?_eq_getElem mb0);unfold Idle at this;rw[hj]at this;exact this
 obtain⟨k,hk⟩:=(C.chans s.ch (C.R3 j s hj)).2.2;have Is0:∀(x:Nat) (y:Goroutine),x≠j->(gs.setIfInBounds h ph)[x]? =some y->offersAt y s.ch false=[]:=by
  intro x y hxj hy;rcases getElem?_stand gs h x y hy with⟨_,rfl⟩|⟨hx,hy'⟩
  ·exact offersAt_ph _ _
  ·exact(C.idle x y hx hy').Of0 fun s' hs' D6=>hxj (C.inj x j s' s hs' hj D6)
 rcases tu0.status with⟨hjr,hqj⟩|⟨_,hq0⟩
 ·have hp:partners (gs.setIfInBounds h ph) s.ch false=[]:=partners_nil fun x y hy=>by
   by_cases hxj:x=j
   ·subst hxj;rw[stand_get hjh (Array.getElem?_eq_getElem mb0)]at hy;obtain rfl:=Option.some.inj hy;exact offersAt_of_not_blocked (by rw[hjr];simp) _ _
   ·exact Is0 x y hxj hy
  have hw:∀cc∈#[scase s.ch v z'],NoWays (w.at d) (gs.setIfInBounds h ph) cc:=by
   intro cc hcc;simp only[List.mem_toArray,List.mem_cons,List.not_mem_nil,or_false]at hcc;subst hcc;exact ways_send_none hk (Nat.le_refl _) hp
  have hrt:=crowd_waits (sl:=W4) hg (hsend (w.at d)) hw;refine Ends.step (P2.trans hrt) ?_;rw[show(MemOp.ofEvents h g.frame.fn g.frame.place #[]:Array MemOp)=#[] from rfl,Array.append_empty];refine await _ live T _ (w.at d) W4 q rfl (Array.getElem?_setIfInBounds_self_of_lt C.size) hqj ?_;exact⟨C.O9,fun x y hx hy=>C.idle x y hx (by rwa [Array.getElem?_setIfInBounds_ne (fun e=>hx e.symm)]at hy),C.free,by simpa using C.size,by simpa using C.num,C.stays,C.chans,C.R3,C.inj,C.X3,C.P9,C.C7,by simpa using C.K2,C.old,fun x hx=>C.above x (by simpa using hx),by simpa using C.few,C.ca0,C.ag0,C.dfn,C.past⟩
 ·have hpk:gs[j]=parked s.me #[rcase s.ch s.z] (.recv false):=by rw[hq0]at tu0;exact tu0.1
  have hgj:gs[j]? =some (parked s.me #[rcase s.ch s.z] (.recv false)):=by rw[<- hpk];exact Array.getElem?_eq_getElem mb0
  have hp:partners (gs.setIfInBounds h ph) s.ch false=[(j,0)]:=by
   rw[partners_one (stand_get hjh hgj) fun x y hxj hy=>Is0 x y hxj hy,offersAt_parked_recv,if_pos rfl];rfl
  have hrt:=crowd_send_meets (sl:=W4) hg (hsend (w.at d)) hk hjh hgj hp;refine Ends.step (P2.trans hrt) ?_;rw[show(MemOp.ofEvents h g.frame.fn g.frame.place #[]:Array MemOp)=#[] from rfl];refine fin live T gs _ (w.at d) q k (fun _=>0) #[] _ _ _ _ W4 (by simpa using C) hk (by simp) (fun x hx hxj=>by rw[Array.getElem?_setIfInBounds_ne (fun z=>hx z.symm),Array.getElem?_setIfInBounds_ne (fun z=>hxj z.symm)]) ?_ ?_
  ·rw[Array.getElem?_setIfInBounds_self_of_lt (by simpa using C.size),finishComm_send]
  ·rw[Array.getElem?_setIfInBounds_ne (Ne.symm hjh),Array.getElem?_setIfInBounds_self_of_lt mb0,finishComm_recv]
end
end
section
attribute [local irreducible] KK
section
variable {P:Program}{Post:Value->World->Prop}{X:Gh}{u:World}
def Gh.hire (X:Gh) (s:y5):Gh:={X with G1:=upd X.G1 0 (some s),pend:=0,n:=X.n+1}
theorem Fin.spawn {g g' child:Goroutine} {s:y5} {nh:Nat} {G:H4} (e4:g.status= .running) (eu0:X.dn=0) (hy0:X.pend=1) (hG:X.K2=some G) (hgo:∀w,stepG P true g w= .spawn g' child w #[])
  (R5:X.A7 s.ch) (e8:∀i s2,X.G1 i=some s2->s2.ch≠s.ch) (rv0:Way P true (X.stay 0) s nh g') (hF:Fin P Post (X.hire s) X.n child u):Fin P Post X 0 g u:=by
 refine Fin.Q8 e4 fun live T gs w sl d W4 q hg P2 C=>?_;have hrt:=runT_crowd_spawn (P:=P) (sl:=W4) (i:=0) hg (hgo (w.at d));have Ci0:(((MemOp.ofEvents 0 g.frame.fn g.frame.place #[]:Array MemOp).push {g:=0,fn:=g.frame.fn,pos:=g.frame.place,act:=.go gs.size}).push {g:=gs.size,fn:=child.frame.fn,pos:=g.frame.place,act:=.start})=
   #[{g:=0,fn:=g.frame.fn,pos:=g.frame.place,act:=.go gs.size},{g:=gs.size,fn:=child.frame.fn,pos:=g.frame.place,act:=.start}]:=rfl
 rw[Ci0]at hrt;refine Ends.step (P2.trans hrt) ?_;have h0:=C.size;have rx0:=C.above gs.size (Nat.le_refl _);have hc0:gs.size≠0:=by omega
 have hD:∀x,Deaf (T ++ #[{g:=0,fn:=g.frame.fn,pos:=g.frame.place,act:=.go gs.size},{g:=gs.size,fn:=child.frame.fn,pos:=g.frame.place,act:=.start}]) x=Deaf T x:=fun x=>Deaf_quiet (fun op C5 d=>by
  simp only[List.mem_toArray,List.mem_cons,List.not_mem_nil,or_false]at C5;rcases C5 with rfl|rfl <;> rfl)
 have p:=PastH.born (c:=gs.size) C.past (.inl ⟨rfl,eu0⟩) rx0.1 (fun l ⟨p,hp,_⟩=>by rw[rx0.2.2.2]at hp;cases hp) (.inl rfl) g.frame.fn g.frame.place child.frame.fn;have k6:∀i,i≠0->(X.hire s).G1 i=X.G1 i:=fun i hi=>upd_ne X.G1 _ hi;have ry0:(X.hire s).G1 0=some s:=upd_same X.G1 0 (some s);have ep0:count (upd live gs.size true) (gs.size+1)=count live gs.size+1:=by
  show sumTo gs.size _+_=_;rw[show sumTo gs.size (fun i=>if upd live gs.size true i=true then 1 else 0)=count live gs.size from Aq0 true (Nat.le_refl _)];show _+(if upd live gs.size true gs.size=true then 1 else 0)=_;rw[upd_same];rfl
 have n2:((gs.setIfInBounds 0 g').push child).size=gs.size+1:=by simp
 refine hF (upd live gs.size true) _ _ _ W4 (upd q 0 nh) (by rw[<- C.num,Array.getElem?_push,if_pos (by simp)]) ?_;rw[<- C.num];refine⟨C.O9,fun x y hx hy=>?_,by rw[k6 _ hc0];exact rx0.2.1,by rw[n2];omega,by rw[n2,C.num];rfl,C.stays,C.chans,fun i s2 e=>?_,fun i i' s1 s2 e1 e2 hc=>?_,C.X3,C.P9,C.C7,fun G' e=>⟨(C.K2 G' e).1,?_⟩,C.old,fun x hx=>?_,?_,fun i hi=>?_,fun i hi hor=>?_,((hD _).trans rx0.1).trans eu0.symm,?_⟩
 ·have hxl:x<gs.size:=by
   have:=(Array.getElem?_eq_some_iff.1 hy).1;rw[n2]at this;omega
  rw[Array.getElem?_push,if_neg (by simp;omega)]at hy;unfold Idle;by_cases e:x=0
  ·subst e;rw[Array.getElem?_setIfInBounds_self_of_lt h0]at hy;obtain rfl:=Option.some.inj hy;rw[ry0,upd_same];exact rv0
  ·rw[Array.getElem?_setIfInBounds_ne (fun z=>e z.symm)]at hy;rw[k6 x e,hD,upd_ne q nh e,upd_ne live true (show x≠gs.size by omega)];have:=C.idle x y e hy;unfold Idle at this;exact this
 ·by_cases e0:i=0
  ·subst e0;rw[ry0]at e;obtain rfl:=Option.some.inj e;exact R5
  ·rw[k6 i e0]at e;exact C.R3 i s2 e
 ·by_cases a:i=0 <;> by_cases b:i'=0
  ·rw[a,b]
  ·subst a;rw[ry0]at e1;rw[k6 i' b]at e2;obtain rfl:=Option.some.inj e1;exact absurd hc.symm (e8 i' s2 e2)
  ·subst b;rw[ry0]at e2;rw[k6 i a]at e1;obtain rfl:=Option.some.inj e2;exact absurd hc (e8 i s1 e1)
  ·rw[k6 i a]at e1;rw[k6 i' b]at e2;exact C.inj i i' s1 s2 e1 e2 hc
 ·have:=(C.K2 G' e).2;rw[hy0]at this;rw[n2,ep0];exact this
 ·rw[n2]at hx;have:=C.above x (by omega);exact⟨by rw[hD];exact this.1,by rw[k6 x (by omega)];exact this.2.1,by rw[upd_ne live true (by omega)];exact this.2.2.1,this.2.2.2⟩
 ·rw[n2,ep0];have:=C.few;rw[hy0]at this;exact this
 ·by_cases e:i=gs.size
  ·subst e;exact⟨hc0,by show X.K2≠none;rw[hG];simp⟩
  ·rw[upd_ne live true e]at hi;exact C.ca0 i hi
 ·by_cases e:i=gs.size
  ·subst e;exact upd_same _ _ _
  ·rw[upd_ne live true e];rw[k6 i hi]at hor;exact C.ag0 i hi (.inl (hor.resolve_right e))
 ·refine((p.leave (Us':=Us (upd live gs.size true)) fun x hx=>?_).fewer (Mem':=(X.hire s).Mem gs.size) fun x hx=>?_).loosen fun x hx=>?_
  ·rcases hx with hx|hx
   ·exact .inl (.inl hx)
   ·by_cases e:x=gs.size
    ·exact .inr e
    ·rw[upd_ne live true e]at hx;exact .inl (.inr hx)
  ·rcases hx with⟨e,_⟩|hx
   ·exact .inr e
   ·by_cases e:x=0
    ·exact .inl (.inl ⟨e,eu0⟩)
    ·rw[k6 x e]at hx;exact .inl (.inr hx)
  ·refine⟨fun e=>?_,?_⟩
   ·subst e;exact hx.2 rx0.2.1
   ·rw[k6 x hx.1];exact hx.2
end
end
section
attribute [local irreducible] KK
structure Base (X:Gh) (u:World) (use:Nat->Bool) (T:Trace) (n:Nat) (w:World):Prop where
 O9:∃ρ,D5 ρ (W2 u w.tape w.drawn) w/\∀b,¬X.low b->ρ b=X.C4 b
 free:X.G1 0=none
 size:0<n
 num:n=X.n
 stays:∀i p,p∈X.stay i->u.cell? p.1=some p.2/\u.frozen? p.1=true
 chans:∀c,X.A7 c->bp0 u c/\X.X3 c=none/\∃k,w.heap[c]? =some (.chan 0 #[] false k k false)
 R3:∀i s,X.G1 i=some s->X.A7 s.ch
 inj:∀i j s s',X.G1 i=some s->X.G1 j=some s'->s.ch=s'.ch->i=j
 X3:∀b o,X.X3 b=some o->bp0 u b/\Z3 o=false/\∃p y,w.heap[b]? =some y/\bo0 p o y
 P9:∀G,X.K2=some G->X.low G.blk
 C7:(∀c,X.A7 c->X.low c)/\X.Sep
 cut:∀G,X.K2=some G->Cut u G
 old:∀G∈X.old,Cut u G
 above:∀j,n <=j->Deaf T j=0/\X.G1 j=none/\use j=false/\X.stay j=[]
 ca0:∀i,use i=true->i≠0/\X.K2≠none
 ag0:∀i,X.G1 i≠none->i≠0->use i=true
 dfn:Deaf T 0=X.dn
 past:PastH X.Sh (Us use) X.St (X.Mem 0) (X.Lo 0) 0 T
section
variable {P:Program}{X:Gh}{u:World}{live use use':Nat->Bool}{T:Trace}{gs:Array Goroutine}{w w':World}{q:Nat->Nat}{n:Nat}
theorem Ring.base (C:Ring P X 0 u live T gs w q):Base X u live T gs.size w :=
 ⟨C.O9,C.free,C.size,C.num,C.stays,C.chans,C.R3,C.inj,C.X3,C.P9,C.C7,fun G e=>(C.K2 G e).1,C.old,C.above,C.ca0,fun i h hi=>C.ag0 i hi (.inl h),C.dfn,C.past⟩
theorem Base.ring (B:Base X u live T gs.size w) (hi:∀i g,i≠0->gs[i]? =some g->Idle P X live T i (q i) g) (hg:∀G,X.K2=some G->q7 G (((count live gs.size+X.pend)*KK:Nat):Int) 0 w) (hf:count live gs.size+X.pend <=X.cap/\X.cap <=65536):Ring P X 0 u live T gs w q :=
 ⟨B.O9,hi,B.free,B.size,B.num,B.stays,B.chans,B.R3,B.inj,B.X3,B.P9,B.C7,fun G e=>⟨B.cut G e,hg G e⟩,B.old,B.above,hf,B.ca0,fun i hi h=>h.elim (fun z=>B.ag0 i z hi) fun z=>absurd z hi,B.dfn,B.past⟩
theorem Base.Cj0 (B:Base X u use T n w) {i:Nat} {l:Loc} (hl:X.St i l):l.isMemory=true/\¬X.Sh l:=by
 obtain⟨p,hp,rfl⟩:=hl;refine⟨rfl,?_⟩;rintro⟨a',G,hG,ha,hb,ho⟩;simp only[Loc.cell.injEq]at ha;subst ha;have hc:Cut u G:=hG.elim (B.cut G) (B.old G);obtain⟨c,T1,f,hc,hs⟩:=hc;obtain⟨c',T',f',D6,_,hv'⟩:=B4 (B.stays i p hp).1;rw[hb,hc]at D6;cases D6;have:=(Array.getElem?_eq_some_iff.1 hv').1;omega
def GEv (G:H4) (x:Nat) (e:Event):Prop:=(∀b,(MemAct.ofEvent e).touch? =some b->(∃a,b.loc= .cell a/\a.block=G.blk/\G.off <=a.off)/\b.kind≠.plain/\(x≠0->b.kind= .atomic))/\∀a,e.loc≠.mark (.release a)
theorem ch0 {G:H4} {x:Nat} {e:Event} (h:wd0 e=true):GEv G x e:=⟨fun b hb=>(by rw[N7 h]at hb;cases hb),fun a ha=>by unfold wd0 at h;rw[ha]at h;cases h⟩
theorem tv0 {G:H4} {x:Nat} {e:Event} (h:Event.mute e=true):GEv G x e:=⟨fun b hb=>(by rw[touch_mute h]at hb;cases hb),fun a ha=>by
 obtain⟨l,w,s⟩:=e;cases ha;cases h⟩
theorem Base.step (B:Base X u use T n w) {x:Nat} {fn:FuncId} {pos:String} {es:Array Event} {G:H4} (hG:X.K2=some G) (hx:x<n) (hsx:X.G1 x=none) (r9:∀e∈es,GEv G x e) (hu:(∀e∈es,(MemAct.ofEvent e).touch? =none)\/(x=0\/use x=true/\∀k,k<es.size->deafBehind (Deaf T x) (es.extract 0 k)≠0))
  (hus:∀i,use' i=true->use i=true) (hls:∀i,X.G1 i≠none->i≠0->use' i=true) {pend cap dn:Nat} (z8:dn=if x=0 then deafBehind X.dn es else X.dn) (gg0:∃ρ,D5 ρ (W2 u w'.tape w'.drawn) w'/\∀b,¬X.low b->ρ b=X.C4 b) (m8:∀b,b≠G.blk->w'.heap[b]? =w.heap[b]?) :
  Base {X with pend:=pend,cap:=cap,dn:=dn} u use' (T++MemOp.ofEvents x fn pos es) n w':=by
 have hgn:∀b,(X.A7 b\/X.X3 b≠none)->w'.heap[b]? =w.heap[b]?:=fun b hb=>m8 b (fun e=>by
  subst e;have:=B.C7.2 G (.inl hG);exact hb.elim this.1 fun z=>z this.2)
 have do0:∀op∈MemOp.ofEvents x fn pos es,op.g=x:=r2;have hd0:Deaf (T++MemOp.ofEvents x fn pos es) 0=dn:=by
  by_cases e:x=0
  ·subst e;rw[Deaf_own,B.dfn,z8,if_pos rfl]
  ·rw[Deaf_other T e _ do0,B.dfn,z8,if_neg e]
 refine⟨gg0,B.free,B.size,B.num,B.stays,fun c hc=>⟨(B.chans c hc).1,(B.chans c hc).2.1,?_⟩,B.R3,B.inj,fun b o e=>?_,B.P9,B.C7,B.cut,B.old,fun j hj=>?_,fun i hi=>B.ca0 i (hus i hi),hls,hd0,?_⟩
 ·obtain⟨k,hk⟩:=(B.chans c hc).2.2;exact⟨k,(hgn c (.inl hc)).trans hk⟩
 ·obtain⟨h1,h2,p,y,h3,h4⟩:=B.X3 b o e;exact⟨h1,h2,p,y,(hgn b (.inr (by have e':X.X3 b=some o:=e;rw[e'];simp))).trans h3,h4⟩
 ·have:=B.above j hj;refine⟨by rw[Deaf_other T (g':=x) (by omega) _ do0];exact this.1,this.2.1,?_,this.2.2.2⟩;cases e:use' j with
  |false=>rfl
  |true=>have:=hus j e;rw[this]at *;simp_all
 ·have H0:Past X.Sh (Us use) X.St (fun g=>X.G1 g≠none) (X.Lo 0) (Knows T 0) T:=B.past.fewer fun g hg=>.inr hg;have hh:∀g',X.G1 g'≠none->Deaf (T++MemOp.ofEvents x fn pos es) g'=0:=fun g' r6=>by
   rw[Deaf_other T (show x≠g' from fun e=>r6 (by rw[<- e];exact hsx)) _ do0];exact H0.hears g' r6
  have p1:Past X.Sh (Us use) X.St (fun g=>X.G1 g≠none) (X.Lo 0) (Knows (T++MemOp.ofEvents x fn pos es) 0) (T++MemOp.ofEvents x fn pos es):=by
   rcases hu with hu|hu
   ·exact H0.appMute (g:=x) (fun i=>Knows.app _) (fun op C5=>by obtain⟨e,he,rfl⟩:=Go.Conc.mem_ofEvents C5;exact hu e he) hh
   ·refine H0.Mh0 (g:=x) (hu.elim (fun e=>.inl e) fun e=>.inr e.1) (fun g l hl=>(B.Cj0 hl).2) (fun i=>Knows.app _) do0 (fun op C5 b hb=>?_) (fun D3 i hi1 hi2=>?_) hh
    ·obtain⟨e,he,rfl⟩:=Go.Conc.mem_ofEvents C5;obtain⟨⟨a,h1,h2,h3⟩,h4⟩:=(r9 e he).1 b hb;exact⟨⟨a,G,.inl hG,h1,h2,h3⟩,h4⟩
    ·obtain⟨m,rfl⟩:∃m,i=T.size+m:=⟨i-T.size,by omega⟩
     have hm:m<es.size:=by
      have n2:(MemOp.ofEvents x fn pos es).size=es.size:=by rw[ofEvents_eq];simp
      omega
     rw[Go.Conc.deaf_inside T x fn pos es m (Nat.le_of_lt hm)];exact(hu.resolve_left D3).2 m hm
  refine PastH.still (p1.leave (Us':=Us use') fun g hg=>hg.imp id (hus g)) (fun z=>z.1 rfl) (fun _ _ _=>Iff.rfl) (fun l hl=>B.Cj0 hl) (fun g hg=>?_) (fun hg=>?_)
  ·rcases hg with⟨e,_⟩|hg
   ·exact .inr e
   ·exact .inl hg
  ·rcases hg with⟨_,e⟩|hg
   ·exact hd0.trans e
   ·exact absurd B.free hg
end
end
section
attribute [local irreducible] KK
def oq0 (P:Program) (G:H4) (g g':Goroutine) (es:Array Event):Prop :=
 g.status= .running/\g'.status= .running/\(∀e∈es,GEv G 0 e)/\∀w st sm,q7 G st sm w->stepG P true g w= .go g' w es
def It0 (P:Program) (G:H4) (K:Goroutine->Prop):Nat->Nat->Goroutine->Prop
 |0,d,g=>d=0/\K g
 |n+1,d,g=>(d=0/\K g)\/∃g' es,oq0 P G g g' es/\It0 P G K n (deafBehind d es) g'
def Ck0 (P:Program) (G:H4) (K:Goroutine->Prop):Nat->Nat->Goroutine->Prop
 |0,_,_=>False
 |n+1,d,g=>(∃g' es,oq0 P G g g' es/\Ck0 P G K n (deafBehind d es) g')\/(g.status= .running/\∀v:Nat,v<2147483647->∃g',g'.status= .running /\
   (∀w,q7 G ((v*KK:Nat):Int) 0 w->stepG P true g w= .go g' (w.setCell (stA G) (.int .u64 (((v+1)*KK:Nat):Int))) #[rdA (stA G),wrA (stA G)])/\It0 P G K n d g')
section
variable {P:Program}{Post:Value->World->Prop}{X:Gh}{u:World}{live:Nat->Bool}{T:Trace}{gs:Array Goroutine}{w w':World}{q:Nat->Nat}
theorem Ring.main (C:Ring P X 0 u live T gs w q) {G:H4} (hG:X.K2=some G) {g g':Goroutine} {es:Array Event} (r9:∀e∈es,GEv G 0 e) {pend cap:Nat} (gg0:∃ρ,D5 ρ (W2 u w'.tape w'.drawn) w'/\∀b,¬X.low b->ρ b=X.C4 b) (m8:∀b,b≠G.blk->w'.heap[b]? =w.heap[b]?)
  (hat:q7 G (((count live gs.size+pend)*KK:Nat):Int) 0 w') (hf:count live gs.size+pend <=cap/\cap <=65536) :
  Ring P {X with pend:=pend,cap:=cap,dn:=deafBehind X.dn es} 0 u live (T++MemOp.ofEvents 0 g.frame.fn g.frame.place es) ((gs.map (woken P g g' w')).setIfInBounds 0 g') w' q/\((gs.map (woken P g g' w')).setIfInBounds 0 g')[0]? =some g':=by
 have n2:((gs.map (woken P g g' w')).setIfInBounds 0 g').size=gs.size:=by simp
 refine⟨?_,Array.getElem?_setIfInBounds_self_of_lt (by simpa using C.size)⟩;have B:=C.base.step (fn:=g.frame.fn) (pos:=g.frame.place) (use':=live) (pend:=pend) (cap:=cap) hG C.size C.free r9 (.inr (.inl rfl)) (fun _ h=>h) (fun i h hi=>C.ag0 i hi (.inl h)) (dn:=deafBehind X.dn es) (by rw[if_pos rfl]) gg0 m8;rw[<- n2]at B;refine B.ring (fun i y hi hy=>?_) (fun G' e=>?_) (by rw[n2];exact hf)
 ·rw[Array.getElem?_setIfInBounds_ne (fun e=>hi e.symm),Array.getElem?_map]at hy;obtain⟨y₀,hy₀,rfl⟩:=Option.map_eq_some_iff.1 hy;have X3:=C.idle i y₀ hi hy₀;rw[woken_of_again (X3.again (w:=w') fun s e=>?_)]
  ·exact X3.other (fun z=>hi z.symm) r2
  ·obtain⟨k,hk⟩:=(C.chans _ (C.R3 i s e)).2.2;exact⟨k,(m8 _ fun e2=>(C.C7.2 G (.inl hG)).1 (e2▸C.R3 i s e)).trans hk⟩
 ·have e':X.K2=some G':=e;rw[hG]at e';obtain rfl:=Option.some.inj e';rw[n2];exact hat
theorem Fin.Tp0 {G:H4} {g g':Goroutine} {es:Array Event} (hG:X.K2=some G) (hh:oq0 P G g g' es) (hF:Fin P Post {X with dn:=deafBehind X.dn es} 0 g' u):Fin P Post X 0 g u:=by
 obtain⟨hr,_,r9,P2⟩:=hh;refine Fin.Q8 hr fun live T gs w sl d W4 q hg u3 C=>?_;have hat:=(C.K2 G hG).2;obtain⟨C',G2⟩:=C.main hG (g:=g) (g':=g') r9 (w':=w.at d) C.O9 (fun _ _=>rfl) hat C.few;exact Ends.step (u3.trans (runT_crowd_go (sl:=W4) (i:=0) hg (P2 _ _ _ hat))) (hF _ _ _ _ _ _ G2 C')
theorem Fin.Tq0 {G:H4} (hG:X.K2=some G) {K:Goroutine->Prop} (hK:∀g,K g->Fin P Post {X with dn:=0} 0 g u):∀(n d:Nat) (g:Goroutine),It0 P G K n d g->Fin P Post {X with dn:=d} 0 g u
 |0,d,g,h=>by obtain⟨rfl,h⟩:=h;exact hK g h
 |n+1,d,g,h=>by
  rcases h with⟨rfl,h⟩|⟨g',es,hh,h⟩
  ·exact hK g h
  ·exact Fin.Tp0 (X:={X with dn:=d}) hG hh (Fin.Tq0 hG hK n _ g' h)
theorem x9 {G:H4} {x:Nat}:∀e∈#[rdA (stA G),wrA (stA G)],GEv G x e:=by
 intro e he;simp only[List.mem_toArray,List.mem_cons,List.not_mem_nil,or_false]at he;refine⟨fun b hb=>?_,by rcases he with rfl|rfl <;> simp[rdA,wrA]⟩;rcases he with rfl|rfl <;> simp[rdA,wrA,MemAct.ofEvent,MemAct.touch?]at hb <;> subst hb <;> exact⟨⟨stA G,rfl,rfl,Nat.le_refl _⟩,by simp,fun _=>rfl⟩
theorem gh0 {G:H4} (d:Nat):deafBehind d #[rdA (stA G),wrA (stA G)]=d:=rfl
theorem Fin.Cl0 {G:H4} (hG:X.K2=some G) (hp:X.pend=0) (hc:X.cap<65536) {K:Goroutine->Prop} (hK:∀g,K g->Fin P Post {X with pend:=1,cap:=X.cap+1,dn:=0} 0 g u):∀(n d:Nat) (g:Goroutine),Ck0 P G K n d g->Fin P Post {X with dn:=d} 0 g u
 |0,d,g,h=>h.elim
 |n+1,d,g,h=>by
  unfold Ck0 at h;rcases h with⟨g',es,hh,h⟩|⟨hr,tt0⟩
  ·exact Fin.Tp0 (X:={X with dn:=d}) hG hh (Fin.Cl0 hG hp hc hK n _ g' h)
  ·refine Fin.Q8 hr fun live T gs w sl dd W4 q hg u3 C=>?_;have hat:=(C.K2 G hG).2;have lz0:=C.few;have hp':({X with dn:=d}:Gh).pend=0:=hp;rw[hp',Nat.add_zero]at hat lz0;have dv1:count live gs.size <=X.cap:=lz0.1;obtain⟨g',hr',P2,hB⟩:=tt0 (count live gs.size) (by omega);obtain⟨ρ,hs,hlw⟩:=C.O9;have ma0:=(C.K2 G hG).1;obtain⟨ρ',h1,h2⟩:=D5.setSt hs ma0 hat (((count live gs.size+1)*KK:Nat):Int);obtain⟨C',G2⟩:=C.main hG (g:=g) (g':=g') (pend:=1) (cap:=X.cap+1) x9 (w':=(w.at dd).setCell (stA G) (.int .u64 (((count live gs.size+1)*KK:Nat):Int)))
    ⟨ρ',h1,fun b hb=>(h2 b fun e=>hb (e▸C.P9 G hG)).trans (hlw b hb)⟩ (fun b hb=>C1 _ _ hb) (hat.setSt _) ⟨by omega,by omega⟩
   refine Ends.step (u3.trans (runT_crowd_go (sl:=W4) (i:=0) hg (P2 _ hat))) ?_;rw[gh0]at C';exact Fin.Tq0 (X:={X with pend:=1,cap:=X.cap+1}) hG hK n d g' hB _ _ _ _ _ _ G2 C'
theorem Fin.ends {g:Goroutine} {v:Value} (hr:g.status= .running) (e8:∀i,X.G1 i=none) (cg0:X.cap=0) (P2:∀w,stepG P true g w= .ended (.done v) w #[])
  (Tr0:∀ρ w,D5 ρ (W2 u w.tape w.drawn) w->(∀b,¬X.low b->ρ b=X.C4 b)->Post v w):Fin P Post X 0 g u:=by
 refine Fin.Q8 hr fun live T gs w sl d W4 q hg u3 C=>?_;have hz:count live gs.size+X.pend=0:=by have:=C.few;omega
 have js0:∀i,live i=false:=fun i=>by
  rcases Nat.lt_or_ge i gs.size with hi|hi
  ·cases e:live i with
   |false=>rfl
   |true=>have:=count_le hi e;omega
  ·exact(C.above i hi).2.2.1
 have hq:∀i g,i≠0->gs[i]? =some g->QuitsD P (q i) (Deaf T i) g:=fun i g hi hg=>by
  have:=C.idle i g hi hg;unfold Idle at this;rw[e8 i]at this;simp only[js0,Bool.false_eq_true,if_false]at this;exact this.2
 have hrt:=runT_many_ended (P:=P) (sl:=W4) (i:=0) hg (P2 (w.at d));rw[show(MemOp.ofEvents 0 g.frame.fn g.frame.place #[]:Array MemOp)=#[] from rfl]at hrt;have jq0:=u3.trans hrt;obtain⟨ρ,hs,hlw⟩:=C.O9;refine⟨0,crowd gs w sl,_,_,T,by simp only[runNT,jq0];simp,rfl,by unfold step;rw[jq0],v,rfl,Tr0 ρ (w.at d) hs hlw,C.past.clean,C.past.over (.inl rfl) (fun x hx=>hx.2 (e8 x)),⟨fun x hx=>?_,rfl⟩,fun j x hx hj=>?_⟩
 ·obtain⟨j,hj⟩:=List.mem_iff_getElem?.1 hx;rw[List.getElem?_drop]at hj;exact⟨_,(hq (1+j) x (by omega) (by simpa [crowd]using hj)).leaves⟩
 ·exact⟨q j,(hq j x hj hx).hears _⟩
end
end
section
attribute [local irreducible] KK
section
variable (P:Program)(G:H4)(K:Goroutine->Prop)(E:Nat->Nat->Goroutine->Prop)
def WE:Nat->Nat->Goroutine->Prop
 |0,d,g=>d=0/\K g
 |n+1,d,g=>(d=0/\K g)\/∃g' es,g.status= .running/\(∀e∈es,GEv G 0 e)/\(∀w,q7 G 0 0 w->stepG P true g w= .go g' w es)/\WE n (deafBehind d es) g'
def Cm0 (n d:Nat) (g:Goroutine):Prop :=
 g.status= .running/\g.offers=none/\(∀w st,q7 G st 0 w->stepG P true g w= .go {g with status:=.blocked} w #[])/\∃g',(∀w,q7 G 0 1 w->stepG P true g w= .go g' (w.setCell (smA G) (.int .u32 0)) (semEvents (smA G)))/\E n d g'
def WS:Nat->Nat->Goroutine->Prop
 |0,_,_=>False
 |n+1,d,g=>(∃g' es,oq0 P G g g' es/\WS n (deafBehind d es) g')\/(0<d/\Cm0 P G E n d g)
def WH:Nat->Option Nat->Nat->Nat->Goroutine->Prop
 |0,_,_,_,_=>False
 |n+1,o,V,d,g=>(∃g' es,oq0 P G g g' es/\WH n o V (deafBehind d es) g')\/(g.status= .running/\match o with
  |none=>∀v:Nat,v <=V->∃g',(∀w,q7 G ((v*KK:Nat):Int) 0 w->stepG P true g w= .go g' w #[rdA (stA G)])/\(v=0->E n d g')/\(v≠0->WH n (some v) V d g')
  |some vs=>(∃g',(∀w,q7 G ((vs*KK:Nat):Int) 0 w->stepG P true g w= .go g' (w.setCell (stA G) (.int .u64 ((vs*KK+1:Nat):Int))) #[rdA (stA G),wrA (stA G)])/\WS P G E n d g') /\
    ∀v:Nat,v<vs->∃g',(∀w,q7 G ((v*KK:Nat):Int) 0 w->stepG P true g w= .go g' w #[rdA (stA G)])/\WH n none v d g')
end
inductive Md where
 |free
 |wait
 |last (i s:Nat)
 |done
def Ar0 (m:Md) (c:Nat):Int×Int:=match m with
 | .free=>(((c*KK:Nat):Int),0)
 | .wait=>(((c*KK+1:Nat):Int),0)
 | .last _ 0=>(0,0)
 | .last _ (_+1)=>(1,0)
 | .done=>(0,1)
def L7 (lv:Nat->Bool) (m:Md) (i:Nat):Bool:=lv i ||(match m with| .last j _=>i==j|_=>false)
def x6 (P:Program) (G:H4) (lv:Nat->Bool) (m:Md) (T:Trace) (i n:Nat) (g:Goroutine):Prop :=
 if lv i then Lt P G n (Deaf T i) g else match m with
  | .last j s=>if i=j then Lst P G n s (Deaf T i) g else QuitsD P n (Deaf T i) g
  |_=>QuitsD P n (Deaf T i) g
def posOf (m:Md) (lv:Nat->Bool) (n:Nat):Prop:=match m with
 | .free=>True
 | .wait=>0<count lv n
 | .last i s=>count lv n=0/\i≠0/\i<n/\lv i=false/\s <=2
 | .done=>count lv n=0
structure Wr (P:Program) (X:Gh) (G:H4) (u:World) (lv:Nat->Bool) (m:Md) (d:Nat) (T:Trace) (gs:Array Goroutine) (w:World) (q:Nat->Nat):Prop where
 base:Base {X with pend:=0,cap:=0,dn:=d} u (L7 lv m) T gs.size w
 K2:X.K2=some G
 empty:∀i,X.G1 i=none
 idle:∀i g,i≠0->gs[i]? =some g->x6 P G lv m T i (q i) g
 o6:q7 G (Ar0 m (count lv gs.size)).1 (Ar0 m (count lv gs.size)).2 w
 pos:posOf m lv gs.size
 few:count lv gs.size <=65536
theorem x6.status {P:Program} {G:H4} {lv:Nat->Bool} {m:Md} {T:Trace} {i n:Nat} {g:Goroutine} (h:x6 P G lv m T i n g):g.status= .running\/g.status= .finished:=by
 unfold x6 at h;split at h
 ·exact .inl h.running
 ·split at h
  ·split at h
   ·exact .inl h.running
   ·exact h.status
  ·exact h.status
theorem x6.other {P:Program} {G:H4} {lv lv':Nat->Bool} {m m':Md} {T:Trace} {i n x:Nat} {g:Goroutine} (h:x6 P G lv m T i n g) (hx:x≠i) {ops:Trace} (do0:∀op∈ops,op.g=x) (hl:lv' i=lv i) (hm:m'=m\/((∀s,m≠.last i s)/\∀s,m'≠.last i s)):x6 P G lv' m' (T++ops) i n g:=by
 unfold x6 at h⊢;rw[Deaf_other T hx ops do0,hl];rcases hm with rfl|⟨h1,h2⟩
 ·exact h
 ·cases hlv:lv i with
  |true=>rw[hlv]at h;exact h
  |false=>
   rw[hlv]at h;simp only[Bool.false_eq_true,if_false]at h⊢;have h3:QuitsD P n (Deaf T i) g:=by
    cases m with
    |last j s=>simp only at h;rw[if_neg (fun e=>h1 s (by rw[e]))]at h;exact h
    |_=>exact h
   cases m' with
   |last j s=>simp only;rw[if_neg (fun e=>h2 s (by rw[e]))];exact h3
   |_=>exact h3
section
variable {P:Program}{X:Gh}{G:H4}{u:World}{lv:Nat->Bool}{m:Md}{d:Nat}{T:Trace}{gs:Array Goroutine}{w:World}{q:Nat->Nat}
theorem Wr.move (C:Wr P X G u lv m d T gs w q) {i n:Nat} {g g':Goroutine} {es:Array Event} {w':World} {lv':Nat->Bool} {m':Md} {sl:Option (Nat×Nat)} (hi:gs[i]? =some g) (D3:i≠0) (P2:stepG P false g w= .go g' w' es) (r9:∀e∈es,GEv G i e)
  (hu:(∀e∈es,(MemAct.ofEvent e).touch? =none)\/(L7 lv m i=true/\∀k,k<es.size->deafBehind (Deaf T i) (es.extract 0 k)≠0)) (hus:∀j,L7 lv' m' j=true->L7 lv m j=true) (gg0:∃ρ,D5 ρ (W2 u w'.tape w'.drawn) w'/\∀b,¬X.low b->ρ b=X.C4 b) (m8:∀b,b≠G.blk->w'.heap[b]? =w.heap[b]?)
  (hq:q i=n+1) (jp0:x6 P G lv' m' (T++MemOp.ofEvents i g.frame.fn g.frame.place es) i n g') (hl:∀j,j≠i->lv' j=lv j) (hm:m'=m\/((∀j,j≠i->∀s,m≠.last j s)/\∀j,j≠i->∀s,m'≠.last j s)) (dp0:q7 G (Ar0 m' (count lv' gs.size)).1 (Ar0 m' (count lv' gs.size)).2 w')
  (ts0:posOf m' lv' gs.size) (ep0:count lv' gs.size <=count lv gs.size) :
  ∃E4 ops q',runT P (crowd gs w sl) i=(.next (crowd E4 w' sl),ops)/\E4.size=gs.size/\(∀g0,gs[0]? =some g0->E4[0]? =some (woken P g g' w' g0))/\Wr P X G u lv' m' d (T++ops) E4 w' q'/\sumTo E4.size q'<sumTo gs.size q:=by
 have R2:i<gs.size:=(Array.getElem?_eq_some_iff.1 hi).1;have hi0:(i==0)=false:=by simpa using D3
 have n2:((gs.map (woken P g g' w')).setIfInBounds i g').size=gs.size:=by simp
 refine⟨_,_,upd q i n,runT_crowd_go (sl:=sl) hi (by rw[hi0];exact P2),n2,fun g0 h0=>?_,⟨?_,C.K2,C.empty,fun x y hx hy=>?_,by rw[n2];exact dp0,by rw[n2];exact ts0,by rw[n2];exact Nat.le_trans ep0 C.few⟩,?_⟩
 ·rw[Array.getElem?_setIfInBounds_ne D3,Array.getElem?_map,h0];rfl
 ·rw[n2];exact C.base.step (fn:=g.frame.fn) (pos:=g.frame.place) (G:=G) C.K2 R2 (C.empty i) r9 (hu.imp id .inr) hus (fun j hj=>absurd (C.empty j) hj) (by rw[if_neg D3]) gg0 m8
 ·by_cases e:x=i
  ·subst e;rw[Array.getElem?_setIfInBounds_self_of_lt (by simpa using R2)]at hy;obtain rfl:=Option.some.inj hy;rw[upd_same];exact jp0
  ·rw[Array.getElem?_setIfInBounds_ne (fun z=>e z.symm),Array.getElem?_map]at hy;obtain⟨y₀,hy₀,rfl⟩:=Option.map_eq_some_iff.1 hy;have h1:=C.idle x y₀ hx hy₀;rw[woken_of_again (again_of_running h1.status w'),upd_ne q n e];exact h1.other (fun z=>e z.symm) r2 (hl x e) (hm.imp id fun z=>⟨z.1 x e,z.2 x e⟩)
 ·rw[n2];have h2:sumTo gs.size (upd q i n)+(n+1)=sumTo gs.size q+n:=by
   have:=sumTo_upd q n id R2;simpa [hq]using this
  omega
end
end
section
attribute [local irreducible] KK
theorem jd0 {G:H4} {x:Nat}:∀e∈semEvents (smA G),GEv G x e:=by
 intro e he;simp only[semEvents,List.mem_toArray,List.mem_cons,List.not_mem_nil,or_false]at he;refine⟨fun b hb=>?_,by rcases he with rfl|rfl|rfl|rfl <;> simp⟩;rcases he with rfl|rfl|rfl|rfl <;> simp[MemAct.ofEvent,MemAct.touch?]at hb <;> subst hb <;> exact⟨⟨smA G,rfl,rfl,Nat.le_succ _⟩,by simp,fun _=>rfl⟩
theorem ev0 {G:H4} (d:Nat):deafBehind d (semEvents (smA G))=d:=by
 simp[deafBehind,semEvents]
theorem ia0 {G:H4} {d:Nat} (hd:0<d):∀k,k<(semEvents (smA G)).size->deafBehind d ((semEvents (smA G)).extract 0 k)≠0:=by
 intro k hk;have hk:k<4:=hk;rcases k with _|_|_|_|k <;> first|omega|(simp[semEvents,deafBehind];try omega)
theorem O7 {d:Nat} {es:Array Event} (h:∀e∈es,e.loc≠.mark .disable/\e.loc≠.mark .enable) (k:Nat):deafBehind d (es.extract 0 k)=d :=
 deafBehind_still (fun e he=>h e (by
  obtain⟨j,hj,rfl⟩:=Array.mem_iff_getElem.1 he;simp only[Array.getElem_extract];exact Array.getElem_mem _)) d
theorem gi0 {G:H4} {x:Nat}:∀e∈#[rdA (stA G)],GEv G x e:=by
 intro e he;simp only[List.mem_toArray,List.mem_cons,List.not_mem_nil,or_false]at he;subst he;refine⟨fun b hb=>?_,by simp[rdA]⟩;simp[rdA,MemAct.ofEvent,MemAct.touch?]at hb;subst hb;exact⟨⟨stA G,rfl,rfl,Nat.le_refl _⟩,by simp,fun _=>rfl⟩
theorem Cn0 {G:H4} {x:Nat}:∀e∈#[wrA (stA G)],GEv G x e:=by
 intro e he;simp only[List.mem_toArray,List.mem_cons,List.not_mem_nil,or_false]at he;subst he;refine⟨fun b hb=>?_,by simp[wrA]⟩;simp[wrA,MemAct.ofEvent,MemAct.touch?]at hb;subst hb;exact⟨⟨stA G,rfl,rfl,Nat.le_refl _⟩,by simp,fun _=>rfl⟩
theorem je0 {a:Addr}:∀e∈#[rdA a,wrA a],e.loc≠.mark .disable/\e.loc≠.mark .enable:=by
 intro e he;simp only[List.mem_toArray,List.mem_cons,List.not_mem_nil,or_false]at he;rcases he with rfl|rfl <;> exact⟨by simp[rdA,wrA],by simp[rdA,wrA]⟩
theorem n8 {a:Addr}:∀e∈#[rdA a],e.loc≠.mark .disable/\e.loc≠.mark .enable:=by
 intro e he;simp only[List.mem_toArray,List.mem_cons,List.not_mem_nil,or_false]at he;subst he;exact⟨by simp[rdA],by simp[rdA]⟩
theorem ew0 {a:Addr}:∀e∈#[wrA a],e.loc≠.mark .disable/\e.loc≠.mark .enable:=by
 intro e he;simp only[List.mem_toArray,List.mem_cons,List.not_mem_nil,or_false]at he;subst he;exact⟨by simp[wrA],by simp[wrA]⟩
section
variable {P:Program}{X:Gh}{G:H4}{u:World}{lv:Nat->Bool}{m:Md}{d:Nat}{T:Trace}{gs:Array Goroutine}{w:World}{q:Nat->Nat}
theorem tw0 (P:Program) (g g':Goroutine) (w':World) (g0:Goroutine):woken P g g' w' g0=g0\/woken P g g' w' g0=g0.again w':=by
 unfold woken;split
 ·exact .inr rfl
 ·exact .inl rfl
theorem Wr.jt0 (C:Wr P X G u lv m d T gs w q) (v:Int):∃ρ,D5 ρ (W2 u (w.setCell (stA G) (.int .u64 v)).tape (w.setCell (stA G) (.int .u64 v)).drawn) (w.setCell (stA G) (.int .u64 v))/\∀b,¬X.low b->ρ b=X.C4 b:=by
 obtain⟨ρ,hs,hlw⟩:=C.base.O9;obtain⟨ρ',h1,h2⟩:=D5.setSt hs (C.base.cut G C.K2) C.o6 v;exact⟨ρ',h1,fun b hb=>(h2 b fun e=>hb (e▸C.base.P9 G C.K2)).trans (hlw b hb)⟩
theorem Wr.Co0 (C:Wr P X G u lv m d T gs w q) (v:Int):∃ρ,D5 ρ (W2 u (w.setCell (smA G) (.int .u32 v)).tape (w.setCell (smA G) (.int .u32 v)).drawn) (w.setCell (smA G) (.int .u32 v))/\∀b,¬X.low b->ρ b=X.C4 b:=by
 obtain⟨ρ,hs,hlw⟩:=C.base.O9;obtain⟨ρ',h1,h2⟩:=D5.setSm hs (C.base.cut G C.K2) C.o6 v;exact⟨ρ',h1,fun b hb=>(h2 b fun e=>hb (e▸C.base.P9 G C.K2)).trans (hlw b hb)⟩
def Cp0 (P:Program) (X:Gh) (G:H4) (u:World) (lv:Nat->Bool) (m:Md) (d:Nat) (T:Trace) (gs:Array Goroutine) (w:World) (q:Nat->Nat) (i:Nat) (sl:Option (Nat×Nat)):Prop :=
 ∃E4 ops q' w' lv' m',runT P (crowd gs w sl) i=(.next (crowd E4 w' sl),ops)/\E4.size=gs.size/\(∀g0,gs[0]? =some g0->E4[0]? =some g0\/E4[0]? =some (g0.again w'))/\Wr P X G u lv' m' d (T++ops) E4 w' q'/\sumTo E4.size q'<sumTo gs.size q /\
   count lv' E4.size <=count lv gs.size/\(m= .free↔m'= .free)/\(m'= .done->m= .done\/∀g0,gs[0]? =some g0->E4[0]? =some (g0.again w'))
theorem Wr.by (C:Wr P X G u lv m d T gs w q) {i:Nat} {g:Goroutine} {sl:Option (Nat×Nat)} (hi:gs[i]? =some g) (D3:i≠0) (e4:g.status= .running) :
  Cp0 P X G u lv m d T gs w q i sl:=by
 have R2:i<gs.size:=(Array.getElem?_eq_some_iff.1 hi).1;have X3:=C.idle i g D3 hi;have pack:∀{g':Goroutine} {w':World} {lv':Nat->Bool} {m':Md} {es:Array Event},(∃E4 ops q',runT P (crowd gs w sl) i=(.next (crowd E4 w' sl),ops)/\E4.size=gs.size/\(∀g0,gs[0]? =some g0->E4[0]? =some (woken P g g' w' g0))/\Wr P X G u lv' m' d (T++ops) E4 w' q'/\sumTo E4.size q'<sumTo gs.size q) ->
   count lv' gs.size <=count lv gs.size->(m= .free↔m'= .free)->(m'= .done->m= .done\/∀g0,woken P g g' w' g0=g0.again w')->Cp0 P X G u lv m d T gs w q i sl:=by
  rintro g' w' lv' m' es ⟨E4,ops,q',h1,h2,h3,h4,h5⟩ hc hf hd;refine⟨E4,ops,q',w',lv',m',h1,h2,fun g0 h0=>?_,h4,h5,by rw[h2];exact hc,hf,fun e=>(hd e).imp id fun z g0 h0=>?_⟩
  ·rw[h3 g0 h0];rcases tw0 P g g' w' g0 with e|e <;> rw[e]
   ·exact .inl rfl
   ·exact .inr rfl
  ·rw[h3 g0 h0,z g0]
 unfold x6 at X3;cases hl:lv i with
 |true=>
  rw[hl]at X3;simp only[if_true]at X3;have ts0:=count_le R2 hl;cases hq:q i with
  |zero=>rw[hq]at X3;exact X3.elim
  |succ k=>
   rw[hq]at X3;unfold Lt at X3;rcases X3 with⟨g',es,⟨_,hsy,u3⟩,hL⟩|⟨_,hd0,tt0⟩
   ·refine pack (es:=es) (C.move (sl:=sl) hi D3 (u3 w _ _ C.o6) (fun e he=>ch0 (hsy e he)) (.inl fun e he=>N7 (hsy e he)) (fun _ h=>h) C.base.O9 (fun _ _=>rfl) hq ?_ (fun _ _=>rfl) (.inl rfl) C.o6 C.pos (Nat.le_refl _)) (Nat.le_refl _) Iff.rfl fun e=>.inl e;unfold x6;rw[hl,if_pos rfl,Deaf_own];exact hL
   ·have ep0:=oi0 hl R2;generalize hv:count (upd lv i false) gs.size=v at ep0;have hvb:v<2147483647:=by have:=C.few;omega
    have hdf:L7 lv m i=true/\∀j,j < #[rdA (stA G),wrA (stA G)].size->deafBehind (Deaf T i) (#[rdA (stA G),wrA (stA G)].extract 0 j)≠0:=⟨by unfold L7;rw[hl];rfl,fun j _=>by rw[O7 je0];omega⟩
    have hdd:Deaf (T++MemOp.ofEvents i g.frame.fn g.frame.place #[rdA (stA G),wrA (stA G)]) i=Deaf T i:=by rw[Deaf_own];exact deafBehind_still je0 _
    have hus:∀(m':Md),(∀j s,m'= .last j s->j=i)->(∀j s,m≠.last j s)->∀j,L7 (upd lv i false) m' j=true->L7 lv m j=true:=fun m' hm1 hm2 j hj=>by
     unfold L7 at hj⊢;by_cases e:j=i
     ·subst e;rw[hl];rfl
     ·rw[upd_ne lv false e]at hj;cases h2:lv j with
      |true=>rfl
      |false=>
       rw[h2]at hj;cases m' with
       |last j' s'=>have:=hm1 j' s' rfl;subst this;simp[e]at hj
       |_=>simp at hj
    cases m with
    |free=>
     obtain⟨g',u3,et0,_⟩:=tt0 v 0 (by omega) hvb;have hg:q7 G (((v+1)*KK+0:Nat):Int) 0 w:=by have:=C.o6;rw[ep0]at this;exact this
     have P2:=u3 w hg;rw[Nat.add_zero]at P2;refine pack (es:=#[rdA (stA G),wrA (stA G)]) (C.move (sl:=sl) (m':=.free) (lv':=upd lv i false) hi D3 P2 x9 (.inr hdf) (hus .free (fun _ _ e=>by cases e) (fun _ _ e=>by cases e)) (C.jt0 _) (fun b hb=>C1 _ _ hb) hq ?_ (fun j hj=>upd_ne lv false hj) (.inl rfl) ?_ trivial (by omega)) (by omega) Iff.rfl fun e=>.inl e
     ·unfold x6;rw[upd_same,if_neg (by simp),hdd];exact et0 (by omega)
     ·have:=C.o6.setSt ((v*KK:Nat):Int);rw[hv];exact this
    |wait=>
     obtain⟨g',u3,et0,Cq0⟩:=tt0 v 1 (by omega) hvb;have hg:q7 G (((v+1)*KK+1:Nat):Int) 0 w:=by have:=C.o6;rw[ep0]at this;exact this
     have P2:=u3 w hg;by_cases hv0:v=0
     ·subst hv0;refine pack (es:=#[rdA (stA G),wrA (stA G)]) (C.move (sl:=sl) (m':=.last i 2) (lv':=upd lv i false) hi D3 P2 x9 (.inr hdf) (hus (.last i 2) (fun j s e=>by cases e;rfl) (fun _ _ e=>by cases e)) (C.jt0 _) (fun b hb=>C1 _ _ hb) hq ?_ (fun j hj=>upd_ne lv false hj)
       (.inr ⟨fun j _ s e=>(by cases e),fun j hj s e=>(by cases e;exact hj rfl)⟩) ?_ ⟨hv,D3,R2,upd_same _ _ _,Nat.le_refl _⟩ (by omega)) (by omega) ⟨fun e=>(by cases e),fun e=>(by cases e)⟩ fun e=>by cases e
      ·unfold x6;rw[upd_same,if_neg (by simp)];simp only[if_true];rw[hdd];exact Cq0 ⟨rfl,rfl⟩
      ·have:=C.o6.setSt ((0*KK+1:Nat):Int);have e1:((0*KK+1:Nat):Int)=1:=by rw[Nat.zero_mul];rfl
       rw[e1]at this⊢;exact this
     ·refine pack (es:=#[rdA (stA G),wrA (stA G)]) (C.move (sl:=sl) (m':=.wait) (lv':=upd lv i false) hi D3 P2 x9 (.inr hdf) (hus .wait (fun _ _ e=>by cases e) (fun _ _ e=>by cases e)) (C.jt0 _) (fun b hb=>C1 _ _ hb) hq ?_ (fun j hj=>upd_ne lv false hj) (.inl rfl) ?_ (by show 0<count _ _;omega) (by omega)) (by omega) Iff.rfl fun e=>.inl e
      ·unfold x6;rw[upd_same,if_neg (by simp),hdd];exact et0 (by omega)
      ·have:=C.o6.setSt ((v*KK+1:Nat):Int);rw[hv];exact this
    |last j s=>have:=C.pos.1;omega
    |done=>have:count lv gs.size=0:=C.pos;omega
 |false=>
  rw[hl]at X3;simp only[Bool.false_eq_true,if_false]at X3;have quit:QuitsD P (q i) (Deaf T i) g->(∀s,m≠.last i s)->Cp0 P X G u lv m d T gs w q i sl:=fun hQ hml=>by
   cases hq:q i with
   |zero=>rw[hq]at hQ;rw[hQ.1]at e4;cases e4
   |succ k=>
    rw[hq]at hQ;rcases hQ with⟨hf,_⟩|⟨_,g',es,hm,u3,hQ⟩
    ·rw[hf]at e4;cases e4
    ·refine pack (es:=es) (C.move (sl:=sl) hi D3 (u3 w) (fun e he=>tv0 (hm e he)) (.inl fun e he=>touch_mute (hm e he)) (fun _ h=>h) C.base.O9 (fun _ _=>rfl) hq ?_ (fun _ _=>rfl) (.inl rfl) C.o6 C.pos (Nat.le_refl _)) (Nat.le_refl _) Iff.rfl fun e=>.inl e;unfold x6;rw[hl,if_neg (by simp),Deaf_own];cases m with
     |last j s=>simp only;rw[if_neg (fun e=>hml s (by rw[e]))];exact hQ
     |_=>exact hQ
  cases m with
  |last j s=>
   simp only at X3;by_cases hij:i=j
   ·subst hij;rw[if_pos rfl]at X3;obtain⟨hc0,_,_,_,hs2⟩:=C.pos;have Ol0:L7 lv (.last i s) i=true:=by unfold L7;simp
    cases hq:q i with
    |zero=>rw[hq]at X3;exact X3.elim
    |succ k=>
     rw[hq]at X3;unfold Lst at X3;obtain⟨hd0,X3⟩:=X3;rcases X3 with⟨g',es,⟨_,hsy,u3⟩,hnm,hL⟩|⟨_,X3⟩
     ·refine pack (es:=es) (C.move (sl:=sl) hi D3 (u3 w _ _ C.o6) (fun e he=>ch0 (hsy e he)) (.inl fun e he=>N7 (hsy e he)) (fun _ h=>h) C.base.O9 (fun _ _=>rfl) hq ?_ (fun _ _=>rfl) (.inl rfl) C.o6 C.pos (Nat.le_refl _)) (Nat.le_refl _) Iff.rfl fun e=>.inl e;unfold x6;rw[hl,if_neg (by simp)];simp only[if_true];rw[Deaf_own,deafBehind_still hnm];exact hL
     ·rcases s with _|_|_|s
      ·
       simp only at X3;obtain⟨hwk,g',u3,hQ⟩:=X3;have P2:=u3 w C.o6;refine pack (es:=semEvents (smA G)) (C.move (sl:=sl) (m':=.done) (lv':=lv) hi D3 P2 jd0 (.inr ⟨Ol0,ia0 hd0⟩) (fun j hj=>by unfold L7 at hj⊢;simp at hj;rw[hj];rfl) (C.Co0 _) (fun b hb=>C1 _ _ hb) hq ?_ (fun _ _=>rfl) (.inr ⟨fun j hj s e=>(by cases e;exact hj rfl),fun j _ s e=>(by cases e)⟩) (C.o6.setSm _) hc0 (Nat.le_refl _)) (Nat.le_refl _) ⟨fun e=>(by cases e),fun e=>(by cases e)⟩ fun _=>.inr fun g0=>?_
       ·unfold x6;rw[hl,if_neg (by simp),Deaf_own,ev0];exact hQ
       ·unfold woken;rw[if_pos];rw[hwk];rcases hQ.status with e|e <;> rw[e] <;> rfl
      ·simp only at X3;obtain⟨g',u3,hL⟩:=X3;have P2:=u3 w C.o6;refine pack (es:=#[wrA (stA G)]) (C.move (sl:=sl) (m':=.last i 0) (lv':=lv) hi D3 P2 Cn0 (.inr ⟨Ol0,fun j _=>by rw[O7 ew0];omega⟩) (fun j hj=>hj) (C.jt0 _) (fun b hb=>C1 _ _ hb) hq ?_ (fun _ _=>rfl) (.inr ⟨fun j hj s e=>(by cases e;exact hj rfl),fun j hj s e=>(by cases e;exact hj rfl)⟩) (C.o6.setSt _) ⟨hc0,D3,R2,hl,by omega⟩ (Nat.le_refl _)) (Nat.le_refl _) ⟨fun e=>(by cases e),fun e=>(by cases e)⟩ fun e=>by cases e
       unfold x6;rw[hl,if_neg (by simp)];simp only[if_true];rw[Deaf_own,deafBehind_still ew0];exact hL
      ·simp only at X3;obtain⟨g',u3,hL⟩:=X3;have P2:=u3 w C.o6;refine pack (es:=#[rdA (stA G)]) (C.move (sl:=sl) (m':=.last i 1) (lv':=lv) hi D3 P2 gi0 (.inr ⟨Ol0,fun j _=>by rw[O7 n8];omega⟩) (fun j hj=>hj) C.base.O9 (fun b hb=>rfl) hq ?_ (fun _ _=>rfl) (.inr ⟨fun j hj s e=>(by cases e;exact hj rfl),fun j hj s e=>(by cases e;exact hj rfl)⟩) C.o6 ⟨hc0,D3,R2,hl,by omega⟩ (Nat.le_refl _)) (Nat.le_refl _) ⟨fun e=>(by cases e),fun e=>(by cases e)⟩ fun e=>by cases e
       unfold x6;rw[hl,if_neg (by simp)];simp only[if_true];rw[Deaf_own,deafBehind_still n8];exact hL
      ·omega
   ·rw[if_neg hij]at X3;exact quit X3 fun s' e=>by cases e;exact hij rfl
  |free=>exact quit X3 fun s e=>by cases e
  |wait=>exact quit X3 fun s e=>by cases e
  |done=>exact quit X3 fun s e=>by cases e
end
end
section
attribute [local irreducible] KK
theorem ju0 {lv:Nat->Bool}:∀{n:Nat},0<count lv n->∃i,i<n/\lv i=true
 |0,h=>by simp[count,sumTo]at h
 |n+1,h=>by
  cases e:lv n with
  |true=>exact⟨n,by omega,e⟩
  |false=>
   have:count lv (n+1)=count lv n:=by
    show sumTo n _+(if lv n then 1 else 0)=_;rw[e];rfl
   obtain⟨i,h1,h2⟩:=ju0 (n:=n) (by rw[<- this];exact h);exact⟨i,by omega,h2⟩
theorem jv0 (lv:Nat->Bool):L7 lv .free=lv:=funext fun i=>by unfold L7;simp
section
variable {P:Program}{Post:Value->World->Prop}{X:Gh}{G:H4}{u:World}{lv:Nat->Bool}{m:Md}{d:Nat}{T:Trace}{gs:Array Goroutine}{w:World}{q:Nat->Nat}{K:Goroutine->Prop}
theorem Fin.we (hG:X.K2=some G) (hK:∀g,K g->Fin P Post {X with pend:=0,cap:=0,dn:=0} 0 g u):∀(n d:Nat) (g:Goroutine),WE P G K n d g->Fin P Post {X with pend:=0,cap:=0,dn:=d} 0 g u
 |0,d,g,h=>by obtain⟨rfl,h⟩:=h;exact hK g h
 |n+1,d,g,h=>by
  rcases h with⟨rfl,h⟩|⟨g',es,hr,r9,P2,h⟩
  ·exact hK g h
  ·refine Fin.Q8 hr fun live T gs w sl dd W4 q hg u3 C=>?_;have hat:=(C.K2 G hG).2;have lz0:=C.few;have hc:count live gs.size=0:=by have h1:count live gs.size+0 <=0:=lz0.1;omega
   have hz:(((count live gs.size+0)*KK:Nat):Int)=0:=by rw[hc,Nat.zero_add,Nat.zero_mul];rfl
   have ad1:q7 G 0 0 (w.at dd):=by have h2:q7 G (((count live gs.size+0)*KK:Nat):Int) 0 (w.at dd):=hat;rw[hz]at h2;exact h2
   obtain⟨C',G2⟩:=C.main hG (g:=g) (g':=g') (pend:=0) (cap:=0) r9 (w':=w.at dd) C.O9 (fun _ _=>rfl) hat lz0;exact Ends.step (u3.trans (runT_crowd_go (sl:=W4) (i:=0) hg (P2 _ ad1))) (Fin.we hG hK n _ g' h _ _ _ _ _ _ G2 C')
theorem Wr.toRing (C:Wr P X G u lv .free d T gs w q) (hc:count lv gs.size=0):Ring P {X with pend:=0,cap:=0,dn:=d} 0 u lv T gs w q:=by
 have B:=C.base;rw[jv0]at B;refine B.ring (fun i g hi hg=>?_) (fun G' e=>?_) ⟨?_,by show(0:Nat) <=65536;omega⟩
 ·have:=C.idle i g hi hg;have R2:i<gs.size:=(Array.getElem?_eq_some_iff.1 hg).1;have hl:lv i=false:=by
   cases e:lv i with
   |false=>rfl
   |true=>have:=count_le R2 e;omega
  unfold x6 at this;unfold Idle;rw[show({X with pend:=0,cap:=0,dn:=d}:Gh).G1 i=none from C.empty i];rw[hl]at this⊢;simp only[Bool.false_eq_true,if_false]at this⊢;exact⟨by omega,this⟩
 ·have e':X.K2=some G':=e;rw[C.K2]at e';obtain rfl:=Option.some.inj e';have:=C.o6;exact this
 ·show count lv gs.size+0 <=0;omega
theorem Wr.at (C:Wr P X G u lv m d T gs w q) (k:Nat):Wr P X G u lv m d T gs (w.at k) q :=
 ⟨⟨let⟨ρ,hs,hl⟩:=C.base.O9;⟨ρ,D5.at hs k,hl⟩,C.base.free,C.base.size,C.base.num,C.base.stays,C.base.chans,C.base.R3,C.base.inj,C.base.X3,C.base.P9,C.base.C7,C.base.cut,C.base.old,C.base.above,C.base.ca0,C.base.ag0,C.base.dfn,C.base.past⟩,C.K2,C.empty,C.idle,C.o6,C.pos,C.few⟩
theorem Wr.awake (C:Wr P X G u lv m d T gs w q) {a:Goroutine} (ha:gs[0]? =some a) (hs:a.status= .running\/a.status= .blocked):∀g∈gs,awake g:=by
 intro g hg;obtain⟨i,hi,rfl⟩:=Array.mem_iff_getElem.1 hg;by_cases e:i=0
 ·subst e;have:gs[0]=a:=by simpa [Array.getElem?_eq_getElem hi]using ha
  rw[this];exact awake_of (hs.elim .inl fun x=>.inr (.inl x))
 ·exact awake_of ((C.idle i _ e (Array.getElem?_eq_getElem hi)).status.elim .inl fun x=>.inr (.inr x))
theorem Wr.main (C:Wr P X G u lv m d T gs w q) {g g':Goroutine} {es:Array Event} {w':World} {m':Md} (r9:∀e∈es,GEv G 0 e) (gg0:∃ρ,D5 ρ (W2 u w'.tape w'.drawn) w'/\∀b,¬X.low b->ρ b=X.C4 b) (m8:∀b,b≠G.blk->w'.heap[b]? =w.heap[b]?)
  (hm:m'=m\/((∀j s,m≠.last j s)/\∀j s,m'≠.last j s)) (dp0:q7 G (Ar0 m' (count lv gs.size)).1 (Ar0 m' (count lv gs.size)).2 w') (ts0:posOf m' lv gs.size) :
  Wr P X G u lv m' (deafBehind d es) (T++MemOp.ofEvents 0 g.frame.fn g.frame.place es) ((gs.map (woken P g g' w')).setIfInBounds 0 g') w' q/\((gs.map (woken P g g' w')).setIfInBounds 0 g')[0]? =some g':=by
 have n2:((gs.map (woken P g g' w')).setIfInBounds 0 g').size=gs.size:=by simp
 have hus:∀j,L7 lv m' j=true->L7 lv m j=true:=fun j hj=>by
  rcases hm with rfl|⟨h1,h2⟩
  ·exact hj
  ·unfold L7 at hj⊢;cases m' with
   |last j s=>exact absurd rfl (h2 j s)
   |_=>simp at hj;rw[hj];rfl
 refine⟨⟨?_,C.K2,C.empty,fun x y hx hy=>?_,by rw[n2];exact dp0,by rw[n2];exact ts0,by rw[n2];exact C.few⟩,Array.getElem?_setIfInBounds_self_of_lt (by simpa using C.base.size)⟩
 ·rw[n2];exact C.base.step (fn:=g.frame.fn) (pos:=g.frame.place) (G:=G) C.K2 C.base.size (C.empty 0) r9 (.inr (.inl rfl)) hus (fun j hj=>absurd (C.empty j) hj) (by rw[if_pos rfl]) gg0 m8
 ·rw[Array.getElem?_setIfInBounds_ne (fun z=>hx z.symm),Array.getElem?_map]at hy;obtain⟨y₀,hy₀,rfl⟩:=Option.map_eq_some_iff.1 hy;have h1:=C.idle x y₀ hx hy₀;rw[woken_of_again (again_of_running h1.status w')];exact h1.other (fun z=>hx z.symm) r2 rfl (hm.imp id fun z=>⟨z.1 x,z.2 x⟩)
theorem again_blocked {g:Goroutine} (hr:g.status= .running) (ho:g.offers=none) (w:World):({g with status:=.blocked}:Goroutine).again w=g:=by
 cases g;simp only at hr ho;subst hr;subst ho;rfl
theorem Fin.sem (hG:X.K2=some G) (hK:∀g,K g->Fin P Post {X with pend:=0,cap:=0,dn:=0} 0 g u):∀(μ n d:Nat) (g:Goroutine) (b:Bool) lv m T gs w sl q,μ=3*sumTo gs.size q+3*n+(if b then 1 else 0)->Wr P X G u lv m d T gs w q->m≠.free ->
  (if b then gs[0]? =some g/\WS P G (WE P G K) n d g else m≠.done/\gs[0]? =some {g with status:=.blocked}/\∃k,n=k+1/\0<d/\Cm0 P G (WE P G K) k d g)->Ends P Post (crowd gs w sl) T:=by
 intro μ
 induction μ using Nat.strongRecOn with
 |_ μ ih=>
  intro n d g b lv m T gs w sl q hμ C hmf hb;have tx0:(∃(i:Nat) (g:Goroutine),gs[i]? =some g/\g.status= .running)/\∀g∈gs,awake g:=by
   cases b with
   |true=>
    obtain⟨h0,hW⟩:=hb;have hr:g.status= .running:=by
     cases n with
     |zero=>exact hW.elim
     |succ n=>
      rcases hW with⟨_,_,hh,_⟩|⟨_,hh⟩
      ·exact hh.1
      ·exact hh.1
    exact⟨⟨0,g,h0,hr⟩,C.awake h0 (.inl hr)⟩
   |false=>
    obtain⟨hmd,h0,k,_,_,_⟩:=hb;refine⟨?_,C.awake h0 (.inr rfl)⟩;cases m with
    |free=>exact absurd rfl hmf
    |done=>exact absurd rfl hmd
    |wait=>
     obtain⟨i,hi,hl⟩:=ju0 (show 0<count lv gs.size from C.pos);have hi0:i≠0:=(C.base.ca0 i (by unfold L7;rw[hl];rfl)).1;have:=C.idle i gs[i] hi0 (Array.getElem?_eq_getElem hi);unfold x6 at this;rw[hl,if_pos rfl]at this;exact⟨i,gs[i],Array.getElem?_eq_getElem hi,this.running⟩
    |last i s=>
     obtain⟨_,hi0,hi,hl,_⟩:=C.pos;have:=C.idle i gs[i] hi0 (Array.getElem?_eq_getElem hi);unfold x6 at this;rw[hl,if_neg (by simp)]at this;simp only[if_true]at this;exact⟨i,gs[i],Array.getElem?_eq_getElem hi,this.running⟩
  obtain⟨i,gi,dd,W4,hi,hgi,P2⟩:=crowd_pick (P:=P) (w:=w) (sl:=sl) tx0.2 tx0.1;have Cd:=C.at dd;by_cases e:i=0
  ·subst e;cases b with
   |false=>obtain⟨_,h0,_⟩:=hb;rw[h0]at hi;obtain rfl:=Option.some.inj hi;cases hgi
   |true=>
    obtain⟨h0,hW⟩:=hb;rw[h0]at hi;obtain rfl:=Option.some.inj hi;cases n with
    |zero=>exact hW.elim
    |succ n=>
     rcases hW with⟨g',es,⟨_,_,r9,u3⟩,hW⟩|⟨hd0,hr,ho,rz0,g',Cr0,hE⟩
     ·obtain⟨C',G2⟩:=Cd.main (g:=g) (g':=g') (m':=m) r9 Cd.base.O9 (fun _ _=>rfl) (.inl rfl) Cd.o6 Cd.pos;exact Ends.step (P2.trans (runT_crowd_go (sl:=W4) (i:=0) h0 (u3 _ _ _ Cd.o6))) (ih _ (by simp only[Array.size_setIfInBounds,Array.size_map];rw[hμ];simp only[if_true];omega) n _ g' true lv m _ _ _ W4 q rfl C' hmf ⟨G2,hW⟩)
     ·have blk:m≠.done->(∃st,q7 G st 0 (w.at dd))->Ends P Post (crowd gs w sl) T:=fun hmd ⟨st,hat⟩=>by
       have hgo:=rz0 _ _ hat;have hrt:=runT_crowd_go (P:=P) (sl:=W4) (i:=0) h0 hgo;rw[show(MemOp.ofEvents 0 g.frame.fn g.frame.place #[]:Array MemOp)=#[] from rfl]at hrt;obtain⟨C',G2⟩:=Cd.main (g:=g) (g':={g with status:=.blocked}) (es:=#[]) (m':=m) (fun e he=>by simp at he) Cd.base.O9 (fun _ _=>rfl) (.inl rfl) Cd.o6 Cd.pos;rw[show(MemOp.ofEvents 0 g.frame.fn g.frame.place #[]:Array MemOp)=#[] from rfl]at C';exact Ends.step (P2.trans hrt) (ih _ (by simp only[Array.size_setIfInBounds,Array.size_map];rw[hμ];simp) (n+1) d g false lv m _ _ _ W4 q rfl C' hmf ⟨hmd,G2,n,rfl,hd0,hr,ho,rz0,g',Cr0,hE⟩)
      cases m with
      |free=>exact absurd rfl hmf
      |wait=>exact blk (fun e=>by cases e) ⟨_,Cd.o6⟩
      |last i s=>exact blk (fun e=>by cases e) (by
        have:=Cd.o6;cases s with
        |zero=>exact⟨_,this⟩
        |succ s=>exact⟨_,this⟩)
      |done=>
       obtain⟨C',G2⟩:=Cd.main (g:=g) (g':=g') (es:=semEvents (smA G)) (m':=.free) (w':=(w.at dd).setCell (smA G) (.int .u32 0)) jd0 (Cd.Co0 0) (fun b hb=>C1 _ _ hb) (.inr ⟨fun j s e=>(by cases e),fun j s e=>(by cases e)⟩)
        (by
         have h1:count lv gs.size=0:=Cd.pos;have h2:q7 G 0 0 _:=Cd.o6.setSm 0;have h3:(((count lv gs.size)*KK:Nat):Int)=0:=by rw[h1,Nat.zero_mul];rfl
         show q7 G (((count lv gs.size)*KK:Nat):Int) 0 _;rw[h3];exact h2) trivial
       rw[ev0]at C';have R:=C'.toRing (by simp only[Array.size_setIfInBounds,Array.size_map];exact Cd.pos);exact Ends.step (P2.trans (runT_crowd_go (sl:=W4) (i:=0) h0 (Cr0 _ Cd.o6))) (Fin.we hG hK n d g' hE _ _ _ _ W4 _ G2 R)
  ·obtain⟨E4,ops,q',w',lv',m',hrt,n2,h0',C',R2,_,Cs0,Ct0⟩:=Cd.by (sl:=W4) hi e hgi
   have Om0:m'≠.free:=fun e=>hmf (Cs0.2 e);refine Ends.step (P2.trans hrt) ?_;cases b with
   |true=>
    obtain⟨h0,hW⟩:=hb;have hr:g.status= .running:=by
     cases n with
     |zero=>exact hW.elim
     |succ n=>
      rcases hW with⟨_,_,hh,_⟩|⟨_,hh⟩
      ·exact hh.1
      ·exact hh.1
    refine ih _ (by rw[hμ];simp only[if_true];omega) n d g true lv' m' _ E4 w' W4 q' rfl C' Om0 ⟨?_,hW⟩;rcases h0' g h0 with z|z
    ·exact z
    ·rw[again_of_running (.inl hr)]at z;exact z
   |false=>
    obtain⟨hmd,h0,k,hk,hd0,sa0⟩:=hb;have hA:E4[0]? =some (({g with status:=.blocked}:Goroutine).again w')->Ends P Post (crowd E4 w' W4) (T++ops):=fun z=>by
     rw[again_blocked sa0.1 sa0.2.1]at z;exact ih _ (by rw[hμ];simp only[if_true];simp;omega) n d g true lv' m' _ E4 w' W4 q' rfl C' Om0 ⟨z,by rw[hk];exact .inr ⟨hd0,sa0⟩⟩
    by_cases z8:m'= .done
    ·exact hA ((Ct0 z8).resolve_left hmd _ h0)
    ·rcases h0' _ h0 with z|z
     ·exact ih _ (by rw[hμ];simp;omega) n d g false lv' m' _ E4 w' W4 q' rfl C' Om0 ⟨z8,z,k,hk,hd0,sa0⟩
     ·exact hA z
end
end
section
attribute [local irreducible] KK
section
variable {P:Program}{Post:Value->World->Prop}{X:Gh}{G:H4}{u:World}{K:Goroutine->Prop}
theorem Fin.head (hG:X.K2=some G) (hK:∀g,K g->Fin P Post {X with pend:=0,cap:=0,dn:=0} 0 g u):∀(μ n:Nat) (o:Option Nat) (V d:Nat) (g:Goroutine) lv T gs w sl q,μ=n+sumTo gs.size q->Wr P X G u lv .free d T gs w q->gs[0]? =some g->WH P G (WE P G K) n o V d g->0<d\/True ->
  (match o with|none=>count lv gs.size <=V|some vs=>0<vs/\count lv gs.size <=vs)->Ends P Post (crowd gs w sl) T:=by
 intro μ
 induction μ using Nat.strongRecOn with
 |_ μ ih=>
  intro n o V d g lv T gs w sl q hμ C h0 hW _ hV;cases n with
  |zero=>exact hW.elim
  |succ n=>
   have hr:g.status= .running:=by
    unfold WH at hW;rcases hW with⟨_,_,hh,_⟩|hh
    ·exact hh.1
    ·exact hh.1
   obtain⟨i,gi,dd,W4,hi,hgi,P2⟩:=crowd_pick (P:=P) (w:=w) (sl:=sl) (C.awake h0 (.inl hr)) ⟨0,g,h0,hr⟩;have Cd:=C.at dd;by_cases e:i=0
   ·subst e;rw[h0]at hi;obtain rfl:=Option.some.inj hi;have hat:q7 G ((count lv gs.size*KK:Nat):Int) 0 (w.at dd):=Cd.o6;unfold WH at hW;rcases hW with⟨g',es,⟨_,_,r9,u3⟩,hW⟩|⟨_,hW⟩
    ·obtain⟨C',G2⟩:=Cd.main (g:=g) (g':=g') (m':=.free) r9 Cd.base.O9 (fun _ _=>rfl) (.inl rfl) Cd.o6 Cd.pos;exact Ends.step (P2.trans (runT_crowd_go (sl:=W4) (i:=0) h0 (u3 _ _ _ Cd.o6))) (ih _ (by simp only[Array.size_setIfInBounds,Array.size_map];omega) n o V _ g' lv _ _ _ W4 q rfl C' G2 hW (.inr trivial) (by simpa using hV))
    ·have jw0:∀g',stepG P true g (w.at dd)= .go g' (w.at dd) #[rdA (stA G)]->(∀T' E4,Wr P X G u lv .free d T' E4 (w.at dd) q->E4.size=gs.size->E4[0]? =some g'->Ends P Post (crowd E4 (w.at dd) W4) T')->Ends P Post (crowd gs w sl) T:=fun g' hgo hk=>by
      obtain⟨C',G2⟩:=Cd.main (g:=g) (g':=g') (es:=#[rdA (stA G)]) (m':=.free) gi0 Cd.base.O9 (fun _ _=>rfl) (.inl rfl) Cd.o6 Cd.pos;rw[deafBehind_still n8]at C';exact Ends.step (P2.trans (runT_crowd_go (sl:=W4) (i:=0) h0 hgo)) (hk _ _ C' (by simp) G2)
     cases o with
     |none=>
      have hV':count lv gs.size <=V:=hV;obtain⟨g',u3,hz,hnz⟩:=hW (count lv gs.size) hV';refine jw0 g' (u3 _ hat) fun T' E4 C' n2 G2=>?_;by_cases hc:count lv gs.size=0
      ·exact Fin.we hG hK n d g' (hz hc) _ _ _ _ W4 _ G2 (C'.toRing (by rw[n2];exact hc))
      ·exact ih _ (by rw[n2];omega) n (some (count lv gs.size)) V d g' lv T' E4 _ W4 q rfl C' G2 (hnz hc) (.inr trivial) ⟨by omega,by rw[n2];exact Nat.le_refl _⟩
     |some vs=>
      obtain⟨hvs,hle⟩:=hV;obtain⟨⟨g1,As0,hS⟩,Cu0⟩:=hW;by_cases hc:count lv gs.size=vs
      ·subst hc;obtain⟨C',G2⟩:=Cd.main (g:=g) (g':=g1) (es:=#[rdA (stA G),wrA (stA G)]) (m':=.wait) x9 (Cd.jt0 ((count lv gs.size*KK+1:Nat):Int)) (fun b hb=>C1 _ _ hb) (.inr ⟨fun j s e=>(by cases e),fun j s e=>(by cases e)⟩) (Cd.o6.setSt _) hvs;rw[gh0]at C';exact Ends.step (P2.trans (runT_crowd_go (sl:=W4) (i:=0) h0 (As0 _ hat))) (Fin.sem hG hK _ n d g1 true lv .wait _ _ _ W4 q rfl C' (fun e=>(by cases e)) ⟨G2,hS⟩)
      ·obtain⟨g',u3,hH⟩:=Cu0 (count lv gs.size) (by omega);refine jw0 g' (u3 _ hat) fun T' E4 C' n2 G2=>?_;exact ih _ (by rw[n2];omega) n none (count lv gs.size) d g' lv T' E4 _ W4 q rfl C' G2 hH (.inr trivial) (by rw[n2];exact Nat.le_refl _)
   ·obtain⟨E4,ops,q',w',lv',m',hrt,n2,h0',C',R2,y6,Cs0,_⟩:=Cd.by (sl:=W4) hi e hgi
    have hmf:m'= .free:=Cs0.1 rfl;subst hmf;refine Ends.step (P2.trans hrt) (ih _ (by omega) (n+1) o V d g lv' _ E4 w' W4 q' rfl C' ?_ hW (.inr trivial) ?_)
    ·rcases h0' g h0 with z|z
     ·exact z
     ·rw[again_of_running (.inl hr)]at z;exact z
    ·cases o with
     |none=>exact Nat.le_trans y6 hV
     |some vs=>exact⟨hV.1,Nat.le_trans y6 hV.2⟩
theorem Fin.wait {g:Goroutine} {n:Nat} (hG:X.K2=some G) (e8:∀i,X.G1 i=none) (hp:X.pend=0) (hd:X.dn=0) (hW:WH P G (WE P G K) n none X.cap 0 g) (hK:∀g,K g->Fin P Post {X with pend:=0,cap:=0,dn:=0} 0 g u):Fin P Post X 0 g u:=by
 intro live T gs w sl q hg C;have hat:=(C.K2 G hG).2;have lz0:=C.few;rw[hp,Nat.add_zero]at hat lz0;have B:=C.base;refine Fin.head hG hK _ n none X.cap 0 g live T gs w sl q rfl ⟨?_,hG,e8,fun i y hi hy=>?_,hat,trivial,by omega⟩ hg hW (.inr trivial) lz0.1
 ·rw[jv0];exact⟨B.O9,B.free,B.size,B.num,B.stays,B.chans,B.R3,B.inj,B.X3,B.P9,B.C7,B.cut,B.old,B.above,B.ca0,B.ag0,B.dfn.trans hd,by
   have:=B.past;refine this.fewer fun x hx=>?_;rcases hx with⟨e,_⟩|hx
   ·exact .inl ⟨e,hd⟩
   ·exact .inr hx⟩
 ·have:=C.idle i y hi hy;unfold Idle at this;rw[e8 i]at this;unfold x6;obtain⟨_,this⟩:=this;cases e:live i with
  |true=>
   rw[e]at this;simp only[if_true]at this⊢;obtain⟨G',hG',hL⟩:=this;rw[hG]at hG';obtain rfl:=Option.some.inj hG';exact hL
  |false=>
   rw[e]at this;simp only[Bool.false_eq_true,if_false]at this⊢;exact this
end
end
section
attribute [local irreducible] KK
def jx0 (w:World):World:={w with heap:=w.heap.map fun o=>if Z3 o then nothing else o}
def X0 (w:World):Gh where
 G1:=fun _=>none
 stay:=fun _=>[]
 K2:=none
 old:=[]
 X3:=fun _=>none
 A7:=fun _=>False
 low:=fun _=>False
 C4:=fun b=>match w.heap[b]? with
  |some o=>if Z3 o then .gone o else .all
  |none=>.all
 cap:=0
 pend:=0
 dn:=0
 n:=1
theorem Cv0 (w:World) (n:Nat):(X0 w).M8 n :=
 ⟨fun _ _ h=>(by cases h),fun _ _ h=>(by cases h),fun _ h=>h.elim,fun _ h=>h.elim (fun z=>(by cases z)) fun z=>(by cases z),fun _ h=>h.elim⟩
theorem yz0 {w:World} {b:Nat} (h:w.heap.size <=b):(X0 w).C4 b= .all:=by
 show(match w.heap[b]? with|some o=>if Z3 o then c6.gone o else .all|none=>.all)=_;rw[Array.getElem?_eq_none h]
theorem Cw0 (w:World):D5 (X0 w).C4 (W2 (jx0 w) w.tape w.drawn) w:=by
 refine⟨rfl,rfl,rfl,rfl,by simp[W2,jx0],fun b x hx=>?_,fun b hb=>yz0 (by simpa [W2,jx0]using hb),fun b x hx=>?_⟩
 ·have W3:(w.heap.map fun o=>if Z3 o then nothing else o)[b]? =some x:=hx;rw[Array.getElem?_map]at W3;obtain⟨o,ho,rfl⟩:=Option.map_eq_some_iff.1 W3;refine⟨o,ho,?_⟩;show bo0 (match w.heap[b]? with|some o=>if Z3 o then c6.gone o else .all|none=>.all) _ _;rw[ho];cases hv:Z3 o
  ·simp only[hv,Bool.false_eq_true,if_false];exact .same o
  ·simp only[hv,if_true];exact .gone _ _ _
 ·have W3:(w.heap.map fun o=>if Z3 o then nothing else o)[b]? =some x:=hx;rw[Array.getElem?_map]at W3;obtain⟨o,ho,rfl⟩:=Option.map_eq_some_iff.1 W3;cases hv:Z3 o
  ·simp[hv]
  ·simp[nothing,Z3]
theorem Fin.start {P:Program} {Post:Value->World->Prop} {g:Goroutine} {w:World} (hF:Fin P Post (X0 w) 0 g (jx0 w)):Ends P Post (solo g w) #[]:=by
 rw[solo_eq_crowd];have e8:∀i a,touchAt (#[]:Trace) i=some a->False:=fun i a h=>by simp[touchAt,Trace.act?]at h
 refine hF (fun _=>false) #[] #[g] w none (fun _=>0) rfl ⟨⟨_,Cw0 w,fun _ _=>rfl⟩,fun i y hi hy=>?_,rfl,by simp,rfl,fun _ _ h=>(by cases h),fun _ h=>h.elim,fun _ _ h=>(by cases h),fun _ _ _ _ h=>(by cases h),fun _ _ h=>(by cases h),fun _ h=>(by cases h),⟨fun _ h=>h.elim,fun _ h=>h.elim (fun z=>(by cases z)) fun z=>(by cases z)⟩,fun _ h=>(by cases h),fun _ h=>(by cases h),
  fun j hj=>⟨rfl,rfl,rfl,rfl⟩,⟨Nat.le_refl _,by show(0:Nat) <=65536;omega⟩,fun _ h=>(by cases h),fun i hi h=>h.elim (fun z=>absurd rfl z) fun z=>absurd z hi,rfl,⟨fun said=>?_,fun i a h=>(e8 i a h).elim,fun i a h=>(e8 i a h).elim,fun g' r6=>rfl,fun i a g' h=>(e8 i a h).elim⟩⟩
 ·have:i=0:=by
   have:=(Array.getElem?_eq_some_iff.1 hy).1;simp at this;omega
  exact absurd this hi
 ·rintro⟨i,j,_,⟨a,b,ha,_⟩,_⟩;exact e8 i a ha
end
end Go.Yc
end
section
namespace Go.Vy
open Go Go.Conc Go.Yc
inductive Out where
 |val (v:Value)
 |skip
 |enter (f:FuncId) (args:Array Value)
 |panic (v:Value)
def Out.res:Out->World->Result Next
 | .val v,w=>.ok (.value v) w
 | .skip,w=>.ok .skip w
 | .enter f args,w=>.ok (.enter f args) w
 | .panic v,w=>.halt (.panic v) w
def za0 (P:Program) (S:Sem Next) (u:World) (r:Out) (u':World):Prop :=
 ∀ρ x,D5 ρ u x->L8 u u'/\∃x' es,S.runT P x #[]=(r.res x',es)/\D5 ρ u' x'/\∀e∈es,eq0 u e
structure Does (P:Program) (S:Sem Next) (u:World) (r:Out) (u':World):Prop where
 tape:u'.tape=u.tape
 drawn:u'.drawn=u.drawn
 go:∀τ d,za0 P S (W2 u τ d) r (W2 u' τ d)
theorem Out.to0 (r:Out) (w:World):to0 (r.res w):=by cases r <;> trivial
theorem Iu0 (r:Out) (w w':World):atW (r.res w) w'=r.res w':=by cases r <;> rfl
theorem Au0 (r:Out) (w:World):er0 (r.res w)=w:=by cases r <;> rfl
theorem du0 {P:Program} {S:Sem Next} {u u':World} {r:Out} (ht:E1 P S) (hr:S.run P u=r.res u'):za0 P S u r u':=by
 intro ρ x hs;have h1:(S.runT P u #[]).1=r.res u':=by rw[Sem.runT_eq];exact hr
 have hf:Yc.to0 (S.runT P u #[]).1:=by rw[h1];exact r.to0 u'
 obtain⟨⟨x',h2,h3⟩,h4,h5⟩:=w6 ht hs hf;rw[h1,Au0]at h3 h4;rw[h1,Iu0]at h2;exact⟨h4,x',_,h2,h3,fun e he=>(h5 e he).resolve_left (by simp)⟩
theorem Does.A1 {P:Program} {S:Sem Next} {u u':World} {r:Out} (ht:E1 P S) (h1:u'.tape=u.tape) (h2:u'.drawn=u.drawn) (hr:∀τ d,S.run P (W2 u τ d)=r.res (W2 u' τ d)):Does P S u r u':=⟨h1,h2,fun τ d=>du0 ht (hr τ d)⟩
structure Cl (P:Program) (main:Bool) (Z:Goroutine->World->Prop):Prop where
 own:∀g u,g.status= .running->(∀τ d,∃g' u' d',o5 P main g (W2 u τ d) g' u'/\Z g' (W2 u' u.tape d'))->Z g u
class Ctx (P:Program) where
 main:Bool
 Zs:(Goroutine->World->Prop)->Prop
 cl:∀Z,Zs Z->Cl P main Z
theorem jf0 {P:Program} {Post:Value->World->Prop} {X:Gh} {h:Nat} {g:Goroutine} {u:World} {τ:Tape} {d:Nat} (hF:Fin P Post X h g (W2 u τ d)):Fin P Post X h g u :=
 fun live T gs w sl q hg C=>hF live T gs w sl q hg ⟨C.O9,C.idle,C.free,C.size,C.num,C.stays,C.chans,C.R3,C.inj,C.X3,C.P9,C.C7,C.K2,C.old,C.above,C.few,C.ca0,C.ag0,C.dfn,C.past⟩
theorem aj0 (P:Program) (Post:Value->World->Prop) (X:Gh) (h:Nat):Cl P (h==0) (Fin P Post X h) :=
 ⟨fun _ _ hr hs=>Fin.own hr fun τ d=>by
  obtain⟨g',u',d',hF,hZ⟩:=hs τ d;exact⟨g',u',hF,jf0 hZ⟩⟩
section
variable {P:Program}{main:Bool}{Z:Goroutine->World->Prop}
theorem Cl.ctl (hZ:Cl P main Z) {g g':Goroutine} {u:World} (hr:g.status= .running) (hr':g'.status= .running) (hs:∀w,stepG P main g w= .go g' w #[]) (h:Z g' u):Z g u :=
 hZ.own g u hr fun τ d=>⟨g',W2 u τ d,u.drawn,⟨hr',fun ρ w hw=>⟨L8.refl _,w,#[],hs w,hw,fun e he=>by simp at he⟩⟩,h⟩
end
def wf0 (Z:Goroutine->World->Prop) (b:Frame) (k:List Item) (cs:List Frame):Exit->Act->World->Prop
 | .normal,a,w=>Z (G (b.at a k) cs) w
 | .exit id,a,w=>∃k',exitTo id k=some k'/\Z (G (b.at a k') cs) w
 | .goto l,a,w=>∃k',gotoIn l k=some k'/\Z (G (b.at a k') cs) w
 | .ret,a,w=>∀todo,Z (G {b.at a todo with mode:=.returning} cs) w
 | .panic ch,a,w=>∀todo,Z (G {b.at a todo with mode:=.panicking ch} cs) w
 | .outgrown,_,_=>False
theorem wf0.push {Z:Goroutine->World->Prop} {b:Frame} {x:Item} {k:List Item} {cs:List Frame} {e:Exit} {a:Act} {w:World} (hx:x.plain=true) (he:e≠.normal) (h:wf0 Z b k cs e a w):wf0 Z b (x::k) cs e a w:=by
 cases e with
 |normal=>exact absurd rfl he
 |exit id=>obtain⟨k',hk,h⟩:=h;exact⟨k',by cases x <;> simp_all [exitTo,Item.plain],h⟩
 |goto l=>obtain⟨k',hk,h⟩:=h;exact⟨k',by cases x <;> simp_all [gotoIn,Item.plain],h⟩
 |ret=>exact h
 |panic ch=>exact h
 |outgrown=>exact h
def X9 (P:Program) (fn:Func) (tmps:Array Value) (w:World) (v:Value):Prop:=∀τ d ρ x,D5 ρ (W2 w τ d) x->∃x' es,(results fn tmps).runT P x #[]=(.ok v x',es)/\D5 ρ (W2 w τ d) x'/\∀e∈es,eq0 (W2 w τ d) e
def Leaves (P:Program) (fr:Frame) (w:World):Ending->Prop
 | .returned v=>fr.mode= .returning/\fr.defers=[]/\fr.kind= .normal/\∃fn,P.funcs[fr.fn]? =some fn/\X9 P fn fr.tmps w v
 | .panicked chain=>fr.mode= .panicking chain/\fr.defers=[]/\fr.catches P=false
 | .outgrown=>False
def Calls (P:Program) [Ctx P] (f:FuncId) (args:Array Value) (w:World) (R:Ending->World->Prop):Prop :=
 ∀Z,Ctx.Zs P Z->∀cs,(∀e w' fr,R e w'->fr.fn=f->Leaves P fr w' e->Z (G fr cs) w')->Z (G (Frame.enter P f args .normal) cs) w
theorem Calls.mono {P:Program} [Ctx P] {f:FuncId} {args:Array Value} {w:World} {R R':Ending->World->Prop} (h:Calls P f args w R) (hr:∀e w',R e w'->R' e w'):Calls P f args w R' :=
 fun Z hZ cs hk=>h Z hZ cs fun e w' fr he hf hl=>hk e w' fr (hr e w' he) hf hl
theorem y9 {P:Program} {main:Bool} {Z:Goroutine->World->Prop} (hZ:Cl P main Z) {fr c:Frame} {cs:List Frame} {w:World} {v:Value} (h:Leaves P fr w (.returned v)) (hk:Z (G (c.finish v) cs) w):Z (G fr (c::cs)) w:=by
 obtain⟨hm,hd,hn,fn,hf,hr⟩:=h;refine hZ.own _ _ rfl fun τ d=>⟨G (c.finish v) cs,W2 w τ d,w.drawn,⟨rfl,fun ρ x hx=>?_⟩,hk⟩
 obtain⟨x',es,e4,W3,hev⟩:=hr τ d ρ x hx;rw[Sem.runT_eq]at e4;obtain⟨h1,h2⟩:=Prod.mk.inj e4;refine⟨L8.refl _,x',seen P fr.fn es ++ #[],?_,W3,fun e he=>?_⟩
 ·simp[G,stepG,unwind,doReturn,hm,hd,hn,hf,h1,h2,GStep.after]
 ·have he':e∈seen P fr.fn es:=by simpa using he
  exact hev e (mem_seen he')
theorem ci0 {P:Program} {main:Bool} {Z:Goroutine->World->Prop} (hZ:Cl P main Z) {fr c:Frame} {cs:List Frame} {w:World} {chain:List PanicEntry} (h:Leaves P fr w (.panicked chain)) (hk:Z (G (c.raise chain) cs) w):Z (G fr (c::cs)) w:=by
 obtain⟨hm,hd,hc⟩:=h;exact hZ.ctl rfl rfl (fun w=>by simp[G,stepG,unwind,hm,hd,hc]) hk
section
variable {P:Program}[Ctx P]
def Ts0 (P:Program) [Ctx P] (o:Oper) (a:Act) (next:Act->World->Prop) (Q:Exit->Act->World->Prop) (r:Out) (w:World):Prop:=match r with
 | .val v=>next (a.put o.dst v) w
 | .skip=>next (a.put o.dst undef) w
 | .enter f args=>Calls P f args w fun
  | .returned v,w''=>next (a.put o.dst v) w''
  | .panicked chain,w''=>Q (.panic chain) a w''
  | .outgrown,_=>False
 | .panic v=>Q (.panic [{v,recovered:=false}]) a w
def mi0 (P:Program) [Ctx P] (o:Oper) (a:Act) (w:World) (next:Act->World->Prop) (Q:Exit->Act->World->Prop):Prop :=
 ∀τ d,∃r w',za0 P (execOp a.eval o) (W2 w τ d) r w'/\Ts0 P o a next Q r (W2 w' w.tape w.drawn)
def wpOps (P:Program) [Ctx P] (ops:Array Oper) (Q:Exit->Act->World->Prop):List Nat->Act->World->Prop
 | [],a,w=>Q .normal a w
 |i::rest,a,w=>match ops[i]? with
  |none=>False
  |some o=>if Region.wanted o (yielded ops a.tmps) then mi0 P o a w (wpOps P ops Q rest) Q else wpOps P ops Q rest (a.put o.dst undef) w
def wpList (P:Program) [Ctx P] (ops:Array Oper) (Q:Exit->Act->World->Prop):List Oper->Act->World->Prop
 | [],a,w=>Q .normal a w
 |o::rest,a,w=>if Region.wanted o (yielded ops a.tmps) then mi0 P o a w (wpList P ops Q rest) Q else wpList P ops Q rest (a.put o.dst undef) w
def cwp (P:Program) [Ctx P] (c:Code) (Q:Exit->Act->World->Prop) (a:Act) (w:World):Prop :=
 ∀Z,Ctx.Zs P Z->∀b k cs,b.kind≠.early->(∀e a' w',Q e a' w'->wf0 Z b k cs e a' w')->Z (G (b.at a (.code c::k)) cs) w
variable {Q Q':Exit->Act->World->Prop}{a:Act}{w:World}{ops:Array Oper}
theorem dg0 {o:Oper} {next next':Act->World->Prop} (hn:∀a w,next a w->next' a w) (hq:∀e a w,Q e a w->Q' e a w) (h:mi0 P o a w next Q):mi0 P o a w next' Q':=by
 intro τ d;obtain⟨r,w',h1,h2⟩:=h τ d;refine⟨r,w',h1,?_⟩;cases r with
 |val v=>exact hn _ _ h2
 |skip=>exact hn _ _ h2
 |enter f args=>exact Calls.mono h2 fun e w'' he=>by cases e <;> first|exact hn _ _ he|exact hq _ _ _ he|exact he
 |panic v=>exact hq _ _ _ h2
theorem P7 {o:Oper} {next:Act->World->Prop} {r:Out} {w':World} (h:Does P (execOp a.eval o) w r w') (hk:Ts0 P o a next Q r w'):mi0 P o a w next Q:=by
 intro τ d;refine⟨r,W2 w' τ d,h.go τ d,?_⟩;have:W2 (W2 w' τ d) w.tape w.drawn=w':=by rw[<- h.tape,<- h.drawn];rfl
 rw[this];exact hk
theorem wp_ops:∀(l:List Nat) (a:Act) (w:World),wpOps P ops Q l a w->∀Z,Ctx.Zs P Z->∀b k cs,b.kind≠.early->(∀e a' w',Q e a' w'->wf0 Z b k cs e a' w')->Z (G (b.at a (.inRegion ops l::k)) cs) w
 | [],a,w,h,Z,hZ,b,k,cs,hb,hk=>(Ctx.cl Z hZ).ctl rfl rfl (fun w=>stepG_region_end) (hk _ _ _ h)
 |i::rest,a,w,h,Z,hZ,b,k,cs,hb,hk=>by
  unfold wpOps at h;cases ho:ops[i]? with
  |none=>rw[ho]at h;exact h.elim
  |some o=>
   rw[ho]at h;simp only at h;cases hw:Region.wanted o (yielded ops a.tmps)with
   |false=>
    rw[hw]at h;exact(Ctx.cl Z hZ).ctl rfl rfl (fun w=>stepG_unwanted ho hw) (wp_ops rest _ _ h Z hZ b k cs hb hk)
   |true=>
    rw[hw,if_pos rfl]at h;have cb0:∀v,(b.at a (.inRegion ops (i::rest)::k)).finish v=b.at (a.put o.dst v) (.inRegion ops rest::k):=by
     intro v;rw[Frame.finish_at,ho];rfl
    have Cx0:(b.kind==CallKind.early)=false:=by simpa using hb
    refine(Ctx.cl Z hZ).own _ _ rfl fun τ d=>?_;obtain⟨r,w',hr,hK⟩:=h τ d;have fol:∀g',g'.status= .running->(∀x x' es,(execOp a.eval o).runT P x #[]=(r.res x',es)->stepG P (Ctx.main P) (G (b.at a (.inRegion ops (i::rest)::k)) cs) x= .go g' x' (seen P b.fn es))->o5 P (Ctx.main P) (G (b.at a (.inRegion ops (i::rest)::k)) cs) (W2 w τ d) g' w':=by
     intro g' r6 hs;refine⟨r6,fun ρ x hx=>?_⟩;obtain⟨h1,x',es,h2,h3,h4⟩:=hr ρ x hx;exact⟨h1,x',_,hs x x' es h2,h3,fun e he=>h4 e (mem_seen he)⟩
    have split:∀x x' es,(execOp a.eval o).runT P x #[]=(r.res x',es)->(execOp a.eval o).run P x=r.res x'/\(execOp a.eval o).events P x #[]=es:=fun x x' es h=>by
     rw[Sem.runT_eq]at h;exact Prod.mk.inj h
    cases r with
    |val v=>
     refine⟨G (b.at (a.put o.dst v) (.inRegion ops rest::k)) cs,w',w.drawn,fol _ rfl fun x x' es h=>?_,wp_ops rest _ _ hK Z hZ b k cs hb hk⟩;obtain⟨h1,h2⟩:=split x x' es h;rw[stepG_value ho hw hb h1,listed,h2]
    |skip=>
     refine⟨G (b.at (a.put o.dst undef) (.inRegion ops rest::k)) cs,w',w.drawn,fol _ rfl fun x x' es h=>?_,wp_ops rest _ _ hK Z hZ b k cs hb hk⟩;obtain⟨h1,h2⟩:=split x x' es h;rw[stepG_none ho hw hb h1,listed,h2]
    |enter f args=>
     refine⟨G (Frame.enter P f args .normal) (b.at a (.inRegion ops (i::rest)::k)::cs),w',w.drawn,fol _ rfl fun x x' es h=>?_,hK Z hZ _ fun e w'' fr he hf hl=>?_⟩
     ·obtain⟨h1,h2⟩:=split x x' es h;rw[stepG_enter ho hw hb h1,listed,h2]
     ·cases e with
      |returned v=>
       refine U566 ?_;exact wp_ops rest _ _ he Z hZ b k cs hb hk
      |panicked chain=>
       refine U553 ?_;exact hk _ _ _ he _
      |outgrown=>exact he.elim
    |panic v=>
     refine⟨G {b.at a (.inRegion ops (i::rest)::k)with mode:=.panicking [{v,recovered:=false}]} cs,w',w.drawn,fol _ rfl fun x x' es h=>?_,hk _ _ _ hK _⟩;obtain⟨h1,h2⟩:=split x x' es h;have h1':(execOp a.eval o).run P x= .halt (.panic v) x':=h1;rw[stepG_oper ho hw];simp[stepG.apply,h1',h2,G,Frame.at,Cx0,GStep.after,Frame.raise]
theorem wp_mono {c:Code} (h:cwp P c Q a w) (hq:∀e a w,Q e a w->Q' e a w):cwp P c Q' a w:=fun Z hZ b k cs hb hk=>h Z hZ b k cs hb fun e a' w' he=>hk e a' w' (hq e a' w' he)
theorem wp_skip (h:Q .normal a w):cwp P .skip Q a w:=fun Z hZ _b _k _cs _hb hk=>(Ctx.cl Z hZ).ctl rfl rfl (fun _=>stepG_skip) (hk _ _ _ h)
theorem wp_exit {id:Nat} (h:Q (.exit id) a w):cwp P (.exit id) Q a w:=fun Z hZ b k cs hb hk=>by
 obtain⟨k',h1,h2⟩:=hk _ _ _ h;exact(Ctx.cl Z hZ).ctl rfl rfl (fun _=>stepG_exit h1) h2
theorem wp_ret (h:Q .ret a w):cwp P .ret Q a w:=fun Z hZ _b _k _cs _hb hk=>(Ctx.cl Z hZ).ctl rfl rfl (fun _=>stepG_ret') (hk _ _ _ h _)
theorem wp_seq {x y:Code} (h:cwp P x (Exit.then (cwp P y Q) Q) a w):cwp P (.seq x y) Q a w:=by
 intro Z hZ b k cs hb hk;refine(Ctx.cl Z hZ).ctl rfl rfl (fun _=>stepG_seq) (h Z hZ b (.code y::k) cs hb fun e a' w' he=>?_);cases e with
 |normal=>exact he Z hZ b k cs hb hk
 |exit id=>exact(hk _ _ _ he).push rfl (by simp)
 |goto l=>exact(hk _ _ _ he).push rfl (by simp)
 |ret=>exact(hk _ _ _ he).push rfl (by simp)
 |panic ch=>exact(hk _ _ _ he).push rfl (by simp)
 |outgrown=>exact(hk _ _ _ he).push rfl (by simp)
theorem wp_cond {c:Operand} {x y:Code} {t:Bool} (hc:a.eval c= .bool t) (h:cwp P (if t then x else y) Q a w):cwp P (.cond c x y) Q a w :=
 fun Z hZ b k cs hb hk=>(Ctx.cl Z hZ).ctl rfl rfl (fun _=>stepG_cond hc) (h Z hZ b k cs hb hk)
theorem wp_cond_true {c:Operand} {x y:Code} (hc:a.eval c= .bool true) (h:cwp P x Q a w):cwp P (.cond c x y) Q a w:=wp_cond hc h
theorem wp_cond_false {c:Operand} {x y:Code} (hc:a.eval c= .bool false) (h:cwp P y Q a w):cwp P (.cond c x y) Q a w:=wp_cond hc h
theorem wp_block {id:Nat} {c:Code} (h:cwp P c (Exit.inBlock id Q) a w):cwp P (.block id c) Q a w:=by
 intro Z hZ b k cs hb hk;refine(Ctx.cl Z hZ).ctl rfl rfl (fun _=>stepG_block) (h Z hZ b (.inBlock id::k) cs hb fun e a' w' he=>?_);cases e with
 |normal=>exact(Ctx.cl Z hZ).ctl rfl rfl (fun _=>stepG_inBlock) (hk _ _ _ he)
 |exit id'=>
  by_cases X3:id'=id
  ·simp only[Exit.inBlock,X3,if_true]at he;exact⟨k,by simp[exitTo,X3],hk _ _ _ he⟩
  ·simp only[Exit.inBlock,X3,if_false]at he;obtain⟨k',h1,h2⟩:=hk _ _ _ he;have:(id==id')=false:=by simp;exact fun h=>X3 h.symm
   exact⟨k',by simp[exitTo,this,h1],h2⟩
 |goto l=>
  obtain⟨k',h1,h2⟩:=hk _ _ _ he;exact⟨k',by simp[gotoIn,h1],h2⟩
 |ret=>exact hk _ _ _ he
 |panic ch=>exact hk _ _ _ he
 |outgrown=>exact hk _ _ _ he
theorem wp_loop_ghost {c:Code} (I:Nat->Act->World->Prop) (k₀:Nat) (h₀:I k₀ a w) (round:∀n a w,I n a w->cwp P c (Exit.then (fun a' w'=>∃n',n'<n/\I n' a' w') Q) a w):cwp P (.loop c) Q a w:=by
 intro Z hZ b k cs hb hk;have key:∀n a w,I n a w->Z (G (b.at a (.code c :: .inLoop c::k)) cs) w:=by
  intro n
  induction n using Nat.strongRecOn with
  |_ n ih=>
   intro a w hI;refine round n a w hI Z hZ b (.inLoop c::k) cs hb fun e a' w' he=>?_;cases e with
   |normal=>
    obtain⟨n',hn,hI'⟩:=he;exact(Ctx.cl Z hZ).ctl rfl rfl (fun _=>stepG_inLoop) (ih n' hn a' w' hI')
   |exit id=>exact(hk _ _ _ he).push rfl (by simp)
   |goto l=>exact(hk _ _ _ he).push rfl (by simp)
   |ret=>exact(hk _ _ _ he).push rfl (by simp)
   |panic ch=>exact(hk _ _ _ he).push rfl (by simp)
   |outgrown=>exact(hk _ _ _ he).push rfl (by simp)
 exact(Ctx.cl Z hZ).ctl rfl rfl (fun _=>stepG_loop) (key k₀ a w h₀)
theorem jy0 (pre:List Oper):∀(l:List Oper) (a:Act) (w:World),wpList P (pre++l).toArray Q l a w->wpOps P (pre++l).toArray Q ((List.range l.length).map (pre.length + ·)) a w
 | [],_,_,h=>h
 |o::l,a,w,h=>by
  have h0:(pre++o::l).toArray[pre.length]? =some o:=by simp
  have e:(List.range (o::l).length).map (pre.length + ·)=pre.length::(List.range l.length).map ((pre ++ [o]).length + ·):=by
   simp[List.range_succ_eq_map,List.map_map];intro x _;omega
  rw[e];unfold wpOps;rw[h0];simp only;unfold wpList at h;have key:∀a w,wpList P (pre++o::l).toArray Q l a w->wpOps P (pre++o::l).toArray Q ((List.range l.length).map ((pre ++ [o]).length + ·)) a w:=fun a w hh=>by
   have:=jy0 (pre ++ [o]) l a w;rw[List.append_assoc]at this;exact this hh
  split
  ·rename_i hw;rw[if_pos hw]at h;exact dg0 key (fun _ _ _ z=>z) h
  ·rename_i hw;rw[if_neg hw]at h;exact key _ _ h
theorem wp_region_lit {id:Nat} {l:List Oper} (h:wpList P l.toArray Q l a w):cwp P (.region id l.toArray false) Q a w:=by
 intro Z hZ b k cs hb hk;refine(Ctx.cl Z hZ).ctl rfl rfl (fun _=>stepG_region) (wp_ops _ _ _ ?_ Z hZ b k cs hb hk);have:=jy0 (P:=P) (Q:=Q) [] l a w;simp only[List.nil_append,List.length_nil,Nat.zero_add,List.map_id']at this;simpa using this h
theorem wp_region_draw {id:Nat} (h:∀t,wpOps P ops Q (Region.schedule (P.follows .mixedOrders) ops t) a {w with drawn:=w.drawn+1}):cwp P (.region id ops true) Q a w:=by
 intro Z hZ b k cs hb hk;refine(Ctx.cl Z hZ).own _ _ rfl fun τ d=>?_;refine⟨G (b.at a (.inRegion ops (Region.schedule (P.follows .mixedOrders) ops (τ d (.order b.fn id)))::k)) cs,{W2 w τ d with drawn:=d+1},w.drawn+1,⟨rfl,fun ρ x hx=>⟨⟨Nat.le_refl _,fun _ o ho=>⟨o,ho,N3.refl o⟩⟩,{x with drawn:=x.drawn+1},#[],?_,?_,fun e he=>by simp at he⟩⟩,wp_ops _ _ _ (h _) Z hZ b k cs hb hk⟩
 ·rw[stepG_region_draw,hx.tape,hx.drawn];rfl
 ·exact⟨hx.os,hx.output,hx.tape,by show x.drawn+1=d+1;rw[hx.drawn];rfl,hx.size,hx.obj,hx.new,hx.u6⟩
def bodyPost (P:Program) [Ctx P] (fn:Func) (R:Ending->World->Prop):Exit->Act->World->Prop
 | .normal,a,w| .ret,a,w=>a.defers=[]/\∃v,X9 P fn a.tmps w v/\R (.returned v) w
 | .panic chain,a,w=>a.defers=[]/\R (.panicked chain) w
 |_,_,_=>False
theorem calls_of_wp {f:FuncId} {fn:Func} {c:Code} {args:Array Value} {R:Ending->World->Prop} (hf:P.funcs[f]? =some fn) (hb:fn.body=some c)
  (h:cwp P c (bodyPost P fn R) {tmps:=args++Array.replicate (fn.ntmps-args.size) undef,defers:=[]} w):Calls P f args w R:=by
 intro Z hZ cs hk;rw[enter_at args hf hb];refine h Z hZ (base f) [] cs (by simp[base]) fun e a' w' he=>?_;have ak0:∀a' w' todo,(a'.defers=[]/\∃v,X9 P fn a'.tmps w' v/\R (.returned v) w')->Z (G {(base f).at a' todo with mode:=.returning} cs) w':=fun a' w' todo ⟨hd,v,hr,hR⟩=>
  hk _ _ _ hR rfl ⟨rfl,hd,rfl,fn,hf,hr⟩
 cases e with
 |normal=>exact(Ctx.cl Z hZ).ctl rfl rfl (fun _=>stepG_end) (ak0 a' w' [] he)
 |ret=>exact fun todo=>ak0 a' w' todo he
 |panic chain=>exact fun todo=>hk _ _ _ he.2 rfl ⟨rfl,he.1,by simp[Frame.catches,Frame.at,base,hf]⟩
 |exit id=>exact he.elim
 |goto l=>exact he.elim
 |outgrown=>exact he.elim
end
end Go.Vy
end
section
namespace Go.Yc
open Go
section
theorem S1 {α:Type} {P:Program} (a:α):E1 P (pure a:Sem α):=trivial
theorem N1 {α β:Type} {P:Program} {s:Sem α} {f:α->Sem β} (h:E1 P s) (hf:∀a,E1 P (f a)):E1 P (s >>=f):=Z5 hf h
theorem Mj0 {α β:Type} {P:Program} {s:Sem α} {f:α->β} (h:E1 P s):E1 P (f <$> s):=Z5 (f:=fun a=>pure (f a)) (fun _=>trivial) h
theorem g4 {α:Type} {P:Program} (h:Halt):E1 P (.halt h:Sem α):=trivial
theorem Cy0 {P:Program} (a:Addr) (m:Mode):E1 P (load a m):=fun _=>trivial
theorem sb0 {P:Program} (a:Addr) (v:Value) (m:Mode):E1 P (store a v m):=trivial
theorem Mk0 {P:Program} {o:Obj} (h:Z3 o=false):E1 P (newObj o):=⟨h,fun _=>trivial⟩
theorem ex0 {P:Program} (q:Question):E1 P (choose q):=fun _=>trivial
theorem gj0 {P:Program}:E1 P program:=trivial
theorem ty0 {P:Program} (r:Nat):E1 P (getObj r):=fun _=>trivial
theorem sc0 {α:Type} {P:Program} (s:String):E1 P (stuck s:Sem α):=trivial
theorem dv0 {α:Type} {P:Program} (s:Unsupported):E1 P (unsupported s:Sem α):=trivial
theorem os0 {P:Program} (n:Nat):E1 P (askRoom n):=by
 unfold askRoom;split
 ·show(if wa0 Mark.noRoom=true then E1 P (Sem.pure ()) else dead P (Sem.pure ()));exact trivial
 ·trivial
theorem Cz0 {α β:Type} {P:Program} {f:α->Sem β} (hf:∀a,E1 P (f a)):∀(l:List α),E1 P (l.mapM f)
 | []=>by rw[List.mapM_nil];trivial
 |x::l=>by
  rw[List.mapM_cons];exact N1 (hf x) fun _=>N1 (Cz0 hf l) fun _=>trivial
theorem k2 {α β:Type} {P:Program} {f:α->Sem β} (hf:∀a,E1 P (f a)) (l:Array α):E1 P (l.mapM f):=by
 rw[Array.mapM_eq_mapM_toList];exact Mj0 (Cz0 hf _)
attribute [local irreducible] E1 dead
theorem z9 {P:Program} (t:TypeId):E1 P (typeInfo t):=by
 unfold typeInfo
 repeat' (first|exact S1 _|exact g4 _|exact gj0|(refine N1 ?_ (fun _=>?_))|(refine k2 (fun _=>?_) _)|split|(dsimp only))
theorem V2 {P:Program} (t:TypeId):E1 P (underlying t):=by
 unfold underlying
 repeat' (first|exact S1 _|exact g4 _|exact gj0|(refine N1 ?_ (fun _=>?_))|(refine k2 (fun _=>?_) _)|split|(dsimp only))
theorem o8 {P:Program} (t:TypeId):E1 P (zeroValue t):=by
 unfold zeroValue
 repeat' (first|exact S1 _|exact g4 _|exact z9 _|(refine N1 ?_ (fun _=>?_))|(refine k2 (fun _=>?_) _)|split|(dsimp only))
theorem z6 {P:Program} (t:TypeId):E1 P (sizeOf t):=by
 unfold sizeOf
 repeat' (first|exact S1 _|exact z9 _|(refine N1 ?_ (fun _=>?_))|(refine k2 (fun _=>?_) _)|split|(dsimp only))
theorem zb0 {P:Program} (t:TypeId):E1 P (isAgg t):=by
 unfold isAgg
 repeat' (first|exact S1 _|exact V2 _|(refine N1 ?_ (fun _=>?_))|(refine k2 (fun _=>?_) _)|split|(dsimp only))
theorem bv0 {P:Program} (a:Addr):∀(n i:Nat) (acc:Array Value),E1 P (loadCellsFrom a i n acc)
 |0,_,_=>by unfold loadCellsFrom;exact S1 _
 |n+1,i,acc=>by
  unfold loadCellsFrom;exact N1 (Cy0 _ _) fun _=>bv0 a n _ _
theorem ib0 {P:Program} (a:Addr) (n:Nat):E1 P (loadCells a n):=by
 unfold loadCells
 repeat' (first|exact bv0 _ _ _ _|(refine N1 ?_ (fun _=>?_))|(refine k2 (fun _=>?_) _)|split|(dsimp only))
theorem R8 {P:Program} (a:Addr):∀(vs:List Value) (i:Nat),E1 P (storeCells a vs i)
 | [],_=>by unfold storeCells;exact S1 _
 |v::vs,i=>by
  unfold storeCells;exact N1 (sb0 _ _ _) fun _=>R8 a vs _
theorem ot0 {P:Program} (t:TypeId) (a:Addr):E1 P (loadVar t a):=by
 unfold loadVar
 repeat' (first|exact S1 _|exact ib0 _ _|exact zb0 _|exact z6 _|exact Cy0 _ _|(refine N1 ?_ (fun _=>?_))|(refine k2 (fun _=>?_) _)|split|(dsimp only))
theorem jz0 {P:Program} (t:TypeId) (a:Addr) (v:Value):E1 P (storeVar t a v):=by
 unfold storeVar
 repeat' (first|exact g4 _|exact R8 _ _ _|exact z6 _|(refine N1 ?_ (fun _=>?_))|(refine k2 (fun _=>?_) _)|split|(dsimp only))
theorem ey0 {P:Program} (t:TypeId) (c:Array Value):E1 P (newRow t c):=by
 unfold newRow
 repeat' (first|exact S1 _|exact Mk0 rfl|(refine N1 ?_ (fun _=>?_))|(refine k2 (fun _=>?_) _)|split|(dsimp only))
theorem ka0 {P:Program} (t:TypeId) (v:Value):E1 P (newVar t v):=by
 unfold newVar
 repeat' (first|exact ey0 _ _|(refine N1 ?_ (fun _=>?_))|(refine k2 (fun _=>?_) _)|split|(dsimp only))
theorem Da0 {P:Program} (t:TypeId):E1 P (elemOf t):=by
 unfold elemOf
 repeat' (first|exact S1 _|exact g4 _|exact V2 _|(refine N1 ?_ (fun _=>?_))|(refine k2 (fun _=>?_) _)|split|(dsimp only))
theorem On0 {P:Program} (t:TypeId) (c:Array Value) (o:Nat):E1 P (part t c o):=by
 unfold part
 repeat' (first|exact S1 _|exact g4 _|exact zb0 _|exact z6 _|(refine N1 ?_ (fun _=>?_))|(refine k2 (fun _=>?_) _)|split|(dsimp only))
theorem Z4 {α:Type} {P:Program} (e:RuntimeError):E1 P (runtimePanic e:Sem α):=by
 unfold runtimePanic
 repeat' (first|exact g4 _|exact Da0 _|exact ka0 _ _|exact gj0|(refine N1 ?_ (fun _=>?_))|(refine k2 (fun _=>?_) _)|split|(dsimp only))
theorem dw0 {α:Type} {P:Program} (k:IntKind) (x y:Int) (c:BoundsCode):E1 P (boundsPanic k x y c:Sem α):=by
 unfold boundsPanic
 repeat' (first|exact S1 _|exact Mj0 (ex0 _)|exact Z4 _|exact ex0 _|(refine N1 ?_ (fun _=>?_))|(refine k2 (fun _=>?_) _)|split|(dsimp only))
theorem gk0 {P:Program} (v:Value):E1 P (asIntOf v):=by
 unfold asIntOf
 repeat' (first|exact S1 _|exact g4 _|(refine N1 ?_ (fun _=>?_))|(refine k2 (fun _=>?_) _)|split|(dsimp only))
theorem sd0 {P:Program} (v:Value):E1 P (asInt v):=by
 unfold asInt
 repeat' (first|exact S1 _|exact gk0 _|(refine N1 ?_ (fun _=>?_))|(refine k2 (fun _=>?_) _)|split|(dsimp only))
theorem Db0 {P:Program} (v:Value):E1 P (asBool v):=by
 unfold asBool
 repeat' (first|exact S1 _|exact g4 _|(refine N1 ?_ (fun _=>?_))|(refine k2 (fun _=>?_) _)|split|(dsimp only))
theorem Iv0 {P:Program} (v:Value):E1 P (asAgg v):=by
 unfold asAgg
 repeat' (first|exact S1 _|exact g4 _|(refine N1 ?_ (fun _=>?_))|(refine k2 (fun _=>?_) _)|split|(dsimp only))
theorem ez0 {P:Program} (v:Value):E1 P (asAddr v):=by
 unfold asAddr
 repeat' (first|exact S1 _|exact g4 _|exact Z4 _|(refine N1 ?_ (fun _=>?_))|(refine k2 (fun _=>?_) _)|split|(dsimp only))
theorem Iw0 {P:Program} (t:TypeId) (h:Bool) (o:Value):E1 P (Instr.alloc t h o):=by
 unfold Instr.alloc
 repeat' (first|exact S1 _|exact ka0 _ _|exact jz0 _ _ _|exact o8 _|(refine N1 ?_ (fun _=>?_))|(refine k2 (fun _=>?_) _)|split|(dsimp only))
theorem Tu0 {P:Program} (t:TypeId) (v:Value):E1 P (Instr.box t v):=by
 unfold Instr.box
 repeat' (first|exact S1 _|exact ka0 _ _|(refine N1 ?_ (fun _=>?_))|(refine k2 (fun _=>?_) _)|split|(dsimp only))
theorem Ix0 {P:Program} (t:TypeId) (p:Array (Nat×Value)):E1 P (Instr.build t p):=by
 unfold Instr.build
 repeat' (first|exact S1 _|exact g4 _|exact z6 _|exact o8 _|exact V2 _|(refine N1 ?_ (fun _=>?_))|(refine k2 (fun _=>?_) _)|split|(dsimp only))
theorem se0 {P:Program} (t:TypeId) (n:Nat) (p:Array (Nat×Value)):E1 P (Instr.buildSlice t n p):=by
 unfold Instr.buildSlice
 repeat' (first|exact S1 _|exact g4 _|exact ey0 _ _|exact z6 _|exact o8 _|exact V2 _|(refine N1 ?_ (fun _=>?_))|(refine k2 (fun _=>?_) _)|split|(dsimp only))
theorem A9 {P:Program} (v:Value):E1 P (Instr.sureAddr v):=by
 unfold Instr.sureAddr
 repeat' (first|exact S1 _|exact g4 _|(refine N1 ?_ (fun _=>?_))|(refine k2 (fun _=>?_) _)|split|(dsimp only))
theorem Dc0 {P:Program} (t:TypeId) (v:Value):E1 P (Instr.loadAt t v):=by
 unfold Instr.loadAt
 repeat' (first|exact A9 _|exact ot0 _ _|(refine N1 ?_ (fun _=>?_))|(refine k2 (fun _=>?_) _)|split|(dsimp only))
theorem Av0 {P:Program} (t:TypeId) (v x:Value):E1 P (Instr.storeAt t v x):=by
 unfold Instr.storeAt
 repeat' (first|exact A9 _|exact jz0 _ _ _|(refine N1 ?_ (fun _=>?_))|(refine k2 (fun _=>?_) _)|split|(dsimp only))
theorem Aw0 {P:Program} (t:TypeId) (v x:Value):E1 P (Instr.indexAt t v x):=by
 unfold Instr.indexAt
 repeat' (first|exact S1 _|exact g4 _|exact A9 _|exact gk0 _|exact dw0 _ _ _ _|exact z6 _|exact V2 _|(refine N1 ?_ (fun _=>?_))|(refine k2 (fun _=>?_) _)|split|(dsimp only))
theorem Ax0 {P:Program} (v:Value) (n:Nat):E1 P (Instr.extract v n):=by
 unfold Instr.extract
 repeat' (first|exact S1 _|exact g4 _|(refine N1 ?_ (fun _=>?_))|(refine k2 (fun _=>?_) _)|split|(dsimp only))
theorem Iy0 {P:Program} (t:TypeId) (v:Value) (n:Nat):E1 P (Instr.field t v n):=by
 unfold Instr.field
 repeat' (first|exact g4 _|exact Iv0 _|exact On0 _ _ _|exact V2 _|(refine N1 ?_ (fun _=>?_))|(refine k2 (fun _=>?_) _)|split|(dsimp only))
theorem iv0 {P:Program} (t:TypeId) (v:Value):E1 P (Instr.makeInterface t v):=by
 unfold Instr.makeInterface
 repeat' (first|exact S1 _|exact g4 _|exact V2 _|(refine N1 ?_ (fun _=>?_))|(refine k2 (fun _=>?_) _)|split|(dsimp only))
theorem tz0 {P:Program} (t:TypeId) (a b:Value):E1 P (Instr.makeSlice t a b):=by
 unfold Instr.makeSlice
 repeat' (first|exact S1 _|exact g4 _|exact sd0 _|exact Z4 _|exact ey0 _ _|exact z6 _|exact o8 _|exact V2 _|exact z9 _|exact os0 _|exact ex0 _|(refine N1 ?_ (fun _=>?_))|(refine k2 (fun _=>?_) _)|split|(dsimp only))
theorem wg0 {P:Program} (t:TypeId) (a:Value):E1 P (Instr.makeChan t a):=by
 unfold Instr.makeChan
 repeat' (first|exact S1 _|exact g4 _|exact sd0 _|exact Z4 _|exact V2 _|exact z9 _|exact Mk0 rfl|(refine N1 ?_ (fun _=>?_))|(refine k2 (fun _=>?_) _)|split|(dsimp only))
theorem sf0 {P:Program} (x:Value) (y:Nat) (c:BoundsCode):E1 P (Instr.sliceBound x y c):=by
 unfold Instr.sliceBound
 repeat' (first|exact S1 _|exact gk0 _|exact dw0 _ _ _ _|(refine N1 ?_ (fun _=>?_))|(refine k2 (fun _=>?_) _)|split|(dsimp only))
theorem dx0 {P:Program} (b:Bool) (l c:Nat) (x y z:Option Value):E1 P (Instr.sliceBounds b l c x y z):=by
 unfold Instr.sliceBounds
 repeat' (first|exact S1 _|exact g4 _|exact sf0 _ _ _|(refine N1 ?_ (fun _=>?_))|(refine k2 (fun _=>?_) _)|split|(dsimp only))
theorem Iz0 {P:Program} (t:TypeId) (v:Value) (x y z:Option Value):E1 P (Instr.slice t v x y z):=by
 unfold Instr.slice
 repeat' (first|exact S1 _|exact g4 _|exact dx0 _ _ _ _ _ _|exact ez0 _|exact z6 _|exact V2 _|(refine N1 ?_ (fun _=>?_))|(refine k2 (fun _=>?_) _)|split|(dsimp only))
theorem Ay0 {P:Program} (t:TypeId) (v:Value) (x y z:Option Value):E1 P (Instr.sliceAt t v x y z):=by
 unfold Instr.sliceAt
 repeat' (first|exact S1 _|exact Iz0 _ _ _ _ _|exact dx0 _ _ _ _ _ _|exact A9 _|exact z6 _|exact V2 _|(refine N1 ?_ (fun _=>?_))|(refine k2 (fun _=>?_) _)|split|(dsimp only))
theorem Ja0 {P:Program} (o:UnOp) (x:Value):E1 P (Op.unary o x):=by
 unfold Op.unary
 repeat' (first|exact S1 _|exact g4 _|(refine N1 ?_ (fun _=>?_))|(refine k2 (fun _=>?_) _)|split|(dsimp only))
theorem zc0 {P:Program} (x:Value):E1 P (Builtin.lenOf x):=by
 unfold Builtin.lenOf
 repeat' (first|exact S1 _|exact g4 _|(refine N1 ?_ (fun _=>?_))|(refine k2 (fun _=>?_) _)|split|(dsimp only))
theorem fa0 {P:Program} (s n:Nat) (x:Value):E1 P (Builtin.firstCells s n x):=by
 unfold Builtin.firstCells
 repeat' (first|exact S1 _|exact g4 _|exact ib0 _ _|(refine N1 ?_ (fun _=>?_))|(refine k2 (fun _=>?_) _)|split|(dsimp only))
theorem Tv0 {P:Program} (a:Array TypeId) (t:TypeId) (x:Array Value):E1 P (Builtin.len_ a t x):=by
 unfold Builtin.len_
 repeat' (first|exact S1 _|exact g4 _|exact V2 _|exact ty0 _|(refine N1 ?_ (fun _=>?_))|(refine k2 (fun _=>?_) _)|split|(dsimp only))
theorem Tw0 {P:Program} (a:Array TypeId) (t:TypeId) (x:Array Value):E1 P (Builtin.cap_ a t x):=by
 unfold Builtin.cap_
 repeat' (first|exact S1 _|exact g4 _|exact V2 _|exact ty0 _|(refine N1 ?_ (fun _=>?_))|(refine k2 (fun _=>?_) _)|split|(dsimp only))
theorem Oo0 {P:Program} (a:Array TypeId) (t:TypeId) (x:Array Value):E1 P (Builtin.copy_ a t x):=by
 unfold Builtin.copy_
 repeat' (first|exact S1 _|exact g4 _|exact fa0 _ _ _|exact zc0 _|exact R8 _ _ _|exact z6 _|exact V2 _|(refine N1 ?_ (fun _=>?_))|(refine k2 (fun _=>?_) _)|split|(dsimp only))
end
end Go.Yc
end
section
namespace Go.Vc
open Go
abbrev Env:=Nat->Value
def upd (e:Env) (d:Nat) (v:Value):Env:=fun t=>if t=d then v else e t
def m3 (e:Env) (d:Option Nat) (v:Value):Env:=match d with|some d=>upd e d v|none=>e
def ev (e:Env) (x:Operand):Value:=match x with
 | .tmp t=>e t
 | .const v=>v
 | .global g=>.pointer (some ⟨g,0,none⟩)
 | .func f=>.func (.func f) #[] #[]
theorem upd_same (e:Env) (d:Nat) (v:Value):upd e d v d=v:=if_pos rfl
theorem upd_ne (e:Env) {d t:Nat} (v:Value) (h:t≠d):upd e d v t=e t:=if_neg h
theorem S2 {e:Env} {t:Nat} {v:Value} (h:e t=v):e=upd e t v:=by
 funext s;unfold upd;split
 ·rename_i hs;rw[hs,h]
 ·rfl
structure Rep (n:Nat) (a:Act) (e:Env):Prop where
 size:a.tmps.size=n
 defers:a.defers=[]
 get:∀t,a.tmps.getD t undef=e t
theorem Rep.eval {n:Nat} {a:Act} {e:Env} (h:Rep n a e):a.eval=ev e:=by
 funext x;cases x <;> simp[Act.eval,ev,h.get]
def j4 (n:Nat) (d:Option Nat):Bool:=match d with|some d=>Nat.blt d n|none=>true
theorem Rep.put {n:Nat} {a:Act} {e:Env} (h:Rep n a e) {d:Option Nat} (hd:j4 n d=true) (v:Value):Rep n (a.put d v) (m3 e d v):=by
 cases d with
 |none=>exact h
 |some d=>
  have E5:d<n:=by simpa [j4,Nat.blt_eq]using hd
  refine⟨by simp[Act.put,h.size],by simp[Act.put,h.defers],fun t=>?_⟩;have hg:=h.get t;simp only[Act.put,m3,upd,Array.getD_eq_getD_getElem?,Array.getElem?_setIfInBounds]at hg⊢;by_cases htd:t=d
  ·subst htd;simp[h.size,E5]
  ·simp only[htd,if_false,Ne.symm htd];exact hg
def lift (n:Nat) (Q:Exit->Env->World->Prop):Exit->Act->World->Prop:=fun x a w=>∃e,Rep n a e/\Q x e w
def N8 (next:Env->World->Prop) (Q:Exit->Env->World->Prop):Exit->Env->World->Prop
 | .normal,e,w=>next e w
 |x,e,w=>Q x e w
def B9 (id:Nat) (Q:Exit->Env->World->Prop):Exit->Env->World->Prop
 | .exit id',e,w=>if id'=id then Q .normal e w else Q (.exit id') e w
 |x,e,w=>Q x e w
section
variable {n:Nat}{e:Env}{w:World}
def Jb0 (n:Nat) (l:List Oper):Bool:=l.all fun o=>j4 n o.dst
variable {ops:Array Oper}{o:Oper}{v:Value}
def k3 (ops:Array Oper) (e:Env) (j:Nat):Option Bool :=
 match(ops[j]?).bind (·.dst)with
 |some t=>match e t with| .bool b=>some b|_=>none
 |none=>none
theorem ic0 {a:Act} (ha:Rep n a e) (j:Nat):yielded ops a.tmps j=k3 ops e j:=by
 unfold yielded k3;cases h:(ops[j]?).bind (·.dst)with
 |none=>simp
 |some t=>
  have hg:=ha.get t;simp only[Option.bind_some,Array.getD_eq_getD_getElem?]at hg⊢;cases h2:a.tmps[t]? with
  |none=>rw[h2]at hg;simp only[Option.getD_none]at hg;rw[<- hg];rfl
  |some u=>rw[h2]at hg;simp only[Option.getD_some]at hg;rw[<- hg];cases u <;> rfl
theorem v5 {a:Act} (ha:Rep n a e) (o:Oper):Region.wanted o (yielded ops a.tmps)=Region.wanted o (k3 ops e):=by
 have:yielded ops a.tmps=k3 ops e:=funext (ic0 ha);rw[this]
def Ret (R:Value->World->Prop):Ending->World->Prop
 | .returned v,w=>R v w
 |_,_=>False
end
section
end
def hav (G:List Nat) (f e:Env):Env:=fun t=>if G.contains t then f t else e t
def K1 (G:List Nat) (e' e:Env):Prop:=∀t,G.contains t=false->e' t=e t
theorem K1.refl (G:List Nat) (e:Env):K1 G e e:=fun _ _=>rfl
theorem K1.upd {G:List Nat} {e' e:Env} {d:Nat} {v:Value} (hd:G.contains d=true) (h:K1 G e' e):K1 G (upd e' d v) e:=fun t ht=>by
 have:t≠d:=fun h=>by subst h;rw[hd]at ht;cases ht
 rw[upd_ne _ _ this];exact h t ht
theorem K1.out {G:List Nat} {e' e:Env} (h:K1 G e' e):∃f,e'=hav G f e:=⟨e',by
 funext t;unfold hav;split
 ·rfl
 ·rename_i ht;exact h t (by simpa using ht)⟩
section
end
end Go.Vc
end
