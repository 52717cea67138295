/- What the claim leans on, part 1. Laws. -/
import Derived.Conc.TokenTrace
import GoSem.Claim
import Derived.Below
import Derived.Conc.Token
import Derived.Conc.Listed
import Derived.Orders
import Derived.Deep.LoopGhost
import Derived.Conc.CompanyDraw
import GoSem.Dispatch
import Derived.WalkKit
set_option linter.unusedVariables false
namespace Go
structure B(Q:Prop):Prop where
  v:Q
section
variable{P Q:Prop}
theorem U46(h:P:=by refine AtR.leaveD (F0 _) rfl Tryz.func68 rfl hcm ?_;exact QuitsD.mono hT (by omega)):P:=h
theorem U337(h:P:=by have hm:T3 w w' w0.heap.size [30]:=T3.put h.hR hg h.hi.2.1 rfl;exact⟨h.hG.mod hm rfl,Z0,h.hE.mod hm rfl,h.hX.mod hm rfl,h.hA.mod hm rfl,h.hS.mod hm rfl,Ni0 h.h4 hg h.r4,bx0 h.h6 hm rfl,fun i hi=>(h.hL i hi).mod hm rfl,h.hV.mod hm rfl,h.inj,h.le,h.lw,h.et,h.r4,h.s6,Nat.le_trans h.bs hm.size,h.b0,h.lo,h.hi,Below.wb0 h.hb hm⟩):P:=h
theorem U117(h:P:=by refine U36 ?_;exact⟨_,rfl,by simp only[decide_eq_true_eq];unfold POk;omega,hb⟩):P:=h
theorem U372(h:P:=by refine T.nrm ?_;exact⟨_,by omega,⟨i+1,a2,q+1,cp2,rfl,rfl,rfl,rfl,rfl,rfl,rfl,(by omega),(by rw[hrl,List.length_append,hq];rfl),(by rw[hrl,List.map_append];simpa [Jn0,hc]using hO2),hb⟩⟩):P:=h
theorem U379(h:P:=by rw[Ec0 h8 hP];exact⟨hp,W7.mem.set hp (sa:=sa) (by decide) (by decide) (J0 o) (aj0.of P3) (.inl rfl) (by unfold O7;simp only[fi0];exact hB) rfl fun _ _ _ _ _ _ h=>Ef0 h⟩):P:=h
theorem U380(h:P:=by rw[Ed0 h8 hP];exact⟨hp,W7.mem.set hp (sa:=sa) (by decide) (by decide) (J0 o) (aj0.of P3) (.inl rfl) (by unfold O7;simp only[fi0];exact hB) rfl fun _ _ _ _ _ _ h=>Ef0 h⟩):P:=h
theorem U381(h:P:=by rw[hm.hit j p t hp hd (A6 j hj)];exact(vy0 e0 ops.toList vals t j p (by rw[hlz];exact hp) hd (fun i' p' hp' g6=>h.one i' j p' p t (by rw[<- hlz];exact hp') hp g6 hd) _ hj).symm):P:=h
theorem U183(h:P:=by refine U85 ?_;exact⟨rfl,u0,F',h',r',⟨hK,F9⟩,hC0,hCn,P3,ht⟩):P:=h
theorem U270(h:P:=by refine U29 ?_;exact⟨_,by omega,⟨i+1,rfl,rfl,rfl,rfl,(by omega),h1,h2,Z1,n3,hb⟩⟩):P:=h
theorem U186(h:P:=by refine AtR.Iy0 S2 rfl Tryz.func70 rfl ?_;exact Vo0 hK):P:=h
theorem U418(h:P:=by refine T.nrm ?_;exact⟨_,by omega,⟨i+1,a,q,cp,rfl,rfl,rfl,rfl,rfl,rfl,rfl,(by omega),(by rw[hrl];exact hq),(by rw[hrl];exact hO),hb⟩⟩):P:=h
theorem U95(h:P:=by refine U85 ?_;exact⟨rfl,cd0⟩):P:=h
theorem U96(h:P:=by refine U36 ?_;exact⟨rfl,hb⟩):P:=h
theorem U469(h:P:=by refine ZA.done hZ ?_;exact ZA.leaves (fn:=Tryz.f83) (f:=83) rfl func83 rfl (fun fr h8 h9=>hK _ fr h2 h8 h9)):P:=h
theorem U519(h:P:=by have hZ':Ctx.Zs prog (Fin prog Post {X' with pend:=0,cap:=0,dn:=0} 0):=V4;refine ZA.back (cc0 prog Post {X' with pend:=0,cap:=0,dn:=0} 0) (i:=1) rfl rfl ha h9 ?_;exact Pt0 hE hT hJ' (by rw[<- hrb];rfl) rfl):P:=h
theorem U523(h:P:=by rw[if_neg (by omega),if_neg (by omega)];exact h1.new b (by show u.heap.size <=b;omega)):P:=h
theorem U209(h:P:=by refine U128 ?_;exact⟨rfl,hC,P3⟩):P:=h
theorem U548(h:P:=by rw[<- hv];exact next w (hl (fun j=>listed.getD j false) w hDi hVD ad0 hJ)):P:=h
theorem U585(h:P:=by refine AtR.Iy0 u1 rfl Tryz.func66 rfl ?_;exact Iz0 hK):P:=h
theorem U210(h:P:=by refine U38 ?_;exact⟨s1,r1,W7,j9,hl1,rfl⟩):P:=h
theorem U588(h:P:=by rw[hs];exact⟨w'.heap.size,upd_same _ _ _,F.blk,hI.hb.size⟩):P:=h
theorem U317(h:P:=by refine U128 ?_;exact⟨rfl,hB1,hg⟩):P:=h
variable(k:Q)
include k
theorem U2(h:Q->P:=by intro O;refine W.seq ?_;exact W.region rfl O):P:=h k
theorem U5(h:Q->P:=by intro O;refine L.nil ?_;show W _ _ _ _ _ _;exact O):P:=h k
theorem U11(h:Q->P:=by intro O;refine L.va (yf0 rfl) ?_;exact U5 O):P:=h k
theorem U9(h:Q->P:=by intro O;refine L.va (ik0 rfl) ?_;exact U5 O):P:=h k
theorem U42(h:Q->P:=by intro O;refine U2 ?_;exact L.va (G0 rfl underlying52 rfl z8 (by decide)) O):P:=h k
theorem U224(h:Q->P:=by intro O;refine I0.off (F0 _) rfl rfl ?_;exact I0.off (F0 _) rfl rfl O):P:=h k
theorem U143(h:Q->P:=by intro O;refine T.nrm ?_;show ZA _ _ _ _ _ _ _;exact O):P:=h k
theorem U144(h:Q->P:=by intro O;refine At.seq (F0 _) ?_;exact At.region (F0 _) O):P:=h k
theorem U145(h:Q->P:=by intro O;(repeat(first|refine T.nrm ?_|refine B.nrm ?_|refine N.nrm ?_));exact ends.none (.inl rfl) rfl O):P:=h k
theorem U108(h:Q->P:=by intro O;refine ZA.W hZ hb ?_;exact W.region rfl O):P:=h k
theorem U321(h:Q->P:=by intro O;refine U224 ?_;exact I0.val (F0 _) (A1 _) rfl (v:=.bool false) (db0 rfl rfl) O):P:=h k
theorem U322(h:Q->P:=by intro O;refine F.va rfl rfl (fun w' C1=>(W3 rfl)) ?_;exact F.va rfl rfl (fun w' C1=>(m3 rfl)) O):P:=h k
theorem U3(h:Q->P:=by intro O;have hb:Below w0.heap.size w0 w0:=Below.refl _ _;refine U2 ?_;revert hb;exact O):P:=h k
theorem U225(h:Q->P:=by intro O;refine U11 ?_;exact W.r6 rfl O):P:=h k
theorem U1(h:Q->P:=by intro O;refine L.nil ?_;exact U143 O):P:=h k
theorem U21(h:Q->P:=by intro O;refine L.va (W3 rfl) ?_;exact L.va (J1 rfl) O):P:=h k
theorem U323(h:Q->P:=by intro O;refine I0.val (F0 _) (A1 _) rfl (v:=.bool false) (T7 (r:=false) rfl rfl (by decide)) ?_;exact I0.val (F0 _) (A1 _) rfl (v:=.bool false) (M0 rfl) O):P:=h k
theorem U324(h:Q->P:=by intro O;refine D.va (fun w' C1=>(A0 rfl underlying91 rfl ((hA.j0 C1).E0 0 (v:=.p c.cb) rfl))) ?_;exact D.va (fun w' C1=>(J1 rfl)) O):P:=h k
theorem U325(h:Q->P:=by intro O;refine I0.nil (F0 _) ?_;exact At.r6 (F0 _) rfl O):P:=h k
theorem U326(h:Q->P:=by intro O;refine I0.val L2 (A1 _) rfl (v:=.pointer (some ⟨gr.blk,gr.off,none⟩)) (M0 rfl) ?_;exact I0.val L2 (A1 _) rfl (v:=.pointer (some ⟨gr.blk,gr.off,none⟩)) (N3 rfl) O):P:=h k
theorem U0(h:Q->P:=by intro O;refine ZA.seq hZ ?_;exact U108 O):P:=h k
theorem U226(h:Q->P:=by intro O;(repeat(first|refine T.exit ?_|refine N.exit ?_|refine B.np1 (by decide) ?_));exact B.Va0 O):P:=h k
theorem U227(h:Q->P:=by intro O;refine I0.D9 (F0 _) (A1 _) rfl rfl (v:=.bool false) (ee0 (r:=false) rfl rfl (by decide)) ?_;exact I0.val (F0 _) (A1 _) rfl (v:=.bool false) (L8 rfl rfl) O):P:=h k
theorem U78(h:Q->P:=by intro O;refine At.seq (W0 _ gr 2) ?_;exact At.region (W0 _ gr 2) O):P:=h k
theorem U43(h:Q->P:=by intro O;refine At.seq (F0 _) ?_;exact U144 O):P:=h k
theorem U109(h:Q->P:=by intro O;refine W.ret ?_;(repeat(first|refine T.ret ?_|refine B.ret ?_|refine N.ret ?_));exact ends.one (.inr rfl) rfl O):P:=h k
theorem U57(h:Q->P:=by intro O;refine W.skip ?_;show W _ _ _ _ _ _;exact O):P:=h k
theorem U79(h:Q->P:=by intro O;refine L.off rfl ?_;exact L.off rfl O):P:=h k
theorem U146(h:Q->P:=by intro O;refine L.va (j1 (cs:=[.int .i64 obj,.int .i64 num]) rfl underlying107 rfl li0 rfl (hC.J4 rfl)) ?_;exact L.va (W3 rfl) O):P:=h k
theorem U228(h:Q->P:=by intro O;refine B.nrm ?_;show W _ _ _ _ _ _;exact O):P:=h k
theorem U229(h:Q->P:=by intro O;refine U325 ?_;exact At.skip (F0 _) O):P:=h k
theorem U14(h:Q->P:=by intro O;refine W.seq ?_;exact U2 O):P:=h k
theorem U327(h:B Q->P:=by intro O;refine I0.val (F0 _) (A1 _) rfl (v:=.int .i32 (((v:Nat):Int))) (B3 (r:=((v:Nat):Int)) rfl Tryz.underlying136 Tryz.underlying21 (dc0 v (by omega))) ?_;exact I0.val (F0 _) (A1 _) rfl (v:=.int .i32 (((v:Nat):Int))) (Y0 rfl) O.1):P:=h ⟨k⟩
theorem U4(h:Q->P:=by intro O;refine U225 ?_;exact U2 O):P:=h k
theorem U110(h:Q->P:=by intro O;refine I0.off (W0 _ gr 2) rfl rfl ?_;exact I0.off (W0 _ gr 2) rfl rfl O):P:=h k
theorem U26(h:Q->P:=by intro O;refine D.va (fun w' C1=>(I7 rfl)) ?_;exact D.va (fun w' C1=>(m3 rfl)) O):P:=h k
theorem U80(h:Q->P:=by intro O;refine L.va (A0 rfl underlying111 rfl (hM.E0 0 (v:=(.iface 193 (.pointer (some ⟨sb,0,none⟩)))) rfl)) ?_;exact L.va (W3 rfl) O):P:=h k
theorem U12(h:Q->P:=by intro O;refine At.seq L2 ?_;exact At.region L2 O):P:=h k
theorem U230(h:Q->P:=by intro O;refine W.block ?_;exact U2 O):P:=h k
theorem U44(h:Q->P:=by intro O;refine L.va (y9 rfl) ?_;exact L.on rfl O):P:=h k
theorem U111(h:Q->P:=by intro O;refine At.seq (H3 _ gr) ?_;exact At.region (H3 _ gr) O):P:=h k
theorem U147(h:Q->P:=by intro O;refine I0.val (W0 _ gr 2) (A1 _) rfl (v:=.pointer (some ⟨gr.blk,gr.off,none⟩)) (M0 rfl) ?_;exact I0.val (W0 _ gr 2) (A1 _) rfl (v:=.pointer (some ⟨gr.blk,gr.off,none⟩)) (N3 rfl) O):P:=h k
theorem U45(h:Q->P:=by intro O;refine L.va (Dc0 rfl) ?_;exact U5 O):P:=h k
theorem U6(h:Q->P:=by intro O;refine F.nil ?_;show L _ _ _ _ _ _ _;exact O):P:=h k
theorem U328(h:Q->P:=by intro O;refine I0.val (F0 _) (A1 _) rfl (v:=.int .u32 0) (B3 (r:=0) rfl Tryz.underlying136 Tryz.underlying139 (by decide)) ?_;exact I0.val (F0 _) (A1 _) rfl (v:=.int .u32 0) (Y0 rfl) O):P:=h k
theorem U58(h:Q->P:=by intro O;refine L.va (W3 rfl) ?_;exact L.va (m3 rfl) O):P:=h k
theorem U231(h:Q->P:=by intro O;refine I0.val (H3 _ gr) (A1 _) rfl (v:=.pointer (some ⟨gr.blk,gr.off,none⟩)) (M0 rfl) ?_;exact I0.val (H3 _ gr) (A1 _) rfl (v:=.pointer (some ⟨gr.blk,gr.off,none⟩)) (N3 rfl) O):P:=h k
theorem U27(h:Q->P:=by intro O;refine C.enter (n:=99) func38 rfl rfl ?_;have hb:Below w0.heap.size w0 w0:=Below.refl _ _;revert hb;exact O):P:=h k
theorem U59(h:Q->P:=by intro O;refine W.seq ?_;exact U42 O):P:=h k
theorem U34(h:Q->P:=by intro O;refine U11 ?_;exact W.Q4 rfl O):P:=h k
theorem U232(h:Q->P:=by intro O;refine At.r6 (W0 _ gr 2) rfl ?_;exact At.skip (W0 _ gr 2) O):P:=h k
theorem U47(h:Q->P:=by intro O;refine AtR.leave0 (F0 _) Y5 rfl Tryz.func66 rfl ?_;exact I0.nil (F0 _) O):P:=h k
theorem U233(h:Q->P:=by intro O;refine At.seq u1 ?_;exact At.region u1 O):P:=h k
theorem U148(h:Q->P:=by intro O;refine D.va (fun w' C1=>(G0 rfl underlying153 rfl Tf0 (by decide))) ?_;exact D.va (fun w' C1=>(A0 rfl underlying150 rfl ((hg.m.run.j0 C1).E0 7 (v:=.chan (some R.yb)) rfl))) O):P:=h k
theorem U81(h:Q->P:=by intro O;refine U78 ?_;exact I0.val (W0 _ gr 2) (A1 _) rfl (v:=.int .u64 (((0*4294967296+1:Nat):Int))) (M0 rfl) O):P:=h k
theorem U329(h:B Q->P:=by intro O;refine L.va (nb0 rfl rfl (by omega)) ?_;exact L.va (m3 rfl) O.1):P:=h ⟨k⟩
theorem U149(h:Q->P:=by intro O;refine I0.D9 (W0 _ gr 2) (A1 _) rfl rfl (v:=.bool false) (ee0 (r:=false) rfl rfl (by decide)) ?_;exact I0.val (W0 _ gr 2) (A1 _) rfl (v:=.bool false) (L8 rfl rfl) O):P:=h k
theorem U234(h:Q->P:=by intro O;refine D.va (fun w' C1=>(G0 rfl underlying52 rfl z8 (by decide))) ?_;exact D.va (fun w' C1=>(A0 rfl underlying3 rfl ((n3.j0 C1).E0 0 (v:=.int .i64 (th:Nat)) rfl))) O):P:=h k
theorem U60(h:Q->P:=by intro O;refine U21 ?_;exact L.va (G0 rfl underlying149 rfl sz4 (by decide)) O):P:=h k
theorem U150(h:Q->P:=by intro O;refine I0.off u1 rfl rfl ?_;exact I0.off u1 rfl rfl O):P:=h k
theorem U112(h:Q->P:=by intro O;refine L.va (J1 rfl) ?_;exact L.va (G0 rfl underlying149 rfl sz4 (by decide)) O):P:=h k
theorem U235(h:Q->P:=by intro O;have L4:Below w.heap.size w w.drew:=(Below.refl w.heap.size w).drew;have hb:=P0 hb L4;revert L4 hb;exact O):P:=h k
theorem U151(h:Q->P:=by intro O;refine U326 ?_;exact I0.val L2 (A1 _) rfl (v:=.pointer (some ⟨gr.blk,gr.off,none⟩)) (G3 (s:=1) gr.off gr.off rfl Tryz.underlying138 rfl nr0 (by decide) rfl) O):P:=h k
theorem U152(h:Q->P:=by intro O;refine U326 ?_;exact I0.val L2 (A1 _) rfl (v:=.pointer (some ⟨gr.blk,gr.off,none⟩)) (G3 (s:=1) gr.off gr.off rfl Tryz.underlying141 rfl ns0 (by decide) rfl) O):P:=h k
theorem U330(h:Q->P:=by intro O;refine L.va (A0 rfl underlying193 rfl (K6.E0 0 (v:=.pointer (some ⟨sb,0,none⟩)) rfl)) ?_;exact L.va (J1 rfl) O):P:=h k
theorem U236(h:Q->P:=by intro O;refine L.va (G0 rfl underlying40 rfl Vs0 (by decide)) ?_;exact L.va (M1 (i:=Q0 (⟨(th:Nat),wh,4,vv⟩:O1)) (n:=2) rfl rfl underlying36 z8 (J0 _)) O):P:=h k
theorem U331(h:Q->P:=by intro O;refine L.va (A0 rfl underlying56 rfl (hC.E0 2 (v:=.pointer (some ⟨wb,0,none⟩)) rfl)) ?_;exact L.call (C2 rfl func44 rfl Bl0 rfl) (jf0 wb w hW) O):P:=h k
theorem U237(h:B Q->P:=by intro O;refine D.va (fun w' C1=>(G0 rfl underlying40 rfl bd1 (by decide))) ?_;exact D.va (fun w' C1=>(M1 (i:=th) (n:=6) rfl rfl underlying38 bc1 (by omega))) O.1):P:=h ⟨k⟩
theorem U238(h:Q->P:=by intro O;refine I0.val u1 (A1 _) rfl (v:=.bool false) (T7 (r:=false) rfl rfl (by decide)) ?_;exact I0.val u1 (A1 _) rfl (v:=.bool false) (M0 rfl) O):P:=h k
theorem U82(h:Q->P:=by intro O;have lt3:=F3.lq hb.size;have hb:=P0 hb F3.below;revert lt3 hb;exact O):P:=h k
theorem U113(h:Q->P:=by intro O;refine U5 ?_;exact W.r6 rfl O):P:=h k
theorem U332(h:Q->P:=by intro O;refine D.va (fun w' C1=>(S3 (i:=j) rfl rfl underlying22 Bk0 hBo.sl Y1)) ?_;exact D.va (fun w' C1=>(A0 (v:=.slice (oa j) (p.bo j).length (oc j)) rfl underlying50 rfl (C5 (hBo.row j Y1) (RY.hb (hR.j0 C1))))) O):P:=h k
theorem U153(h:Q->P:=by intro O;refine U228 ?_;exact W.region rfl O):P:=h k
theorem U154(h:Q->P:=by intro O;refine I0.val (F0 _) (A1 _) rfl (v:=.bool true) (M0 rfl) ?_;exact I0.D9 (F0 _) (A1 _) rfl rfl (v:=.int .i64 (-1)) (M0 rfl) O):P:=h k
theorem U35(h:Q->P:=by intro O;refine At.seq S2 ?_;exact At.region S2 O):P:=h k
theorem U155(h:Q->P:=by intro O;refine L.va (A0 rfl underlying3 rfl (n3.E0 2 (v:=.int .i64 1) rfl)) ?_;exact L.va (E1 (r:=true) (by decide) (H2 (m:=1) (k:=1) rfl rfl)) O):P:=h k
theorem U114(h:Q->P:=by intro O;refine L.va (J1 rfl) ?_;exact L.va (G0 rfl underlying153 rfl df0 (by decide)) O):P:=h k
theorem U156(h:Q->P:=by intro O;refine I0.val (F0 _) (A1 _) rfl (v:=.bool true) (M0 rfl) ?_;exact I0.D9 (F0 _) (A1 _) rfl rfl (v:=.i (-1)) (M0 rfl) O):P:=h k
theorem U61(h:Q->P:=by intro O;refine L.Af0 (b:=b4) (s:=s1) rfl rfl Y3 (n5 _) (fun w Z0 hg I2=>?_);have hb:=D3 hb hb.size hg lt4;revert w Z0 hg I2 hb;exact O):P:=h k
theorem U83(h:Q->P:=by intro O;refine L.va (E8 rfl) ?_;exact L.nil O):P:=h k
theorem U115(h:Q->P:=by intro O;refine L.va (u7 rfl) ?_;exact L.nil O):P:=h k
theorem U28(h:Q->P:=by intro O;refine L.va (I7 rfl) ?_;exact L.va (m3 rfl) O):P:=h k
theorem U7(h:Q->P:=by intro O;refine U9 ?_;exact U2 O):P:=h k
theorem U239(h:Q->P:=by intro O;refine D.va (fun w' C1=>(S3 (i:=j) rfl rfl underlying23 z8 (fun _=>rfl) Y1)) ?_;exact D.va (fun w' C1=>(A0 (v:=.int .i64 (k:Nat)) rfl underlying3 rfl (jo0 (RY.hA (hR.j0 C1)) Y1 hk))) O):P:=h k
theorem U22(h:Q->P:=by intro O;refine At.seq R2 ?_;exact At.region R2 O):P:=h k
theorem U157(h:Q->P:=by intro O;refine U324 ?_;exact D.va (fun w' C1=>(G0 rfl underlying149 rfl Jf0 (by decide))) O):P:=h k
theorem U84(h:Q->P:=by intro O;refine I0.val (W0 _ gr 2) (A1 _) rfl (v:=.bool false) (M0 rfl) ?_;exact U110 O):P:=h k
theorem U23(h:Q->P:=by intro O;refine U5 ?_;exact W.Q4 rfl O):P:=h k
theorem U158(h:Q->P:=by intro O;refine U324 ?_;exact D.va (fun w' C1=>(G0 rfl underlying149 rfl z8 (by decide))) O):P:=h k
theorem U240(h:Q->P:=by intro O;refine I0.val (F0 _) (A1 _) rfl (v:=.int .u64 (((0*4294967296+0:Nat):Int))) (Y0 rfl) ?_;exact I0.nil (F0 _) O):P:=h k
theorem U241(h:Q->P:=by intro O;refine U43 ?_;exact I0.val (F0 _) (A1 _) rfl (v:=.int .u32 0) (M0 rfl) O):P:=h k
theorem U85(h:Q->P:=by intro O;refine L.nil ?_;exact U145 O):P:=h k
theorem U159(h:Q->P:=by intro O;refine U0 ?_;exact L.va (A0 rfl underlying91 rfl (hA.E0 0 (v:=.p c.cb) rfl)) O):P:=h k
theorem U86(h:Q->P:=by intro O;refine U150 ?_;exact I0.val u1 (A1 _) rfl (v:=.bool false) (db0 rfl rfl) O):P:=h k
theorem U160(h:Q->P:=by intro O;refine W.ret ?_;(repeat(first|refine T.ret ?_|refine B.ret ?_|refine N.ret ?_));exact O):P:=h k
theorem U242(h:Q->P:=by intro O;refine D.va (fun w' C1=>(G0 rfl underlying30 rfl wj0 (by decide))) ?_;exact D.va (fun w' C1=>(A0 rfl underlying23 rfl ((hR.j0 C1).E0 3 (v:=.slice (pt R.eb) R.m R.m) rfl))) O):P:=h k
theorem U8(h:Q->P:=by intro O;refine U5 ?_;exact U230 O):P:=h k
theorem U243(h:Q->P:=by intro O;refine W.ej0 9 (fun w'=>Below w.heap.size w w') (by kernel_rfl) (by kernel_rfl) (by kernel_rfl) (by kernel_rfl) ((Below.refl w.heap.size w).drew) ?_;exact D.va (fun w' C1=>(W3 rfl)) O):P:=h k
theorem U244(h:Q->P:=by intro O;have z7:O0 w M.rb #[.slice M.ea M.evs.length M.ec,.slice none 0 0,.slice (some ⟨M.eb,0,none⟩) p.m p.m,.slice (some ⟨M.xb,0,none⟩) p.m p.m,.bool M.stuck,.int .i64 (M.used:Int)] 30:=hR.hR;revert z7;exact O):P:=h k
theorem U333(h:Q->P:=by intro O;refine L.box (v:=.agg (stA s)) (cs:=stA s) rfl rfl (fun w b2 F2=>?_);have lt2:=F2.lq hb.size;have hb:=P0 hb F2.below;revert w b2 F2 lt2 hb;exact O):P:=h k
theorem U245(h:B Q->P:=by intro O;refine F.va rfl rfl (fun w' C1=>(G0 rfl underlying40 rfl bd1 (by decide))) ?_;exact F.va rfl rfl (fun w' C1=>(M1 (i:=th) (n:=6) rfl rfl underlying38 bc1 (by omega))) O.1):P:=h ⟨k⟩
theorem U24(h:Q->P:=by intro O;refine U1 ?_;exact ZA.seq hZ O):P:=h k
theorem U246(h:Q->P:=by intro O;refine D.va (fun w' C1=>(G0 rfl underlying52 rfl sz2 (by decide))) ?_;exact D.va (fun w' C1=>(A0 rfl underlying2 rfl ((n3.j0 C1).E0 3 (v:=.int .i64 vv) rfl))) O):P:=h k
theorem U15(h:Q->P:=by intro O;refine U14 ?_;exact L.va (m3 rfl) O):P:=h k
theorem U334(h:Q->P:=by intro O;refine D.va (fun w' C1=>(J1 rfl)) ?_;exact D.va (fun w' C1=>(G0 rfl underlying153 rfl df0 (by decide))) O):P:=h k
theorem U335(h:Q->P:=by intro O;refine W.seq ?_;exact W.fl 17 [3,15] [0,1,2,4,5,3,6,7,8,9,10,11,12,13,14,16,15] (fun w'=>O0 w' b3 #[.int .i64 1,.int .i64 wh,.int .i64 1,.int .i64 vv] 52/\O0 w' b2 (stA s) 40) (by kernel_rfl) (by kernel_rfl) (by kernel_rfl) (by kernel_rfl) (by kernel_rfl) (⟨n3.j0 (Below.refl w.heap.size w).drew,Z1.j0 (Below.refl w.heap.size w).drew⟩) O):P:=h k
theorem U336(h:Q->P:=by intro O;refine W.seq ?_;exact W.fl 17 [3,15] [0,1,2,4,5,3,6,7,8,9,10,11,12,13,14,16,15] (fun w'=>O0 w' b3 #[.int .i64 2,.int .i64 wh,.int .i64 1,.int .i64 vv] 52/\O0 w' b2 (stA s) 40) (by kernel_rfl) (by kernel_rfl) (by kernel_rfl) (by kernel_rfl) (by kernel_rfl) (⟨n3.j0 (Below.refl w.heap.size w).drew,Z1.j0 (Below.refl w.heap.size w).drew⟩) O):P:=h k
theorem U247(h:Q->P:=by intro O;refine At.region M4 ?_;exact I0.val M4 (A1 _) rfl (v:=.pointer (some ⟨gr.blk,gr.off,none⟩)) (M0 rfl) O):P:=h k
theorem U116(h:Q->P:=by intro O;refine L.on rfl ?_;exact L.va (H2 rfl rfl) O):P:=h k
theorem U36(h:Q->P:=by intro O;refine U11 ?_;exact U109 O):P:=h k
theorem U161(h:Q->P:=by intro O;refine U144 ?_;exact I0.val (F0 _) (A1 _) rfl (v:=.int .u64 (((v*4294967296+0:Nat):Int))) (M0 rfl) O):P:=h k
theorem U162(h:Q->P:=by intro O;refine U144 ?_;exact I0.val (F0 _) (A1 _) rfl (v:=.int .u64 (((v*4294967296+1:Nat):Int))) (M0 rfl) O):P:=h k
theorem U248(h:Q->P:=by intro O;refine D.va (fun w' C1=>(A0 rfl underlying3 rfl ((hC.j0 C1).E0 0 (v:=.i (i:Int)) rfl))) ?_;exact D.va (fun w' C1=>ae0 (i:=i) rfl rfl underlying23 z8 hi) O):P:=h k
theorem U163(h:Q->P:=by intro O;have hb:=P0 hb P1;have Z1:=Z1.j0 P1;revert hb Z1;exact O):P:=h k
theorem U164(h:Q->P:=by intro O;refine U144 ?_;exact I0.val (F0 _) (A1 _) rfl (v:=.int .u64 (((0*4294967296+0:Nat):Int))) (M0 rfl) O):P:=h k
theorem U25(h:Q->P:=by intro O;refine L.va (im0 rfl rfl) ?_;exact U5 O):P:=h k
theorem U249(h:Q->P:=by intro O;refine D.va (fun w' C1=>(A0 rfl underlying146 rfl (((hg.m.blk i _ (B6 hc)).j0 C1).E0 1 (v:=.p R.rb) rfl))) ?_;exact D.va (fun w' C1=>(J1 rfl)) O):P:=h k
theorem U338(h:Q->P:=by intro O;refine L.va (S3 (i:=i) rfl rfl underlying22 Bk0 hBo.sl Y1) ?_;exact L.va (A0 (v:=.slice (oa i) (bo i).length (oc i)) rfl underlying50 rfl (hBo.row i Y1)) O):P:=h k
theorem U250(h:Q->P:=by intro O;refine U1 ?_;exact ZA.ej0 hZ hb 11 (fun w'=>Below w.heap.size w w') (by kernel_rfl) (by kernel_rfl) (by kernel_rfl) (by kernel_rfl) (Below.refl w.heap.size w).drew O):P:=h k
theorem U62(h:Q->P:=by intro O;refine At.seq (W0 _ gr 2) ?_;exact U78 O):P:=h k
theorem U37(h:Q->P:=by intro O;refine I0.nil (F0 _) ?_;exact U43 O):P:=h k
theorem U339(h:B Q->P:=by intro O;refine I0.val (W0 _ gr 2) (A1 _) rfl (v:=.int .u64 (((0:Nat):Int))) (ef0 (r:=((0:Nat):Int)) rfl rfl (by decide) (np0 0 1 (by omega))) ?_;exact I0.val (W0 _ gr 2) (A1 _) rfl (v:=.int .i32 (((0:Nat):Int))) (B3 (r:=((0:Nat):Int)) rfl Tryz.underlying136 Tryz.underlying21 (dc0 0 (by omega))) O.1):P:=h ⟨k⟩
theorem U340(h:B Q->P:=by intro O;refine I0.val L2 (A1 _) rfl (v:=.int .u64 (((v*4294967296+1:Nat):Int))) (Bg0 (r:=((v*4294967296+1:Nat):Int)) rfl rfl (add1 v (by omega))) ?_;refine I0.call L2 (A1 _) [.pointer (some ⟨gr.blk,gr.off,none⟩),.int .u64 (((v*4294967296+0:Nat):Int)),.int .u64 (((v*4294967296+1:Nat):Int))] 13 rfl Tryz.func102 co1 rfl rfl rfl (fun cs2 hb2=>?_);revert cs2 hb2;exact O.1):P:=h ⟨k⟩
theorem U87(h:Q->P:=by intro O;refine L.va (I7 rfl) ?_;exact L.va (S6 rfl underlying23 rfl) O):P:=h k
theorem U341(h:B Q->P:=by intro O;refine I0.val (F0 _) (A1 _) rfl (v:=.int .u64 (((0:Nat):Int))) (ef0 (r:=((0:Nat):Int)) rfl rfl (by decide) (np0 0 0 (by omega))) ?_;exact I0.val (F0 _) (A1 _) rfl (v:=.int .i32 (((0:Nat):Int))) (B3 (r:=((0:Nat):Int)) rfl Tryz.underlying136 Tryz.underlying21 (dc0 0 (by omega))) O.1):P:=h ⟨k⟩
theorem U251(h:Q->P:=by intro O;refine W.ej0 13 (fun w'=>Below w.heap.size w w') (by kernel_rfl) (by kernel_rfl) (by kernel_rfl) (by kernel_rfl) ((Below.refl w.heap.size w).drew) ?_;exact U157 O):P:=h k
theorem U342(h:Q->P:=by intro O;refine I0.val (H3 _ gr) (A1 _) rfl (v:=.int .u64 18446744073709551615) (B3 (r:=18446744073709551615) rfl Tryz.underlying3 Tryz.underlying136 (by decide)) ?_;exact I0.val (H3 _ gr) (A1 _) rfl (v:=.int .u64 18446744069414584320) (Ir0 (r:=18446744069414584320) rfl rfl (by decide) (by decide)) O):P:=h k
theorem U252(h:Q->P:=by intro O;refine I0.val hY hb rfl (nn0 rfl underlying153 rfl Tf0 (by decide)) ?_;exact I0.stay (v:=.chan (some R.yb)) hb rfl (by simp) rfl underlying150 rfl O):P:=h k
theorem U165(h:Q->P:=by intro O;refine U12 ?_;exact I0.val L2 (A1 _) rfl (v:=.int .u64 (((v*4294967296+0:Nat):Int))) (M0 rfl) O):P:=h k
theorem U343(h:B Q->P:=by intro O;refine I0.val L2 (A1 _) rfl (v:=.int .u64 (((v:Nat):Int))) (ef0 (r:=((v:Nat):Int)) rfl rfl (by decide) (np0 v 0 (by omega))) ?_;exact I0.val L2 (A1 _) rfl (v:=.int .i32 (((v:Nat):Int))) (B3 (r:=((v:Nat):Int)) rfl Tryz.underlying136 Tryz.underlying21 (dc0 v (by omega))) O.1):P:=h ⟨k⟩
theorem U344(h:Q->P:=by intro O;have x6:=T3.eo0 u6 hg;have hb:=D3 hb hb.size hg lt6;revert x6 hb;exact O):P:=h k
theorem U345(h:Q->P:=by intro O;refine I0.val (W0 _ gr 0) (A1 _) rfl (v:=.pointer (some ⟨gr.blk,gr.off,none⟩)) (N3 rfl) ?_;exact I0.val (W0 _ gr 0) (A1 _) rfl (v:=.pointer (some ⟨gr.blk,gr.off+1,none⟩)) (G3 (s:=1) gr.off (gr.off+1) rfl Tryz.underlying141 rfl Je0 (by decide) rfl) O):P:=h k
theorem U166(h:Q->P:=by intro O;refine U62 ?_;exact I0.val (W0 _ gr 2) (A1 _) rfl (v:=.int .i32 (((0:Nat):Int))) (M0 rfl) O):P:=h k
theorem U167(h:Q->P:=by intro O;refine ZA.skip hZ ?_;exact ZA.seq hZ O):P:=h k
theorem U168(h:Q->P:=by intro O;refine F.va rfl rfl (fun w' C1=>(I7 rfl)) ?_;exact F.va rfl rfl (fun w' C1=>(m3 rfl)) O):P:=h k
theorem U346(h:Q->P:=by intro O;refine U9 ?_;exact U59 O):P:=h k
theorem U347(h:Q->P:=by intro O;refine L.va (G0 rfl underlying52 rfl z8 (by decide)) ?_;refine L.on rfl ?_;exact L.va (A0 rfl underlying3 rfl (hB1.E0 2 (v:=.int .i64 o.call) rfl)) O):P:=h k
theorem U63(h:Q->P:=by intro O;refine F.off rfl rfl rfl ?_;exact F.off rfl rfl rfl O):P:=h k
theorem U348(h:Q->P:=by intro O;have z7:O0 w M.rb #[.slice M.ea M.evs.length M.ec,.slice none 0 0,.slice (some ⟨M.eb,0,none⟩) p.m p.m,.slice (some ⟨M.xb,0,none⟩) p.m p.m,.bool M.stuck,.int .i64 (M.used:Int)] 30:=hR.hR;refine W.quiet (fun w'=>Below w.heap.size w w') (by kernel_rfl) (by kernel_rfl) ((Below.refl w.heap.size w).drew) ?_;revert z7;exact O):P:=h k
theorem U349(h:Q->P:=by intro O;refine U321 ?_;exact U229 O):P:=h k
theorem U253(h:Q->P:=by intro O;have neA:=S1.ne hA (hg.m.blk i c hc) (by decide);refine L.stC (i:=i) (o:=9) (vs:=[.bool false]) hg {c with wt:=false} hc rfl rfl rfl rfl sz4 rfl rfl (by decide) rfl (fun w hg P3=>?_);revert neA w hg P3;exact O):P:=h k
theorem U254(h:Q->P:=by intro O;refine U146 ?_;exact L.va (o4 (l:=[.tmp 2]) (vs:=[.pointer (some ⟨b2,0,none⟩)]) rfl) O):P:=h k
theorem U118(h:Q->P:=by intro O;refine U58 ?_;exact L.va (J1 rfl) O):P:=h k
theorem U350(h:Q->P:=by intro O;refine I0.val (W0 _ gr 1) (A1 _) rfl (v:=.pointer (some ⟨gr.blk,gr.off,none⟩)) (G3 (s:=1) gr.off gr.off rfl Tryz.underlying141 rfl ns0 (by decide) rfl) ?_;refine I0.call (W0 _ gr 1) (A1 _) [.pointer (some ⟨gr.blk,gr.off,none⟩),.int .u64 0] 9 rfl Tryz.func97 kl1 rfl rfl rfl (fun cs4 hb4=>?_);revert cs4 hb4;exact O):P:=h k
theorem U351(h:Q->P:=by intro O;refine F.va rfl rfl (fun w' C1=>(in0 rfl)) ?_;exact F.va rfl rfl (fun w' C1=>(y9 rfl)) O):P:=h k
theorem U88(h:Q->P:=by intro O;refine U163 ?_;intro hb Z1;have n3:=n3.j0 P1;revert hb Z1 n3;exact O):P:=h k
theorem U255(h:Q->P:=by intro O;refine U158 ?_;exact D.va (fun w' C1=>(A0 rfl underlying3 rfl (((hg.m.blk i _ (B6 hc)).j0 C1).E0 0 (v:=.i (i:Int)) rfl))) O):P:=h k
theorem U89(h:Q->P:=by intro O;refine U2 ?_;exact L.va (m3 rfl) O):P:=h k
theorem U16(h:Q->P:=by intro O;have lt2:=F2.lq hb.size;have hb:=P0 hb F2.below;revert lt2 hb;exact O):P:=h k
theorem U352(h:Q->P:=by intro O;have lt4:=F4.lq hb.size;have hb:=P0 hb F4.below;revert lt4 hb;exact O):P:=h k
theorem U353(h:Q->P:=by intro O;refine I0.val (H3 _ gr) (A1 _) rfl (v:=.pointer (some ⟨gr.blk,gr.off,none⟩)) (G3 (s:=1) gr.off gr.off rfl Tryz.underlying138 rfl nr0 (by decide) rfl) ?_;exact I0.val (H3 _ gr) (A1 _) rfl (v:=.int .u64 18446744069414584320) (M0 rfl) O):P:=h k
theorem U64(h:Q->P:=by intro O;refine At.seq r3 ?_;exact At.region r3 O):P:=h k
theorem U38(h:Q->P:=by intro O;refine U9 ?_;exact U109 O):P:=h k
theorem U354(h:B Q->P:=by intro O;refine I0.val (W0 _ gr 2) (A1 _) rfl (v:=.int .u64 1) (l7 (r:=1) rfl rfl (gr0 0 1 (by omega) (by omega))) ?_;exact I0.val (W0 _ gr 2) (A1 _) rfl (v:=.int .u32 1) (B3 (r:=1) rfl Tryz.underlying136 Tryz.underlying139 (by decide)) O.1):P:=h ⟨k⟩
theorem U355(h:Q->P:=by intro O;refine I0.val (W0 _ gr 2) (A1 _) rfl (v:=.pointer (some ⟨gr.blk,gr.off,none⟩)) (G3 (s:=1) gr.off gr.off rfl Tryz.underlying141 rfl ns0 (by decide) rfl) ?_;refine I0.call (W0 _ gr 2) (A1 _) [.pointer (some ⟨gr.blk,gr.off,none⟩)] 7 rfl Tryz.func96 Pi0 rfl rfl rfl (fun cs3 hb3=>?_);revert cs3 hb3;exact O):P:=h k
theorem U356(h:B Q->P:=by intro O;refine I0.val (F0 _) (A1 _) rfl (v:=.int .u64 1) (l7 (r:=1) rfl rfl (gr0 v 1 (by omega) (by omega))) ?_;exact I0.val (F0 _) (A1 _) rfl (v:=.int .u32 1) (B3 (r:=1) rfl Tryz.underlying136 Tryz.underlying139 (by decide)) O.1):P:=h ⟨k⟩
theorem U256(h:Q->P:=by intro O;refine L.va (ik0 rfl) ?_;refine L.nil ?_;exact T.nrm O):P:=h k
theorem U119(h:Q->P:=by intro O;refine At.seq u1 ?_;exact U233 O):P:=h k
theorem U169(h:Q->P:=by intro O;refine L.va (A0 rfl underlying3 rfl (B5.E0 0 (v:=.int .i64 2) rfl)) ?_;exact U8 O):P:=h k
theorem U357(h:Q->P:=by intro O;refine I0.val (W0 _ gr 1) (A1 _) rfl (v:=.pointer (some ⟨gr.blk,gr.off,none⟩)) (G3 (s:=1) gr.off gr.off rfl Tryz.underlying138 rfl nr0 (by decide) rfl) ?_;exact I0.val (W0 _ gr 1) (A1 _) rfl (v:=.int .u64 0) (M0 rfl) O):P:=h k
theorem U120(h:Q->P:=by intro O;refine L.va (I7 rfl) ?_;exact L.va (S6 rfl underlying22 rfl) O):P:=h k
theorem U257(h:Q->P:=by intro O;refine U57 ?_;exact W.seq O):P:=h k
theorem U90(h:Q->P:=by intro O;refine U226 ?_;show W _ _ _ _ _ _;exact O):P:=h k
theorem U358(h:Q->P:=by intro O;refine I0.val (W0 _ gr 2) (A1 _) rfl (v:=.pointer (some ⟨gr.blk,gr.off,none⟩)) (G3 (s:=1) gr.off gr.off rfl Tryz.underlying138 rfl nr0 (by decide) rfl) ?_;exact I0.Pa0 (A1 _) rfl Tryz.func110 yy0 rfl rfl yz0 rfl O):P:=h k
theorem U170(h:Q->P:=by intro O;refine L.va (E1 (r:=false) (by decide) (H2 (m:=3) (k:=1) rfl rfl)) ?_;exact U4 O):P:=h k
theorem U171(h:Q->P:=by intro O;refine L.va (E1 (r:=false) (by decide) (H2 (m:=3) (k:=2) rfl rfl)) ?_;exact U4 O):P:=h k
theorem U172(h:Q->P:=by intro O;refine L.va (E1 (r:=true) (by decide) (H2 (m:=1) (k:=1) rfl rfl)) ?_;exact U34 O):P:=h k
theorem U173(h:Q->P:=by intro O;refine L.va (E1 (r:=true) (by decide) (H2 (m:=3) (k:=3) rfl rfl)) ?_;exact U34 O):P:=h k
theorem U359(h:B Q->P:=by intro O;refine I0.val L2 (A1 _) rfl (v:=.int .u64 0) (l7 (r:=0) rfl rfl (gr0 v 0 (by omega) (by omega))) ?_;exact I0.val L2 (A1 _) rfl (v:=.int .u32 0) (B3 (r:=0) rfl Tryz.underlying136 Tryz.underlying139 (by decide)) O.1):P:=h ⟨k⟩
theorem U39(h:Q->P:=by intro O;refine L.va (yf0 rfl) ?_;exact U1 O):P:=h k
theorem U360(h:B Q->P:=by intro O;refine I0.val (F0 _) (A1 _) rfl (v:=.int .u64 (((v*4294967296+0:Nat):Int))) (M0 rfl) ?_;exact I0.val (F0 _) (A1 _) rfl (v:=.int .u64 0) (l7 (r:=0) rfl rfl (no0 v 0 (by omega) (by omega))) O.1):P:=h ⟨k⟩
theorem U361(h:B Q->P:=by intro O;refine I0.val (F0 _) (A1 _) rfl (v:=.int .u64 (((v*4294967296+1:Nat):Int))) (M0 rfl) ?_;exact I0.val (F0 _) (A1 _) rfl (v:=.int .u64 0) (l7 (r:=0) rfl rfl (no0 v 1 (by omega) (by omega))) O.1):P:=h ⟨k⟩
theorem U362(h:Q->P:=by intro O;refine L.va (j1 (cs:=[.int .i64 (th:Nat),.int .i64 wh,.int .i64 4,.int .i64 vv]) rfl underlying52 rfl w6 rfl (n3.J4 rfl)) ?_;exact L.call (C2 rfl func15 rfl E9 rfl) (l5 (⟨(th:Nat),wh,4,vv⟩:O1) _) O):P:=h k
theorem U258(h:Q->P:=by intro O;refine L.on rfl ?_;exact L.va (S6 rfl underlying23 rfl) O):P:=h k
theorem U363(h:B Q->P:=by intro O;refine I0.val (F0 _) (A1 _) rfl (v:=.int .u64 (((0*4294967296+0:Nat):Int))) (M0 rfl) ?_;exact I0.val (F0 _) (A1 _) rfl (v:=.int .u64 0) (l7 (r:=0) rfl rfl (no0 0 0 (by omega) (by omega))) O.1):P:=h ⟨k⟩
theorem U364(h:B Q->P:=by intro O;refine I0.val (W0 _ gr 2) (A1 _) rfl (v:=.int .u64 0) (l7 (r:=0) rfl rfl (no0 0 1 (by omega) (by omega))) ?_;exact I0.val (W0 _ gr 2) (A1 _) rfl (v:=.bool false) (T7 (r:=false) rfl rfl (by decide)) O.1):P:=h ⟨k⟩
theorem U259(h:Q->P:=by intro O;refine U160 ?_;exact ends.we0 (cs:=stA s) (.inr rfl) rfl rfl underlying40 rfl (by rw[n5];exact Jb0) Y3 O):P:=h k
theorem U365(h:Q->P:=by intro O;refine AtR.leave1 (W0 _ gr 2) hb2 rfl Tryz.func94 rfl (.int .u64 (((0*4294967296+1:Nat):Int))) rfl ?_;exact I0.val (W0 _ gr 2) (A1 _) rfl (v:=.int .u64 (((0*4294967296+1:Nat):Int))) (Y0 rfl) O):P:=h k
theorem U121(h:Q->P:=by intro O;have hE:=hE.j0 P1;have hc:=hc.j0 P1;revert hE hc;exact O):P:=h k
theorem U366(h:Q->P:=by intro O;refine L.on rfl ?_;exact L.va (J1 rfl) O):P:=h k
theorem U367(h:Q->P:=by intro O;refine AtR.leave1 (F0 _) hb2 rfl Tryz.func94 rfl (.int .u64 (((v*4294967296+0:Nat):Int))) rfl ?_;exact I0.val (F0 _) (A1 _) rfl (v:=.int .u64 (((v*4294967296+0:Nat):Int))) (Y0 rfl) O):P:=h k
theorem U368(h:Q->P:=by intro O;refine AtR.leave1 (F0 _) hb2 rfl Tryz.func94 rfl (.int .u64 (((v*4294967296+1:Nat):Int))) rfl ?_;exact I0.val (F0 _) (A1 _) rfl (v:=.int .u64 (((v*4294967296+1:Nat):Int))) (Y0 rfl) O):P:=h k
theorem U48(h:Q->P:=by intro O;refine U113 ?_;exact U57 O):P:=h k
theorem U13(h:Q->P:=by intro O;refine U5 ?_;exact U2 O):P:=h k
theorem U260(h:Q->P:=by intro O;refine D.va (fun w' C1=>(A0 rfl underlying146 rfl ((hC.j0 C1).E0 1 (v:=.p R.rb) rfl))) ?_;exact U334 O):P:=h k
theorem U369(h:Q->P:=by intro O;refine I0.toUnsafe ay1 (A1 _) rfl rfl (.inr rfl) Tryz.underlying172 Tryz.underlying128 Tq0 ?_;exact I0.wg0 R4 (A1 _) .write (by simp) (.inr (.inr rfl)) rfl Tryz.func103 cp1 rfl rfl db1 rfl O):P:=h k
theorem U370(h:Q->P:=by intro O;refine L.va (H2 rfl rfl) ?_;exact L.va (y9 rfl) O):P:=h k
theorem U261(h:Q->P:=by intro O;refine At.seq R4 ?_;exact At.region R4 O):P:=h k
theorem U371(h:B Q->P:=by intro O;refine I0.val R4 (A1 _) rfl (v:=.int .u64 (((v*4294967296+0:Nat):Int))) (M0 rfl) ?_;exact I0.val R4 (A1 _) rfl (v:=.int .u64 0) (l7 (r:=0) rfl rfl (no0 v 0 (by omega) (by omega))) O.1):P:=h ⟨k⟩
theorem U65(h:Q->P:=by intro O;refine U5 ?_;exact W.seq O):P:=h k
theorem U174(h:Q->P:=by intro O;refine U21 ?_;exact L.va (G0 rfl underlying153 rfl Jg0 (by decide)) O):P:=h k
theorem U373(h:Q->P:=by intro O;refine I0.toUnsafe az1 (A1 _) rfl rfl (.inl rfl) Tryz.underlying165 Tryz.underlying128 Dk0 ?_;exact I0.wg0 S2 (A1 _) .acquire (by simp) (.inl rfl) rfl Tryz.func100 Tg0 rfl rfl To0 rfl O):P:=h k
theorem U175(h:Q->P:=by intro O;refine L.va (W3 rfl) ?_;exact L.va (n8 rfl rfl underlying63) O):P:=h k
theorem U176(h:Q->P:=by intro O;refine At.seq M4 ?_;exact At.region M4 O):P:=h k
theorem U177(h:Q->P:=by intro O;refine U21 ?_;exact L.va (G0 rfl underlying125 rfl Tc0 (by decide)) O):P:=h k
theorem U66(h:Q->P:=by intro O;refine U0 ?_;exact L.va (W3 rfl) O):P:=h k
theorem U178(h:Q->P:=by intro O;refine L.va (A0 rfl underlying193 rfl (Z1.E0 0 (v:=.pointer (some ⟨sb,0,none⟩)) rfl)) ?_;refine L.va (J1 rfl) ?_;exact L.va (G0 rfl underlying195 rfl li0 (by decide)) O):P:=h k
theorem U374(h:Q->P:=by intro O;refine L.va (im0 rfl rfl) ?_;exact U24 O):P:=h k
theorem U375(h:Q->P:=by intro O;have u5:=u5.mod x6 rfl;have k6:=k6.mod x6 rfl;revert u5 k6;exact O):P:=h k
theorem U179(h:Q->P:=by intro O;refine U9 ?_;exact W.block O):P:=h k
theorem U262(h:Q->P:=by intro O;have h5:=(Goes.bn0 hg B5 (Nat.zero_lt_succ _) hF5).2;have hgn:Gn K w0 m F o5 u F':=Gn.G5 ⟨hK,Goes.down hbL hg⟩ P3 ⟨lt5,h5⟩;revert h5 hgn;exact O):P:=h k
theorem U376(h:Q->P:=by intro O;show W _ _ _ _ _ _;exact W.r6 rfl O):P:=h k
theorem U180(h:Q->P:=by intro O;refine U330 ?_;exact L.va (G0 rfl underlying195 rfl sz4 (by decide)) O):P:=h k
theorem U377(h:Q->P:=by intro O;refine I0.val u1 (A1 _) rfl (v:=.int .u32 0) (B3 (r:=0) rfl Tryz.underlying136 Tryz.underlying139 (by decide)) ?_;exact I0.val u1 (A1 _) rfl (v:=.int .u32 0) (Y0 rfl) O):P:=h k
theorem U378(h:Q->P:=by intro O;refine AtR.leave1 L2 Y5 rfl Tryz.func96 rfl (.int .u64 (((v*4294967296+0:Nat):Int))) rfl ?_;exact I0.val L2 (A1 _) rfl (v:=.int .u64 (((v*4294967296+0:Nat):Int))) (Y0 rfl) O):P:=h k
theorem U263(h:Q->P:=by intro O;refine U112 ?_;exact L.va (A0 rfl underlying4 rfl ((hg.m.blk i c hc).E0 10 (v:=.bool c.st) rfl)) O):P:=h k
theorem U382(h:Q->P:=by intro O;refine I0.val r3 (A1 _) rfl (v:=.pointer (some ⟨gr.blk,gr.off,none⟩)) (M0 rfl) ?_;exact I0.val r3 (A1 _) rfl (v:=.pointer (some ⟨gr.blk,gr.off,none⟩)) (N3 rfl) O):P:=h k
theorem U383(h:Q->P:=by intro O;refine I0.D9 u1 (A1 _) rfl rfl (v:=.i 1) (M0 rfl) ?_;exact I0.D9 u1 (A1 _) rfl rfl (v:=.int .i32 1) (B3 (r:=1) rfl Tryz.underlying3 Tryz.underlying21 (by decide)) O):P:=h k
theorem U91(h:Q->P:=by intro O;refine I0.nil S2 ?_;exact At.seq S2 O):P:=h k
theorem U384(h:Q->P:=by intro O;refine I0.val S2 (A1 _) rfl (v:=.pointer (some ⟨gr.blk,gr.off,none⟩)) (M0 rfl) ?_;exact I0.val S2 (A1 _) rfl (v:=.pointer (some ⟨gr.blk,gr.off,none⟩)) (N3 rfl) O):P:=h k
theorem U385(h:Q->P:=by intro O;refine I0.val L2 (A1 _) rfl (v:=.int .u64 (((v*4294967296+0:Nat):Int))) (M0 rfl) ?_;exact I0.val L2 (A1 _) rfl (v:=.int .u64 (((v*4294967296+0:Nat):Int))) (M0 rfl) O):P:=h k
theorem U386(h:Q->P:=by intro O;refine I0.val L2 (A1 _) rfl (v:=.int .u64 (((v*4294967296+0:Nat):Int))) (M0 rfl) ?_;exact I0.val L2 (A1 _) rfl (v:=.int .u64 (((v*4294967296+1:Nat):Int))) (M0 rfl) O):P:=h k
theorem U264(h:Q->P:=by intro O;refine I0.val hY hb rfl (v:=.p R.rb) (M0 rfl) ?_;exact I0.val hY hb rfl (N3 rfl) O):P:=h k
theorem U92(h:Q->P:=by intro O;refine C.enter (n:=42) func40 rfl rfl ?_;refine U3 ?_;intro hb;revert hb;exact O):P:=h k
theorem U387(h:Q->P:=by intro O;refine I0.D9 S2 (A1 _) rfl rfl (v:=.int .u64 0) (l7 (r:=0) rfl rfl (by decide)) ?_;exact I0.D9 S2 (A1 _) rfl rfl (v:=.bool false) (T7 (r:=false) rfl rfl (by decide)) O):P:=h k
theorem U265(h:Q->P:=by intro O;refine F.va rfl rfl (fun w' C1=>(W3 rfl)) ?_;exact F.va rfl rfl (fun w' C1=>(J1 rfl)) O):P:=h k
theorem U388(h:B Q->P:=by intro O;refine I0.val L2 (A1 _) rfl (v:=.int .i32 (((v:Nat):Int))) (M0 rfl) ?_;exact I0.val L2 (A1 _) rfl (v:=.bool false) (ai0 (r:=false) rfl rfl (decide_eq_false (by omega))) O.1):P:=h ⟨k⟩
theorem U389(h:Q->P:=by intro O;refine I0.D9 (W0 _ gr 2) (A1 _) rfl rfl (v:=.int .u32 1) (M0 rfl) ?_;exact I0.D9 (W0 _ gr 2) (A1 _) rfl rfl (v:=.bool false) (ai0 (r:=false) rfl rfl (by decide)) O):P:=h k
theorem U67(h:Q->P:=by intro O;refine L.va (u7 rfl) ?_;exact U44 O):P:=h k
theorem U181(h:Q->P:=by intro O;refine L.va (I7 rfl) ?_;exact L.va (S6 rfl underlying90 rfl) O):P:=h k
theorem U266(h:Q->P:=by intro O;refine U3 ?_;intro hb;refine L.box (cs:=#[.int .i64 o.I3,.int .i64 o.J9,.int .i64 o.call,.int .i64 o.val]) rfl rfl (fun w b1 F1=>?_);revert hb w b1 F1;exact O):P:=h k
theorem U182(h:Q->P:=by intro O;refine U3 ?_;intro hb;refine L.box (cs:=#[.pointer (some ⟨sb,0,none⟩)]) rfl rfl (fun w b2 F2=>?_);revert hb w b2 F2;exact O):P:=h k
theorem U390(h:Q->P:=by intro O;refine I0.D9 (F0 _) (A1 _) rfl rfl (v:=.int .u32 0) (M0 rfl) ?_;exact I0.D9 (F0 _) (A1 _) rfl rfl (v:=.bool true) (ai0 (r:=true) rfl rfl (by decide)) O):P:=h k
theorem U122(h:Q->P:=by intro O;refine L.va (I7 rfl) ?_;exact L.va (I7 rfl) O):P:=h k
theorem U391(h:Q->P:=by intro O;refine I0.val (F0 _) (A1 _) rfl (v:=.bool false) (M0 rfl) ?_;refine U224 ?_;exact U349 O):P:=h k
theorem U392(h:Q->P:=by intro O;refine F.va rfl rfl (fun w' C1=>(G0 rfl underlying40 rfl Pe0 (by decide))) ?_;exact F.va rfl rfl (fun w' C1=>(M1 (i:=1) (n:=6) rfl rfl underlying35 Pd0 (by decide))) O):P:=h k
theorem U393(h:Q->P:=by intro O;refine F.va rfl rfl (fun w' C1=>(G0 rfl underlying40 rfl Pe0 (by decide))) ?_;exact F.va rfl rfl (fun w' C1=>(M1 (i:=2) (n:=6) rfl rfl underlying35 Pd0 (by decide))) O):P:=h k
theorem U394(h:Q->P:=by intro O;refine I0.val (W0 _ gr 2) (A1 _) rfl (v:=.bool false) (ee0 (r:=false) rfl rfl (by decide)) ?_;exact I0.val (W0 _ gr 2) (A1 _) rfl (v:=.bool false) (M0 rfl) O):P:=h k
theorem U49(h:Q->P:=by intro O;refine U5 ?_;exact W.region rfl O):P:=h k
theorem U395(h:Q->P:=by intro O;refine U231 ?_;exact I0.val (H3 _ gr) (A1 _) rfl (v:=.pointer (some ⟨gr.blk,gr.off,none⟩)) (G3 (s:=1) gr.off gr.off rfl Tryz.underlying141 rfl ns0 (by decide) rfl) O):P:=h k
theorem U396(h:Q->P:=by intro O;refine I0.val (W0 _ gr 2) (A1 _) rfl (v:=.int .u32 1) (M0 rfl) ?_;exact I0.val (W0 _ gr 2) (A1 _) rfl (v:=.bool true) (T7 (r:=true) rfl rfl (by decide)) O):P:=h k
theorem U397(h:Q->P:=by intro O;refine I0.val (W0 _ gr 0) (A1 _) rfl (v:=.int .u32 1) (M0 rfl) ?_;exact I0.val (W0 _ gr 0) (A1 _) rfl (v:=.bool true) (T7 (r:=true) rfl rfl (by decide)) O):P:=h k
theorem U398(h:Q->P:=by intro O;have m5:=m5.mod x6 rfl;have K5:=K5.mod x6 rfl;revert m5 K5;exact O):P:=h k
theorem U29(h:B Q->P:=by intro O;refine L.va (m3 rfl) ?_;refine L.va (nb0 rfl rfl (by omega)) ?_;exact U256 O.1):P:=h ⟨k⟩
theorem U399(h:B Q->P:=by intro O;refine I0.val u1 (A1 _) rfl (v:=.bool true) (ee0 (r:=true) rfl rfl (decide_eq_true (by omega))) ?_;exact I0.val u1 (A1 _) rfl (v:=.bool true) (M0 rfl) O.1):P:=h ⟨k⟩
theorem U267(h:Q->P:=by intro O;refine I0.val S2 (A1 _) rfl (v:=.int .u64 0) (Y0 rfl) ?_;exact I0.nil S2 O):P:=h k
theorem U268(h:Q->P:=by intro O;refine I0.val M4 (A1 _) rfl (v:=.int .u64 0) (Y0 rfl) ?_;exact I0.nil M4 O):P:=h k
theorem U184(h:Q->P:=by intro O;have L4:Below w.heap.size w w.drew:=(Below.refl w.heap.size w).drew;have hR:=hR.j0 L4;revert L4 hR;exact O):P:=h k
theorem U269(h:Q->P:=by intro O;refine U1 ?_;exact ZA.r6 hZ rfl O):P:=h k
theorem U93(h:Q->P:=by intro O;refine I0.nil u1 ?_;refine At.r6 u1 rfl ?_;exact At.skip u1 O):P:=h k
theorem U400(h:Q->P:=by intro O;refine I0.val (F0 _) (A1 _) rfl (v:=.int .u32 1) (M0 rfl) ?_;exact I0.val (F0 _) (A1 _) rfl (v:=.bool true) (T7 (r:=true) rfl rfl (by decide)) O):P:=h k
theorem U401(h:Q->P:=by intro O;refine I0.val (F0 _) (A1 _) rfl (v:=.bool false) (ee0 (r:=false) rfl rfl (by decide)) ?_;exact I0.val (F0 _) (A1 _) rfl (v:=.bool false) (M0 rfl) O):P:=h k
theorem U50(h:Q->P:=by intro O;refine U23 ?_;exact W.region rfl O):P:=h k
theorem U185(h:Q->P:=by intro O;refine W.skip ?_;exact U153 O):P:=h k
theorem U402(h:Q->P:=by intro O;refine I0.val (F0 _) (A1 _) rfl (v:=.int .u32 0) (Vm0 (r:=0) rfl rfl (by decide)) ?_;exact I0.val (F0 _) (A1 _) rfl (v:=.int .u32 0) (Y0 rfl) O):P:=h k
theorem U123(h:Q->P:=by intro O;exact L.nil O):P:=h k
theorem U403(h:Q->P:=by intro O;refine I0.toUnsafe fz1 (A1 _) rfl rfl (.inl rfl) Tryz.underlying165 Tryz.underlying128 Dk0 ?_;exact I0.ga1 (A1 _) rfl Tryz.func100 Tg0 rfl rfl To0 rfl O):P:=h k
theorem U404(h:Q->P:=by intro O;refine L.va (G0 rfl underlying40 rfl Vs0 (by decide)) ?_;exact L.va (M1 (i:=Q0 (⟨(th:Nat),wh,3,vv⟩:O1)) (n:=2) rfl rfl underlying36 z8 (J0 _)) O):P:=h k
theorem U187(h:Q->P:=by intro O;rw[V0 s0,V0 s7,V0 s8,V0 s9];exact O):P:=h k
theorem U188(h:Q->P:=by intro O;refine I0.nil (H3 _ gr) ?_;exact U111 O):P:=h k
theorem U271(h:Q->P:=by intro O;refine U4 ?_;exact L.va (E1 (r:=false) (by decide) (H2 (m:=5) (k:=2) rfl rfl)) O):P:=h k
theorem U405(h:Q->P:=by intro O;refine U8 ?_;exact L.va (E1 (r:=false) (by decide) (H2 (m:=5) (k:=1) rfl rfl)) O):P:=h k
theorem U272(h:Q->P:=by intro O;refine L.va (E1 (r:=false) (by decide) (H2 (m:=5) (k:=3) rfl rfl)) ?_;refine U4 ?_;exact L.va (E1 (r:=false) (by decide) (H2 (m:=5) (k:=4) rfl rfl)) O):P:=h k
theorem U406(h:Q->P:=by intro O;refine I0.val R4 (A1 _) rfl (v:=.bool false) (T7 (r:=false) rfl rfl (by decide)) ?_;exact I0.val R4 (A1 _) rfl (v:=.bool false) (M0 rfl) O):P:=h k
theorem U273(h:Q->P:=by intro O;refine D.va (fun w' C1=>(W3 rfl)) ?_;exact D.va (fun w' C1=>(J1 rfl)) O):P:=h k
theorem U124(h:Q->P:=by intro O;show L _ _ _ _ _ _ _;exact L.va (W3 rfl) O):P:=h k
theorem U274(h:Q->P:=by intro O;refine L.va (E1 (r:=true) (by decide) (H2 (m:=5) (k:=5) rfl rfl)) ?_;exact U34 O):P:=h k
theorem U275(h:Q->P:=by intro O;refine L.on rfl ?_;exact L.va (G0 rfl underlying149 rfl Vr0 (by decide)) O):P:=h k
theorem U276(h:Q->P:=by intro O;refine D.va (fun w' C1=>(m3 rfl)) ?_;exact D.va (fun w' C1=>(J1 rfl)) O):P:=h k
theorem U407(h:Q->P:=by intro O;refine I0.val (W0 _ gr 2) (A1 _) rfl (v:=.bool true) (M0 rfl) ?_;exact I0.D9 (W0 _ gr 2) (A1 _) rfl rfl (v:=.int .i64 (-1)) (M0 rfl) O):P:=h k
theorem U408(h:B Q->P:=by intro O;refine I0.val (F0 _) (A1 _) rfl (v:=.int .u64 (((v:Nat):Int))) (ef0 (r:=((v:Nat):Int)) rfl rfl (by decide) (np0 v 1 (by omega))) ?_;exact U327 O.1):P:=h ⟨k⟩
theorem U409(h:B Q->P:=by intro O;refine I0.val (F0 _) (A1 _) rfl (v:=.int .u64 (((v:Nat):Int))) (ef0 (r:=((v:Nat):Int)) rfl rfl (by decide) (np0 v 0 (by omega))) ?_;exact U327 O.1):P:=h ⟨k⟩
theorem U410(h:Q->P:=by intro O;refine W.ej0 8 (fun w'=>Below w.heap.size w w') (by kernel_rfl) (by kernel_rfl) (by kernel_rfl) (by kernel_rfl) ((Below.refl w.heap.size w).drew) ?_;exact U234 O):P:=h k
theorem U411(h:Q->P:=by intro O;refine U88 ?_;intro hb Z1 n3;have Y3:=Y3.j0 P1;revert hb Z1 n3 Y3;exact O):P:=h k
theorem U412(h:Q->P:=by intro O;refine I0.val S2 (A1 _) rfl (v:=.int .u32 0) (M0 rfl) ?_;exact I0.val S2 (A1 _) rfl (v:=.bool true) (ai0 (r:=true) rfl rfl (by decide)) O):P:=h k
theorem U277(h:Q->P:=by intro O;have lt5:=F5.lq hb.size;have hb:=P0 hb F5.below;revert lt5 hb;exact O):P:=h k
theorem U413(h:Q->P:=by intro O;refine L.va (G0 rfl underlying115 rfl li0 (by decide)) ?_;exact L.va (j1 (cs:=[.i obj,.i num]) rfl underlying107 rfl li0 rfl (hC.J4 rfl)) O):P:=h k
theorem U414(h:Q->P:=by intro O;refine U44 ?_;exact L.va (W3 rfl) O):P:=h k
theorem U415(h:Q->P:=by intro O;refine L.va (G0 rfl underlying30 rfl z8 (by decide)) ?_;exact L.va (A0 rfl underlying3 rfl (z7.E0 5 (v:=.int .i64 (M.used:Int)) rfl)) O):P:=h k
theorem U10(h:Q->P:=by intro O;refine U82 ?_;intro lt3 hb;have Z1:=Z1.j0 F3.below;have n3:=F3.blk;revert lt3 hb Z1 n3;exact O):P:=h k
theorem U416(h:Q->P:=by intro O;refine I0.val (W0 _ gr 2) (A1 _) rfl (v:=.bool true) (M0 rfl) ?_;exact I0.D9 (W0 _ gr 2) (A1 _) rfl rfl (v:=.i (-1)) (M0 rfl) O):P:=h k
theorem U417(h:Q->P:=by intro O;refine L.va (G0 rfl underlying30 rfl nq0 (by decide)) ?_;exact L.va (A0 rfl underlying26 rfl (Z1.E0 0 (v:=.slice ea evs.length ec) rfl)) O):P:=h k
theorem U68(h:Q->P:=by intro O;refine U225 ?_;exact W.region rfl O):P:=h k
theorem U189(h:Q->P:=by intro O;refine U257 ?_;exact W.block O):P:=h k
theorem U278(h:B Q->P:=by intro O;refine ZA.r6 hZ (rb (decide_eq_false (by omega))) ?_;exact ZA.exit hZ rfl O.1):P:=h ⟨k⟩
theorem U279(h:Q->P:=by intro O;refine L.va (G0 rfl underlying30 rfl z8 (by decide)) ?_;exact L.on rfl O):P:=h k
theorem U125(h:Q->P:=by intro O;refine ZA.u3 hZ ?_;exact ZA.seq hZ O):P:=h k
theorem U419(h:Q->P:=by intro O;refine U22 ?_;exact I0.lq0 (A1 _) rfl (v:=.pointer (some ⟨bx,0,none⟩)) rfl Tryz.underlying86 rfl (.inr ⟨_,_,(.tail _ (.head _)),rfl,rfl⟩) O):P:=h k
theorem U94(h:Q->P:=by intro O;refine U333 ?_;intro w b2 F2 lt2 hb;have Z1:=F2.blk;revert w b2 F2 lt2 hb Z1;exact O):P:=h k
theorem U420(h:Q->P:=by intro O;refine L.va (G0 rfl underlying52 rfl z8 (by decide)) ?_;exact L.va (A0 rfl underlying3 rfl (n3.E0 0 (v:=.int .i64 (th:Nat)) rfl)) O):P:=h k
theorem U421(h:Q->P:=by intro O;refine L.va (A0 rfl underlying151 rfl (hM.run.E0 0 (v:=.slice R.ca R.cl.length R.cc) rfl)) ?_;exact L.va (S6 rfl underlying151 rfl) O):P:=h k
theorem U422(h:Q->P:=by intro O;refine L.va (S3 (i:=i) rfl rfl underlying151 Jd0 hM.cls.sl Y1) ?_;exact L.va (A0 (v:=.p c.cb) rfl underlying91 rfl (Jm0 hM hc)) O):P:=h k
theorem U280(h:Q->P:=by intro O;refine I0.nil R4 ?_;exact At.Q4 R4 rfl O):P:=h k
theorem U190(h:Q->P:=by intro O;refine L.va (y9 rfl) ?_;exact L.va (in0 rfl) O):P:=h k
theorem U423(h:Q->P:=by intro O;refine U236 ?_;exact L.va (A0 (v:=.int .i64 (s.u4 (Q0 (⟨(th:Nat),wh,4,vv⟩:O1)))) rfl underlying3 rfl (xl0 Z1 (J0 _) rfl)) O):P:=h k
theorem U69(h:Q->P:=by intro O;have Y3:=O0.other Y3 hg kt0;have hb:=D3 hb hb.size hg lt2;(have Z1:O0 w b2 (stA s1) 40:=by rw[hs1];exact Z0);revert Y3 hb Z1;exact O):P:=h k
theorem U424(h:Q->P:=by intro O;refine At.region (W0 _ gr 0) ?_;exact I0.val (W0 _ gr 0) (A1 _) rfl (v:=.pointer (some ⟨gr.blk,gr.off,none⟩)) (M0 rfl) O):P:=h k
theorem U425(h:B Q->P:=by intro O;refine W.fl 7 [4] [0,1,2,3,5,6,4] (fun w'=>True) (by kernel_rfl) (by kernel_rfl) (by kernel_rfl) (by kernel_rfl) (by kernel_rfl) trivial ?_;have L4:Below w.heap.size w w.drew:=(Below.refl w.heap.size w).drew;have hb:=P0 hb L4;have hW:=hW.j0 L4;have u6:=u6.j0 L4;revert L4 hb hW u6;exact O.1):P:=h ⟨k⟩
theorem U281(h:Q->P:=by intro O;refine U21 ?_;exact L.va (G0 rfl underlying153 rfl df0 (by decide)) O):P:=h k
theorem U70(h:Q->P:=by intro O;refine U79 ?_;exact U79 O):P:=h k
theorem U426(h:Q->P:=by intro O;refine I0.val S2 (A1 _) rfl (v:=.bool false) (L8 rfl rfl) ?_;exact I0.val S2 (A1 _) rfl (v:=.bool false) (M0 rfl) O):P:=h k
theorem U427(h:Q->P:=by intro O;refine L.on rfl ?_;exact L.va (A0 rfl underlying25 rfl (((hM.j0 hb).blk i _ hc).E0 6 (v:=.func (.func f) #[] caps) rfl)) O):P:=h k
theorem U428(h:B Q->P:=by intro O;refine L.va (G0 rfl underlying40 rfl Pe0 (by decide)) ?_;exact L.va (M1 (i:=th) (n:=6) rfl rfl underlying35 Pd0 (by omega)) O.1):P:=h ⟨k⟩
theorem U429(h:Q->P:=by intro O;refine I0.val (W0 _ gr 2) (A1 _) rfl (v:=.bool false) (bv0 (r:=false) rfl rfl (by decide)) ?_;exact I0.nil (W0 _ gr 2) O):P:=h k
theorem U430(h:Q->P:=by intro O;refine I0.val S2 (A1 _) rfl (v:=.bool true) (M0 rfl) ?_;exact I0.D9 S2 (A1 _) rfl rfl (v:=.int .u64 0) (M0 rfl) O):P:=h k
theorem U431(h:Q->P:=by intro O;refine I0.val R4 (A1 _) rfl (v:=.bool false) (M0 rfl) ?_;exact I0.ba1 (A1 _) rfl Tryz.func104 cq1 rfl rfl de1 rfl O):P:=h k
theorem U282(h:Q->P:=by intro O;refine L.va (G0 rfl underlying30 rfl nq0 (by decide)) ?_;refine L.on rfl ?_;exact L.va (A0 rfl underlying26 rfl (Z1.E0 0 (v:=.slice R.ea R.evs.length R.ec) rfl)) O):P:=h k
theorem U432(h:Q->P:=by intro O;refine U146 ?_;exact L.va (o4 (l:=[.tmp 2,.tmp 5]) (vs:=[.pointer (some ⟨b2,0,none⟩),.pointer (some ⟨b5,0,none⟩)]) rfl) O):P:=h k
theorem U433(h:Q->P:=by intro O;refine I0.val u1 (A1 _) rfl (v:=.bool true) (M0 rfl) ?_;exact I0.D9 u1 (A1 _) rfl rfl (v:=.i 1) (M0 rfl) O):P:=h k
theorem U434(h:B Q->P:=by intro O;refine I0.val (F0 _) (A1 _) rfl (v:=.int .u64 0) (l7 (r:=0) rfl rfl (gr0 v 0 (by omega) (by omega))) ?_;exact U328 O.1):P:=h ⟨k⟩
theorem U435(h:B Q->P:=by intro O;refine I0.val (F0 _) (A1 _) rfl (v:=.int .u64 0) (l7 (r:=0) rfl rfl (gr0 0 0 (by omega) (by omega))) ?_;exact U328 O.1):P:=h ⟨k⟩
theorem U436(h:B Q->P:=by intro O;refine U237 ?_;exact D.va (fun w' C1=>(M1 (i:=Q0 (⟨(th:Nat),wh,7,vv⟩:O1)) (n:=2) rfl rfl underlying37 sz2 (J0 _))) O.1):P:=h ⟨k⟩
theorem U437(h:Q->P:=by intro O;refine F.va rfl rfl (fun w' C1=>(A0 (v:=.bool true) rfl underlying4 rfl (Cu0 C1.2 (by decide) (J0 _) h))) ?_;exact U351 O):P:=h k
theorem U30(h:B Q->P:=by intro O;refine L.alloc (cs:=stA ps0) Pf0 rfl (fun w b4 F4=>?_);(have kt0:b4≠b2:=by have h9:=F4.here;have h8:=Z1.lt;omega);refine U352 ?_;intro lt4 hb;have Z1:=Z1.j0 F4.below;have n3:=n3.j0 F4.below;revert w b4 F4 kt0 lt4 hb Z1 n3;exact O.1):P:=h ⟨k⟩
theorem U283(h:B Q->P:=by intro O;(have hF5:¬F b5:=fun z=>by have:=hK.tlt hT z;omega);(have hF2:¬F b2:=fun z=>by have:=hK.tlt hT z;omega);revert hF5 hF2;exact O.1):P:=h ⟨k⟩
theorem U438(h:Q->P:=by intro O;refine L.va (A0 rfl underlying67 rfl (Z1.E0 0 (v:=.pointer (some ⟨cb,0,none⟩)) rfl)) ?_;exact L.va (J1 rfl) O):P:=h k
theorem U439(h:Q->P:=by intro O;refine L.va (A0 rfl underlying67 rfl (n3.E0 0 (v:=.pointer (some ⟨cb,0,none⟩)) rfl)) ?_;exact L.va (J1 rfl) O):P:=h k
theorem U440(h:Q->P:=by intro O;refine L.va (A0 rfl underlying65 rfl (Z1.E0 0 (v:=.pointer (some ⟨cb,0,none⟩)) rfl)) ?_;exact L.va (J1 rfl) O):P:=h k
theorem U441(h:Q->P:=by intro O;refine L.va (A0 rfl underlying65 rfl (n3.E0 0 (v:=.pointer (some ⟨cb,0,none⟩)) rfl)) ?_;exact L.va (J1 rfl) O):P:=h k
theorem U442(h:Q->P:=by intro O;have u5:=u5.j0 P1;have k6:=k6.j0 P1;revert u5 k6;exact O):P:=h k
theorem U443(h:Q->P:=by intro O;refine L.va (A0 rfl underlying86 rfl (Z1.E0 0 (v:=.pointer (some ⟨bx,0,none⟩)) rfl)) ?_;exact L.va (J1 rfl) O):P:=h k
theorem U284(h:Q->P:=by intro O;refine U228 ?_;exact U2 O):P:=h k
theorem U444(h:Q->P:=by intro O;have hb:=P0 hb P1;have hW:=hW.j0 P1;have u6:=u6.j0 P1;revert hb hW u6;exact O):P:=h k
theorem U285(h:Q->P:=by intro O;refine L.va (I7 rfl) ?_;exact L.va (S6 rfl underlying45 rfl) O):P:=h k
theorem U126(h:Q->P:=by intro O;refine L.va (E8 rfl) ?_;exact U36 O):P:=h k
theorem U51(h:Q->P:=by intro O;refine U398 ?_;intro m5 K5;have L5:=L5.mod x6 rfl;revert m5 K5 L5;exact O):P:=h k
theorem U445(h:Q->P:=by intro O;refine I0.val (W0 _ gr 2) (A1 _) rfl (v:=.int .i32 (((0:Nat):Int))) (Y0 rfl) ?_;exact I0.nil (W0 _ gr 2) O):P:=h k
theorem U446(h:Q->P:=by intro O;refine L.on rfl ?_;exact L.va (E1 (r:=false) (decide_eq_false (fun h=>h rfl)) (ax0 (m:=(m:Int)) (k:=(m:Int)) rfl rfl)) O):P:=h k
theorem U286(h:Q->P:=by intro O;refine L.va (Ht0 rfl) ?_;refine L.va (cv0 rfl rfl) ?_;exact L.va (cv0 rfl rfl) O):P:=h k
theorem U40(h:Q->P:=by intro O;refine U344 ?_;intro x6 hb;have hW:=hW.mod x6 rfl;refine U375 ?_;intro u5 k6;revert x6 hb hW u5 k6;exact O):P:=h k
theorem U31(h:Q->P:=by intro O;refine U322 ?_;refine U322 ?_;exact F.va rfl rfl (fun w' C1=>(J1 rfl)) O):P:=h k
theorem U447(h:B Q->P:=by intro O;refine I0.val u1 (A1 _) rfl (v:=.bool false) (bv0 (r:=false) rfl rfl (decide_eq_false (by omega))) ?_;exact U93 O.1):P:=h ⟨k⟩
theorem U448(h:Q->P:=by intro O;refine I0.call (H3 _ gr) (A1 _) [.pointer (some ⟨gr.blk,gr.off,none⟩),.int .u64 18446744069414584320] 10 rfl Tryz.func94 cn1 rfl rfl rfl (fun cs2 hb2=>?_);refine U111 ?_;revert cs2 hb2;exact O):P:=h k
theorem U191(h:Q->P:=by intro O;refine At.region (W0 _ gr 1) ?_;refine I0.val (W0 _ gr 1) (A1 _) rfl (v:=.pointer (some ⟨gr.blk,gr.off,none⟩)) (M0 rfl) ?_;exact I0.val (W0 _ gr 1) (A1 _) rfl (v:=.pointer (some ⟨gr.blk,gr.off,none⟩)) (N3 rfl) O):P:=h k
theorem U192(h:Q->P:=by intro O;refine L.nil ?_;exact U153 O):P:=h k
theorem U287(h:Q->P:=by intro O;refine U391 ?_;refine U43 ?_;exact I0.val (F0 _) (A1 _) rfl (v:=.int .i32 (((v:Nat):Int))) (M0 rfl) O):P:=h k
theorem U449(h:Q->P:=by intro O;refine I0.val (F0 _) (A1 _) rfl (v:=.int .i32 (((0:Nat):Int))) (Y0 rfl) ?_;exact I0.nil (F0 _) O):P:=h k
theorem U450(h:Q->P:=by intro O;refine At.region S2 ?_;exact I0.val S2 (A1 _) rfl (v:=.pointer (some ⟨gr.blk,gr.off,none⟩)) (M0 rfl) O):P:=h k
theorem U451(h:Q->P:=by intro O;exact U9 O):P:=h k
theorem U452(h:Q->P:=by intro O;refine I0.tm0 (H3 _ gr) (A1 _) (.bool false) rfl Tryz.func90 cm1 rfl rfl dc1 ?_;exact I0.nil (H3 _ gr) O):P:=h k
theorem U453(h:Q->P:=by intro O;refine At.region L2 ?_;exact I0.yt0 L2 (A1 _) .disable (by simp) (.inl rfl) rfl Tryz.func88 Vx0 rfl rfl Vy0 O):P:=h k
theorem U454(h:Q->P:=by intro O;refine W.region rfl ?_;exact L.va (A0 rfl underlying67 rfl (K6.E0 0 (v:=.pointer (some ⟨cb,0,none⟩)) rfl)) O):P:=h k
theorem U127(h:Q->P:=by intro O;refine I0.nil u1 ?_;exact U119 O):P:=h k
theorem U193(h:Q->P:=by intro O;refine W.region rfl ?_;exact L.va dw0 O):P:=h k
theorem U455(h:Q->P:=by intro O;refine D.va (fun w' C1=>(J1 rfl)) ?_;exact D.va (fun w' C1=>(G0 rfl underlying123 rfl sz2 (by decide))) O):P:=h k
theorem U456(h:Q->P:=by intro O;refine D.va (fun w' C1=>(J1 rfl)) ?_;exact D.va (fun w' C1=>(G0 rfl underlying195 rfl z8 (by decide))) O):P:=h k
theorem U457(h:Q->P:=by intro O;refine AtR.leave1 (F0 _) hb2 rfl Tryz.func94 rfl (.int .u64 (((0*4294967296+0:Nat):Int))) rfl ?_;exact U240 O):P:=h k
theorem U194(h:Q->P:=by intro O;refine U89 ?_;exact L.va (m3 rfl) O):P:=h k
theorem U458(h:Q->P:=by intro O;refine W.region rfl ?_;refine L.va (G0 rfl underlying52 rfl z8 (by decide)) ?_;exact L.va (A0 rfl underlying3 rfl (hB1.E0 2 (v:=.int .i64 o.call) rfl)) O):P:=h k
theorem U41(h:B Q->P:=by intro O;refine U425 ?_;intro L4 hb hW u6;have u5:=u5.j0 L4;have k6:=k6.j0 L4;revert L4 hb hW u6 u5 k6;exact O.1):P:=h ⟨k⟩
theorem U459(h:Q->P:=by intro O;refine U233 ?_;exact I0.val u1 (A1 _) rfl (v:=.int .u64 ((((v+1)*4294967296+0:Nat):Int))) (M0 rfl) O):P:=h k
theorem U460(h:Q->P:=by intro O;refine U233 ?_;exact I0.val u1 (A1 _) rfl (v:=.int .u64 ((((0+1)*4294967296+0:Nat):Int))) (M0 rfl) O):P:=h k
theorem U461(h:Q->P:=by intro O;refine U60 ?_;exact L.va (A0 rfl underlying4 rfl (((hM.j0 hb).blk i _ hc).E0 9 (v:=.bool true) rfl)) O):P:=h k
theorem U195(h:Q->P:=by intro O;refine L.on rfl ?_;exact L.va (in0 rfl) O):P:=h k
theorem U288(h:Q->P:=by intro O;refine ZA.region hZ ?_;refine ZA.recover hZ (i:=0) (rest:=[]) rfl rfl rfl rfl hmd (fun c45 v hsv=>?_);revert c45 v hsv;exact O):P:=h k
theorem U462(h:Q->P:=by intro O;refine I0.val (F0 _) (A1 _) rfl (v:=.bool false) (bv0 (r:=false) rfl rfl (by decide)) ?_;exact U229 O):P:=h k
theorem U196(h:Q->P:=by intro O;refine At.seq (W0 _ gr 0) ?_;refine At.seq (W0 _ gr 0) ?_;exact At.region (W0 _ gr 0) O):P:=h k
theorem U463(h:Q->P:=by intro O;refine U247 ?_;exact I0.val M4 (A1 _) rfl (v:=.pointer (some ⟨gr.blk,gr.off,none⟩)) (N3 rfl) O):P:=h k
theorem U17(h:Q->P:=by intro O;refine U121 ?_;intro hE hc;have B5:=B5.j0 P1;refine U346 ?_;revert hE hc B5;exact O):P:=h k
theorem U464(h:Q->P:=by intro O;refine I0.val (W0 _ gr 2) (A1 _) rfl (v:=.int .u32 1) (Y0 rfl) ?_;exact I0.nil (W0 _ gr 2) O):P:=h k
theorem U465(h:Q->P:=by intro O;refine I0.val (W0 _ gr 2) (A1 _) rfl (v:=.int .u64 0) (Y0 rfl) ?_;exact I0.nil (W0 _ gr 2) O):P:=h k
theorem U466(h:Q->P:=by intro O;refine I0.val (W0 _ gr 1) (A1 _) rfl (v:=.int .u64 1) (Y0 rfl) ?_;exact I0.nil (W0 _ gr 1) O):P:=h k
theorem U467(h:Q->P:=by intro O;refine I0.val R2 (A1 _) rfl (v:=.bool true) (bv0 (r:=true) rfl rfl (by decide)) ?_;exact I0.nil R2 O):P:=h k
theorem U289(h:Q->P:=by intro O;refine L.Af0 (b:=b4) (s:=s) rfl rfl Y3 (n5 _) (fun w Z0 hg I2=>?_);have hb:=D3 hb hb.size hg lt4;revert w Z0 hg I2 hb;exact O):P:=h k
theorem U468(h:Q->P:=by intro O;refine I0.val (F0 _) (A1 _) rfl (v:=.bool false) (T7 (r:=false) rfl rfl (by decide)) ?_;exact U325 O):P:=h k
theorem U71(h:Q->P:=by intro O;refine U45 ?_;exact U109 O):P:=h k
theorem U470(h:Q->P:=by intro O;refine L.va (m3 rfl) ?_;exact L.call (G8 rfl rfl rfl func81 rfl kg1 rfl) (Fy0 wb obj num _ hW) O):P:=h k
theorem U18(h:Q->P:=by intro O;refine Calls.C6 (n:=146) func39 rfl rfl ?_;have Q9:=hc.os;have M6:=hc.output;refine U2 ?_;revert Q9 M6;exact O):P:=h k
theorem U471(h:Q->P:=by intro O;refine I0.val (F0 _) (A1 _) rfl (v:=.bool true) (db0 rfl rfl) ?_;exact I0.nil (F0 _) O):P:=h k
theorem U472(h:Q->P:=by intro O;refine I0.val (W0 _ gr 0) (A1 _) rfl (v:=.bool false) (M0 rfl) ?_;exact I0.nil (W0 _ gr 0) O):P:=h k
theorem U473(h:Q->P:=by intro O;have m5:=m5.j0 L4;have K5:=K5.j0 L4;revert m5 K5;exact O):P:=h k
theorem U474(h:Q->P:=by intro O;have m5:=m5.j0 P1;have K5:=K5.j0 P1;revert m5 K5;exact O):P:=h k
theorem U475(h:Q->P:=by intro O;refine W.ret ?_;(repeat(first|refine T.ret ?_|refine B.ret ?_|refine N.ret ?_));exact ends.we0 (cs:=stA s1) (.inr rfl) rfl rfl underlying40 rfl (by rw[n5];exact Jb0) Y3 O):P:=h k
theorem U476(h:Q->P:=by intro O;refine I0.Iu0 (A1 _) rfl Tryz.func111 cu1 rfl rfl dd1 rfl rfl ?_;exact I0.nil (W0 _ gr 0) O):P:=h k
theorem U477(h:Q->P:=by intro O;refine U35 ?_;exact I0.yt0 S2 (A1 _) .enable (by simp) (.inl rfl) rfl Tryz.func89 lu0 rfl rfl lv0 O):P:=h k
theorem U478(h:Q->P:=by intro O;refine U176 ?_;exact I0.yt0 M4 (A1 _) .enable (by simp) (.inl rfl) rfl Tryz.func89 lu0 rfl rfl lv0 O):P:=h k
theorem U479(h:Q->P:=by intro O;refine FP.va rfl rfl (fun w' C1=>(A0 rfl underlying31 rfl (C1.1.E0 0 (v:=.slice (some ⟨p.lgb,0,none⟩) p.m p.m) rfl))) ?_;refine FP.va rfl rfl (fun w' C1=>(W3 rfl)) ?_;exact FP.call rfl rfl (fun w' C1=>C2 rfl func47 rfl jv1 rfl) (fun w' C1=>ys0) O):P:=h k
theorem U19(h:Q->P:=by intro O;rw[hw];exact O):P:=h k
theorem U480(h:Q->P:=by intro O;refine F.va rfl rfl (fun w' C1=>(G0 rfl underlying52 rfl z8 (by decide))) ?_;refine F.va rfl rfl (fun w' C1=>(A0 rfl underlying3 rfl (C1.2.E0 0 (v:=.int .i64 (th:Nat)) rfl))) ?_;exact F.va rfl rfl (fun w' C1=>(m3 rfl)) O):P:=h k
theorem U52(h:Q->P:=by intro O;refine I0.val (W0 _ gr 2) (A1 _) rfl (v:=.bool false) (db0 rfl rfl) ?_;refine I0.nil (W0 _ gr 2) ?_;exact U232 O):P:=h k
theorem U128(h:Q->P:=by intro O;exact U85 O):P:=h k
theorem U481(h:Q->P:=by intro O;refine U188 ?_;exact I0.yt0 (H3 _ gr) (A1 _) .disable (by simp) rfl rfl Tryz.func88 Vx0 rfl rfl Vy0 O):P:=h k
theorem U482(h:Q->P:=by intro O;refine At.region (F0 _) ?_;exact I0.val (F0 _) (A1 _) rfl (v:=.int .u32 1) (M0 rfl) O):P:=h k
theorem U483(h:Q->P:=by intro O;refine I0.val L2 (A1 _) rfl (v:=.int .i32 (((v:Nat):Int))) (Y0 rfl) ?_;exact I0.nil L2 O):P:=h k
theorem U484(h:Q->P:=by intro O;refine F.va rfl rfl (fun w' C1=>(G0 rfl underlying72 rfl bk1 (by decide))) ?_;exact F.doo rfl rfl O):P:=h k
theorem U485(h:Q->P:=by intro O;refine F.va rfl rfl (fun w' C1=>(G0 rfl underlying72 rfl bl1 (by decide))) ?_;exact F.doo rfl rfl O):P:=h k
theorem U486(h:Q->P:=by intro O;refine F.va rfl rfl (fun w' C1=>(G0 rfl underlying72 rfl Vt0 (by decide))) ?_;exact F.doo rfl rfl O):P:=h k
theorem U487(h:Q->P:=by intro O;refine F.va rfl rfl (fun w' C1=>(G0 rfl underlying72 rfl Vu0 (by decide))) ?_;exact F.doo rfl rfl O):P:=h k
theorem U488(h:Q->P:=by intro O;refine F.va rfl rfl (fun w' C1=>(G0 rfl underlying72 rfl Vv0 (by decide))) ?_;exact F.doo rfl rfl O):P:=h k
theorem U489(h:Q->P:=by intro O;refine I0.off R4 rfl rfl ?_;exact I0.val R4 (A1 _) rfl (v:=.bool false) (db0 rfl rfl) O):P:=h k
theorem U490(h:Q->P:=by intro O;refine F.doo rfl rfl ?_;exact L.call (C2 rfl func15 rfl E9 rfl) (l5 (⟨1,wh,1,vv⟩:O1) _) O):P:=h k
theorem U491(h:Q->P:=by intro O;refine F.doo rfl rfl ?_;exact L.call (C2 rfl func15 rfl E9 rfl) (l5 (⟨2,wh,1,vv⟩:O1) _) O):P:=h k
theorem U20(h:Q->P:=by intro O;have lt5:=Nat.le_refl w.heap.size;have hE:=hE.j0 F5.below;have hc:=hc.j0 F5.below;have B5:=F5.blk;refine U7 ?_;revert lt5 hE hc B5;exact O):P:=h k
theorem U492(h:Q->P:=by intro O;refine I0.val (H3 _ gr) (A1 _) rfl (v:=.bool false) (Y0 rfl) ?_;exact I0.nil (H3 _ gr) O):P:=h k
theorem U197(h:Q->P:=by intro O;refine ZA.block hZ ?_;exact ZA.loop hZ O):P:=h k
theorem U493(h:Q->P:=by intro O;refine L.va (A0 rfl underlying69 rfl (Z1.E0 0 (v:=.p cb) rfl)) ?_;exact L.va (J1 rfl) O):P:=h k
theorem U494(h:Q->P:=by intro O;refine L.va (A0 rfl underlying69 rfl (n3.E0 0 (v:=.p cb) rfl)) ?_;exact L.va (J1 rfl) O):P:=h k
theorem U290(h:Q->P:=by intro O;have Z1:=O0.other Z1 hg kt0.symm;have n3:=O0.other n3 hg (O0.ne n3 Y3 (by decide));revert Z1 n3;exact O):P:=h k
theorem U53(h:Q->P:=by intro O;refine U444 ?_;intro hb hW u6;refine U442 ?_;intro u5 k6;revert hb hW u6 u5 k6;exact O):P:=h k
theorem U198(h:Q->P:=by intro O;refine L.va (cu0 rfl) ?_;exact U192 O):P:=h k
theorem U495(h:Q->P:=by intro O;refine I0.off S2 rfl rfl ?_;exact I0.val S2 (A1 _) rfl (v:=.bool false) (db0 rfl rfl) O):P:=h k
theorem U54(h:Q->P:=by intro O;refine U14 ?_;exact U179 O):P:=h k
theorem U496(h:Q->P:=by intro O;refine U60 ?_;exact L.va (A0 rfl underlying4 rfl ((hM.blk i c hc).E0 9 (v:=.bool c.wt) rfl)) O):P:=h k
theorem U97(h:Q->P:=by intro O;have D6:=D6.mod x6 rfl;have E6:=E6.mod x6 rfl;revert D6 E6;exact O):P:=h k
theorem U55(h:Q->P:=by intro O;refine U45 ?_;exact U2 O):P:=h k
theorem U497(h:Q->P:=by intro O;refine U119 ?_;exact I0.val u1 (A1 _) rfl (v:=.int .i32 ((((v+1):Nat):Int))) (M0 rfl) O):P:=h k
theorem U498(h:Q->P:=by intro O;refine L.va (A0 rfl underlying4 rfl (hC.E0 2 (v:=.bool h) rfl)) ?_;exact L.va (in0 rfl) O):P:=h k
theorem U291(h:Q->P:=by intro O;have hR:=hR.j0 P1;have z7:=z7.j0 P1;revert hR z7;exact O):P:=h k
theorem U499(h:Q->P:=by intro O;refine D.on rfl ?_;exact D.va (fun w' C1=>(G0 rfl underlying30 rfl Bi0 (by decide))) O):P:=h k
theorem U56(h:Q->P:=by intro O;refine U284 ?_;exact U38 O):P:=h k
theorem U292(h:Q->P:=by intro O;have neE:=S1.ne hE hg.m.ends (by decide);refine L.stE (i:=i) hg hi rfl rfl z8 (fun w hg P3=>?_);revert neE w hg P3;exact O):P:=h k
theorem U199(h:Q->P:=by intro O;refine L.va (y9 rfl) ?_;exact U70 O):P:=h k
theorem U500(h:Q->P:=by intro O;refine I0.Vn0 (A1 _) rfl Tryz.func99 km1 rfl rfl ko1 rfl ?_;exact I0.nil (F0 _) O):P:=h k
theorem U501(h:Q->P:=by intro O;refine F.va rfl rfl (fun w' C1=>(A0 (v:=.bool false) rfl underlying4 rfl (Cu0 C1.2 (by decide) (J0 _) h))) ?_;refine U351 ?_;exact F.on rfl rfl rfl (fun w' C1=>(G0 rfl underlying52 rfl z8 (by decide))) O):P:=h k
theorem U502(h:Q->P:=by intro O;refine U254 ?_;exact L.va (o4 (l:=[.tmp 2]) (vs:=[.pointer (some ⟨b2,0,none⟩)]) rfl) O):P:=h k
theorem U503(h:Q->P:=by intro O;refine L.va (A0 rfl underlying2 rfl (B5.E0 0 (v:=.int .i64 (x tt)) rfl)) ?_;exact U38 O):P:=h k
theorem U200(h:Q->P:=by intro O;refine L.va (ik0 rfl) ?_;exact U1 O):P:=h k
theorem U201(h:Q->P:=by intro O;refine U0 ?_;exact L.va (m3 rfl) O):P:=h k
theorem U72(h:Q->P:=by intro O;refine U90 ?_;exact U2 O):P:=h k
theorem U504(h:Q->P:=by intro O;refine AtR.leave0 (W0 _ gr 0) hb4 rfl Tryz.func97 rfl ?_;exact I0.nil (W0 _ gr 0) O):P:=h k
theorem U505(h:Q->P:=by intro O;refine I0.val R4 (A1 _) rfl (v:=.bool false) (Y0 rfl) ?_;exact I0.nil R4 O):P:=h k
theorem U202(h:Q->P:=by intro O;have hZ:Ctx.Zs prog (Fin prog Post X 0):=V4;have hb:=A1 80;revert hZ hb;exact O):P:=h k
theorem U293(h:Q->P:=by intro O;refine ZA.u3 hZ ?_;exact ZA.inBlock hZ O):P:=h k
theorem U203(h:Q->P:=by intro O;have hZ:Ctx.Zs prog (Fin prog Post X 0):=V4;have hb:=A1 48;revert hZ hb;exact O):P:=h k
theorem U506(h:Q->P:=by intro O;rw[V0 s6,V0 s39,V0 s40,V0 s41,V0 s4,V0 s1];exact O):P:=h k
theorem U204(h:Q->P:=by intro O;refine L.va (cu0 rfl) ?_;exact U5 O):P:=h k
theorem U507(h:Q->P:=by intro O;refine F.va rfl rfl (fun w' C1=>(G0 rfl underlying52 rfl z8 (by decide))) ?_;refine F.va rfl rfl (fun w' C1=>(A0 rfl underlying3 rfl (C1.1.E0 0 (v:=.int .i64 1) rfl))) ?_;exact F.va rfl rfl (fun w' C1=>(j1 (cs:=[.int .i64 1,.int .i64 wh,.int .i64 1,.int .i64 vv]) rfl underlying52 rfl w6 rfl (C1.1.J4 rfl))) O):P:=h k
theorem U508(h:Q->P:=by intro O;refine F.va rfl rfl (fun w' C1=>(G0 rfl underlying52 rfl z8 (by decide))) ?_;refine F.va rfl rfl (fun w' C1=>(A0 rfl underlying3 rfl (C1.1.E0 0 (v:=.int .i64 2) rfl))) ?_;exact F.va rfl rfl (fun w' C1=>(j1 (cs:=[.int .i64 2,.int .i64 wh,.int .i64 1,.int .i64 vv]) rfl underlying52 rfl w6 rfl (C1.1.J4 rfl))) O):P:=h k
theorem U509(h:Q->P:=by intro O;refine I0.val L2 (A1 _) rfl (v:=.int .u32 0) (Y0 rfl) ?_;exact I0.nil L2 O):P:=h k
theorem U510(h:Q->P:=by intro O;refine I0.val L2 (A1 _) rfl (v:=.bool false) (Y0 rfl) ?_;exact I0.nil L2 O):P:=h k
theorem U511(h:Q->P:=by intro O;refine L.va (J1 rfl) ?_;exact L.va (G0 rfl underlying115 rfl sz2 (by decide)) O):P:=h k
theorem U512(h:Q->P:=by intro O;refine L.va (J1 rfl) ?_;exact L.va (G0 rfl underlying132 rfl sz2 (by decide)) O):P:=h k
theorem U205(h:Q->P:=by intro O;refine L.va (m3 rfl) ?_;exact U1 O):P:=h k
theorem U513(h:Q->P:=by intro O;refine U1 ?_;refine ZA.call (i:=1) (rest:=[]) hZ hb (f:=80) (args:=#[.p R.rb]) rfl rfl (C2 rfl func80 rfl kf1 rfl) (fun a ha=>?_);revert a ha;exact O):P:=h k
theorem U294(h:Q->P:=by intro O;refine D.va (fun w' C1=>(W3 rfl)) ?_;refine D.va (fun w' C1=>(G0 rfl underlying52 rfl sz2 (by decide))) ?_;exact D.va (fun w' C1=>(A0 rfl underlying2 rfl ((B5.j0 C1).E0 3 (v:=.int .i64 vv) rfl))) O):P:=h k
theorem U514(h:Q->P:=by intro O;refine L.alloc (cs:=#[.slice none 0 0,.slice none 0 0,.slice none 0 0,.slice none 0 0,.bool false,.int .i64 0]) Bj0 rfl (fun w b4 F4=>?_);refine U352 ?_;intro lt4 hb;revert w b4 F4 lt4 hb;exact O):P:=h k
theorem U515(h:Q->P:=by intro O;refine Bh0 (Q:=fun _ _ _=>False) hZ hb (fun _ _ _ hx=>hx.elim) ho ?_;show pt0 P _ a w _ _;exact O):P:=h k
theorem U295(h:Q->P:=by intro O;refine At.u3 hY ?_;exact At.region hY O):P:=h k
theorem U516(h:Q->P:=by intro O;show D1 P (callFunc f (#[] ++ #[x,y].map ρ ++ #[]));exact Lc0 hf k3 hb hn he O):P:=h k
theorem U517(h:Q->P:=by intro O;refine F.doo rfl rfl ?_;exact L.call (C2 rfl func50 rfl jy1 rfl) (Za0 o _) O):P:=h k
theorem U129(h:B Q->P:=by intro O;refine U329 ?_;exact L.nil O.1):P:=h ⟨k⟩
theorem U518(h:Q->P:=by intro O;refine I0.val (F0 _) (A1 _) rfl (v:=.int .u32 1) (Y0 rfl) ?_;exact U37 O):P:=h k
theorem U296(h:Q->P:=by intro O;refine U227 ?_;exact U287 O):P:=h k
theorem U520(h:Q->P:=by intro O;refine I0.val L2 (A1 _) rfl (v:=.int .u64 0) (Y0 rfl) ?_;exact I0.nil L2 O):P:=h k
theorem U521(h:Q->P:=by intro O;refine AtR.leave1 (W0 _ gr 1) hb3 rfl Tryz.func96 rfl (.int .u64 1) rfl ?_;refine I0.val (W0 _ gr 1) (A1 _) rfl (v:=.int .u64 (((0*4294967296+1:Nat):Int))) (M0 rfl) ?_;exact I0.val (W0 _ gr 1) (A1 _) rfl (v:=.bool false) (T7 (r:=false) rfl rfl (by decide)) O):P:=h k
theorem U522(h:Q->P:=by intro O;refine U194 ?_;exact L.va (C3 (parts:=[(0,.tmp 10),(1,.tmp 11)]) rfl (Cg0 obj num)) O):P:=h k
theorem U524(h:Q->P:=by intro O;refine U42 ?_;exact L.va (A0 rfl underlying3 rfl (B5.E0 2 (v:=.int .i64 2) rfl)) O):P:=h k
theorem U525(h:Q->P:=by intro O;refine U42 ?_;exact L.va (A0 rfl underlying3 rfl (B5.E0 2 (v:=.int .i64 1) rfl)) O):P:=h k
theorem U526(h:Q->P:=by intro O;refine U59 ?_;exact L.va (A0 rfl underlying3 rfl (B5.E0 2 (v:=.int .i64 5) rfl)) O):P:=h k
theorem U527(h:Q->P:=by intro O;refine L.va (A0 rfl underlying3 rfl (B5.E0 0 (v:=.int .i64 3) rfl)) ?_;exact U8 O):P:=h k
theorem U528(h:Q->P:=by intro O;refine L.va (A0 rfl underlying3 rfl (B5.E0 0 (v:=.int .i64 4) rfl)) ?_;exact U8 O):P:=h k
theorem U529(h:Q->P:=by intro O;refine L.va (A0 rfl underlying3 rfl (n3.E0 2 (v:=.int .i64 4) rfl)) ?_;exact U8 O):P:=h k
theorem U530(h:Q->P:=by intro O;refine L.va (A0 rfl underlying3 rfl (B5.E0 0 (v:=.int .i64 1) rfl)) ?_;exact U8 O):P:=h k
theorem U98(h:Q->P:=by intro O;refine U323 ?_;exact U349 O):P:=h k
theorem U531(h:Q->P:=by intro O;refine L.va (A0 rfl underlying3 rfl (B5.E0 0 (v:=.int .i64 5) rfl)) ?_;exact U405 O):P:=h k
theorem U206(h:Q->P:=by intro O;refine I0.nil S2 ?_;refine At.r6 S2 rfl ?_;exact At.skip S2 O):P:=h k
theorem U297(h:Q->P:=by intro O;refine I0.nil L2 ?_;refine At.r6 L2 rfl ?_;exact At.skip L2 O):P:=h k
theorem U207(h:B Q->P:=by intro O;have hbL:=hb;(have hF2:¬F b2:=fun z=>by have:=hK.tlt hT z;omega);revert hbL hF2;exact O.1):P:=h ⟨k⟩
theorem U532(h:Q->P:=by intro O;refine I0.val R2 (A1 _) rfl (v:=.bool false) (Y0 rfl) ?_;exact I0.nil R2 O):P:=h k
theorem U298(h:Q->P:=by intro O;refine At.seq R4 ?_;exact U261 O):P:=h k
theorem U533(h:Q->P:=by intro O;refine I0.val R2 (A1 _) rfl (v:=.bool true) (Y0 rfl) ?_;exact I0.nil R2 O):P:=h k
theorem U73(h:Q->P:=by intro O;refine U11 ?_;exact U2 O):P:=h k
theorem U74(h:Q->P:=by intro O;refine U225 ?_;exact U14 O):P:=h k
theorem U75(h:Q->P:=by intro O;refine U11 ?_;exact U59 O):P:=h k
theorem U534(h:Q->P:=by intro O;refine U473 ?_;intro m5 K5;have L5:=L5.j0 L4;revert m5 K5 L5;exact O):P:=h k
theorem U535(h:Q->P:=by intro O;refine U474 ?_;intro m5 K5;have L5:=L5.j0 P1;revert m5 K5 L5;exact O):P:=h k
theorem U299(h:Q->P:=by intro O;refine I0.nil M4 ?_;exact At.seq M4 O):P:=h k
theorem U536(h:Q->P:=by intro O;refine I0.val (H3 _ gr) (A1 _) rfl (v:=.int .u64 0) (Y0 rfl) ?_;exact U188 O):P:=h k
theorem U537(h:Q->P:=by intro O;refine I0.call L2 (A1 _) [.pointer (some ⟨gr.blk,gr.off,none⟩)] 7 rfl Tryz.func96 Pi0 rfl rfl rfl (fun cs1 Y5=>?_);refine U12 ?_;revert cs1 Y5;exact O):P:=h k
theorem U538(h:Q->P:=by intro O;refine U376 ?_;exact U185 O):P:=h k
theorem U539(h:Q->P:=by intro O;refine I0.D9 R4 (A1 _) rfl rfl (v:=.int .u32 0) (M0 rfl) ?_;refine I0.D9 R4 (A1 _) rfl rfl (v:=.bool true) (ai0 (r:=true) rfl rfl (by decide)) ?_;exact I0.val R4 (A1 _) rfl (v:=.bool true) (L8 rfl rfl) O):P:=h k
theorem U540(h:Q->P:=by intro O;refine AtR.leave1 L2 hb2 rfl Tryz.func102 rfl (.bool false) rfl ?_;exact U297 O):P:=h k
theorem U541(h:Q->P:=by intro O;refine L.va (A0 rfl underlying2 rfl (hC.E0 3 (v:=.int .i64 x) rfl)) ?_;refine L.pu 0 [.int .i64 x] #[.int .i64 x] sz2 hB1 (fun w Z0 hg I2=>?_);revert w Z0 hg I2;exact O):P:=h k
theorem U542(h:Q->P:=by intro O;refine AtR.leave1 R4 hb2 rfl Tryz.func102 rfl (.bool true) rfl ?_;exact U280 O):P:=h k
theorem U300(h:Q->P:=by intro O;refine U286 ?_;exact L.va (cv0 rfl rfl) O):P:=h k
theorem U543(h:Q->P:=by intro O;refine L.va (W3 rfl) ?_;refine L.fd0 (cs:=#[.p cb]) rfl rfl underlying151 Jd0 rfl ⟨_,bn1⟩ (by decide) (fun w b35 F35=>?_);revert w b35 F35;exact O):P:=h k
theorem U544(h:Q->P:=by intro O;refine I0.val u1 (A1 _) rfl (v:=.bool false) (M0 rfl) ?_;exact U150 O):P:=h k
theorem U545(h:Q->P:=by intro O;refine I0.val u1 (A1 _) rfl (v:=.int .u32 0) (M0 rfl) ?_;exact U238 O):P:=h k
theorem U546(h:Q->P:=by intro O;refine U35 ?_;exact I0.val S2 (A1 _) rfl (v:=.bool false) (M0 rfl) O):P:=h k
theorem U547(h:Q->P:=by intro O;refine U116 ?_;exact U115 O):P:=h k
theorem U208(h:Q->P:=by intro O;refine W.region rfl ?_;refine U118 ?_;exact L.va (G0 rfl underlying72 rfl bl1 (by decide)) O):P:=h k
theorem U76(h:Q->P:=by intro O;refine U235 ?_;intro L4 hb;have Z1:=Z1.j0 L4;have n3:=n3.j0 L4;revert L4 hb Z1 n3;exact O):P:=h k
theorem U549(h:Q->P:=by intro O;refine L.on rfl ?_;exact L.va (G0 rfl underlying105 rfl sz4 (by decide)) O):P:=h k
theorem U550(h:Q->P:=by intro O;refine L.va (G0 rfl underlying30 rfl Pc0 (by decide)) ?_;exact L.on rfl O):P:=h k
theorem U551(h:Q->P:=by intro O;refine L.va (G0 rfl underlying30 rfl wj0 (by decide)) ?_;exact L.on rfl O):P:=h k
theorem U552(h:Q->P:=by intro O;refine L.va (G0 rfl underlying30 rfl Bi0 (by decide)) ?_;exact L.on rfl O):P:=h k
theorem U553(h:Q->P:=by intro O;refine I0.D9 u1 (A1 _) rfl rfl (v:=.bool true) (ee0 (r:=true) rfl rfl (by decide)) ?_;refine I0.val u1 (A1 _) rfl (v:=.bool true) (L8 rfl rfl) ?_;exact I0.val u1 (A1 _) rfl (v:=.bool true) (M0 rfl) O):P:=h k
theorem U554(h:Q->P:=by intro O;refine U298 ?_;exact I0.val R4 (A1 _) rfl (v:=.bool true) (M0 rfl) O):P:=h k
theorem U555(h:Q->P:=by intro O;refine At.region (H3 _ gr) ?_;exact I0.defer (H3 _ gr) (A1 _) [] rfl O):P:=h k
theorem U556(h:Q->P:=by intro O;refine L.on rfl ?_;exact L.va (G0 rfl underlying49 rfl z8 (by decide)) O):P:=h k
theorem U557(h:Q->P:=by intro O;refine L.va (G0 rfl underlying30 rfl sz4 (by decide)) ?_;exact L.on rfl O):P:=h k
theorem U301(h:Q->P:=by intro O;show L _ _ _ _ _ _ _;exact U21 O):P:=h k
theorem U558(h:Q->P:=by intro O;refine U35 ?_;exact I0.val S2 (A1 _) rfl (v:=.int .u64 0) (M0 rfl) O):P:=h k
theorem U559(h:Q->P:=by intro O;refine U176 ?_;exact I0.val M4 (A1 _) rfl (v:=.int .u64 0) (M0 rfl) O):P:=h k
theorem U99(h:Q->P:=by intro O;refine U0 ?_;exact U374 O):P:=h k
theorem U130(h:Q->P:=by intro O;refine D.nil (fun w P1=>?_);have hb:=P0 hb P1;revert w P1 hb;exact O):P:=h k
theorem U32(h:Q->P:=by intro O;refine U411 ?_;intro hb Z1 n3 Y3;refine U346 ?_;revert hb Z1 n3 Y3;exact O):P:=h k
theorem U560(h:Q->P:=by intro O;have Y3:=Y3.other hg (O0.ne Y3 ck0 (by decide));have G6:=G6.grown hg (fun r e=>by cases e;exact⟨_,_,_,K3 ck0⟩);revert Y3 G6;exact O):P:=h k
theorem U561(h:Q->P:=by intro O;refine L.va (G0 rfl underlying153 rfl Td0 (by decide)) ?_;exact U1 O):P:=h k
theorem U562(h:Q->P:=by intro O;refine U301 ?_;exact L.va (G0 rfl underlying149 rfl Te0 (by decide)) O):P:=h k
theorem U302(h:Q->P:=by intro O;refine I0.val u1 (A1 _) rfl (v:=.bool true) (L8 rfl rfl) ?_;refine I0.nil u1 ?_;exact At.Q4 u1 rfl O):P:=h k
theorem U563(h:Q->P:=by intro O;refine L.va (W3 rfl) ?_;exact L.va (n8 rfl rfl underlying56) O):P:=h k
theorem U564(h:Q->P:=by intro O;refine L.va (W3 rfl) ?_;exact L.va (n8 rfl rfl underlying61) O):P:=h k
theorem U131(h:Q->P:=by intro O;have P7:=P7.mod x6 rfl;have R9:=R9.mod x6 rfl;revert P7 R9;exact O):P:=h k
theorem U303(h:Q->P:=by intro O;refine F.doo rfl rfl ?_;exact L.off rfl O):P:=h k
theorem U565(h:Q->P:=by intro O;refine U21 ?_;exact L.va (G0 rfl underlying113 rfl Tc0 (by decide)) O):P:=h k
theorem U100(h:Q->P:=by intro O;refine U277 ?_;intro lt5 hb;have hW:=hW.j0 F5.below;have hC:=hC.j0 F5.below;revert lt5 hb hW hC;exact O):P:=h k
theorem U566(h:Q->P:=by intro O;refine F.va rfl rfl (fun w' C1=>(bg0 (s:=s) rfl C1.1)) ?_;exact U480 O):P:=h k
theorem U567(h:Q->P:=by intro O;refine L.va (G0 rfl underlying123 rfl Jc0 (by decide)) ?_;exact U331 O):P:=h k
theorem U568(h:Q->P:=by intro O;refine L.va (G0 rfl underlying132 rfl Jc0 (by decide)) ?_;exact U331 O):P:=h k
theorem U569(h:Q->P:=by intro O;refine U332 ?_;exact D.va (fun w' C1=>(S6 rfl underlying50 rfl)) O):P:=h k
theorem U570(h:Q->P:=by intro O;refine U114 ?_;exact L.va (G0 rfl underlying30 rfl sz4 (by decide)) O):P:=h k
theorem U101(h:Q->P:=by intro O;refine L.va (E1 (r:=false) (by decide) (H2 (m:=2) (k:=1) rfl rfl)) ?_;refine U4 ?_;refine L.va (E1 (r:=true) (by decide) (H2 (m:=2) (k:=2) rfl rfl)) ?_;exact U34 O):P:=h k
theorem U304(h:Q->P:=by intro O;refine L.va (I7 rfl) ?_;exact U258 O):P:=h k
theorem U102(h:Q->P:=by intro O;refine U48 ?_;exact U2 O):P:=h k
theorem U571(h:Q->P:=by intro O;refine L.va (G0 rfl underlying115 rfl Jc0 (by decide)) ?_;refine L.va (A0 rfl underlying56 rfl (hC.E0 2 (v:=.p wb) rfl)) ?_;exact L.call (C2 rfl func44 rfl Bl0 rfl) (jf0 wb w hW) O):P:=h k
theorem U103(h:Q->P:=by intro O;refine U451 ?_;exact U475 O):P:=h k
theorem U104(h:Q->P:=by intro O;refine L.nil ?_;refine U228 ?_;refine U2 ?_;exact L.va (bg0 (s:=s1) rfl Z1) O):P:=h k
theorem U572(h:B Q->P:=by intro O;have hσ:=Ay0 (V:=V) h (.cons hi0 hl) i (by omega) hs A6 (fun j hj=>hkf j hj) aw0 hV;rw[hσ];revert hσ;exact O.1):P:=h ⟨k⟩
theorem U573(h:Q->P:=by intro O;refine I0.nil (W0 _ gr 1) ?_;exact At.r6 (W0 _ gr 1) rfl O):P:=h k
theorem U574(h:Q->P:=by intro O;refine At.r6 (W0 _ gr 0) rfl ?_;exact At.skip (W0 _ gr 0) O):P:=h k
theorem U575(h:Q->P:=by intro O;refine I0.nil (W0 _ gr 0) ?_;exact At.Q4 (W0 _ gr 0) rfl O):P:=h k
theorem U305(h:Q->P:=by intro O;refine ZD.seq hZ ?_;exact ZD.region hZ O):P:=h k
theorem U576(h:Q->P:=by intro O;refine L.va (I7 rfl) ?_;exact L.va (S6 rfl underlying151 rfl) O):P:=h k
theorem U77(h:Q->P:=by intro O;have hC:=hC.j0 F2.below;have Z1:=F2.blk;revert hC Z1;exact O):P:=h k
theorem U577(h:Q->P:=by intro O;refine U21 ?_;exact L.va (G0 rfl underlying149 rfl z8 (by decide)) O):P:=h k
theorem U578(h:Q->P:=by intro O;refine U118 ?_;exact L.va (G0 rfl underlying72 rfl bk1 (by decide)) O):P:=h k
theorem U579(h:Q->P:=by intro O;refine L.va (A0 rfl underlying65 rfl (K6.E0 0 (v:=.pointer (some ⟨cb,0,none⟩)) rfl)) ?_;refine L.va (J1 rfl) ?_;exact L.va (G0 rfl underlying123 rfl sz2 (by decide)) O):P:=h k
theorem U132(h:B Q->P:=by intro O;refine U108 ?_;refine U329 ?_;refine U1 ?_;exact ZA.inLoop hZ O.1):P:=h ⟨k⟩
theorem U306(h:Q->P:=by intro O;refine At.seq (H3 _ gr) ?_;exact U111 O):P:=h k
theorem U580(h:Q->P:=by intro O;refine ew0 (Ctx.cl Z hZ) hl ?_;rw[Frame.raise_at];exact O):P:=h k
theorem U307(h:Q->P:=by intro O;refine U1 ?_;exact ZA.Q4 hZ rfl O):P:=h k
theorem U133(h:Q->P:=by intro O;refine U414 ?_;exact U366 O):P:=h k
theorem U134(h:Q->P:=by intro O;refine U189 ?_;refine W.seq ?_;exact W.quiet (fun w'=>Below w.heap.size w w') (by kernel_rfl) (by kernel_rfl) ((Below.refl w.heap.size w).drew) O):P:=h k
theorem U33(h:Q->P:=by intro O;refine U2 ?_;refine U94 ?_;intro w b2 F2 lt2 hb Z1;revert w b2 F2 lt2 hb Z1;exact O):P:=h k
theorem U581(h:Q->P:=by intro O;refine At.block (W0 _ gr 0) ?_;exact At.loop (W0 _ gr 0) O):P:=h k
theorem U308(h:Q->P:=by intro O;refine L.va (u7 rfl) ?_;exact U36 O):P:=h k
theorem U582(h:Q->P:=by intro O;refine At.seq (W0 _ gr 0) ?_;exact At.block (W0 _ gr 0) O):P:=h k
theorem U583(h:Q->P:=by intro O;refine I0.nil (W0 _ gr 2) ?_;exact At.seq (W0 _ gr 2) O):P:=h k
theorem U584(h:Q->P:=by intro O;refine At.skip (W0 _ gr 1) ?_;exact At.seq (W0 _ gr 1) O):P:=h k
theorem U309(h:Q->P:=by intro O;refine L.va (Dc0 rfl) ?_;exact U1 O):P:=h k
theorem U135(h:Q->P:=by intro O;refine U257 ?_;exact U230 O):P:=h k
theorem U310(h:Q->P:=by intro O;refine L.va (cu0 rfl) ?_;exact U13 O):P:=h k
theorem U586(h:B Q->P:=by intro O;refine U1 ?_;exact ZA.r6 hZ (rb (decide_eq_false (by omega))) O.1):P:=h ⟨k⟩
theorem U587(h:Q->P:=by intro O;refine At.r6 (H3 _ gr) rfl ?_;exact At.skip (H3 _ gr) O):P:=h k
theorem U211(h:Q->P:=by intro O;refine U79 ?_;exact U83 O):P:=h k
theorem U136(h:Q->P:=by intro O;refine U269 ?_;exact U167 O):P:=h k
theorem U311(h:Q->P:=by intro O;refine L.va (W3 rfl) ?_;exact U71 O):P:=h k
theorem U212(h:Q->P:=by intro O;refine U347 ?_;exact U547 O):P:=h k
theorem U589(h:Q->P:=by intro O;refine I0.nil (F0 _) ?_;exact At.inLoop (F0 _) O):P:=h k
theorem U590(h:Q->P:=by intro O;refine D.on rfl ?_;exact D.va (fun w' C1=>(m3 rfl)) O):P:=h k
theorem U105(h:Q->P:=by intro O;exact U65 O):P:=h k
theorem U591(h:Q->P:=by intro O;refine F.va rfl rfl (fun w' C1=>(cu0 rfl)) ?_;exact U6 O):P:=h k
theorem U312(h:Q->P:=by intro O;have hex:=dt0 (h.sel i o ho) hlk;have hwa:=du0 hlk;revert hex hwa;exact O):P:=h k
theorem U137(h:Q->P:=by intro O;refine U5 ?_;exact U14 O):P:=h k
theorem U138(h:Q->P:=by intro O;exact U538 O):P:=h k
theorem U592(h:Q->P:=by intro O;refine L.on rfl ?_;exact L.va (S6 rfl underlying27 rfl) O):P:=h k
theorem U593(h:Q->P:=by intro O;refine L.on rfl ?_;exact L.va (S6 rfl underlying28 rfl) O):P:=h k
theorem U213(h:Q->P:=by intro O;refine U48 ?_;exact U14 O):P:=h k
theorem U214(h:Q->P:=by intro O;refine U458 ?_;exact U370 O):P:=h k
theorem U139(h:Q->P:=by intro O;refine L.va (E1 (r:=false) (by decide) (H2 (m:=4) (k:=1) rfl rfl)) ?_;refine U4 ?_;refine L.va (E1 (r:=false) (by decide) (H2 (m:=4) (k:=2) rfl rfl)) ?_;refine U4 ?_;refine L.va (E1 (r:=false) (by decide) (H2 (m:=4) (k:=3) rfl rfl)) ?_;refine U4 ?_;refine L.va (E1 (r:=true) (by decide) (H2 (m:=4) (k:=4) rfl rfl)) ?_;exact U34 O):P:=h k
theorem U594(h:Q->P:=by intro O;refine as0 (Ctx.cl Z hZ) hl ?_;rw[aa0];exact O):P:=h k
theorem U215(h:Q->P:=by intro O;refine U123 ?_;exact B.nrm O):P:=h k
theorem U216(h:B Q->P:=by intro O;refine U296 ?_;refine I0.val (F0 _) (A1 _) rfl (v:=.bool false) (bv0 (r:=false) rfl rfl (decide_eq_false (by omega))) ?_;exact U229 O.1):P:=h ⟨k⟩
theorem U217(h:B Q->P:=by intro O;refine I0.val (F0 _) (A1 _) rfl (v:=.bool true) (ee0 (r:=true) rfl rfl (decide_eq_true (by omega))) ?_;refine I0.val (F0 _) (A1 _) rfl (v:=.bool true) (M0 rfl) ?_;refine U224 ?_;refine I0.val (F0 _) (A1 _) rfl (v:=.bool true) (L8 rfl rfl) ?_;refine I0.nil (F0 _) ?_;exact At.Q4 (F0 _) rfl O.1):P:=h ⟨k⟩
theorem U140(h:Q->P:=by intro O;refine D.nil (fun w P1=>?_);have hg:=hg.j0 P1;revert w P1 hg;exact O):P:=h k
theorem U313(h:Q->P:=by intro O;refine U143 ?_;exact ZA.inBlock hZ O):P:=h k
theorem U218(h:Q->P:=by intro O;refine U79 ?_;exact U115 O):P:=h k
theorem U595(h:Q->P:=by intro O;refine U66 ?_;exact L.va (E5 rfl rfl underlying91) O):P:=h k
theorem U596(h:Q->P:=by intro O;refine L.va (E5 rfl rfl underlying65) ?_;exact U213 O):P:=h k
theorem U597(h:B Q->P:=by intro O;have h1:=Int.emod_nonneg e (b:=(n:Int)) (by omega);have h2:=Int.emod_lt_of_pos e (b:=(n:Int)) (by omega);revert h1 h2;exact O.1):P:=h ⟨k⟩
theorem U219(h:Q->P:=by intro O;refine W.region rfl ?_;refine L.va (H2 rfl rfl) ?_;exact U11 O):P:=h k
theorem U314(h:B Q->P:=by intro O;refine ZA.Q4 hZ (rb (decide_eq_true (by omega))) ?_;refine U167 ?_;exact ZA.block hZ O.1):P:=h ⟨k⟩
theorem U141(h:Q->P:=by intro O;refine U291 ?_;intro hR z7;have hl:=hl.j0 P1;have hNw:=hNw.j0 P1;revert hR z7 hl hNw;exact O):P:=h k
theorem U220(h:Q->P:=by intro O;refine U241 ?_;refine U323 ?_;exact U321 O):P:=h k
theorem U315(h:Q->P:=by intro O;have hZ:Ctx.Zs prog (Fin prog Post X g):=V4;have hb:=bkd 113;revert hZ hb;exact O):P:=h k
theorem U142(h:Q->P:=by intro O;refine ZA.W hZ hb ?_;have hR:=hg.m.run;(have hC:=(hg.m.blk i c hc));revert hR hC;exact O):P:=h k
theorem U316(h:Q->P:=by intro O;have hZ:Ctx.Zs prog (Fin prog Post X 0):=V4;have hb:=A1 76;revert hZ hb;exact O):P:=h k
theorem U221(h:Q->P:=by intro O;refine L.on rfl ?_;refine L.va (Dd0 rfl rfl) ?_;exact U83 O):P:=h k
theorem U318(h:Q->P:=by intro O;refine L.nil ?_;exact B.nrm O):P:=h k
theorem U222(h:Q->P:=by intro O;refine At.region R4 ?_;refine I0.val R4 (A1 _) rfl (v:=.pointer (some ⟨gr.blk,gr.off,none⟩)) (M0 rfl) ?_;refine I0.val R4 (A1 _) rfl (v:=.pointer (some ⟨gr.blk,gr.off,none⟩)) (N3 rfl) ?_;exact I0.val R4 (A1 _) rfl (v:=.pointer (some ⟨gr.blk,gr.off+1,none⟩)) (G3 (s:=1) gr.off (gr.off+1) rfl Tryz.underlying141 rfl Je0 (by decide) rfl) O):P:=h k
theorem U598(h:Q->P:=by intro O;refine U338 ?_;exact L.va (S6 rfl underlying50 rfl) O):P:=h k
theorem U223(h:Q->P:=by intro O;refine U391 ?_;refine U43 ?_;exact I0.val (F0 _) (A1 _) rfl (v:=.int .i32 (((0:Nat):Int))) (M0 rfl) O):P:=h k
theorem U106(h:Q->P:=by intro O;refine U534 ?_;intro m5 K5 L5;have D6:=D6.j0 L4;revert m5 K5 L5 D6;exact O):P:=h k
theorem U107(h:Q->P:=by intro O;refine U535 ?_;intro m5 K5 L5;have D6:=D6.j0 P1;revert m5 K5 L5 D6;exact O):P:=h k
theorem U599(h:Q->P:=by intro O;refine I0.nil r3 ?_;exact At.r6 r3 rfl O):P:=h k
theorem U600(h:Q->P:=by intro O;refine I0.nil R4 ?_;exact At.r6 R4 rfl O):P:=h k
theorem U601(h:Q->P:=by intro O;refine At.inBlock L2 ?_;exact At.inLoop L2 O):P:=h k
theorem U602(h:Q->P:=by intro O;refine W.region rfl ?_;exact L.va (I7 rfl) O):P:=h k
theorem U319(h:Q->P:=by intro O;refine ZA.skip hZ ?_;exact U0 O):P:=h k
theorem U320(h:Q->P:=by intro O;refine ZA.block hZ ?_;exact U159 O):P:=h k
end
abbrev Value.i(x:Int):Value:=.int .i64 x
abbrev Value.p(b:Nat):Value:=.pointer (some ⟨b,0,none⟩)
abbrev pt(b:Nat):Option Addr:=some ⟨b,0,none⟩
end Go
section
namespace Go.Yc
open Go Go.Conc
structure Past (Sh:Loc->Prop) (Us:Nat->Prop) (St:Nat->Loc->Prop) (Mem Lo:Nat->Prop) (K:Nat->Prop) (t:Trace):Prop where
 clean:∀said,¬Race said t
 known:∀i a,touchAt t i=some a->a.loc.isMemory=true->¬Sh a.loc->K i\/(a.write=false/\∃g,t.g? i=some g/\Lo g/\St g a.loc)
 wrote:∀i a,touchAt t i=some a->a.write=true->∀g,Mem g->St g a.loc->Knows t g i
 hears:∀g,Mem g->Deaf t g=0
 er0:∀i a g,touchAt t i=some a->Sh a.loc->t.g? i=some g->(∀g',Us g'->Knows t g' i)\/(a.kind≠.plain/\(g≠0->a.kind= .atomic/\¬t.heard i))
def PastH (Sh:Loc->Prop) (Us:Nat->Prop) (St:Nat->Loc->Prop) (Mem Lo:Nat->Prop) (h:Nat) (t:Trace):Prop:=Past Sh Us St Mem Lo (Knows t h) t
section
variable {Sh:Loc->Prop}{Us Us':Nat->Prop}{St St':Nat->Loc->Prop}{Mem Mem' Lo Lo':Nat->Prop}{h:Nat}{K K':Nat->Prop}{t u:Trace}
theorem Past.fewer (H:Past Sh Us St Mem Lo K t) (hM:∀g,Mem' g->Mem g):Past Sh Us St Mem' Lo K t :=
 ⟨H.clean,H.known,fun i a ha hw g hg hS=>H.wrote i a ha hw g (hM g hg) hS,fun g hg=>H.hears g (hM g hg),H.er0⟩
theorem Past.loosen (H:Past Sh Us St Mem Lo K t) (hL:∀g,Lo g->Lo' g):Past Sh Us St Mem Lo' K t :=
 ⟨H.clean,fun i a ha hm hs=>(H.known i a ha hm hs).imp id fun⟨x,g,hg,hl,hS⟩=>⟨x,g,hg,hL g hl,hS⟩,H.wrote,H.hears,H.er0⟩
theorem Past.old_known (H:Past Sh Us St Mem Lo K t) (hK:∀i,K i->K' i) {i:Nat} {a:Touch} {x:MemOp} (D4:t[i]? =some x) (V5:x.act.touch? =some a) (hm:a.loc.isMemory=true) (hs:¬Sh a.loc) :
  K' i\/(a.write=false/\∃g,(t++u).g? i=some g/\Lo g/\St g a.loc) :=
 (H.known i a (by rw[touchAt_of D4];exact V5) hm hs).imp (hK i) fun⟨p,g,hg,hl,hS⟩=>⟨p,g,by rw[g?_old (lt_size_of_getElem? D4)];exact hg,hl,hS⟩
theorem Past.old_hears {g:Nat} (H:Past Sh Us St Mem Lo K t) (hu:∀op∈u,op.g=g) (hd:Mem g->Deaf (t++u) g=Deaf t g):∀g',Mem g'->Deaf (t++u) g'=0:=fun g' o7=>by
 by_cases e:g'=g
 ·subst e;exact(hd o7).trans (H.hears g' o7)
 ·exact(Deaf_other t (fun x=>e x.symm) u hu).trans (H.hears g' o7)
theorem Past.A8 (H:Past Sh Us St Mem Lo K t) {i g:Nat} {a:Touch} {x:MemOp} (D4:t[i]? =some x) (V5:x.act.touch? =some a) (hs:Sh a.loc) (hg:(t++u).g? i=some g) :
  (∀g',Us g'->Knows (t++u) g' i)\/(a.kind≠.plain/\(g≠0->a.kind= .atomic/\¬(t++u).heard i)):=by
 have Y1:=lt_size_of_getElem? D4;rw[g?_old Y1]at hg;rcases H.er0 i a g (by rw[touchAt_of D4];exact V5) hs hg with this|this
 ·exact .inl fun g' o7=>(this g' o7).app u
 ·exact .inr ⟨this.1,fun o3=>⟨(this.2 o3).1,fun hh=>(this.2 o3).2 ((heard_old Y1).1 hh)⟩⟩
theorem Past.leave (H:Past Sh Us St Mem Lo K t) (hU:∀g,Us' g->Us g):Past Sh Us' St Mem Lo K t :=
 ⟨H.clean,H.known,H.wrote,H.hears,fun i a g ha hs hg=>(H.er0 i a g ha hs hg).imp (fun z g' o7=>z g' (hU g' o7)) id⟩
theorem PastH.Gr0 {Sh':Loc->Prop} (H:PastH Sh Us St Mem Lo h t) (hS:∀l,Sh l->Sh' l) (hLo:∀g l,Lo g->St g l->¬Sh' l) (hm:∀l,Sh' l->l.isMemory=true) (hU:∀g,Us g->g=h):PastH Sh' Us St Mem Lo h t :=
 ⟨H.clean,fun i a ha hm hs=>H.known i a ha hm fun z=>hs (hS _ z),H.wrote,H.hears,fun i a g ha hs hg=>by
  by_cases e:Sh a.loc
  ·exact H.er0 i a g ha e hg
  ·rcases H.known i a ha (hm _ hs) e with hk|⟨_,g',_,hl,hS'⟩
   ·exact .inl fun g'' hv1=>by rw[hU g'' hv1];exact hk
   ·exact absurd hs (hLo g' _ hl hS')⟩
theorem Past.appMute {g:Nat} (H:Past Sh Us St Mem Lo K t) (hK:∀i,K i->K' i) (hn:∀op∈u,op.act.touch? =none) (hh:∀g',Mem g'->Deaf (t++u) g'=0):Past Sh Us St Mem Lo K' (t++u):=by
 refine⟨fun said=>noRace_appendMute (H.clean said) hn,fun i a ha hm hs=>?_,fun i a ha hw g' o7 hS=>?_,hh,fun i a g' ha hs o7=>?_⟩
 ·obtain⟨x,hx,V5⟩:=touch_of ha;rcases getElem?_append_cases hx with⟨_,D4⟩|⟨_,N9⟩
  ·exact H.old_known hK D4 V5 hm hs
  ·rw[hn x N9]at V5;cases V5
 ·obtain⟨x,hx,V5⟩:=touch_of ha;rcases getElem?_append_cases hx with⟨_,D4⟩|⟨_,N9⟩
  ·exact(H.wrote i a (by rw[touchAt_of D4];exact V5) hw g' o7 hS).app u
  ·rw[hn x N9]at V5;cases V5
 ·obtain⟨x,hx,V5⟩:=touch_of ha;rcases getElem?_append_cases hx with⟨_,D4⟩|⟨_,N9⟩
  ·exact H.A8 D4 V5 hs o7
  ·rw[hn x N9]at V5;cases V5
theorem Past.appRead {g:Nat} (H:Past Sh Us St Mem Lo K t) (hK:∀i,K i->K' i) (hg:Mem g) (hL:Lo g) (hu:∀op∈u,op.g=g) (hr:∀op∈u,∀b,op.act.touch? =some b->b.write=false/\St g b.loc/\¬Sh b.loc) (hd:Deaf (t++u) g=Deaf t g) :
  Past Sh Us St Mem Lo K' (t++u):=by
 refine⟨fun said=>noRace_append (H.clean said) hu fun i a ha op W5 b hb hc=>?_,fun i a ha hm hs=>?_,fun i a ha hw g' o7 hS=>?_,H.old_hears hu (fun _=>hd),fun i a g' ha hs o7=>?_⟩
 ·obtain⟨hb0,hbS,_⟩:=hr op W5 b hb;rcases hc.2.2.1 with x|x
  ·exact H.wrote i a ha x g hg (hc.1▸hbS)
  ·rw[hb0]at x;cases x
 ·obtain⟨x,hx,V5⟩:=touch_of ha;rcases getElem?_append_cases hx with⟨_,D4⟩|⟨_,N9⟩
  ·exact H.old_known hK D4 V5 hm hs
  ·exact .inr ⟨(hr x N9 a V5).1,g,by rw[g?_of hx,hu x N9],hL,(hr x N9 a V5).2.1⟩
 ·obtain⟨x,hx,V5⟩:=touch_of ha;rcases getElem?_append_cases hx with⟨_,D4⟩|⟨_,N9⟩
  ·exact(H.wrote i a (by rw[touchAt_of D4];exact V5) hw g' o7 hS).app u
  ·rw[(hr x N9 a V5).1]at hw;cases hw
 ·obtain⟨x,hx,V5⟩:=touch_of ha;rcases getElem?_append_cases hx with⟨_,D4⟩|⟨_,N9⟩
  ·exact H.A8 D4 V5 hs o7
  ·exact absurd hs (hr x N9 a V5).2.2
def HOk (Sh:Loc->Prop) (St:Nat->Loc->Prop) (h:Nat) (op:MemOp):Prop:=∀b,op.act.touch? =some b->¬Sh b.loc/\(b.write=true->∀g,g≠h->¬St g b.loc)
theorem PastH.appH (H:PastH Sh Us St Mem Lo h t) (hLo:¬Lo h) (hu:∀op∈u,op.g=h) (hs:∀op∈u,HOk Sh St h op) (hd:Deaf (t++u) h=Deaf t h):PastH Sh Us St Mem Lo h (t++u):=by
 refine⟨fun said=>noRace_append (H.clean said) hu fun i a ha op W5 b hb hc=>?_,fun i a ha hm hns=>?_,fun i a ha hw g hg hS=>?_,H.old_hears hu (fun _=>hd),fun i a g' ha hsh o7=>?_⟩
 ·obtain⟨h1,h2⟩:=hs op W5 b hb;rcases H.known i a ha hc.2.1 (hc.1▸h1)with hk|⟨hw,g,_,hl,hS⟩
  ·exact hk
  ·rcases hc.2.2.1 with x|x
   ·rw[hw]at x;cases x
   ·exact absurd (hc.1▸hS) (h2 x g fun e=>hLo (e▸hl))
 ·obtain⟨x,hx,V5⟩:=touch_of ha;rcases getElem?_append_cases hx with⟨_,D4⟩|⟨_,N9⟩
  ·exact H.old_known (fun i=>Knows.app u) D4 V5 hm hns
  ·have:=knows_own hx;rw[hu x N9]at this;exact .inl this
 ·obtain⟨x,hx,V5⟩:=touch_of ha;rcases getElem?_append_cases hx with⟨_,D4⟩|⟨_,N9⟩
  ·exact(H.wrote i a (by rw[touchAt_of D4];exact V5) hw g hg hS).app u
  ·by_cases e:g=h
   ·have:=knows_own hx;rw[hu x N9]at this;rw[e];exact this
   ·exact absurd hS ((hs x N9 a V5).2 hw g e)
 ·obtain⟨x,hx,V5⟩:=touch_of ha;rcases getElem?_append_cases hx with⟨_,D4⟩|⟨_,N9⟩
  ·exact H.A8 D4 V5 hsh o7
  ·exact absurd hsh (hs x N9 a V5).1
def GOk (Sh:Loc->Prop) (g:Nat) (op:MemOp):Prop:=∀b,op.act.touch? =some b->Sh b.loc/\b.kind≠.plain/\(g≠0->b.kind= .atomic)
theorem Past.Sp0 {g:Nat} (H:Past Sh Us St Mem Lo K t) (hUs:Us g) (Zy0:∀g l,St g l->¬Sh l) (hK:∀i,K i->K' i) (hu:∀op∈u,op.g=g) (hs:∀op∈u,GOk Sh g op) (hdf:g≠0->∀i,t.size <=i->i<t.size+u.size->(t++u).deaf g i≠0)
  (hh:∀g',Mem g'->Deaf (t++u) g'=0):Past Sh Us St Mem Lo K' (t++u):=by
 refine⟨fun said=>noRace_append (H.clean said) hu fun i a ha op W5 b hb hc=>?_,fun i a ha hm hns=>?_,fun i a ha hw g' o7 hS=>?_,hh,fun i a g' ha hsh o7=>?_⟩
 ·obtain⟨h1,h2,h3⟩:=hs op W5 b hb;obtain⟨x,hx,V5⟩:=touch_of ha;rcases H.er0 i a x.g ha (hc.1▸h1) (g?_of hx)with hsx|hsx
  ·exact hsx g hUs
  rcases hc.2.2.2 with y|y|⟨_,y1,y2⟩
  ·exact absurd y hsx.1
  ·exact absurd y h2
  ·have e1:g=0:=Classical.byContradiction fun e=>by have:=h3 e;rw[y2]at this;cases this
   have e2:x.g=0:=Classical.byContradiction fun e=>by have:=(hsx.2 e).1;rw[y1]at this;cases this
   have:=knows_own hx;rw[e2]at this;rw[e1];exact this
 ·obtain⟨x,hx,V5⟩:=touch_of ha;rcases getElem?_append_cases hx with⟨_,D4⟩|⟨_,N9⟩
  ·exact H.old_known hK D4 V5 hm hns
  ·exact absurd (hs x N9 a V5).1 hns
 ·obtain⟨x,hx,V5⟩:=touch_of ha;rcases getElem?_append_cases hx with⟨_,D4⟩|⟨_,N9⟩
  ·exact(H.wrote i a (by rw[touchAt_of D4];exact V5) hw g' o7 hS).app u
  ·exact absurd (hs x N9 a V5).1 (Zy0 _ _ hS)
 ·obtain⟨x,hx,V5⟩:=touch_of ha;rcases getElem?_append_cases hx with⟨_,D4⟩|⟨hi,N9⟩
  ·exact H.A8 D4 V5 hsh o7
  ·obtain⟨h1,h2,h3⟩:=hs x N9 a V5;have hgx:g'=g:=by rw[g?_of hx]at o7;rw[<- hu x N9];exact(Option.some.inj o7).symm
   subst hgx;refine .inr ⟨h2,fun o3=>⟨h3 o3,?_⟩⟩;rintro⟨g2,hg2,hd2⟩;rw[o7]at hg2;obtain rfl:=Option.some.inj hg2;exact hdf o3 i hi (by have:=lt_size_of_getElem? hx;simpa using this) hd2
theorem PastH.still (H:PastH Sh Us St Mem Lo h t) (hLo:¬Lo h) (hSt:∀g,g≠h->∀l,St' g l↔St g l) (hS:∀l,St' h l->l.isMemory=true/\¬Sh l) (hM:∀g,Mem' g->Mem g\/g=h) (hd:Mem' h->Deaf t h=0):PastH Sh Us St' Mem' Lo h t :=
 ⟨H.clean,fun i a ha hm hs=>(H.known i a ha hm hs).imp id fun⟨x,g,hg,hl,hS'⟩=>⟨x,g,hg,hl,(hSt g (fun e=>hLo (e▸hl)) _).2 hS'⟩,
  fun i a ha hw g hg hl=>by
   by_cases e:g=h
   ·subst e;obtain⟨h1,h2⟩:=hS _ hl;rcases H.known i a ha h1 h2 with hk|⟨C1,_⟩
    ·exact hk
    ·rw[hw]at C1;cases C1
   ·exact H.wrote i a ha hw g ((hM g hg).resolve_right e) ((hSt g e _).1 hl),
  fun g hg=>by
   by_cases e:g=h
   ·subst e;exact hd hg
   ·exact H.hears g ((hM g hg).resolve_right e),H.er0⟩
end
section
variable {Sh:Loc->Prop}{Us:Nat->Prop}{St:Nat->Loc->Prop}{Mem Lo:Nat->Prop}{h j:Nat}{t:Trace}
theorem PastH.give (H:PastH Sh Us St Mem Lo h t) (hh:Mem h) (hj:Mem j) (fh:FuncId) (ph:String) (fj:FuncId) (pj:String) (c k cap:Nat) :
  PastH Sh Us St Mem (fun g=>Lo g/\g≠j) j (t++met h j fh ph fj pj c k cap):=by
 have hn:=met_mute h j fh ph fj pj c k cap;have hq:=fun g=>met_quiet h j fh ph fj pj c k cap g;have e0:(t++met h j fh ph fj pj c k cap)[t.size]? =some {g:=h,fn:=fh,pos:=ph,act:=.send c k}:=by simp[met]
 have e3:(t++met h j fh ph fj pj c k cap)[t.size+3]? =some {g:=j,fn:=fj,pos:=pj,act:=.recvDone c k}:=by simp[met]
 have En0:HappensBefore (t++met h j fh ph fj pj c k cap) t.size (t.size+3) :=
  Relation.TransGen.single (.inr ⟨.handOver (act?_of e0) (act?_of e3),⟨h,g?_of e0,by rw[deaf_old (Nat.le_refl _)];exact H.hears h hh⟩,⟨j,g?_of e3,by rw[deaf_quiet (hq j) 3 (by simp[met])];exact H.hears j hj⟩⟩)
 refine⟨fun said=>noRace_appendMute (H.clean said) hn,fun i a ha hm hs=>?_,fun i a ha hw g hg hS=>?_,fun g hg=>(Deaf_quiet (hq g)).trans (H.hears g hg),fun i a g' ha hsh o7=>?_⟩
 ·obtain⟨x,hx,V5⟩:=touch_of ha;rcases getElem?_append_cases hx with⟨hi,D4⟩|⟨_,N9⟩
  ·rcases H.known i a (by rw[touchAt_of D4];exact V5) hm hs with hk|⟨p,g,hg,hl,hS⟩
   ·exact .inl ⟨t.size+3,_,e3,rfl,.inr ((hk.hb_new (Nat.le_refl _) e0 rfl).trans En0)⟩
   ·by_cases e:g=j
    ·subst e;have:=knows_own hx;rw[show x.g=g from by have:=g?_of D4;rw[hg]at this;exact(Option.some.inj this).symm]at this;exact .inl this
    ·exact .inr ⟨p,g,by rw[g?_old hi];exact hg,⟨hl,e⟩,hS⟩
  ·rw[hn x N9]at V5;cases V5
 ·obtain⟨x,hx,V5⟩:=touch_of ha;rcases getElem?_append_cases hx with⟨_,D4⟩|⟨_,N9⟩
  ·exact(H.wrote i a (by rw[touchAt_of D4];exact V5) hw g hg hS).app _
  ·rw[hn x N9]at V5;cases V5
 ·obtain⟨x,hx,V5⟩:=touch_of ha;rcases getElem?_append_cases hx with⟨_,D4⟩|⟨_,N9⟩
  ·exact H.A8 D4 V5 hsh o7
  ·rw[hn x N9]at V5;cases V5
theorem PastH.born {c:Nat} (H:PastH Sh Us St Mem Lo h t) (hh:Mem h) (hc0:Deaf t c=0) (hSt:∀l,¬St c l) (hUs:Us h) (fh:FuncId) (ph:String) (fc:FuncId) :
  PastH Sh (fun g=>Us g\/g=c) St (fun g=>Mem g\/g=c) Lo c (t ++ #[{g:=h,fn:=fh,pos:=ph,act:=.go c},{g:=c,fn:=fc,pos:=ph,act:=.start}]):=by
 generalize hu:(#[{g:=h,fn:=fh,pos:=ph,act:=.go c},{g:=c,fn:=fc,pos:=ph,act:=.start}]:Trace)=u;have hn:∀op∈u,op.act.touch? =none:=by
  intro op W5;subst hu;simp only[List.mem_toArray,List.mem_cons,List.not_mem_nil,or_false]at W5;rcases W5 with rfl|rfl <;> rfl
 have hq:∀g,∀op∈u,∀d,deafStep g d op=d:=by
  intro g op W5 d;subst hu;simp only[List.mem_toArray,List.mem_cons,List.not_mem_nil,or_false]at W5;rcases W5 with rfl|rfl <;> rfl
 have e0:(t++u)[t.size]? =some {g:=h,fn:=fh,pos:=ph,act:=.go c}:=by subst hu;simp
 have e1:(t++u)[t.size+1]? =some {g:=c,fn:=fc,pos:=ph,act:=.start}:=by subst hu;simp
 have En0:HappensBefore (t++u) t.size (t.size+1) :=
  Relation.TransGen.single (.inr ⟨.spawn (act?_of e0) (act?_of e1) (g?_of e1),⟨h,g?_of e0,by rw[deaf_old (Nat.le_refl _)];exact H.hears h hh⟩,⟨c,g?_of e1,by rw[deaf_quiet (hq c) 1 (by subst hu;simp)];exact hc0⟩⟩)
 refine⟨fun said=>noRace_appendMute (H.clean said) hn,fun i a ha hm hs=>?_,fun i a ha hw g hg hS=>?_,fun g hg=>(Deaf_quiet (hq g)).trans (hg.elim (H.hears g) fun e=>e▸hc0),fun i a g' ha hsh o7=>?_⟩
 ·obtain⟨x,hx,V5⟩:=touch_of ha;rcases getElem?_append_cases hx with⟨hi,D4⟩|⟨_,N9⟩
  ·rcases H.known i a (by rw[touchAt_of D4];exact V5) hm hs with hk|⟨p,g,hg,hl,hS⟩
   ·exact .inl ⟨t.size+1,_,e1,rfl,.inr ((hk.hb_new (Nat.le_refl _) e0 rfl).trans En0)⟩
   ·exact .inr ⟨p,g,by rw[g?_old hi];exact hg,hl,hS⟩
  ·rw[hn x N9]at V5;cases V5
 ·obtain⟨x,hx,V5⟩:=touch_of ha;rcases getElem?_append_cases hx with⟨_,D4⟩|⟨_,N9⟩
  ·rcases hg with hg|rfl
   ·exact(H.wrote i a (by rw[touchAt_of D4];exact V5) hw g hg hS).app u
   ·exact absurd hS (hSt _)
  ·rw[hn x N9]at V5;cases V5
 ·obtain⟨x,hx,V5⟩:=touch_of ha;rcases getElem?_append_cases hx with⟨_,D4⟩|⟨_,N9⟩
  ·have Y1:=lt_size_of_getElem? D4;rcases H.er0 i a g' (by rw[touchAt_of D4];exact V5) hsh (by rw[<- g?_old (u:=u) Y1];exact o7)with y|y
   ·refine .inl fun g2 hg2=>?_;rcases hg2 with hg2|rfl
    ·exact(y g2 hg2).app u
    ·exact⟨t.size+1,_,e1,rfl,.inr (((y h hUs).hb_new (Nat.le_refl _) e0 rfl).trans En0)⟩
   ·exact .inr ⟨y.1,fun o3=>⟨(y.2 o3).1,fun hh=>(y.2 o3).2 ((heard_old Y1).1 hh)⟩⟩
  ·rw[hn x N9]at V5;cases V5
theorem PastH.over (H:PastH Sh Us St Mem Lo 0 t) (hU:Us 0) (hL:∀g,¬Lo g):t.HandedOver:=by
 rintro i g hg o3 ⟨x,hx,hm,ho0⟩;by_cases hs:Sh x.loc
 ·rcases H.er0 i x g hx hs hg with hk|this
  ·obtain⟨q,z,hq,hz,hb⟩:=hk 0 hU;rcases hb with rfl|hb
   ·rw[g?_of hq,hz]at hg;exact absurd (Option.some.inj hg).symm o3
   ·exact⟨q,by rw[g?_of hq,hz],hb⟩
  ·exact(ho0.elim (fun z=>absurd (this.2 o3).1 z) fun z=>absurd z (this.2 o3).2)
 ·rcases H.known i x hx hm hs with⟨q,z,hq,hz,hb⟩|⟨_,g',_,hl,_⟩
  ·rcases hb with rfl|hb
   ·rw[g?_of hq,hz]at hg;exact absurd (Option.some.inj hg).symm o3
   ·exact⟨q,by rw[g?_of hq,hz],hb⟩
  ·exact absurd hl (hL g')
end
end Go.Yc
end
section
namespace Go.Yc
open Go
def Am0:Mark->Bool
 | .acquire _| .release _| .releaseMerge _| .disable| .enable| .read _| .write _=>false
 |_=>true
def y4:Obj->Bool
 | .view ..=>true
 |_=>false
def Q6:Obj->Bool
 | .cells ..=>true
 |_=>false
def dead {α:Type} (P:Program):Sem α->Prop
 | .pure _=>False
 | .load _ _ k=>∀v,dead P (k v)
 | .store _ _ _ k=>dead P k
 | .new _ k=>∀r,dead P (k r)
 | .shape _ k=>∀s,dead P (k s)
 | .freeze _ _ k=>dead P k
 | .frozen _ k=>∀b,dead P (k b)
 | .getObj _ k=>∀o,dead P (k o)
 | .setObj _ _ k=>dead P k
 | .choose _ k=>∀n,dead P (k n)
 | .sys _ k=>∀r,dead P (k r)
 | .program k=>dead P (k P)
 | .mark _ k=>dead P k
 | .halt h=>∀v,h≠.panic v
def D1 {α:Type} (P:Program):Sem α->Prop
 | .pure _=>True
 | .load _ _ k=>∀v,D1 P (k v)
 | .store _ _ _ k=>D1 P k
 | .new o k=>y4 o=false/\∀r,D1 P (k r)
 | .shape _ k=>∀s,dead P (k s)
 | .freeze _ _ k=>dead P k
 | .frozen _ k=>∀b,dead P (k b)
 | .getObj _ k=>∀o,D1 P (k o)
 | .setObj _ o k=>(y4 o=false/\Q6 o=false)/\D1 P k
 | .choose _ k=>∀n,D1 P (k n)
 | .sys _ k=>∀r,dead P (k r)
 | .program k=>D1 P (k P)
 | .mark m k=>if Am0 m then D1 P k else dead P k
 | .halt _=>True
theorem l4 {α β:Type} {P:Program} (f:α->Sem β):∀{s:Sem α},dead P s->dead P (s.bind f)
 | .pure _,h=>h.elim
 | .load _ _ k,h=>fun v=>l4 f (h v)
 | .store _ _ _ k,h=>l4 f (s:=k) h
 | .new _ k,h=>fun r=>l4 f (h r)
 | .shape _ k,h=>fun s=>l4 f (h s)
 | .freeze _ _ k,h=>l4 f (s:=k) h
 | .frozen _ k,h=>fun b=>l4 f (h b)
 | .getObj _ k,h=>fun o=>l4 f (h o)
 | .setObj _ _ k,h=>l4 f (s:=k) h
 | .choose _ k,h=>fun n=>l4 f (h n)
 | .sys _ k,h=>fun r=>l4 f (h r)
 | .program k,h=>l4 f (s:=k P) h
 | .mark _ k,h=>l4 f (s:=k) h
 | .halt _,h=>h
theorem N6 {α β:Type} {P:Program} {f:α->Sem β} (hf:∀a,D1 P (f a)):∀{s:Sem α},D1 P s->D1 P (s.bind f)
 | .pure a,_=>hf a
 | .load _ _ k,h=>fun v=>N6 hf (h v)
 | .store _ _ _ k,h=>N6 hf (s:=k) h
 | .new _ k,h=>⟨h.1,fun r=>N6 hf (h.2 r)⟩
 | .shape _ k,h=>fun s=>l4 f (h s)
 | .freeze _ _ k,h=>l4 f (s:=k) h
 | .frozen _ k,h=>fun b=>l4 f (h b)
 | .getObj _ k,h=>fun o=>N6 hf (h o)
 | .setObj _ _ k,h=>⟨h.1,N6 hf (s:=k) h.2⟩
 | .choose _ k,h=>fun n=>N6 hf (h n)
 | .sys _ k,h=>fun r=>l4 f (h r)
 | .program k,h=>N6 hf (s:=k P) h
 | .mark m k,h=>by
  unfold D1 at h;show D1 P (Sem.mark m (k.bind f));unfold D1;split at h
  ·rename_i hm;rw[if_pos hm];exact N6 hf (s:=k) h
  ·rename_i hm;rw[if_neg hm];exact l4 f (s:=k) h
 | .halt _,_=>trivial
def inR (f:Nat×Nat) (i:Nat):Prop:=f.1 <=i/\i<f.2
inductive V6 where
 |all
 |cut (rest:Array Value) (f:Nat×Nat)
 |gone (o:Obj)
inductive dq0:V6->Obj->Obj->Prop
 |same (o:Obj):dq0 .all o o
 |cut (c rest:Array Value) (T:TypeId) (f f':Nat×Nat) (h:∀i,inR f i->inR f' i):dq0 (.cut rest f) (.cells c T f') (.cells (c++rest) T f)
 |gone (T:TypeId) (f:Nat×Nat) (o:Obj):dq0 (.gone o) (.cells #[] T f) o
structure l6 (ρ:Nat->V6) (u w:World):Prop where
 os:w.os=u.os
 output:w.output=u.output
 tape:w.tape=u.tape
 drawn:w.drawn=u.drawn
 size:w.heap.size=u.heap.size
 obj:∀(b:Nat) (x:Obj),u.heap[b]? =some x->∃y,w.heap[b]? =some y/\dq0 (ρ b) x y
 new:∀b,u.heap.size <=b->ρ b= .all
 Y6:∀(b:Nat) (x:Obj),u.heap[b]? =some x->y4 x=false
def Z3 (x y:Obj):Prop:=match x,y with
 | .cells c T f,.cells c' T' f'=>c'.size=c.size/\T'=T/\f'=f/\∀i,inR f i->c'[i]? =c[i]?
 | .cells ..,_=>False
 |_,y=>Q6 y=false
structure S9 (u u':World):Prop where
 size:u.heap.size <=u'.heap.size
 obj:∀(b:Nat) (x:Obj),u.heap[b]? =some x->∃y,u'.heap[b]? =some y/\Z3 x y
theorem Z3.refl:∀x,Z3 x x
 | .cells ..=>⟨rfl,rfl,rfl,fun _ _=>rfl⟩
 | .pending ..=>rfl
 | .view ..=>rfl
 | .number ..=>rfl
 | .map ..=>rfl
 | .chan ..=>rfl
 | .stringIter ..=>rfl
 | .mapIter ..=>rfl
 | .loop ..=>rfl
 | .deferred ..=>rfl
 | .coro ..=>rfl
 | .finalizers ..=>rfl
theorem Z3.trans {x y z:Obj} (h:Z3 x y) (h':Z3 y z):Z3 x z:=by
 cases x <;> cases y <;> first|exact h.elim|skip
 case cells.cells=>
  cases z <;> first|exact h'.elim|skip
  obtain⟨h1,rfl,rfl,h2⟩:=h;obtain⟨h3,rfl,rfl,h4⟩:=h';exact⟨h3.trans h1,rfl,rfl,fun i hi=>(h4 i hi).trans (h2 i hi)⟩
 all_goals (first|(cases z <;> simp_all [Z3,Q6]))
theorem S9.refl (u:World):S9 u u:=⟨Nat.le_refl _,fun _ x h=>⟨x,h,Z3.refl x⟩⟩
theorem S9.trans {u v x:World} (h:S9 u v) (h':S9 v x):S9 u x :=
 ⟨Nat.le_trans h.size h'.size,fun b o ho=>by
  obtain⟨o',h1,h2⟩:=h.obj b o ho;obtain⟨o'',h3,h4⟩:=h'.obj b o' h1;exact⟨o'',h3,h2.trans h4⟩⟩
def ht0 (u:World) (e:Event):Prop:=match e.loc with
 | .cell a=>a.block<u.heap.size->(∃v,u.cell? a=some v)/\(e.write=true->u.frozen? a=false)
 | .obj r=>r<u.heap.size->∃x,u.heap[r]? =some x/\Q6 x=false
 | .mark m=>Am0 m=true
 |_=>False
theorem Z4 {u:World} {a:Addr} {v:Value} (h:u.cell? a=some v):∃c T f,u.heap[a.block]? =some (.cells c T f)/\a.spot=none/\c[a.off]? =some v:=by
 unfold World.cell? at h;split at h
 ·rename_i c T f hb;split at h
  ·cases h
  ·rename_i hs;exact⟨c,T,f,hb,by cases hh:a.spot <;> simp_all,h⟩
 ·cases h
section
variable {ρ:Nat->V6}{u w u':World}{a:Addr}{v:Value}
theorem l6.cell (h:l6 ρ u w) (hc:u.cell? a=some v):w.cell? a=some v:=by
 obtain⟨c,T,f,hb,hs,hv⟩:=Z4 hc;obtain⟨y,hy,hl⟩:=h.obj _ _ hb;unfold World.cell?;generalize ρ a.block=p at hl;cases hl with
 |same=>rw[hy];simp[hs,hv]
 |cut _ rest _ f0 _ hf=>
  rw[hy];simp only[hs,Option.isSome_none,Bool.false_eq_true,if_false];rw[Array.getElem?_append_left (Array.getElem?_eq_some_iff.1 hv).1];exact hv
 |gone=>simp at hv
theorem l6.frozen (h:l6 ρ u w) (hc:u.cell? a=some v) (hf:u.frozen? a=false):w.frozen? a=false:=by
 obtain⟨c,T,f,hb,hs,hv⟩:=Z4 hc;obtain⟨y,hy,hl⟩:=h.obj _ _ hb;unfold World.frozen? at hf⊢;rw[hb]at hf;generalize ρ a.block=p at hl;cases hl with
 |same=>rw[hy];exact hf
 |cut _ rest _ f0 _ hf0=>
  rw[hy];simp only[Bool.and_eq_false_imp,decide_eq_true_eq,decide_eq_false_iff_not]at hf⊢;intro h1 h2;exact hf (hf0 _ ⟨h1,h2⟩).1 (hf0 _ ⟨h1,h2⟩).2
 |gone=>simp at hv
theorem heap_setCell (u:World) (a:Addr) (v:Value) (b:Nat):(u.setCell a v).heap[b]? =(u.heap[b]?).map fun o=>if b=a.block then(match o with| .cells c T f=>.cells (if a.spot.isSome then c else c.setIfInBounds a.off v) T f|o=>o) else o:=by
 unfold World.setCell;simp only[Array.getElem?_modify];by_cases h:a.block=b
 ·subst h;simp only[if_true];cases u.heap[a.block]? with
  |none=>rfl
  |some o=>cases o <;> rfl
 ·simp[h,Ne.symm h]
theorem l6.setCell (h:l6 ρ u w) (hc:u.cell? a=some v) (x:Value):l6 ρ (u.setCell a x) (w.setCell a x):=by
 obtain⟨c,T,f,hb,hs,hv⟩:=Z4 hc;have Y1:=(Array.getElem?_eq_some_iff.1 hv).1;refine⟨h.os,h.output,h.tape,h.drawn,by simp[World.setCell,h.size],fun b o ho=>?_,fun b hb=>h.new b (by simpa [World.setCell]using hb),fun b o ho=>?_⟩
 ·rw[heap_setCell]at ho⊢;obtain⟨o1,h1,rfl⟩:=Option.map_eq_some_iff.1 ho;obtain⟨y,hy,hl⟩:=h.obj b o1 h1;refine⟨_,by rw[hy];rfl,?_⟩;by_cases hba:b=a.block
  ·subst hba;rw[hb]at h1;obtain rfl:=Option.some.inj h1;simp only[if_true,hs,Option.isSome_none,Bool.false_eq_true,if_false];generalize ρ a.block=p at hl⊢;cases hl with
   |same=>exact .same _
   |cut _ rest _ f0 _ hf0=>
    show dq0 _ _ (.cells ((c++rest).setIfInBounds a.off x) T f0);rw[show(c++rest).setIfInBounds a.off x=c.setIfInBounds a.off x++rest by
     rw[Array.setIfInBounds_append_left Y1]]
    exact .cut _ _ _ _ _ hf0
   |gone=>simp at hv
  ·simp only[hba,if_false];exact hl
 ·rw[heap_setCell]at ho;obtain⟨o1,h1,rfl⟩:=Option.map_eq_some_iff.1 ho;have:=h.Y6 b o1 h1;by_cases hba:b=a.block
  ·simp only[hba,if_true];cases o1 <;> simp_all [y4]
  ·simp only[hba,if_false];exact this
theorem xq0 (u:World) (a:Addr) (x:Value) (hz:u.frozen? a=false):S9 u (u.setCell a x):=by
 refine⟨by simp[World.setCell],fun b o ho=>?_⟩;rw[heap_setCell,ho];refine⟨_,rfl,?_⟩;by_cases hba:b=a.block
 ·subst hba;unfold World.frozen? at hz;rw[ho]at hz;simp only[if_true];cases o <;> simp only[Z3,Q6]
  rename_i c T f;split
  ·simp
  ·refine⟨by simp,trivial,trivial,fun i hi=>?_⟩;rw[Array.getElem?_setIfInBounds_ne];rintro rfl;obtain⟨lo,hi'⟩:=f;simp only[Bool.and_eq_false_imp,decide_eq_true_eq,decide_eq_false_iff_not]at hz;exact hz hi.1 hi.2
 ·simp only[hba,if_false];exact Z3.refl o
theorem Gs0 (u:World) (o:Obj):S9 u {u with heap:=u.heap.push o}:=by
 refine⟨by simp,fun b x hx=>⟨x,?_,Z3.refl x⟩⟩;have:=(Array.getElem?_eq_some_iff.1 hx).1;show(u.heap.push o)[b]? =some x;rw[Array.getElem?_push,if_neg (by omega)];exact hx
theorem l6.push (h:l6 ρ u w) {o:Obj} (ho:y4 o=false):l6 ρ {u with heap:=u.heap.push o} {w with heap:=w.heap.push o}:=by
 refine⟨h.os,h.output,h.tape,h.drawn,by simp[h.size],fun b x hx=>?_,fun b hb=>h.new b (by simp at hb;omega),fun b x hx=>?_⟩
 ·have D4:(u.heap.push o)[b]? =some x:=hx;show ∃y,(w.heap.push o)[b]? =some y/\_;rw[Array.getElem?_push]at D4⊢;rw[h.size];split at D4
  ·rename_i hb;rw[if_pos hb];cases D4;exact⟨_,rfl,by rw[h.new b (by omega)];exact .same _⟩
  ·rename_i hb;rw[if_neg hb];exact h.obj b x D4
 ·have D4:(u.heap.push o)[b]? =some x:=hx;rw[Array.getElem?_push]at D4;split at D4
  ·cases D4;exact ho
  ·exact h.Y6 b x D4
theorem An0 {r:Nat} {x:Obj} (hr:u.heap[r]? =some x) (hx:Q6 x=false) {o:Obj} (ho:Q6 o=false):S9 u {u with heap:=u.heap.setIfInBounds r o}:=by
 refine⟨by simp,fun b y hy=>?_⟩;show ∃z,(u.heap.setIfInBounds r o)[b]? =some z/\_;rw[Array.getElem?_setIfInBounds];by_cases h:r=b
 ·subst h;have Y1:=(Array.getElem?_eq_some_iff.1 hr).1;rw[hr]at hy;obtain rfl:=Option.some.inj hy;refine⟨o,by simp[Y1],?_⟩;cases x <;> simp_all [Z3,Q6]
 ·exact⟨y,by simp[h,hy],Z3.refl y⟩
theorem l6.setObj (h:l6 ρ u w) {r:Nat} {o x:Obj} (hr:u.heap[r]? =some x) (hx:Q6 x=false) (ho:y4 o=false):l6 ρ {u with heap:=u.heap.setIfInBounds r o} {w with heap:=w.heap.setIfInBounds r o}:=by
 have hal:ρ r= .all:=by
  obtain⟨y,_,hl⟩:=h.obj r x hr;generalize ρ r=p at hl⊢;cases hl <;> first|rfl|cases hx
 refine⟨h.os,h.output,h.tape,h.drawn,by simp[h.size],fun b x hx=>?_,fun b hb=>h.new b (by simpa using hb),fun b x hx=>?_⟩
 ·have D4:(u.heap.setIfInBounds r o)[b]? =some x:=hx;show ∃y,(w.heap.setIfInBounds r o)[b]? =some y/\_;rw[Array.getElem?_setIfInBounds]at D4⊢;by_cases hrb:r=b
  ·subst hrb;simp only[if_true]at D4⊢;rw[h.size];split at D4
   ·rename_i hb;rw[if_pos hb];cases D4;exact⟨_,rfl,by rw[hal];exact .same _⟩
   ·cases D4
  ·simp only[hrb,if_false]at D4⊢;exact h.obj b x D4
 ·have D4:(u.heap.setIfInBounds r o)[b]? =some x:=hx;rw[Array.getElem?_setIfInBounds]at D4;by_cases hrb:r=b
  ·subst hrb;simp only[if_true]at D4;split at D4
   ·cases D4;exact ho
   ·cases D4
  ·simp only[hrb,if_false]at D4;exact h.Y6 b x D4
theorem ht0.back (he:S9 u u') {e:Event} (h:ht0 u' e):ht0 u e:=by
 obtain⟨l,wr,sy⟩:=e;cases l with
 |cell a=>
  intro Y1;obtain⟨⟨v,hv⟩,hw⟩:=h (Nat.lt_of_lt_of_le Y1 he.size);have hx:u.heap[a.block]? =some u.heap[a.block]:=Array.getElem?_eq_getElem Y1;obtain⟨y,hy,hk⟩:=he.obj _ _ hx;obtain⟨c,T,f,hb,hs,hc⟩:=Z4 hv;rw[hb]at hy;obtain rfl:=Option.some.inj hy;generalize u.heap[a.block]=x at hx hk;cases x <;> simp only[Z3,Q6,Bool.true_eq_false]at hk
  rename_i c0 T0 f0;obtain⟨h1,rfl,rfl,_⟩:=hk;have Gt0:=(Array.getElem?_eq_some_iff.1 hc).1;refine⟨⟨c0[a.off]'(by omega),by unfold World.cell?;rw[hx];simp[hs,show a.off<c0.size by omega]⟩,fun hwr=>?_⟩;have:=hw hwr;unfold World.frozen? at this⊢;rw[hb]at this;rw[hx];exact this
 |obj r=>
  intro Y1;obtain⟨x',D4,hc⟩:=h (Nat.lt_of_lt_of_le Y1 he.size);have hx:u.heap[r]? =some u.heap[r]:=Array.getElem?_eq_getElem Y1;obtain⟨y,hy,hk⟩:=he.obj _ _ hx;rw[D4]at hy;obtain rfl:=Option.some.inj hy;refine⟨_,hx,?_⟩;generalize u.heap[r]=x at hk;cases x <;> first|rfl|(cases x' <;> simp_all [Z3,Q6])
 |output=>exact h
 |goroutines=>exact h
 |mark m=>exact h
def xr0 {α:Type}:Result α->Prop
 | .ok _ _=>True
 | .halt (.panic _) _=>True
 |_=>False
def atW {α:Type}:Result α->World->Result α
 | .ok a _,w=>.ok a w
 | .halt h _,w=>.halt h w
def hw0 {α:Type}:Result α->World
 | .ok _ w=>w
 | .halt _ w=>w
def one:Value->Bool
 | .agg _=>false
 | .tuple _=>false
 |_=>true
theorem ap0 {α:Type} {P:Program} {m:Mode} {a:Addr} {v:Value} {k:Sem α} (h:one v=true) (u:World) (es:Array Event):(Sem.store m a v k).runT P u es=match u.cell? a with
  |some _=>if u.frozen? a then(.halt (.unsupported (.unsafePointer "a write to bytes that a string shares")) u,es) else k.runT P (u.setCell a v) (es.push ⟨.cell a,true,m== .atomic⟩)
  |none=>match u.farStore P a v (m== .atomic)with
   | .ok (u,Nv0)=>k.runT P u (es++Nv0.toArray.map (⟨.cell ·,true,m== .atomic⟩))
   | .error h=>(.halt h u,es):=by
 cases v <;> first|rfl|cases h
theorem es0 {α:Type} {P:Program} {m:Mode} {a:Addr} {v:Value} {k:Sem α} (h:one v=false) (u:World) (es:Array Event):(Sem.store m a v k).runT P u es=(.halt (.stuck "store: not the value of one cell") u,es):=by
 cases v <;> first|rfl|cases h
theorem kw0 {P:Program} {u:World} {a:Addr} {b:Bool} {h:Halt} (he:u.farLoad P a b= .error h):∀v,h≠.panic v:=by
 unfold World.farLoad at he;split at he
 ·split at he
  ·cases he
  ·cases he;intro v;simp
 ·cases he;unfold World.noCell;split <;> intro v <;> simp
theorem hy0 {P:Program} {u:World} {a:Addr} {x:Value} {b:Bool} {h:Halt} (he:u.farStore P a x b= .error h):∀v,h≠.panic v:=by
 unfold World.farStore at he;split at he
 ·split at he
  ·cases he
  ·cases he;intro v;simp
 ·cases he;unfold World.noCell;split <;> intro v <;> simp
theorem cr0 {α:Type} {h:Halt} {w:World} (hf:xr0 (α:=α) (.halt h w)):∃v,h= .panic v:=by
 cases h <;> first|exact⟨_,rfl⟩|exact hf.elim
theorem A2 {α:Type} {P:Program}:∀{s:Sem α},dead P s->∀(u:World) (es:Array Event),¬xr0 (s.runT P u es).1
 | .pure _,h,_,_=>h.elim
 | .load m a k,h,u,es=>by
  unfold Sem.runT;split
  ·exact A2 (h _) _ _
  ·split
   ·exact A2 (h _) _ _
   ·rename_i he;intro hf;obtain⟨v,hv⟩:=cr0 hf;exact kw0 he v hv
 | .store m a v k,h,u,es=>by
  cases ho:one v
  ·rw[es0 ho];exact id
  ·rw[ap0 ho];split
   ·split
    ·exact id
    ·exact A2 (s:=k) h _ _
   ·split
    ·exact A2 (s:=k) h _ _
    ·rename_i he;intro hf;obtain⟨v,hv⟩:=cr0 hf;exact hy0 he v hv
 | .new _ k,h,u,es=>A2 (h _) _ _
 | .shape _ k,h,u,es=>A2 (h _) _ _
 | .freeze _ _ k,h,u,es=>A2 (s:=k) h _ _
 | .frozen _ k,h,u,es=>A2 (h _) _ _
 | .getObj _ k,h,u,es=>by
  unfold Sem.runT;split
  ·exact id
  ·exact A2 (h _) _ _
  ·exact id
 | .setObj _ _ k,h,u,es=>by
  unfold Sem.runT;split
  ·exact id
  ·exact A2 (s:=k) h _ _
  ·exact id
 | .choose _ k,h,u,es=>by
  unfold Sem.runT;split
  ·exact A2 (h _) _ _
  ·exact A2 (h _) _ _
 | .sys _ k,h,u,es=>A2 (h _) _ _
 | .program k,h,u,es=>A2 (s:=k P) h _ _
 | .mark _ k,h,u,es=>A2 (s:=k) h _ _
 | .halt hh,h,u,es=>by
  intro hf;obtain⟨v,hv⟩:=cr0 hf;exact h v hv
structure xs0 {α:Type} (P:Program) (ρ:Nat->V6) (s:Sem α) (u w:World) (es:Array Event):Prop where
 out:∃w',s.runT P w es=(atW (s.runT P u es).1 w',(s.runT P u es).2)/\l6 ρ (hw0 (s.runT P u es).1) w'
 evo:S9 u (hw0 (s.runT P u es).1)
 evs:∀e∈(s.runT P u es).2,e∈es\/ht0 u e
theorem xs0.of {α β:Type} {P:Program} {ρ:Nat->V6} {s:Sem α} {t:Sem β} {u w u' w':World} {es es':Array Event} {f:Result β->Result α} (h:xs0 P ρ t u' w' es') (hu:s.runT P u es=(f (t.runT P u' es').1,(t.runT P u' es').2)) (hw:s.runT P w es=(f (t.runT P w' es').1,(t.runT P w' es').2))
  (hf:∀r w,f (atW r w)=atW (f r) w) (hfw:∀r,hw0 (f r)=hw0 r) (he:S9 u u') (hes:∀e∈es',e∈es\/ht0 u e):xs0 P ρ s u w es:=by
 obtain⟨⟨w2,h1,h2⟩,h3,h4⟩:=h;refine⟨⟨w2,?_,?_⟩,?_,?_⟩
 ·rw[hw,h1,hu];simp only[hf]
 ·rw[hu];simp only[hfw];exact h2
 ·rw[hu];simp only[hfw];exact he.trans h3
 ·rw[hu];intro e hee;rcases h4 e hee with h5|h5
  ·exact hes e h5
  ·exact .inr (h5.back he)
theorem xs0.go {α:Type} {P:Program} {ρ:Nat->V6} {s t:Sem α} {u w u' w':World} {es es':Array Event} (h:xs0 P ρ t u' w' es') (hu:s.runT P u es=t.runT P u' es') (hw:s.runT P w es=t.runT P w' es') (he:S9 u u') (hes:∀e∈es',e∈es\/ht0 u e):xs0 P ρ s u w es :=
 xs0.of (f:=id) h hu hw (fun _ _=>rfl) (fun _=>rfl) he hes
theorem xt0 {o:Obj} (h:Q6 o=true):∃c T f,o= .cells c T f:=by
 cases o <;> first|exact⟨_,_,_,rfl⟩|cases h
theorem r9 {u:World} {es:Array Event} {x:Event} (hx:ht0 u x):∀e∈es.push x,e∈es\/ht0 u e:=by
 intro e he;rcases Array.mem_push.1 he with h|rfl
 ·exact .inl h
 ·exact .inr hx
theorem l6.ask {ρ:Nat->V6} {u w:World} (h:l6 ρ u w) (d:Nat):l6 ρ {u with drawn:=d} {w with drawn:=d}:=⟨h.os,h.output,h.tape,rfl,h.size,h.obj,h.new,h.Y6⟩
theorem Z6 {α:Type} {P:Program} {ρ:Nat->V6}:∀{s:Sem α},D1 P s->∀{u w:World} {es:Array Event},l6 ρ u w->xr0 (s.runT P u es).1->xs0 P ρ s u w es
 | .pure a,_,u,w,es,hs,_=>⟨⟨w,rfl,hs⟩,S9.refl u,fun e he=>.inl he⟩
 | .halt hh,_,u,w,es,hs,_=>⟨⟨w,rfl,hs⟩,S9.refl u,fun e he=>.inl he⟩
 | .load m a k,h,u,w,es,hs,hf=>by
  cases hc:u.cell? a with
  |some v=>
   have hu:(Sem.load m a k).runT P u es=(k v).runT P u (es.push ⟨.cell a,false,m== .atomic⟩):=by
    conv=>lhs;unfold Sem.runT
    rw[hc]
   have hw:(Sem.load m a k).runT P w es=(k v).runT P w (es.push ⟨.cell a,false,m== .atomic⟩):=by
    conv=>lhs;unfold Sem.runT
    rw[hs.cell hc]
   rw[hu]at hf;exact(Z6 (h v) hs hf).go hu hw (S9.refl u) (r9 (fun _=>⟨⟨v,hc⟩,fun h9=>by cases h9⟩))
  |none=>
   exfalso;unfold Sem.runT at hf;rw[hc]at hf;have:∃hh,u.farLoad P a (m== .atomic)= .error hh:=by
    unfold World.farLoad;cases hb:u.heap[a.block]? with
    |none=>exact⟨_,rfl⟩
    |some o=>
     cases o
     case view at_ t=>exact absurd (hs.Y6 _ _ hb) (by simp[y4])
     all_goals exact⟨_,rfl⟩
   obtain⟨hh,he⟩:=this;rw[he]at hf;obtain⟨v,hv⟩:=cr0 hf;exact kw0 he v hv
 | .store m a x k,h,u,w,es,hs,hf=>by
  cases ho:one x
  ·rw[es0 ho]at hf;exact hf.elim
  ·cases hc:u.cell? a with
   |some v=>
    cases hz:u.frozen? a
    ·have hu:(Sem.store m a x k).runT P u es=k.runT P (u.setCell a x) (es.push ⟨.cell a,true,m== .atomic⟩):=by
      rw[ap0 ho,hc,hz];rfl
     have hw:(Sem.store m a x k).runT P w es=k.runT P (w.setCell a x) (es.push ⟨.cell a,true,m== .atomic⟩):=by
      rw[ap0 ho,hs.cell hc,hs.frozen hc hz];rfl
     rw[hu]at hf;exact(Z6 (s:=k) h (hs.setCell hc x) hf).go hu hw (xq0 u a x hz) (r9 (fun _=>⟨⟨v,hc⟩,fun _=>hz⟩))
    ·rw[ap0 ho,hc,hz]at hf;exact hf.elim
   |none=>
    exfalso;rw[ap0 ho,hc]at hf;have:∃hh,u.farStore P a x (m== .atomic)= .error hh:=by
     unfold World.farStore;cases hb:u.heap[a.block]? with
     |none=>exact⟨_,rfl⟩
     |some o=>
      cases o
      case view at_ t=>exact absurd (hs.Y6 _ _ hb) (by simp[y4])
      all_goals exact⟨_,rfl⟩
    obtain⟨hh,he⟩:=this;rw[he]at hf;obtain⟨v,hv⟩:=cr0 hf;exact hy0 he v hv
 | .new o k,h,u,w,es,hs,hf=>by
  refine(Z6 (h.2 u.heap.size) (hs.push h.1) hf).go rfl ?_ (Gs0 u o) (fun e he=>.inl he);show(k w.heap.size).runT P _ es=_;rw[hs.size]
 | .shape _ k,h,u,w,es,hs,hf=>absurd hf (A2 (h _) _ _)
 | .freeze _ _ k,h,u,w,es,hs,hf=>absurd hf (A2 (s:=k) h _ _)
 | .frozen _ k,h,u,w,es,hs,hf=>absurd hf (A2 (h _) _ _)
 | .getObj r k,h,u,w,es,hs,hf=>by
  cases hb:u.heap[r]? with
  |none=>unfold Sem.runT at hf;rw[hb]at hf;exact hf.elim
  |some o=>
   cases hco:Q6 o
   ·obtain⟨y,hy,hl⟩:=hs.obj r o hb;have hyo:y=o:=by generalize ρ r=p at hl;cases hl <;> first|rfl|cases hco
    subst hyo;have hu:(Sem.getObj r k).runT P u es=(k y).runT P u (es.push ⟨.obj r,false,y.isChan⟩):=by
     conv=>lhs;unfold Sem.runT
     rw[hb];cases y <;> first|rfl|cases hco
    have hw:(Sem.getObj r k).runT P w es=(k y).runT P w (es.push ⟨.obj r,false,y.isChan⟩):=by
     conv=>lhs;unfold Sem.runT
     rw[hy];cases y <;> first|rfl|cases hco
    rw[hu]at hf;exact(Z6 (h y) hs hf).go hu hw (S9.refl u) (r9 (fun _=>⟨y,hb,hco⟩))
   ·obtain⟨c,T,f,rfl⟩:=xt0 hco;unfold Sem.runT at hf;rw[hb]at hf;exact hf.elim
 | .setObj r o k,h,u,w,es,hs,hf=>by
  cases hb:u.heap[r]? with
  |none=>unfold Sem.runT at hf;rw[hb]at hf;exact hf.elim
  |some y=>
   cases hco:Q6 y
   ·obtain⟨y',hy,hl⟩:=hs.obj r y hb;have hyo:y'=y:=by generalize ρ r=p at hl;cases hl <;> first|rfl|cases hco
    subst hyo;have hu:(Sem.setObj r o k).runT P u es=k.runT P {u with heap:=u.heap.setIfInBounds r o} (es.push ⟨.obj r,true,o.isChan⟩):=by
     conv=>lhs;unfold Sem.runT
     rw[hb];cases y' <;> first|rfl|cases hco
    have hw:(Sem.setObj r o k).runT P w es=k.runT P {w with heap:=w.heap.setIfInBounds r o} (es.push ⟨.obj r,true,o.isChan⟩):=by
     conv=>lhs;unfold Sem.runT
     rw[hy];cases y' <;> first|rfl|cases hco
    rw[hu]at hf;exact(Z6 (s:=k) h.2 (hs.setObj hb hco h.1.1) hf).go hu hw (An0 hb hco h.1.2) (r9 (fun _=>⟨y',hb,hco⟩))
   ·obtain⟨c,T,f,rfl⟩:=xt0 hco;unfold Sem.runT at hf;rw[hb]at hf;exact hf.elim
 | .choose q k,h,u,w,es,hs,hf=>by
  cases hq:q.forced
  ·have hu:(Sem.choose q k).runT P u es=(k (q.cut (u.tape u.drawn q))).runT P {u with drawn:=u.drawn+1} es:=by
    conv=>lhs;unfold Sem.runT
    rw[hq];rfl
   have hw:(Sem.choose q k).runT P w es=(k (q.cut (u.tape u.drawn q))).runT P {w with drawn:=u.drawn+1} es:=by
    conv=>lhs;unfold Sem.runT
    rw[hq,hs.tape,hs.drawn];rfl
   rw[hu]at hf;exact(Z6 (h _) (hs.ask _) hf).go hu hw ⟨Nat.le_refl _,fun _ x hx=>⟨x,hx,Z3.refl x⟩⟩ (fun e he=>.inl he)
  ·have hu:(Sem.choose q k).runT P u es=(k 0).runT P u es:=by
    conv=>lhs;unfold Sem.runT
    rw[hq];rfl
   have hw:(Sem.choose q k).runT P w es=(k 0).runT P w es:=by
    conv=>lhs;unfold Sem.runT
    rw[hq];rfl
   rw[hu]at hf;exact(Z6 (h 0) hs hf).go hu hw (S9.refl u) (fun e he=>.inl he)
 | .sys _ k,h,u,w,es,hs,hf=>absurd hf (A2 (h _) _ _)
 | .program k,h,u,w,es,hs,hf=>(Z6 (s:=k P) h hs hf).go rfl rfl (S9.refl u) (fun e he=>.inl he)
 | .mark m k,h,u,w,es,hs,hf=>by
  unfold D1 at h;split at h
  ·rename_i hm;exact(Z6 (s:=k) h hs hf).go rfl rfl (S9.refl u) (r9 hm)
  ·exact absurd hf (A2 (s:=k) h _ _)
end
end Go.Yc
end
section
namespace Go.Yc
open Go Go.Conc
open Go.ConcN (sumTo upd sumTo_upd upd_ne upd_same sumTo_congr)
section
def N2 (u:World) (τ:Tape) (d:Nat):World:={u with tape:=τ,drawn:=d}
theorem dq0.uniq {p:V6} {x y y':Obj} (h:dq0 p x y) (h':dq0 p x y'):y=y':=by
 cases h <;> cases h' <;> rfl
theorem l8 {c:Array Value} {T:TypeId} {f:Nat×Nat} {y:Obj} (hk:Z3 (.cells c T f) y):∃c',y= .cells c' T f/\c'.size=c.size/\∀i,inR f i->c'[i]? =c[i]?:=by
 cases y <;> try(exact hk.elim)
 obtain⟨h1,rfl,rfl,h2⟩:=hk;exact⟨_,rfl,h1,h2⟩
def dr0 (u:World) (b:Nat):Prop:=∃T f,u.heap[b]? =some (.cells #[] T f)
theorem dr0.evo {u u':World} {b:Nat} (h:dr0 u b) (he:S9 u u'):dr0 u' b:=by
 obtain⟨T,f,hb⟩:=h;obtain⟨y,hy,hk⟩:=he.obj _ _ hb;obtain⟨c,rfl,h1,_⟩:=l8 hk;have:c=#[]:=by simpa using h1
 subst this;exact⟨_,_,hy⟩
theorem dr0.kept {ρ:Nat->V6} {u u' w w':World} {b:Nat} (h:dr0 u b) (he:S9 u u') (hs:l6 ρ u w) (hs':l6 ρ u' w'):w'.heap[b]? =w.heap[b]?:=by
 obtain⟨T,f,hb⟩:=h;obtain⟨y,hy,hk⟩:=he.obj _ _ hb;obtain⟨c,rfl,h1,_⟩:=l8 hk;have:c=#[]:=by simpa using h1
 subst this;obtain⟨z,hz,hl⟩:=hs.obj _ _ hb;obtain⟨z',hz',P5⟩:=hs'.obj _ _ hy;rw[hz,hz',hl.uniq P5]
theorem Ao0 {u u':World} {a:Addr} {v:Value} (hc:u.cell? a=some v) (hf:u.frozen? a=true) (he:S9 u u'):u'.cell? a=some v/\u'.frozen? a=true:=by
 obtain⟨c,T,f,hb,hs,hv⟩:=Z4 hc;obtain⟨y,hy,hk⟩:=he.obj _ _ hb;obtain⟨c',rfl,h1,h2⟩:=l8 hk;unfold World.frozen? at hf⊢;unfold World.cell?;rw[hb]at hf;rw[hy];obtain⟨lo,hi⟩:=f;refine⟨?_,hf⟩;simp only[hs,Option.isSome_none,Bool.false_eq_true,if_false];simp only[Bool.and_eq_true,decide_eq_true_eq]at hf;rw[h2 _ hf];exact hv
structure j5 where
 blk:Nat
 off:Nat
def stA (G:j5):Addr:=⟨G.blk,G.off,none⟩
def smA (G:j5):Addr:=⟨G.blk,G.off+1,none⟩
def KK:Nat:=4294967296
attribute [local irreducible] KK
def m8 (G:j5) (st sm:Int) (w:World):Prop:=∃c T,w.heap[G.blk]? =some (.cells (c ++ #[.int .u64 st,.int .u32 sm]) T (0,0))/\c.size=G.off
def Cut (u:World) (G:j5):Prop:=∃c T f,u.heap[G.blk]? =some (.cells c T f)/\c.size=G.off
theorem Cut.evo {u u':World} {G:j5} (h:Cut u G) (he:S9 u u'):Cut u' G:=by
 obtain⟨c,T,f,hb,hc⟩:=h;obtain⟨y,hy,hk⟩:=he.obj _ _ hb;obtain⟨c',rfl,h1,_⟩:=l8 hk;exact⟨_,_,_,hy,h1.trans hc⟩
theorem Cut.kept {ρ:Nat->V6} {u u' w w':World} {G:j5} {st sm:Int} (h:Cut u G) (he:S9 u u') (hs:l6 ρ u w) (hs':l6 ρ u' w') (hg:m8 G st sm w):m8 G st sm w':=by
 obtain⟨c,T,f,hb,hc⟩:=h;obtain⟨y,hy,hk⟩:=he.obj _ _ hb;obtain⟨c',rfl,h1,_⟩:=l8 hk;obtain⟨z,hz,hl⟩:=hs.obj _ _ hb;obtain⟨z',hz',P5⟩:=hs'.obj _ _ hy;obtain⟨c0,T0,hg,hc0⟩:=hg;rw[hz]at hg;obtain rfl:=Option.some.inj hg;generalize ρ G.blk=p at hl P5;generalize hz0:(Obj.cells (c0 ++ #[.int .u64 st,.int .u32 sm]) T0 (0,0))=z0 at hl;cases hl with
 |same=>
  obtain⟨rfl,_,_⟩:=Obj.cells.inj hz0;simp at hc;omega
 |cut _ rest _ f1 _ _=>
  obtain⟨h2,rfl,h3⟩:=Obj.cells.inj hz0;have I2:c.size=c0.size:=by omega
  have:rest=#[.int .u64 st,.int .u32 sm]:=(Array.append_inj_right h2 I2.symm).symm;subst this;cases P5 with
  |cut _ _ _ _ _ _=>exact⟨c',T0,by rw[hz',<- h3],h1.trans hc⟩
 |gone=>
  subst hz0;cases P5 with
  |gone=>exact⟨c0,T0,hz',hc0⟩
theorem m8.cells {G:j5} {st sm:Int} {w:World} (h:m8 G st sm w):w.cell? (stA G)=some (.int .u64 st)/\w.cell? (smA G)=some (.int .u32 sm)/\w.frozen? (stA G)=false/\w.frozen? (smA G)=false:=by
 obtain⟨c,T,hb,hc⟩:=h;refine⟨?_,?_,?_,?_⟩
 ·simp[World.cell?,stA,hb,<- hc]
 ·simp only[World.cell?,smA,hb,Option.isSome_none,Bool.false_eq_true,if_false];rw[Array.getElem?_append_right (by omega)];simp[<- hc]
 ·simp[World.frozen?,stA,hb]
 ·simp[World.frozen?,smA,hb]
def Q5 (P:Program) (main:Bool) (g:Goroutine) (u:World) (g':Goroutine) (u':World):Prop :=
 g'.status= .running/\∀ρ w,l6 ρ u w->S9 u u'/\∃w' es,stepG P main g w= .go g' w' es/\l6 ρ u' w'/\∀e∈es,ht0 u e
structure c6 where
 ch:Nat
 z:Value
 me:Goroutine
def js0 (P:Program) (main:Bool) (s:c6) (g:Goroutine):Prop :=
 g.status= .running/\g.frame=s.me.frame/\g.callers=s.me.callers/\g.dying=s.me.dying/\∀w,stepG P main g w= .comm s.me #[rcase s.ch s.z] true (.recv false) w #[]
abbrev m4:=List (Addr×Value)
def Way (P:Program) (main:Bool) (l:m4) (s:c6):Nat->Goroutine->Prop
 |0,g=>g=parked s.me #[rcase s.ch s.z] (.recv false)/\∃g₀,js0 P main s g₀
 |n+1,g=>js0 P main s g\/(0<n/\g.status= .running/\∃g' es,(∀e∈es,∃p∈l,e=⟨.cell p.1,false,false⟩)/\(∀w,(∀p∈l,w.cell? p.1=some p.2)->stepG P main g w= .go g' w es)/\Way P main l s n g')
theorem Way.status {P:Program} {main:Bool} {l:m4} {s:c6}:∀{n:Nat} {g:Goroutine},Way P main l s n g->(g.status= .running/\0<n)\/(g.status= .blocked/\n=0)
 |0,_,h=>.inr ⟨by have:=h.1;subst this;rfl,rfl⟩
 |_+1,_,h=>.inl ⟨h.elim (fun x=>x.1) fun x=>x.2.1,by omega⟩
def Ap0 (e:Event):Bool:=match e.loc with
 | .mark (.read _)| .mark (.write _)| .mark (.release _)=>false
 | .mark _=>true
 |_=>false
def rdA (a:Addr):Event:=⟨.cell a,false,true⟩
def wrA (a:Addr):Event:=⟨.cell a,true,true⟩
def Zz0 (P:Program) (G:j5) (g:Goroutine) (g':Goroutine) (es:Array Event):Prop :=
 g.status= .running/\(∀e∈es,Ap0 e=true)/\∀w st sm,m8 G st sm w->stepG P false g w= .go g' w es
def Lst (P:Program) (G:j5):Nat->Nat->Nat->Goroutine->Prop
 |0,_,_,_=>False
 |n+1,s,d,g=>0<d/\((∃g' es,Zz0 P G g g' es/\(∀e∈es,e.loc≠.mark .disable/\e.loc≠.mark .enable)/\Lst P G n s d g')\/(g.status= .running/\match s with
  |2=>∃g',(∀w,m8 G 1 0 w->stepG P false g w= .go g' w #[rdA (stA G)])/\Lst P G n 1 d g'
  |1=>∃g',(∀w,m8 G 1 0 w->stepG P false g w= .go g' (w.setCell (stA G) (.int .u64 0)) #[wrA (stA G)])/\Lst P G n 0 d g'
  |_=>mayWake P g=true/\∃g',(∀w,m8 G 0 0 w->stepG P false g w= .go g' (w.setCell (smA G) (.int .u32 1)) (semEvents (smA G)))/\QuitsD P n d g'))
def Lt (P:Program) (G:j5):Nat->Nat->Goroutine->Prop
 |0,_,_=>False
 |n+1,d,g=>(∃g' es,Zz0 P G g g' es/\Lt P G n (deafBehind d es) g')\/(g.status= .running/\0<d/\∀v wt:Nat,wt <=1->v<2147483647->∃g',
   (∀w,m8 G (((v+1)*KK+wt:Nat):Int) 0 w->stepG P false g w= .go g' (w.setCell (stA G) (.int .u64 ((v*KK+wt:Nat):Int))) #[rdA (stA G),wrA (stA G)])/\(¬(v=0/\wt=1)->QuitsD P n d g')/\(v=0/\wt=1->Lst P G n 2 d g'))
theorem Lt.running {P:Program} {G:j5}:∀{n d:Nat} {g:Goroutine},Lt P G n d g->g.status= .running:=by
 intro n d g h;cases n with
 |zero=>exact h.elim
 |succ n=>
  unfold Lt at h;rcases h with⟨_,_,x,_⟩|x
  ·exact x.1
  ·exact x.1
theorem Lst.running {P:Program} {G:j5}:∀{n s d:Nat} {g:Goroutine},Lst P G n s d g->g.status= .running:=by
 intro n s d g h;cases n with
 |zero=>exact h.elim
 |succ n=>
  unfold Lst at h;rcases h with⟨_,⟨_,_,x,_⟩|x⟩
  ·exact x.1
  ·exact x.1
end
section
attribute [local irreducible] KK
structure Gh where
 N1:Nat->Option c6
 stay:Nat->m4
 l3:Option j5
 old:List j5
 G4:Nat->Option Obj
 B8:Nat->Prop
 low:Nat->Prop
 k5:Nat->V6
 cap:Nat
 pend:Nat
 dn:Nat
 n:Nat
def Gh.Sh (X:Gh) (l:Loc):Prop:=∃a G,(X.l3=some G\/G∈X.old)/\l= .cell a/\a.block=G.blk/\G.off <=a.off
def Us (live:Nat->Bool) (g:Nat):Prop:=g=0\/live g=true
def Gh.St (X:Gh) (i:Nat) (l:Loc):Prop:=∃p∈X.stay i,l= .cell p.1
def Gh.Mem (X:Gh) (h g:Nat):Prop:=(g=h/\X.dn=0)\/X.N1 g≠none
def Gh.Lo (X:Gh) (h g:Nat):Prop:=g≠h/\X.N1 g≠none
def count (live:Nat->Bool) (n:Nat):Nat:=sumTo n fun i=>if live i then 1 else 0
def Idle (P:Program) (X:Gh) (live:Nat->Bool) (T:Trace) (i n:Nat) (g:Goroutine):Prop:=match X.N1 i with
 |some s=>Way P (i==0) (X.stay i) s n g
 |none=>0<i/\if live i then ∃G,X.l3=some G/\Lt P G n (Deaf T i) g else QuitsD P n (Deaf T i) g
def Gh.Sep (X:Gh):Prop:=∀G,(X.l3=some G\/G∈X.old)->¬X.B8 G.blk/\X.G4 G.blk=none
structure Ring (P:Program) (X:Gh) (h:Nat) (u:World) (live:Nat->Bool) (T:Trace) (gs:Array Goroutine) (w:World) (q:Nat->Nat):Prop where
 sim:∃ρ,l6 ρ (N2 u w.tape w.drawn) w/\∀b,¬X.low b->ρ b=X.k5 b
 idle:∀i g,i≠h->gs[i]? =some g->Idle P X live T i (q i) g
 free:X.N1 h=none
 size:h<gs.size
 num:gs.size=X.n
 stays:∀i p,p∈X.stay i->u.cell? p.1=some p.2/\u.frozen? p.1=true
 chans:∀c,X.B8 c->dr0 u c/\X.G4 c=none/\∃k,w.heap[c]? =some (.chan 0 #[] false k k false)
 n4:∀i s,X.N1 i=some s->X.B8 s.ch
 inj:∀i j s s',X.N1 i=some s->X.N1 j=some s'->s.ch=s'.ch->i=j
 G4:∀b o,X.G4 b=some o->dr0 u b/\y4 o=false/\∃p y,w.heap[b]? =some y/\dq0 p o y
 bi0:∀G,X.l3=some G->X.low G.blk
 C8:(∀c,X.B8 c->X.low c)/\X.Sep
 l3:∀G,X.l3=some G->Cut u G/\m8 G (((count live gs.size+X.pend)*KK:Nat):Int) 0 w
 old:∀G∈X.old,Cut u G
 above:∀j,gs.size <=j->Deaf T j=0/\X.N1 j=none/\live j=false/\X.stay j=[]
 few:count live gs.size+X.pend <=X.cap/\X.cap <=65536
 en0:∀i,live i=true->i≠0/\X.l3≠none
 by0:∀i,i≠0->(X.N1 i≠none\/i=h)->live i=true
 dfn:Deaf T h=X.dn
 past:PastH X.Sh (Us live) X.St (X.Mem h) (X.Lo h) h T
theorem aa1 {X:Gh} {u:World} {h:Nat} (T2:∀i p,p∈X.stay i->u.cell? p.1=some p.2/\u.frozen? p.1=true) (hg:∀G,(X.l3=some G\/G∈X.old)->Cut u G) {e:Event} (he:ht0 u e) (fn:FuncId) (pos:String) :
  HOk X.Sh X.St h {g:=h,fn,pos,act:=.ofEvent e}/\e.loc≠.mark .disable/\e.loc≠.mark .enable:=by
 obtain⟨l,wr,sy⟩:=e;cases l with
 |cell a=>
  refine⟨fun b hb=>?_,by simp,by simp⟩;simp only[ofEvent_cell0,MemAct.touch?,Option.some.injEq]at hb;subst hb;refine⟨?_,fun hwr g _=>?_⟩
  ·rintro⟨a',G,hG,ha,hb,ho⟩;simp only[Loc.cell.injEq]at ha;subst ha;obtain⟨c,T,f,hc,hs⟩:=hg G hG;obtain⟨⟨v,hv⟩,_⟩:=he (by rw[hb];exact(Array.getElem?_eq_some_iff.1 hc).1);obtain⟨c',T',f',p7,_,hv'⟩:=Z4 hv;rw[hb,hc]at p7;cases p7;have:=(Array.getElem?_eq_some_iff.1 hv').1;omega
  ·rintro⟨p,hp,ha⟩;simp only[Loc.cell.injEq]at ha;subst ha;obtain⟨h1,h2⟩:=T2 g p hp;obtain⟨c',T',f',p7,_,_⟩:=Z4 h1;have:=(he (Array.getElem?_eq_some_iff.1 p7).1).2 hwr;rw[h2]at this;cases this
 |obj r=>
  refine⟨fun b hb=>?_,by simp,by simp⟩;have:b.loc= .obj r:=by
   cases wr <;> cases sy <;> simp[MemAct.ofEvent,MemAct.touch?]at hb <;> (try(subst hb;rfl))
  refine⟨?_,fun _ g _=>?_⟩
  ·rintro⟨a',G,_,ha,_⟩;rw[this]at ha;cases ha
  ·rintro⟨p,_,ha⟩;rw[this]at ha;cases ha
 |output=>exact he.elim
 |goroutines=>exact he.elim
 |mark m=>
  have hm:Am0 m=true:=he;cases m <;> first|(cases hm;done)|exact⟨fun b hb=>by simp[MemAct.ofEvent,MemAct.touch?]at hb,by simp,by simp⟩
section
variable {P:Program}{X:Gh}{h:Nat}{u:World}{live:Nat->Bool}{T:Trace}{gs:Array Goroutine}{w:World}{q:Nat->Nat}
theorem Way.again {main:Bool} {l:m4} {s:c6} {n:Nat} {g:Goroutine} (hw:Way P main l s n g) (hc:∃k,w.heap[s.ch]? =some (.chan 0 #[] false k k false)):g.again w=g:=by
 rcases hw.status with⟨h1,_⟩|⟨_,rfl⟩
 ·exact again_of_running (.inl h1) w
 ·obtain⟨rfl,_⟩:=hw;obtain⟨k,hk⟩:=hc;exact again_recv_open hk
theorem Idle.again {i n:Nat} {g:Goroutine} (hi:Idle P X live T i n g) (hc:∀s,X.N1 i=some s->∃k,w.heap[s.ch]? =some (.chan 0 #[] false k k false)):g.again w=g:=by
 unfold Idle at hi;cases e:X.N1 i with
 |some s=>rw[e]at hi;exact Way.again hi (hc s e)
 |none=>
  rw[e]at hi;obtain⟨_,hi⟩:=hi;split at hi
  ·obtain⟨G,_,hl⟩:=hi;exact again_of_running (.inl hl.running) w
  ·exact again_of_running hi.status w
theorem Idle.other {i n g':Nat} {g:Goroutine} (hi:Idle P X live T i n g) (o3:g'≠i) {ops:Trace} (fz0:∀op∈ops,op.g=g'):Idle P X live (T++ops) i n g:=by
 unfold Idle at hi⊢;rw[Deaf_other T o3 ops fz0];exact hi
theorem Idle.awake {i n:Nat} {g:Goroutine} (hi:Idle P X live T i n g):awake g:=by
 unfold Idle at hi;cases e:X.N1 i with
 |some s=>rw[e]at hi;exact awake_of (hi.status.elim (fun x=>.inl x.1) fun x=>.inr (.inl x.1))
 |none=>
  rw[e]at hi;obtain⟨_,hi⟩:=hi;split at hi
  ·obtain⟨G,_,hl⟩:=hi;exact awake_of (.inl hl.running)
  ·exact awake_of (hi.status.elim .inl fun x=>.inr (.inr x))
theorem Ring.awake (C:Ring P X h u live T gs w q) {a:Goroutine} (ha:gs[h]? =some a) (hs:a.status= .running\/a.status= .blocked):∀g∈gs,awake g:=by
 intro g hg;obtain⟨i,hi,rfl⟩:=Array.mem_iff_getElem.1 hg;by_cases e:i=h
 ·subst e;have:gs[i]=a:=by simpa [Array.getElem?_eq_getElem hi]using ha
  rw[this];exact awake_of (hs.elim .inl fun x=>.inr (.inl x))
 ·exact(C.idle i _ e (Array.getElem?_eq_getElem hi)).awake
theorem l6.at {ρ:Nat->V6} (hs:l6 ρ (N2 u w.tape w.drawn) w) (d:Nat):l6 ρ (N2 u (w.at d).tape (w.at d).drawn) (w.at d):=⟨hs.os,hs.output,rfl,rfl,hs.size,hs.obj,hs.new,hs.Y6⟩
theorem Ring.at (C:Ring P X h u live T gs w q) (d:Nat):Ring P X h u live T gs (w.at d) q :=
 ⟨let⟨ρ,hs,hl⟩:=C.sim;⟨ρ,l6.at hs d,hl⟩,C.idle,C.free,C.size,C.num,C.stays,C.chans,C.n4,C.inj,C.G4,C.bi0,C.C8,C.l3,C.old,C.above,C.few,C.en0,C.by0,C.dfn,C.past⟩
theorem Ring.own (C:Ring P X h u live T gs w q) {g g':Goroutine} {u':World} (ha:gs[h]? =some g) (hF:Q5 P (h==0) g (N2 u w.tape w.drawn) g' u') :
  ∃w' es,stepG P (h==0) g w= .go g' w' es/\Ring P X h u' live (T++MemOp.ofEvents h g.frame.fn g.frame.place es) ((gs.map (woken P g g' w')).setIfInBounds h g') w' q/\((gs.map (woken P g g' w')).setIfInBounds h g')[h]? =some g':=by
 obtain⟨hr,hF⟩:=hF;obtain⟨ρ,hs,hlw⟩:=C.sim;obtain⟨hE,w',es,T2,hs',hev⟩:=hF ρ w hs;have hE:S9 u u':=⟨hE.size,hE.obj⟩
 have hs1:l6 ρ {u with tape:=w.tape,drawn:=w.drawn} w:=hs;have P3:∀G,(X.l3=some G\/G∈X.old)->Cut u G:=fun G hG=>hG.elim (fun e=>(C.l3 G e).1) (C.old G);have Nw0:=fun e he=>aa1 (X:=X) (h:=h) C.stays P3 (hev e he);have fz0:∀op∈MemOp.ofEvents h g.frame.fn g.frame.place es,op.g=h:=fun op W5=>by obtain⟨e,_,rfl⟩:=Go.Conc.mem_ofEvents W5;rfl
 have hd:Deaf (T++MemOp.ofEvents h g.frame.fn g.frame.place es) h=Deaf T h:=by
  rw[Deaf_own];exact deafBehind_still (fun e he=>(Nw0 e he g.frame.fn g.frame.place).2) _
 have G6:∀c,X.B8 c->∃k,w'.heap[c]? =some (.chan 0 #[] false k k false):=fun c e=>by
  obtain⟨hg,_,k,hk⟩:=C.chans c e;exact⟨k,by rw[dr0.kept (u:=N2 u w.tape w.drawn) hg ⟨hE.size,hE.obj⟩ hs hs'];exact hk⟩
 refine⟨w',es,T2,⟨⟨ρ,?_,hlw⟩,fun i y hi hy=>?_,C.free,by simpa using C.size,by simpa using C.num,fun i p hp=>Ao0 (C.stays i p hp).1 (C.stays i p hp).2 hE,
  fun c e=>⟨(C.chans c e).1.evo hE,(C.chans c e).2.1,G6 c e⟩,C.n4,C.inj,fun b o e=>?_,C.bi0,C.C8,fun G e=>⟨(C.l3 G e).1.evo hE,?_⟩,fun G hG=>(C.old G hG).evo hE,fun j hj=>?_,by simpa using C.few,C.en0,C.by0,hd.trans C.dfn,?_⟩,Array.getElem?_setIfInBounds_self_of_lt (by simpa using C.size)⟩
 ·rw[hs'.tape,hs'.drawn];exact hs'
 ·rw[Array.getElem?_setIfInBounds_ne (fun e=>hi e.symm),Array.getElem?_map]at hy;obtain⟨y₀,hy₀,rfl⟩:=Option.map_eq_some_iff.1 hy;have G4:=C.idle i y₀ hi hy₀;rw[woken_of_again (G4.again fun s e=>G6 _ (C.n4 i s e))];exact G4.other (fun z=>hi z.symm) fz0
 ·obtain⟨h1,h2,p,y,hy,hl⟩:=C.G4 b o e;exact⟨h1.evo hE,h2,p,y,by rw[dr0.kept (u:=N2 u w.tape w.drawn) h1 ⟨hE.size,hE.obj⟩ hs hs'];exact hy,hl⟩
 ·have:=Cut.kept (u:=N2 u w.tape w.drawn) (C.l3 G e).1 ⟨hE.size,hE.obj⟩ hs hs' (C.l3 G e).2;simpa using this
 ·simp only[Array.size_setIfInBounds,Array.size_map]at hj;rw[Deaf_other T (g':=h) (by have:=C.size;omega) _ fz0];exact C.above j hj
 ·exact PastH.appH C.past (fun z=>z.1 rfl) fz0 (fun op W5=>by obtain⟨e,he,rfl⟩:=Go.Conc.mem_ofEvents W5;exact(Nw0 e he _ _).1) hd
end
end
section
attribute [local irreducible] KK
theorem K1 (w:World) {a:Addr} (v:Value) {b:Nat} (h:b≠a.block):(w.setCell a v).heap[b]? =w.heap[b]?:=by
 rw[heap_setCell];cases w.heap[b]? with
 |none=>rfl
 |some o=>simp[h]
theorem l6.l3 {ρ:Nat->V6} {u w:World} {G:j5} {st sm:Int} (hs:l6 ρ (N2 u w.tape w.drawn) w) (hc:Cut u G) (hg:m8 G st sm w) (st' sm':Int) {w':World} (hw:w'.heap[G.blk]? =some (.cells ((let c:=w.heap[G.blk]?;match c with|some (.cells c _ _)=>c.extract 0 G.off|_=>#[]) ++ #[.int .u64 st',.int .u32 sm']) (match w.heap[G.blk]? with|some (.cells _ T _)=>T|_=>0) (0,0)))
  (ho:∀b,b≠G.blk->w'.heap[b]? =w.heap[b]?) (hz:w'.heap.size=w.heap.size) (h1:w'.os=w.os) (h2:w'.output=w.output):∃ρ',l6 ρ' (N2 u w'.tape w'.drawn) w'/\∀b,b≠G.blk->ρ' b=ρ b:=by
 obtain⟨c,T,f,hb,hcs⟩:=hc;obtain⟨c0,T0,hg,hc0⟩:=hg;obtain⟨z,hz0,hl⟩:=hs.obj _ _ (show(N2 u w.tape w.drawn).heap[G.blk]? =some _ from hb);rw[hz0]at hg;obtain rfl:=Option.some.inj hg;rw[hz0]at hw;simp only at hw;have ht:(c0 ++ #[Value.int .u64 st,Value.int .u32 sm]).extract 0 G.off=c0:=by rw[<- hc0];simp[Array.extract_append]
 rw[ht]at hw;obtain⟨p',hp'⟩:∃p',dq0 p' (.cells c T f) (.cells (c0 ++ #[.int .u64 st',.int .u32 sm']) T0 (0,0)):=by
  generalize ρ G.blk=p at hl;generalize hq:(Obj.cells (c0 ++ #[.int .u64 st,.int .u32 sm]) T0 (0,0))=z1 at hl;cases hl with
  |same=>
   obtain⟨rfl,_,_⟩:=Obj.cells.inj hq;simp at hcs;omega
  |cut _ rest _ f1 _ hf=>
   obtain⟨h3,rfl,h4⟩:=Obj.cells.inj hq;have I2:c.size=c0.size:=by omega
   have:c=c0:=(Array.append_inj_left h3 I2.symm).symm;subst this;rw[<- h4]at hf;exact⟨_,.cut _ _ _ _ _ hf⟩
  |gone=>exact⟨_,.gone _ _ _⟩
 refine⟨fun b=>if b=G.blk then p' else ρ b,⟨h1.trans hs.os,h2.trans hs.output,rfl,rfl,hz.trans hs.size,fun b x hx=>?_,fun b D8=>?_,hs.Y6⟩,fun b hb=>if_neg hb⟩
 ·by_cases e:b=G.blk
  ·subst e;have D4:u.heap[G.blk]? =some x:=hx;rw[hb]at D4;obtain rfl:=Option.some.inj D4;exact⟨_,hw,by rw[if_pos rfl];exact hp'⟩
  ·rw[ho b e,if_neg e];exact hs.obj b x hx
 ·have Y1:G.blk<u.heap.size:=(Array.getElem?_eq_some_iff.1 hb).1;have hb2:u.heap.size <=b:=D8;rw[if_neg (by omega)];exact hs.new b D8
theorem m8.setSt {G:j5} {st sm:Int} {w:World} (h:m8 G st sm w) (v:Int):m8 G v sm (w.setCell (stA G) (.int .u64 v)):=by
 obtain⟨c,T,hb,hc⟩:=h;refine⟨c,T,?_,hc⟩;rw[heap_setCell];simp only[stA,hb,Option.map_some,if_true,Option.isSome_none,Bool.false_eq_true,if_false];congr 2;apply Array.ext_getElem?;intro i;rw[Array.getElem?_setIfInBounds];by_cases hi:G.off=i
 ·subst hi;simp[<- hc]
 ·rw[if_neg hi];rcases Nat.lt_or_ge i c.size with h1|h1
  ·rw[Array.getElem?_append_left h1,Array.getElem?_append_left h1]
  ·rw[Array.getElem?_append_right h1,Array.getElem?_append_right h1];obtain⟨k,hk⟩:∃k,i-c.size=k+1:=⟨i-c.size-1,by omega⟩
   rw[hk];cases k <;> rfl
theorem m8.setSm {G:j5} {st sm:Int} {w:World} (h:m8 G st sm w) (v:Int):m8 G st v (w.setCell (smA G) (.int .u32 v)):=by
 obtain⟨c,T,hb,hc⟩:=h;refine⟨c,T,?_,hc⟩;rw[heap_setCell];simp only[smA,hb,Option.map_some,if_true,Option.isSome_none,Bool.false_eq_true,if_false];congr 2;apply Array.ext_getElem?;intro i;rw[Array.getElem?_setIfInBounds];by_cases hi:G.off+1=i
 ·subst hi;rw[if_pos rfl,if_pos (by simp;omega),Array.getElem?_append_right (by omega)];simp[<- hc]
 ·rw[if_neg hi];rcases Nat.lt_or_ge i c.size with h1|h1
  ·rw[Array.getElem?_append_left h1,Array.getElem?_append_left h1]
  ·rw[Array.getElem?_append_right h1,Array.getElem?_append_right h1];rcases Nat.eq_zero_or_pos (i-c.size)with h2|h2
   ·rw[h2];rfl
   ·obtain⟨k,hk⟩:∃k,i-c.size=k+2:=⟨i-c.size-2,by omega⟩
    rw[hk];cases k <;> rfl
structure Cy0 (G:j5) (w w':World):Prop where
 other:∀b,b≠G.blk->w'.heap[b]? =w.heap[b]?
 size:w'.heap.size=w.heap.size
 os:w'.os=w.os
 output:w'.output=w.output
theorem Cy0.setCell {G:j5} {w:World} {a:Addr} (ha:a.block=G.blk) (v:Value):Cy0 G w (w.setCell a v) :=
 ⟨fun b hb=>K1 w v (by rw[ha];exact hb),by simp[World.setCell],rfl,rfl⟩
theorem m8.extract {G:j5} {st sm:Int} {w:World} (h:m8 G st sm w):w.heap[G.blk]? =some (.cells ((let c:=w.heap[G.blk]?;match c with|some (.cells c _ _)=>c.extract 0 G.off|_=>#[]) ++ #[.int .u64 st,.int .u32 sm]) (match w.heap[G.blk]? with|some (.cells _ T _)=>T|_=>0) (0,0)):=by
 obtain⟨c,T,hb,hc⟩:=h;have ht:(c ++ #[Value.int .u64 st,Value.int .u32 sm]).extract 0 G.off=c:=by rw[<- hc];simp[Array.extract_append]
 rw[hb];simp only[ht]
theorem et0 {G:j5} {st sm:Int} {w:World} (h:m8 G st sm w) {a:Addr} (ha:a.block=G.blk) (hs:a.spot=none) (ho:G.off <=a.off) (v:Value) :
  (let c:=(w.setCell a v).heap[G.blk]?;match c with|some (.cells c _ _)=>c.extract 0 G.off|_=>#[])=(let c:=w.heap[G.blk]?;match c with|some (.cells c _ _)=>c.extract 0 G.off|_=>#[]) /\
  (match(w.setCell a v).heap[G.blk]? with|some (.cells _ T _)=>T|_=>0)=(match w.heap[G.blk]? with|some (.cells _ T _)=>T|_=>0):=by
 obtain⟨c,T,hb,hc⟩:=h;rw[heap_setCell,hb];simp only[Option.map_some,ha,if_true,hs,Option.isSome_none,Bool.false_eq_true,if_false,and_true];apply Array.ext_getElem?;intro i;simp only[Array.getElem?_extract,Array.getElem?_setIfInBounds,Nat.zero_add,Array.size_setIfInBounds];by_cases hi:i<G.off
 ·have:a.off≠i:=by omega
  simp[this]
 ·have:¬i<min G.off (c ++ #[Value.int .u64 st,Value.int .u32 sm]).size-0:=by omega
  rw[if_neg this,if_neg this]
theorem l6.setSt {ρ:Nat->V6} {u w:World} {G:j5} {st sm:Int} (hs:l6 ρ (N2 u w.tape w.drawn) w) (hc:Cut u G) (hg:m8 G st sm w) (v:Int):∃ρ',l6 ρ' (N2 u (w.setCell (stA G) (.int .u64 v)).tape (w.setCell (stA G) (.int .u64 v)).drawn) (w.setCell (stA G) (.int .u64 v))/\∀b,b≠G.blk->ρ' b=ρ b:=by
 have h1:=(hg.setSt v).extract;have h2:=et0 hg (a:=stA G) rfl rfl (Nat.le_refl _) (.int .u64 v);rw[h2.1,h2.2]at h1;have t:=Cy0.setCell (G:=G) (w:=w) (a:=stA G) rfl (.int .u64 v);exact l6.l3 hs hc hg v sm h1 t.other t.size rfl rfl
theorem l6.setSm {ρ:Nat->V6} {u w:World} {G:j5} {st sm:Int} (hs:l6 ρ (N2 u w.tape w.drawn) w) (hc:Cut u G) (hg:m8 G st sm w) (v:Int):∃ρ',l6 ρ' (N2 u (w.setCell (smA G) (.int .u32 v)).tape (w.setCell (smA G) (.int .u32 v)).drawn) (w.setCell (smA G) (.int .u32 v))/\∀b,b≠G.blk->ρ' b=ρ b:=by
 have h1:=(hg.setSm v).extract;have h2:=et0 hg (a:=smA G) rfl rfl (Nat.le_succ _) (.int .u32 v);rw[h2.1,h2.2]at h1;have t:=Cy0.setCell (G:=G) (w:=w) (a:=smA G) rfl (.int .u32 v);exact l6.l3 hs hc hg st v h1 t.other t.size rfl rfl
section
variable {P:Program}{X:Gh}{h:Nat}{u:World}{live:Nat->Bool}{T:Trace}{gs:Array Goroutine}{w:World}{q:Nat->Nat}
def bz0 (X:Gh) (w w':World):Prop:=w'.tape=w.tape/\w'.drawn=w.drawn/\(∀c,X.B8 c->w'.heap[c]? =w.heap[c]?)
theorem bz0.refl (w:World):bz0 X w w:=⟨rfl,rfl,fun _ _=>rfl⟩
theorem Ring.put (C:Ring P X h u live T gs w q) {i n':Nat} {g':Goroutine} {ops:Array MemOp} {c5:Array Goroutine} {bo0:Nat->Bool} {w':World} (Y1:i<gs.size) (hih:i≠h) (I2:c5.size=gs.size) (Ur0:∀x,x≠i->c5[x]? =gs[x]?) (P2:c5[i]? =some g')
  (fz0:∀op∈ops,op.g=i) (mm0:Idle P X bo0 (T++ops) i n' g') (hl:∀x,x≠i->bo0 x=live x) (hli:bo0 i=true->live i=true) (hls:X.N1 i≠none->bo0 i=live i) (Cz0:PastH X.Sh (Us bo0) X.St (X.Mem h) (X.Lo h) h (T++ops))
  (jt0:∃ρ,l6 ρ (N2 u w'.tape w'.drawn) w'/\∀b,¬X.low b->ρ b=X.k5 b) (u9:∀b,(X.B8 b\/X.G4 b≠none)->w'.heap[b]? =w.heap[b]?) (Nx0:∀G,X.l3=some G->m8 G (((count bo0 c5.size+X.pend)*KK:Nat):Int) 0 w') (pi0:count bo0 gs.size <=count live gs.size):Ring P X h u bo0 (T++ops) c5 w' (upd q i n'):=by
 refine⟨jt0,fun x y hx hy=>?_,C.free,by rw[I2];exact C.size,by rw[I2];exact C.num,C.stays,fun c e=>⟨(C.chans c e).1,(C.chans c e).2.1,?_⟩,C.n4,C.inj,fun b o e=>?_,C.bi0,C.C8,fun G e=>⟨(C.l3 G e).1,Nx0 G e⟩,C.old,fun j hj=>?_,⟨by rw[I2];exact Nat.le_trans (Nat.add_le_add_right pi0 _) C.few.1,C.few.2⟩,fun j hj=>?_,fun j hj hs=>?_,(Deaf_other T hih ops fz0).trans C.dfn,Cz0⟩
 ·by_cases e:x=i
  ·subst e;rw[P2]at hy;obtain rfl:=Option.some.inj hy;rw[upd_same];exact mm0
  ·rw[Ur0 x e]at hy;rw[upd_ne q n' e];have:=(C.idle x y hx hy).other (fun z=>e z.symm) fz0;unfold Idle at this⊢;rw[hl x e];exact this
 ·obtain⟨k,hk⟩:=(C.chans c e).2.2;exact⟨k,by rw[u9 _ (.inl e)];exact hk⟩
 ·obtain⟨h1,h2,p,y,hy,hk⟩:=C.G4 b o e;exact⟨h1,h2,p,y,by rw[u9 b (.inr (by have e':X.G4 b=some o:=e;rw[e'];simp))];exact hy,hk⟩
 ·rw[I2]at hj;rw[Deaf_other T (g':=i) (by omega) ops fz0,hl j (by omega)];exact C.above j hj
 ·by_cases e:j=i
  ·subst e;exact C.en0 j (hli hj)
  ·rw[hl j e]at hj;exact C.en0 j hj
 ·by_cases e:j=i
  ·subst e;rcases hs with hs|hs
   ·rw[hls hs];exact C.by0 j hj (.inl hs)
   ·exact absurd hs hih
  ·rw[hl j e];exact C.by0 j hj hs
end
end
section
attribute [local irreducible] KK
theorem sh0 {live:Nat->Bool} {i n:Nat} (hi:live i=true) (hn:i<n):count live n=count (upd live i false) n+1:=by
 have:=sumTo_upd live false (fun b=>if b then 1 else 0) hn;simp only[hi,if_true,Bool.false_eq_true,if_false]at this;unfold count;omega
theorem Eo0 {live:Nat->Bool} {i n:Nat} (x:Bool) (hn:n <=i):count (upd live i x) n=count live n:=by
 unfold count;exact sumTo_congr fun j hj=>by rw[upd_ne live x (by omega)]
theorem G2 {g:Nat} {fn:FuncId} {pos:String} {es:Array Event}:∀op∈MemOp.ofEvents g fn pos es,op.g=g:=fun op W5=>by obtain⟨e,_,rfl⟩:=Go.Conc.mem_ofEvents W5;rfl
theorem S8 {e:Event} (h:Ap0 e=true):(MemAct.ofEvent e).touch? =none:=by
 obtain⟨l,wr,sy⟩:=e;cases l with
 |mark m=>cases m <;> first|(cases h;done)|rfl
 |_=>cases h
section
variable {P:Program}{X:Gh}{h:Nat}{u:World}{live:Nat->Bool}{T:Trace}{gs:Array Goroutine}{w:World}{q:Nat->Nat}
theorem Idle.noSend {i n:Nat} {y:Goroutine} (hi:Idle P X live T i n y) (c:Nat):offersAt y c true=[]:=by
 unfold Idle at hi;cases e:X.N1 i with
 |some s=>
  rw[e]at hi;rcases hi.status with⟨h1,_⟩|⟨_,rfl⟩
  ·exact offersAt_of_not_blocked (by rw[h1];simp) _ _
  ·obtain⟨rfl,_⟩:=hi;exact offersAt_parked_recv' _ _ _ _ _
 |none=>
  rw[e]at hi;obtain⟨_,hi⟩:=hi;split at hi
  ·obtain⟨G,_,hl⟩:=hi;exact offersAt_of_not_blocked (by rw[hl.running];simp) _ _
  ·exact offersAt_of_not_blocked (fun hb=>by rcases hi.status with z|z <;> rw[z]at hb <;> cases hb) _ _
theorem Idle.Us0 {i n:Nat} {y:Goroutine} (hi:Idle P X live T i n y) {c:Nat} (hc:∀s,X.N1 i=some s->s.ch≠c):offersAt y c false=[]:=by
 unfold Idle at hi;cases e:X.N1 i with
 |some s=>
  rw[e]at hi;rcases hi.status with⟨h1,_⟩|⟨_,rfl⟩
  ·exact offersAt_of_not_blocked (by rw[h1];simp) _ _
  ·obtain⟨rfl,_⟩:=hi;rw[offersAt_parked_recv,if_neg (hc s e)]
 |none=>
  rw[e]at hi;obtain⟨_,hi⟩:=hi;split at hi
  ·obtain⟨G,_,hl⟩:=hi;exact offersAt_of_not_blocked (by rw[hl.running];simp) _ _
  ·exact offersAt_of_not_blocked (fun hb=>by rcases hi.status with z|z <;> rw[z]at hb <;> cases hb) _ _
theorem Ring.by_step (C:Ring P X h u live T gs w q) {i:Nat} {g gh:Goroutine} {sl:Option (Nat×Nat)} (hi:gs[i]? =some g) (o3:i≠h) (H4:g.status= .running) (hh:gs[h]? =some gh)
  (hA:∀w',bz0 X w w'->gh.again w'=gh) (hO:∀s,X.N1 i=some s->js0 P (i==0) s g->offersAt gh s.ch true=[]) :
  ∃(c5:Array Goroutine) (ops:Array MemOp) (q':Nat->Nat) (w':World) (bo0:Nat->Bool),runT P (crowd gs w sl) i=(.next (crowd c5 w' sl),ops)/\c5.size=gs.size/\c5[h]? =some gh/\(∀x,x≠i->q' x=q x) /\
   (∀s,X.N1 i=some s->q' i=0->js0 P (i==0) s g)/\Ring P X h u bo0 (T++ops) c5 w' q'/\sumTo gs.size q'<sumTo gs.size q/\bz0 X w w':=by
 have Y1:i<gs.size:=(Array.getElem?_eq_some_iff.1 hi).1;have ls0:∀(w':World),bz0 X w w'->∀(a a':Goroutine) (x:Nat) (y:Goroutine),gs[x]? =some y->woken P a a' w' y=y:=fun w' hS a a' x y hy=>woken_of_again (by
  by_cases hx:x=h
  ·subst hx;rw[hh]at hy;obtain rfl:=Option.some.inj hy;exact hA w' hS
  ·exact(C.idle x y hx hy).again fun s e=>by obtain⟨k,hk⟩:=(C.chans _ (C.n4 x s e)).2.2;exact⟨k,by rw[hS.2.2 _ (C.n4 x s e)];exact hk⟩)
 have xu0:∀(w':World),bz0 X w w'->∀(a' g':Goroutine) (x:Nat),x≠i->((gs.map (woken P g a' w')).setIfInBounds i g')[x]? =gs[x]?:=by
  intro w' hS a' g' x hx;rw[Array.getElem?_setIfInBounds_ne (fun e=>hx e.symm),Array.getElem?_map];cases e:gs[x]? with
  |none=>rfl
  |some y=>simp[ls0 w' hS g a' x y e]
 have P2:∀(w':World) (a' g':Goroutine),((gs.map (woken P g a' w')).setIfInBounds i g')[i]? =some g':=fun w' a' g'=>Array.getElem?_setIfInBounds_self_of_lt (by simpa using Y1);have Ny0:∀k,q i=k+1->sumTo gs.size (upd q i k)<sumTo gs.size q:=by
  intro k hqi;have h2:sumTo gs.size (upd q i k)+(k+1)=sumTo gs.size q+k:=by
   have:=sumTo_upd q k id Y1;simpa [hqi]using this
  omega
 have G4:=C.idle i g o3 hi;unfold Idle at G4;cases e:X.N1 i with
 |none=>
  rw[e]at G4;obtain⟨xv0,hq⟩:=G4;have hi0:(i==0)=false:=by simp;omega
  have hMi:¬X.Mem h i:=fun z=>z.elim (fun z=>o3 z.1) fun z=>z e;cases hl:live i with
  |false=>
   rw[hl]at hq;simp only[Bool.false_eq_true,if_false]at hq;cases hqi:q i with
   |zero=>rw[hqi]at hq;rw[hq.1]at H4;cases H4
   |succ k=>
    rw[hqi]at hq;rcases hq with⟨hf,_⟩|⟨_,g',es,hm,A3,hq'⟩
    ·rw[hf]at H4;cases H4
    have hS:=bz0.refl (X:=X) w;refine⟨_,_,upd q i k,w,live,runT_crowd_go (sl:=sl) hi (by rw[hi0];exact A3 w),by simp,(xu0 w hS _ _ h (Ne.symm o3)).trans hh,fun x hx=>upd_ne q k hx,fun s hs=>(by cases hs),?_,Ny0 k hqi,hS⟩;refine C.put Y1 o3 (by simp) (xu0 w hS _ _) (P2 w _ _) G2 (by unfold Idle;rw[e];simp only[hl,Bool.false_eq_true,if_false];exact⟨xv0,by rw[Deaf_own];exact hq'⟩) (fun _ _=>rfl) id (fun _=>rfl) ?_ C.sim (fun _ _=>rfl) (fun G hG=>by simpa using(C.l3 G hG).2) (Nat.le_refl _);exact C.past.appMute (g:=i) (fun x=>Knows.app _) (fun op W5=>by obtain⟨e',he,rfl⟩:=Go.Conc.mem_ofEvents W5;exact touch_mute (hm e' he)) (C.past.old_hears G2 (fun z=>absurd z hMi))
  |true=>
   rw[hl]at hq;simp only[if_true]at hq;obtain⟨G,hG,hq⟩:=hq;obtain⟨pj0,ga0⟩:=C.l3 G hG;cases hqi:q i with
   |zero=>rw[hqi]at hq;exact hq.elim
   |succ k=>
    rw[hqi]at hq;unfold Lt at hq;rcases hq with⟨g',es,⟨_,hsy,A3⟩,hq'⟩|⟨_,hd0,xw0⟩
    ·have hS:=bz0.refl (X:=X) w;refine⟨_,_,upd q i k,w,live,runT_crowd_go (sl:=sl) hi (by rw[hi0];exact A3 w _ _ ga0),by simp,(xu0 w hS _ _ h (Ne.symm o3)).trans hh,fun x hx=>upd_ne q k hx,fun s hs=>(by cases hs),?_,Ny0 k hqi,hS⟩;refine C.put Y1 o3 (by simp) (xu0 w hS _ _) (P2 w _ _) G2 (by unfold Idle;rw[e];simp only[hl,if_true];exact⟨xv0,G,hG,by rw[Deaf_own];exact hq'⟩) (fun _ _=>rfl) id (fun _=>rfl) ?_ C.sim (fun _ _=>rfl) (fun G hG=>by simpa using(C.l3 G hG).2) (Nat.le_refl _);exact C.past.appMute (g:=i) (fun x=>Knows.app _) (fun op W5=>by obtain⟨e',he,rfl⟩:=Go.Conc.mem_ofEvents W5;exact S8 (hsy e' he)) (C.past.old_hears G2 (fun z=>absurd z hMi))
    ·have ho0:=sh0 hl Y1;generalize hv0:count (upd live i false) gs.size=v0 at ho0;obtain⟨v,hv⟩:∃v,v=v0+X.pend:=⟨_,rfl⟩
     have ho0:count live gs.size+X.pend=v+1:=by omega
     have hvb:v<2147483647:=by have:=C.few;omega
     obtain⟨g',A3,ia0,_⟩:=xw0 v 0 (by omega) hvb;have ab1:m8 G (((v+1)*KK+0:Nat):Int) 0 w:=by rw[Nat.add_zero,<- ho0];exact ga0
     have T2:=A3 w ab1;rw[Nat.add_zero]at T2;have hgv:=ga0.setSt ((v*KK:Nat):Int);have mn0:stepG P (i==0) g w= .go g' (w.setCell (stA G) (.int .u64 ((v*KK:Nat):Int))) #[rdA (stA G),wrA (stA G)]:=by rw[hi0];exact T2
     have hgn:∀b,(X.B8 b\/X.G4 b≠none)->(w.setCell (stA G) (.int .u64 ((v*KK:Nat):Int))).heap[b]? =w.heap[b]?:=fun b hb=>K1 w _ (fun e=>by
      have e:b=G.blk:=e;subst e;have:=C.C8.2 G (.inl hG);exact hb.elim this.1 fun z=>z this.2)
     have hS:bz0 X w (w.setCell (stA G) (.int .u64 ((v*KK:Nat):Int))):=⟨rfl,rfl,fun c hc=>hgn _ (.inl hc)⟩
     have hdq:∀t:Trace,∀j,j <=(MemOp.ofEvents i g.frame.fn g.frame.place #[rdA (stA G),wrA (stA G)]).size->(t++MemOp.ofEvents i g.frame.fn g.frame.place #[rdA (stA G),wrA (stA G)]).deaf i (t.size+j)=Deaf t i:=fun t=>deaf_quiet (fun op W5 d=>by
      obtain⟨e',he,rfl⟩:=Go.Conc.mem_ofEvents W5;simp only[List.mem_toArray,List.mem_cons,List.not_mem_nil,or_false]at he;rcases he with rfl|rfl <;> rfl)
     have hdd:Deaf (T++MemOp.ofEvents i g.frame.fn g.frame.place #[rdA (stA G),wrA (stA G)]) i=Deaf T i:=by
      rw[Deaf_own];exact deafBehind_still (fun e' he=>by
       simp only[List.mem_toArray,List.mem_cons,List.not_mem_nil,or_false]at he;rcases he with rfl|rfl <;> exact⟨by simp[rdA,wrA],by simp[rdA,wrA]⟩) _
     refine⟨_,_,upd q i k,_,upd live i false,runT_crowd_go (sl:=sl) hi mn0,by simp,(xu0 _ hS _ _ h (Ne.symm o3)).trans hh,fun x hx=>upd_ne q k hx,fun s hs=>(by cases hs),?_,Ny0 k hqi,hS⟩;refine C.put Y1 o3 (by simp) (xu0 _ hS _ _) (P2 _ _ _) G2 (by unfold Idle;rw[e];simp only[upd_same,Bool.false_eq_true,if_false];exact⟨xv0,by rw[hdd];exact ia0 (by omega)⟩) (fun x hx=>upd_ne live false hx) (fun z=>by rw[upd_same]at z;cases z) (fun z=>absurd e z) ?_ ?_ hgn (fun G' hG'=>?_) (by omega)
     ·refine Past.leave (Us:=Us live) ?_ (fun x hx=>?_)
      ·refine Past.Sp0 (g:=i) C.past (.inr hl) (fun g' l P5 hsh=>?_) (fun x=>Knows.app _) G2 (fun op W5=>?_) (fun _ j hj1 hj2=>?_) (C.past.old_hears G2 (fun z=>absurd z hMi))
       ·obtain⟨p,hp,rfl⟩:=P5;obtain⟨a',G',hG',ha,hb,ho⟩:=hsh;simp only[Loc.cell.injEq]at ha;subst ha;have hc:Cut u G':=hG'.elim (fun z=>(C.l3 G' z).1) (C.old G');obtain⟨c,T1,f,hc,hs⟩:=hc;obtain⟨c',T',f',p7,_,hv'⟩:=Z4 (C.stays g' p hp).1;rw[hb,hc]at p7;cases p7;have:=(Array.getElem?_eq_some_iff.1 hv').1;omega
       ·obtain⟨e',he,rfl⟩:=Go.Conc.mem_ofEvents W5;intro b hb;simp only[List.mem_toArray,List.mem_cons,List.not_mem_nil,or_false]at he;rcases he with rfl|rfl <;> simp[rdA,wrA,MemAct.ofEvent,MemAct.touch?]at hb <;> subst hb <;> exact⟨⟨stA G,G,.inl hG,rfl,rfl,Nat.le_refl _⟩,by simp,fun _=>rfl⟩
       ·obtain⟨m,rfl⟩:∃m,j=T.size+m:=⟨j-T.size,by omega⟩
        rw[hdq T m (by omega)];omega
      ·rcases hx with hx|hx
       ·exact .inl hx
       ·by_cases ex:x=i
        ·subst ex;rw[upd_same]at hx;cases hx
        ·rw[upd_ne live false ex]at hx;exact .inr hx
     ·obtain⟨ρ,hs,hlw⟩:=C.sim;obtain⟨ρ',h1,h2⟩:=l6.setSt hs pj0 ga0 ((v*KK:Nat):Int);exact⟨ρ',h1,fun b hb=>(h2 b fun e=>hb (e▸C.bi0 G hG)).trans (hlw b hb)⟩
     ·rw[hG]at hG';obtain rfl:=Option.some.inj hG';simp only[Array.size_setIfInBounds,Array.size_map,hv0,<- hv];exact hgv
 |some s=>
  rw[e]at G4;have hM:X.Mem h i:=.inr (by rw[e];simp);have hLo:X.Lo h i:=⟨o3,by rw[e];simp⟩
  have hS:=bz0.refl (X:=X) w;obtain⟨n,hqi⟩:∃n,q i=n+1:=by
   rcases G4.status with⟨_,h2⟩|⟨h1,_⟩
   ·exact⟨q i-1,by omega⟩
   ·rw[H4]at h1;cases h1
  rw[hqi]at G4;have ac1:js0 P (i==0) s g\/(0<n/\∃g' es,(∀e'∈es,∃p∈X.stay i,e'=⟨.cell p.1,false,false⟩)/\(∀w,(∀p∈X.stay i,w.cell? p.1=some p.2)->stepG P (i==0) g w= .go g' w es)/\Way P (i==0) (X.stay i) s n g') :=
   G4.elim .inl fun z=>.inr ⟨z.1,z.2.2⟩
  rcases ac1 with hat|⟨hn0,g',es,hes,A3,vm0⟩
  ·obtain⟨k,hk⟩:=(C.chans _ (C.n4 i s e)).2.2;have hw:∀cc∈#[rcase s.ch s.z],NoWays w (gs.setIfInBounds i ph) cc:=by
    intro cc hcc;simp only[List.mem_toArray,List.mem_cons,List.not_mem_nil,or_false]at hcc;subst hcc;refine ways_recv_none hk (partners_nil fun x y hy=>?_);rcases getElem?_stand gs i x y hy with⟨_,rfl⟩|⟨hx,hy'⟩
    ·exact offersAt_ph _ _
    ·by_cases hxh:x=h
     ·subst hxh;rw[hh]at hy';obtain rfl:=Option.some.inj hy';exact hO s e hat
     ·exact(C.idle x y hxh hy').noSend _
   refine⟨_,_,upd q i 0,w,live,crowd_waits (sl:=sl) hi (hat.2.2.2.2 w) hw,by simp,(Array.getElem?_setIfInBounds_ne o3).trans hh,fun x hx=>upd_ne q 0 hx,fun s' hs' _=>by rw[<- Option.some.inj hs'];exact hat,?_,?_,hS⟩
   ·refine C.put Y1 o3 (by simp) (fun x hx=>Array.getElem?_setIfInBounds_ne (fun z=>hx z.symm)) (Array.getElem?_setIfInBounds_self_of_lt Y1) G2 (by unfold Idle;rw[e];exact⟨rfl,g,hat⟩) (fun _ _=>rfl) id (fun _=>rfl) ?_ C.sim (fun _ _=>rfl) (fun G hG=>by simpa using(C.l3 G hG).2) (Nat.le_refl _);exact C.past.appMute (g:=i) (fun x=>Knows.app _) (fun op W5=>by obtain⟨e',he,rfl⟩:=Go.Conc.mem_ofEvents W5;simp at he) (C.past.old_hears G2 (fun _=>by rw[Deaf_own];rfl))
   ·have h2:sumTo gs.size (upd q i 0)+(n+1)=sumTo gs.size q+0:=by
     have:=sumTo_upd q 0 id Y1;simpa [hqi]using this
    omega
  ·obtain⟨ρ,hs,_⟩:=C.sim;have T2:=A3 w fun p hp=>hs.cell (u:=N2 u w.tape w.drawn) (C.stays i p hp).1;refine⟨_,_,upd q i n,w,live,runT_crowd_go (sl:=sl) hi T2,by simp,(xu0 w hS _ _ h (Ne.symm o3)).trans hh,fun x hx=>upd_ne q n hx,fun s' _ hz=>by rw[upd_same]at hz;omega,?_,Ny0 n hqi,hS⟩;refine C.put Y1 o3 (by simp) (xu0 w hS _ _) (P2 w _ _) G2 (by unfold Idle;rw[e];exact vm0) (fun _ _=>rfl) id (fun _=>rfl) ?_ C.sim (fun _ _=>rfl) (fun G hG=>by simpa using(C.l3 G hG).2) (Nat.le_refl _);refine C.past.appRead (g:=i) (fun x=>Knows.app _) hM hLo G2 (fun op W5 b hb=>?_) ?_
   ·obtain⟨e',he,rfl⟩:=Go.Conc.mem_ofEvents W5;obtain⟨p,hp,rfl⟩:=hes e' he;simp only[ofEvent_cell0,MemAct.touch?,Option.some.injEq]at hb;subst hb;refine⟨rfl,⟨p,hp,rfl⟩,?_⟩;rintro⟨a',G',hG',ha,hb,ho⟩;simp only[Loc.cell.injEq]at ha;subst ha;have hc:Cut u G':=hG'.elim (fun z=>(C.l3 G' z).1) (C.old G');obtain⟨c,T1,f,hc,hs⟩:=hc;obtain⟨c',T',f',p7,_,hv'⟩:=Z4 (C.stays i p hp).1;rw[hb,hc]at p7;cases p7;have:=(Array.getElem?_eq_some_iff.1 hv').1;omega
   ·rw[Deaf_own];exact deafBehind_still (fun e' he=>by obtain⟨p,_,rfl⟩:=hes e' he;exact⟨by simp,by simp⟩) _
end
end
section
attribute [local irreducible] KK
def Ends (P:Program) (Post:Value->World->Prop) (m:Machine) (t:Trace):Prop :=
 ∃N last o w' t',runNT P (N+1) m t=(.ended o w',t')/\runN P N m= .next last/\step P last= .ended o w'/\Conc.Good P Post last o w' t'
theorem gd0 {P:Program}:∀{N:Nat} {m m':Machine} {t t':Trace},runNT P N m t=(.next m',t')->runN P N m= .next m'
 |0,m,m',t,t',h=>by simp only[runNT,Prod.mk.injEq]at h;simp only[runN];exact h.1
 |N+1,m,m',t,t',h=>by
  simp only[runNT]at h;unfold runN step;cases e:stepT P m with
  |mk s ops=>
   rw[e]at h;cases s with
   |next m1=>exact gd0 h
   |ended o w=>simp at h
theorem sj0 {P:Program}:∀(a b:Nat) (m m':Machine),runN P a m= .next m'->runN P (a+b) m=runN P b m'
 |0,b,m,m',h=>by simp only[runN,Stepped.next.injEq]at h;rw[Nat.zero_add,h]
 |a+1,b,m,m',h=>by
  rw[show a+1+b=(a+b)+1 by omega];have h':(match step P m with| .next m=>runN P a m|e=>e)= .next m':=h;show(match step P m with| .next m=>runN P (a+b) m|e=>e)=_;cases e:step P m with
  |next m1=>rw[e]at h';exact sj0 a b m1 m' h'
  |ended o w=>rw[e]at h';cases h'
section
variable {P:Program}{Post:Value->World->Prop}
theorem Ends.steps {N:Nat} {m m':Machine} {t t':Trace} (h:runNT P N m t=(.next m',t')) (hE:Ends P Post m' t'):Ends P Post m t:=by
 obtain⟨M,last,o,w',t2,h1,h2,h3,h4⟩:=hE;exact⟨N+M,last,o,w',t2,by rw[Nat.add_assoc,runNT_add,h];exact h1,by rw[sj0 N M m m' (gd0 h)];exact h2,h3,h4⟩
theorem Ends.step {m m':Machine} {t:Trace} {ops:Array MemOp} (h:stepT P m=(.next m',ops)) (hE:Ends P Post m' (t++ops)):Ends P Post m t :=
 Ends.steps (N:=1) (by simp only[runNT,h]) hE
end
def Fin (P:Program) (Post:Value->World->Prop) (X:Gh) (h:Nat) (g:Goroutine) (u:World):Prop :=
 ∀live T gs w sl q,gs[h]? =some g->Ring P X h u live T gs w q->Ends P Post (crowd gs w sl) T
section
variable {P:Program}{Post:Value->World->Prop}{X:Gh}{h:Nat}{u:World}
theorem Ring.ad1 {g:Goroutine} (H4:g.status= .running) (K:Machine->Trace->Prop) (hK:∀m m' t ops,stepT P m=(.next m',ops)->K m' (t++ops)->K m t)
  (mo0:∀live T gs w sl d z5 q,gs[h]? =some g->stepT P (crowd gs w sl)=runT P (crowd gs (w.at d) z5) h->Ring P X h u live T gs (w.at d) q->K (crowd gs w sl) T) :
  ∀(μ:Nat) live T gs w sl q,sumTo gs.size q=μ->gs[h]? =some g->Ring P X h u live T gs w q->K (crowd gs w sl) T:=by
 intro μ
 induction μ using Nat.strongRecOn with
 |_ μ ih=>
  intro live T gs w sl q hμ hg C;obtain⟨i,gi,d,z5,hi,hgi,T2⟩:=crowd_pick (P:=P) (w:=w) (sl:=sl) (C.awake hg (.inl H4)) ⟨h,g,hg,H4⟩;have Cd:=C.at d;by_cases e:i=h
  ·subst e;exact mo0 live T gs w sl d z5 q hg T2 Cd
  ·obtain⟨c5,ops,q',w',bo0,hrt,I2,hgh,_,_,C',Y1,_⟩:=Cd.by_step (sl:=z5) hi e hgi hg (fun w' _=>again_of_running (.inl H4) w') (fun s _ _=>offersAt_of_not_blocked (by rw[H4];simp) _ _);exact hK _ _ _ _ (T2.trans hrt) (ih _ (by rw[I2,<- hμ];exact Y1) bo0 (T++ops) c5 w' z5 q' rfl hgh C')
theorem Fin.Z9 {g:Goroutine} (H4:g.status= .running) (mo0:∀live T gs w sl d z5 q,gs[h]? =some g->stepT P (crowd gs w sl)=runT P (crowd gs (w.at d) z5) h->Ring P X h u live T gs (w.at d) q->Ends P Post (crowd gs w sl) T):Fin P Post X h g u :=
 fun live T gs w sl q hg C=>Ring.ad1 H4 (Ends P Post) (fun _ _ _ _ h=>Ends.step h) mo0 _ live T gs w sl q rfl hg C
theorem Fin.own {g:Goroutine} (H4:g.status= .running) (hs:∀τ d,∃g' u',Q5 P (h==0) g (N2 u τ d) g' u'/\Fin P Post X h g' u'):Fin P Post X h g u:=by
 refine Fin.Z9 H4 fun live T gs w sl d z5 q hg T2 C=>?_;obtain⟨g',u',hF,hK⟩:=hs (w.at d).tape (w.at d).drawn;obtain⟨w',es,hgo,C',P2⟩:=C.own hg hF;exact Ends.step (T2.trans (runT_crowd_go (sl:=z5) hg hgo)) (hK _ _ _ _ _ _ P2 C')
theorem Fin.Nz0 {g:Goroutine} {X':Gh} {u':World} (hw:∀live T gs w q,Ring P X h u live T gs w q->Ring P X' h u' live T gs w q) (hF:Fin P Post X' h g u'):Fin P Post X h g u :=
 fun live T gs w sl q hg C=>hF live T gs w sl q hg (hw live T gs w q C)
end
def Y2 (u:World) (b:Nat) (o:Obj):World:={u with heap:=u.heap.setIfInBounds b o}
theorem kx0 (u:World) (b:Nat) (o:Obj) (k:Nat):(Y2 u b o).heap[k]? =if b=k then(if b<u.heap.size then some o else none) else u.heap[k]?:=by
 simp only[Y2,Array.getElem?_setIfInBounds]
theorem X5 (u:World) {b k:Nat} (o:Obj) (h:b≠k):(Y2 u b o).heap[k]? =u.heap[k]?:=by rw[kx0,if_neg h]
theorem r7 (u:World) {b:Nat} {o x:Obj} (h:u.heap[b]? =some x):(Y2 u b o).heap[b]? =some o:=by
 rw[kx0,if_pos rfl,if_pos (Array.getElem?_eq_some_iff.1 h).1]
theorem R5 {u u':World} {a:Addr} (h:u'.heap[a.block]? =u.heap[a.block]?):u'.cell? a=u.cell? a/\u'.frozen? a=u.frozen? a:=by
 unfold World.cell? World.frozen?;rw[h];exact⟨rfl,rfl⟩
theorem l6.replace {ρ:Nat->V6} {u w:World} {b:Nat} {x x' y:Obj} {p:V6} (hs:l6 ρ (N2 u w.tape w.drawn) w) (hb:u.heap[b]? =some x) (hv:y4 x'=false) (hy:w.heap[b]? =some y) (hl:dq0 p x' y):∃ρ',l6 ρ' (N2 (Y2 u b x') w.tape w.drawn) w/\∀k,k≠b->ρ' k=ρ k:=by
 have Y1:=(Array.getElem?_eq_some_iff.1 hb).1;refine⟨fun k=>if k=b then p else ρ k,⟨hs.os,hs.output,rfl,rfl,by have:=hs.size;simpa [Y2,N2]using this,fun k z hz=>?_,fun k hk=>?_,fun k z hz=>?_⟩,fun k hk=>if_neg hk⟩
 ·have hz':(Y2 u b x').heap[k]? =some z:=hz;by_cases e:k=b
  ·subst e;rw[r7 u hb]at hz';obtain rfl:=Option.some.inj hz';exact⟨y,hy,by rw[if_pos rfl];exact hl⟩
  ·rw[X5 u x' (Ne.symm e)]at hz';obtain⟨y',h1,h2⟩:=hs.obj k z hz';exact⟨y',h1,by rw[if_neg e];exact h2⟩
 ·have hk':u.heap.size <=k:=by simpa [Y2,N2]using hk
  rw[if_neg (by omega)];exact hs.new k hk'
 ·have hz':(Y2 u b x').heap[k]? =some z:=hz;by_cases e:k=b
  ·subst e;rw[r7 u hb]at hz';obtain rfl:=Option.some.inj hz';exact hv
  ·rw[X5 u x' (Ne.symm e)]at hz';exact hs.Y6 k z hz'
structure aq0 (X:Gh) (b:Nat):Prop where
 stay:∀i p,p∈X.stay i->p.1.block≠b
 G4:X.G4 b=none
 B8:¬X.B8 b
 l3:∀G,(X.l3=some G\/G∈X.old)->G.blk≠b
structure Gh.T9 (X:Gh) (n:Nat):Prop where
 stay:∀i p,p∈X.stay i->p.1.block<n
 G4:∀b o,X.G4 b=some o->b<n
 B8:∀b,X.B8 b->b<n
 l3:∀G,(X.l3=some G\/G∈X.old)->G.blk<n
 low:∀b,X.low b->b<n
theorem Gh.T9.mono {X:Gh} {n m:Nat} (h:X.T9 n) (hm:n <=m):X.T9 m :=
 ⟨fun i p hp=>Nat.lt_of_lt_of_le (h.stay i p hp) hm,fun b o e=>Nat.lt_of_lt_of_le (h.G4 b o e) hm,fun b e=>Nat.lt_of_lt_of_le (h.B8 b e) hm,fun G e=>Nat.lt_of_lt_of_le (h.l3 G e) hm,fun b e=>Nat.lt_of_lt_of_le (h.low b e) hm⟩
theorem Gh.T9.ca0 {X:Gh} {n b:Nat} (h:X.T9 n) (hb:n <=b):aq0 X b :=
 ⟨fun i p hp=>by have:=h.stay i p hp;omega,by
  cases e:X.G4 b with
  |none=>rfl
  |some o=>have:=h.G4 b o e;omega,fun e=>by have:=h.B8 b e;omega,fun G hG=>by have:=h.l3 G hG;omega⟩
def Gh.lower (X:Gh) (b:Nat):Gh:={X with low:=fun k=>X.low k\/k=b}
theorem Ring.swap {P:Program} {X:Gh} {h:Nat} {u:World} {live:Nat->Bool} {T:Trace} {gs:Array Goroutine} {w:World} {q:Nat->Nat} (C:Ring P X h u live T gs w q) {b:Nat} {x x':Obj} (hl:aq0 X b) (hb:u.heap[b]? =some x) (hv:y4 x'=false)
  (hlk:∀p y,dq0 p x y->∃p',dq0 p' x' y):Ring P (X.lower b) h (Y2 u b x') live T gs w q:=by
 obtain⟨ρ,hs,hlw⟩:=C.sim;obtain⟨y,hy,hl0⟩:=hs.obj b x hb;obtain⟨p',hp'⟩:=hlk _ _ hl0;have pj0:∀G,(X.l3=some G\/G∈X.old)->Cut u G->Cut (Y2 u b x') G:=fun G hG ⟨c,T,f,hc,hcs⟩=>⟨c,T,f,by rw[X5 u x' (Ne.symm (hl.l3 G hG))];exact hc,hcs⟩
 have u9:∀k,k≠b->dr0 u k->dr0 (Y2 u b x') k:=fun k hk ⟨T,f,hc⟩=>⟨T,f,by rw[X5 u x' (Ne.symm hk)];exact hc⟩
 refine⟨?_,C.idle,C.free,C.size,C.num,fun i p hp=>?_,fun c hc=>⟨u9 c (fun e=>hl.B8 (e▸hc)) (C.chans c hc).1,(C.chans c hc).2⟩,C.n4,C.inj,fun k o e=>?_,fun G e=>.inl (C.bi0 G e),⟨fun c e=>.inl (C.C8.1 c e),C.C8.2⟩,fun G e=>⟨pj0 G (.inl e) (C.l3 G e).1,(C.l3 G e).2⟩,fun G e=>pj0 G (.inr e) (C.old G e),C.above,C.few,C.en0,C.by0,C.dfn,C.past⟩
 ·obtain⟨ρ',h1,h2⟩:=l6.replace hs hb hv hy hp';exact⟨ρ',h1,fun k hk=>by
   have hkb:k≠b:=fun e=>hk (.inr e);rw[h2 k hkb];exact hlw k fun e=>hk (.inl e)⟩
 ·have:=R5 (u:=u) (u':=Y2 u b x') (a:=p.1) (X5 u x' (Ne.symm (hl.stay i p hp)));rw[this.1,this.2];exact C.stays i p hp
 ·have hk:k≠b:=fun z=>by subst z;have e2:X.G4 k=some o:=e;rw[hl.G4]at e2;cases e2
  exact⟨u9 k hk (C.G4 k o e).1,(C.G4 k o e).2⟩
section
variable {P:Program}{Post:Value->World->Prop}{X:Gh}{h:Nat}{u:World}{g:Goroutine}{b:Nat}
theorem Fin.freeze {c:Array Value} {T:TypeId} {f f':Nat×Nat} (hl:aq0 X b) (hb:u.heap[b]? =some (.cells c T f)) (hf:∀i,inR f i->inR f' i) (hF:Fin P Post (X.lower b) h g (Y2 u b (.cells c T f'))):Fin P Post X h g u:=by
 refine Fin.Nz0 (fun live Tr gs w q C=>C.swap hl hb rfl fun p y hp=>?_) hF;cases hp with
 |same=>exact⟨.cut #[] f,by have:=dq0.cut c #[] T f f' hf;simpa using this⟩
 |cut _ rest _ f0 _ h0=>exact⟨.cut rest f0,.cut c rest T f0 f' fun i hi=>hf i (h0 i hi)⟩
 |gone=>exact⟨.gone y,.gone _ _ _⟩
def nothing:Obj:=.cells #[] 0 (0,0)
theorem Fin.chan (hl:aq0 X b) (hw:¬X.low b) (hpl:X.k5 b= .all) {k:Nat} (hb:u.heap[b]? =some (.chan 0 #[] false k k false)) (hF:Fin P Post {X.lower b with B8:=fun c=>X.B8 c\/c=b} h g (Y2 u b nothing)):Fin P Post X h g u:=by
 refine Fin.Nz0 (fun live Tr gs w q C=>?_) hF;have C':=C.swap (x':=nothing) hl hb rfl fun p y hp=>⟨.gone y,.gone _ _ _⟩
 obtain⟨ρ,hs,hlw⟩:=C.sim;obtain⟨y,hy,hl0⟩:=hs.obj b _ hb;rw[hlw b hw,hpl]at hl0;have hyb:y= .chan 0 #[] false k k false:=by cases hl0;rfl
 subst hyb;refine⟨C'.sim,C'.idle,C'.free,C'.size,C'.num,C'.stays,fun c hc=>?_,fun i s e=>.inl (C'.n4 i s e),C'.inj,C'.G4,C'.bi0,⟨fun c e=>e.elim (C'.C8.1 c) fun e=>.inr e,fun G hG=>⟨fun e=>e.elim (C'.C8.2 G hG).1 (hl.l3 G hG),(C'.C8.2 G hG).2⟩⟩,C'.l3,C'.old,C'.above,C'.few,C'.en0,C'.by0,C'.dfn,C'.past⟩;rcases hc with hc|rfl
 ·exact C'.chans c hc
 ·exact⟨⟨0,(0,0),r7 u hb⟩,hl.G4,k,hy⟩
theorem Fin.stay {l:m4} (hl:∀p∈l,u.cell? p.1=some p.2/\u.frozen? p.1=true) (hF:Fin P Post {X with stay:=upd X.stay h l} h g u):Fin P Post X h g u:=by
 refine Fin.Nz0 (fun live Tr gs w q C=>?_) hF;have Oa0:∀i,i≠h->upd X.stay h l i=X.stay i:=fun i hi=>upd_ne _ _ hi;refine⟨C.sim,fun i y hi hy=>?_,C.free,C.size,C.num,fun i p hp=>?_,C.chans,C.n4,C.inj,C.G4,C.bi0,C.C8,C.l3,C.old,fun j hj=>?_,C.few,C.en0,C.by0,C.dfn,?_⟩
 ·have:=C.idle i y hi hy;unfold Idle at this⊢;show(match X.N1 i with|some s=>Way P (i==0) (upd X.stay h l i) s (q i) y|none=>_);rw[Oa0 i hi];exact this
 ·have hp':p∈upd X.stay h l i:=hp;by_cases e:i=h
  ·subst e;rw[upd_same]at hp';exact hl p hp'
  ·rw[Oa0 i e]at hp';exact C.stays i p hp'
 ·have:=C.above j hj;refine⟨this.1,this.2.1,this.2.2.1,?_⟩;show upd X.stay h l j=[];rw[Oa0 j (by have:=C.size;omega)];exact this.2.2.2
 ·refine PastH.still C.past (fun z=>z.1 rfl) (fun i hi l'=>?_) (fun l' P5=>?_) (fun i hi=>.inl hi) (fun hi=>C.past.hears h hi)
  ·show(∃p∈upd X.stay h l i,_)↔_;rw[Oa0 i hi];exact Iff.rfl
  ·obtain⟨p,hp,rfl⟩:=(P5:∃p∈upd X.stay h l h,l'= .cell p.1)
   have hp:p∈l:=by have hp':p∈upd X.stay h l h:=hp;rwa [upd_same]at hp'
   refine⟨rfl,?_⟩;rintro⟨a',G,hG,ha,hb,ho⟩;simp only[Loc.cell.injEq]at ha;subst ha;have hc:Cut u G:=hG.elim (fun e=>(C.l3 G e).1) (C.old G);obtain⟨c,T,f,hc,hs⟩:=hc;obtain⟨c',T',f',p7,_,hv'⟩:=Z4 (hl p hp).1;rw[hb,hc]at p7;cases p7;have:=(Array.getElem?_eq_some_iff.1 hv').1;omega
end
end
section
attribute [local irreducible] KK
theorem count_le {live:Nat->Bool} {i:Nat}:∀{n:Nat},i<n->live i=true->0<count live n:=by
 intro n hn hl;have:=Go.ConcN.le_sumTo (f:=fun i=>if live i then 1 else 0) hn;simp only[hl,if_true]at this;exact this
theorem m8.of_block {G:j5} {st sm:Int} {w w':World} (h:m8 G st sm w) (e:w'.heap[G.blk]? =w.heap[G.blk]?):m8 G st sm w':=by
 obtain⟨c,T,hb,hc⟩:=h;exact⟨c,T,e.trans hb,hc⟩
section
variable {P:Program}{Post:Value->World->Prop}{X:Gh}{u:World}{g:Goroutine}
theorem Fin.Gu0 {f':Nat×Nat} {b:Nat} {c:Array Value} {T:TypeId} (gm0:X.cap=0) (hl:aq0 X b) (hw:¬X.low b) (hpl:X.k5 b= .all) (hb:u.heap[b]? =some (.cells (c ++ #[.int .u64 0,.int .u32 0]) T (0,0))) (_h0:0 <=c.size)
  (hF:Fin P Post {X.lower b with l3:=some ⟨b,c.size⟩,old:=X.l3.toList++X.old} 0 g (Y2 u b (.cells c T f'))):Fin P Post X 0 g u:=by
 refine Fin.Nz0 (fun live Tr gs w q C=>?_) hF;have C':=C.swap (x':=.cells c T f') hl hb rfl fun p y hp=>by
  generalize hq:(Obj.cells (c ++ #[.int .u64 0,.int .u32 0]) T (0,0))=z at hp;cases hp with
  |same=>subst hq;exact⟨_,.cut c _ T (0,0) f' fun _ h=>by unfold inR at h;omega⟩
  |cut c' rest T' f f2 hf=>
   obtain⟨rfl,rfl,rfl⟩:=Obj.cells.inj hq;exact⟨.cut (#[.int .u64 0,.int .u32 0]++rest) f,by rw[Array.append_assoc];exact .cut c _ _ f f' fun i hi=>by have:=hf i hi;unfold inR at this;omega⟩
  |gone T' f o=>
   obtain⟨h1,_,_⟩:=Obj.cells.inj hq;have:=congrArg Array.size h1;simp at this
 obtain⟨ρ,hs,hlw⟩:=C.sim;obtain⟨y,hy,hl0⟩:=hs.obj b _ hb;rw[hlw b hw,hpl]at hl0;have hyb:y= .cells (c ++ #[.int .u64 0,.int .u32 0]) T (0,0):=by cases hl0;rfl
 subst hyb;have hz:count live gs.size+X.pend=0:=by have:=C.few;omega
 have mp0:∀i,live i=false:=fun i=>by
  rcases Nat.lt_or_ge i gs.size with hi|hi
  ·cases e:live i with
   |false=>rfl
   |true=>have:=count_le hi e;omega
  ·exact(C.above i hi).2.2.1
 refine⟨C'.sim,fun i y hi hy=>?_,C'.free,C'.size,C'.num,C'.stays,C'.chans,C'.n4,C'.inj,C'.G4,fun G e=>?_,⟨C'.C8.1,fun G hG=>?_⟩,fun G e=>?_,fun G e=>?_,C'.above,C'.few,fun i e=>absurd e (by rw[mp0 i];simp),C'.by0,C'.dfn,?_⟩
 ·have:=C'.idle i y hi hy;unfold Idle at this⊢;simp only[mp0,Bool.false_eq_true,if_false]at this⊢;exact this
 ·cases e;exact .inr rfl
 ·rcases hG with hG|hG
  ·cases hG;exact⟨hl.B8,hl.G4⟩
  ·have hG':G∈X.l3.toList++X.old:=hG;exact C.C8.2 G ((List.mem_append.1 hG').imp (fun z=>by simpa using z) id)
 ·cases e;refine⟨⟨c,T,f',r7 u hb,rfl⟩,c,T,?_,rfl⟩;rw[hy];have:(((count live gs.size+X.pend)*KK:Nat):Int)=0:=by rw[hz,Nat.zero_mul];rfl
  show _=some (Obj.cells (c ++ #[.int .u64 (((count live gs.size+X.pend)*KK:Nat):Int),.int .u32 0]) T (0,0));rw[this]
 ·have e':G∈X.l3.toList++X.old:=e;rcases List.mem_append.1 e' with e'|e'
  ·exact(C'.l3 G (show X.l3=some G by simpa using e')).1
  ·exact C'.old G e'
 ·refine PastH.Gr0 C'.past (fun l P5=>?_) (fun i l hi hS=>?_) (fun l P5=>by obtain⟨a,G,_,rfl,_⟩:=P5;rfl) (fun i hi=>hi.elim id fun z=>by rw[mp0 i]at z;cases z)
  ·obtain⟨a,G,hG,ha,D8,ho⟩:=P5;refine⟨a,G,.inr ?_,ha,D8,ho⟩;show G∈X.l3.toList++X.old;rcases hG with hG|hG
   ·exact List.mem_append_left _ (by have hG:X.l3=some G:=hG;simpa using hG)
   ·exact List.mem_append_right _ hG
  ·rintro⟨a,G,hG,ha,D8,ho⟩;obtain⟨p,hp,rfl⟩:=hS;simp only[Loc.cell.injEq]at ha;subst ha;have hp0:p∈X.stay i:=hp;rcases hG with hG|hG
   ·cases hG;exact hl.stay i p hp0 D8
   ·have hG':G∈X.l3.toList++X.old:=hG;have hc:Cut u G:=(List.mem_append.1 hG').elim (fun z=>(C.l3 G (by simpa using z)).1) (C.old G);obtain⟨c1,T1,f1,hc,hs1⟩:=hc;obtain⟨c',T',f',p7,_,hv'⟩:=Z4 (C.stays i p hp0).1;rw[D8,hc]at p7;cases p7;have:=(Array.getElem?_eq_some_iff.1 hv').1;omega
end
def Gh.pass (X:Gh) (h j:Nat) (sh:Option c6):Gh:={X with N1:=upd (upd X.N1 j none) h sh}
section
variable {P:Program}{X:Gh}{h:Nat}{u:World}{live:Nat->Bool}{T:Trace}{gs:Array Goroutine}{w:World}{q:Nat->Nat}
theorem Ring.pass (C:Ring P X h u live T gs w q) {j k:Nat} {s:c6} (hj:X.N1 j=some s) (hjh:j≠h) (ib0:X.dn=0) (hk:w.heap[s.ch]? =some (.chan 0 #[] false k k false)) {c5:Array Goroutine} {T':Trace} {H':Goroutine} (I2:c5.size=gs.size)
  (Ut0:∀x,x≠h->x≠j->c5[x]? =gs[x]?) (hH:c5[h]? =some H') (Sq0:∀x,Deaf T' x=Deaf T x) {sh:Option c6} (hsh:∀s',sh=some s'->X.B8 s'.ch/\∀i s2,i≠j->X.N1 i=some s2->s2.ch≠s'.ch) {nh:Nat} (Uu0:Idle P (X.pass h j sh) live T' h nh H')
  (Cz0:PastH X.Sh (Us live) X.St (X.Mem h) (fun g=>X.Lo h g/\g≠j) j T'):Ring P (X.pass h j sh) j u live T' c5 (w.setChan s.ch 0 #[] false (k+1) (k+1) false) (upd q h nh):=by
 obtain⟨ρ,hs,hlw⟩:=C.sim;obtain⟨u9,Gv0,_⟩:=C.chans s.ch (C.n4 j s hj);have o3:∀b,b≠s.ch->(w.setChan s.ch 0 #[] false (k+1) (k+1) false).heap[b]? =w.heap[b]?:=fun b hb=>heap_setChan_ne w _ _ _ _ _ _ (Ne.symm hb);have P2:(w.setChan s.ch 0 #[] false (k+1) (k+1) false).heap[s.ch]? =some (.chan 0 #[] false (k+1) (k+1) false):=heap_setChan_self w hk _ _ _ _ _ _;have R6:∀i,i≠h->i≠j->(X.pass h j sh).N1 i=X.N1 i:=fun i h1 h2=>by
  show upd (upd X.N1 j none) h sh i=_;rw[upd_ne _ _ h1,upd_ne _ _ h2]
 have Uv0:(X.pass h j sh).N1 h=sh:=upd_same _ _ _;have Gw0:(X.pass h j sh).N1 j=none:=by
  show upd (upd X.N1 j none) h sh j=_;rw[upd_ne _ _ hjh,upd_same]
 have pk0:j<gs.size:=by
  rcases Nat.lt_or_ge j gs.size with z|z
  ·exact z
  ·have:=(C.above j z).2.1;rw[hj]at this;cases this
 have hgb:∀G,X.l3=some G->G.blk≠s.ch:=fun G hG e=>(C.C8.2 G (.inl hG)).1 (e▸C.n4 j s hj);have hold:∀i s2,(X.pass h j sh).N1 i=some s2->(i≠h/\i≠j/\X.N1 i=some s2)\/(i=h/\sh=some s2):=fun i s2 e=>by
  by_cases e1:i=h
  ·subst e1;rw[Uv0]at e;exact .inr ⟨rfl,e⟩
  ·by_cases e2:i=j
   ·subst e2;rw[Gw0]at e;cases e
   ·rw[R6 i e1 e2]at e;exact .inl ⟨e1,e2,e⟩
 refine⟨⟨fun b=>if b=s.ch then .gone (.chan 0 #[] false (k+1) (k+1) false) else ρ b,⟨hs.os,hs.output,rfl,rfl,by have:=hs.size;simpa [World.setChan,N2]using this,fun b x hx=>?_,fun b hb=>?_,hs.Y6⟩,fun b hb=>?_⟩,
  fun x y hx hy=>?_,Gw0,by rw[I2];exact pk0,by rw[I2];exact C.num,C.stays,fun c hc=>⟨(C.chans c hc).1,(C.chans c hc).2.1,?_⟩,fun i s2 e=>?_,fun i i' s1 s2 e1 e2 hc=>?_,fun b o e=>?_,C.bi0,C.C8,fun G e=>⟨(C.l3 G e).1,?_⟩,C.old,fun i hi=>?_,by rw[I2];exact C.few,C.en0,fun i hi hor=>?_,(Cz0.hears j (.inr (by rw[hj];simp))).trans ib0.symm,?_⟩
 ·by_cases e:b=s.ch
  ·subst e;obtain⟨T0,f0,hg⟩:=u9;have D4:u.heap[s.ch]? =some x:=hx;rw[hg]at D4;obtain rfl:=Option.some.inj D4;exact⟨_,P2,by rw[if_pos rfl];exact .gone _ _ _⟩
  ·obtain⟨y,h1,h2⟩:=hs.obj b x hx;exact⟨y,(o3 b e).trans h1,by rw[if_neg e];exact h2⟩
 ·obtain⟨T0,f0,hg⟩:=u9;have h1:s.ch<u.heap.size:=(Array.getElem?_eq_some_iff.1 hg).1;have h2:u.heap.size <=b:=hb;rw[if_neg (by omega)];exact hs.new b hb
 ·have:b≠s.ch:=fun e=>hb (e▸C.C8.1 s.ch (C.n4 j s hj));show(if b=s.ch then _ else ρ b)=_;rw[if_neg this];exact hlw b hb
 ·by_cases e:x=h
  ·subst e;rw[hH]at hy;obtain rfl:=Option.some.inj hy;rw[upd_same];exact Uu0
  ·rw[Ut0 x e hx]at hy;have G4:=C.idle x y e hy;unfold Idle at G4⊢;rw[R6 x e hx,Sq0,upd_ne q nh e];exact G4
 ·by_cases e:c=s.ch
  ·subst e;exact⟨k+1,P2⟩
  ·obtain⟨k',hk'⟩:=(C.chans c hc).2.2;exact⟨k',(o3 c e).trans hk'⟩
 ·rcases hold i s2 e with⟨_,_,e⟩|⟨_,e⟩
  ·exact C.n4 i s2 e
  ·exact(hsh s2 e).1
 ·rcases hold i s1 e1 with⟨_,a2,f1⟩|⟨f0,f1⟩ <;> rcases hold i' s2 e2 with⟨_,b2,f2⟩|⟨f3,f2⟩
  ·exact C.inj i i' s1 s2 f1 f2 hc
  ·exact absurd hc ((hsh s2 f2).2 i s1 a2 f1)
  ·exact absurd hc.symm ((hsh s1 f1).2 i' s2 b2 f2)
  ·rw[f0,f3]
 ·obtain⟨h1,h2,p,y,h3,h4⟩:=C.G4 b o e;have:b≠s.ch:=fun e2=>by subst e2;have e':X.G4 s.ch=some o:=e;rw[Gv0]at e';cases e'
  exact⟨h1,h2,p,y,(o3 b this).trans h3,h4⟩
 ·rw[I2];exact(C.l3 G e).2.of_block (o3 _ (hgb G e))
 ·rw[I2]at hi;have:=C.above i hi;refine⟨by rw[Sq0];exact this.1,?_,this.2.2⟩;rw[R6 i (by have:=C.size;omega) (by omega)];exact this.2.1
 ·rcases hor with hor|rfl
  ·cases e:(X.pass h j sh).N1 i with
   |none=>exact absurd e hor
   |some s2=>
    rcases hold i s2 e with⟨_,_,e⟩|⟨rfl,_⟩
    ·exact C.by0 i hi (.inl (by rw[e];simp))
    ·exact C.by0 i hi (.inr rfl)
  ·exact C.by0 i hi (.inl (by rw[hj];simp))
 ·refine(Cz0.fewer (Mem':=(X.pass h j sh).Mem j) fun x hx=>?_).loosen fun x hx=>?_
  ·rcases hx with⟨rfl,_⟩|hx
   ·exact .inr (by rw[hj];simp)
   ·cases e:(X.pass h j sh).N1 x with
    |none=>exact absurd e hx
    |some s2=>
     rcases hold x s2 e with⟨_,_,e⟩|⟨rfl,_⟩
     ·exact .inr (by rw[e];simp)
     ·exact .inl ⟨rfl,ib0⟩
  ·exact⟨hx.2,by rw[R6 x hx.1.1 hx.2];exact hx.1.2⟩
end
section
variable {P:Program}{Post:Value->World->Prop}{X:Gh}{h:Nat}{u:World}
def vn0 (P:Program) (X:Gh) (h:Nat) (sh:Option c6) (n:Nat) (g:Goroutine):Prop:=match sh with
 |some s'=>Way P (h==0) (X.stay h) s' n g
 |none=>0<h/\∃G,X.l3=some G/\Lt P G n 0 g
theorem Fin.give {g a₂:Goroutine} {s:c6} {j nh:Nat} {v z':Value} (H4:g.status= .running) (hj:X.N1 j=some s) (hjh:j≠h) (ib0:X.dn=0) (hsend:∀w,stepG P (h==0) g w= .comm a₂ #[scase s.ch v z'] true .send w #[])
  (sh:Option c6) (hsh:∀s',sh=some s'->X.B8 s'.ch/\∀i s2,i≠j->X.N1 i=some s2->s2.ch≠s'.ch) (Uw0:vn0 P X h sh nh (Go.Conc.served a₂ undef)) (hF:Fin P Post (X.pass h j sh) j (Go.Conc.served s.me (recvd false v true)) u):Fin P Post X h g u:=by
 have Uu0:∀{live:Nat->Bool} {T T':Trace} {gs:Array Goroutine} {w:World} {q:Nat->Nat},Ring P X h u live T gs w q->Deaf T' h=0->Idle P (X.pass h j sh) live T' h nh (Go.Conc.served a₂ undef):=by
  intro live T T' gs w q C hd;unfold Idle;have:(X.pass h j sh).N1 h=sh:=upd_same _ _ _;rw[this];unfold vn0 at Uw0;cases sh with
  |some s'=>exact Uw0
  |none=>
   obtain⟨h0,G,hG,hL⟩:=Uw0;refine⟨h0,?_⟩;rw[C.by0 h (by omega) (.inr rfl)];simp only[if_true];exact⟨G,hG,by rw[hd];exact hL⟩
 have fin:∀live T gs c5 w q k (g₁:Nat->Nat) (ops:Array MemOp) (fh fj:FuncId) (ph pj:String) sl,Ring P X h u live (T++ops) gs w q->w.heap[s.ch]? =some (.chan 0 #[] false k k false)->c5.size=gs.size->(∀x,x≠h->x≠j->c5[x]? =gs[x]?) ->
   c5[h]? =some (Go.Conc.served a₂ undef)->c5[j]? =some (Go.Conc.served s.me (recvd false v true))->Ends P Post (crowd c5 (w.setChan s.ch 0 #[] false (k+1) (k+1) false) sl) (T++(ops++met h j fh ph fj pj s.ch k 0)):=by
  intro live T gs c5 w q k g₁ ops fh fj ph pj sl C hk I2 Ut0 hH hJ;have hMh:X.Mem h h:=.inl ⟨rfl,ib0⟩;have hMj:X.Mem h j:=.inr (by rw[hj];simp);have p2:=PastH.give C.past hMh hMj fh ph fj pj s.ch k 0;have hD:∀x,Deaf ((T++ops)++met h j fh ph fj pj s.ch k 0) x=Deaf (T++ops) x:=fun x=>Deaf_quiet (met_quiet _ _ _ _ _ _ _ _ _ x);have:=Ring.pass C hj hjh ib0 hk I2 Ut0 hH hD hsh (Uu0 C (by rw[hD];exact C.past.hears h hMh)) p2;rw[<- Array.append_assoc];exact hF _ _ _ _ _ _ hJ this
 have await:∀(μ:Nat) live T gs w sl q,sumTo gs.size q=μ->gs[h]? =some (parked a₂ #[scase s.ch v z'] .send)->0<q j->Ring P X h u live T gs w q->Ends P Post (crowd gs w sl) T:=by
  intro μ
  induction μ using Nat.strongRecOn with
  |_ μ ih=>
   intro live T gs w sl q hμ hg hqj C;have pk0:j<gs.size:=by
    rcases Nat.lt_or_ge j gs.size with z|z
    ·exact z
    ·have:=(C.above j z).2.1;rw[hj]at this;cases this
   have xx0:Way P (j==0) (X.stay j) s (q j) gs[j]:=by
    have:=C.idle j gs[j] hjh (Array.getElem?_eq_getElem pk0);unfold Idle at this;rw[hj]at this;exact this
   have ae1:gs[j].status= .running:=xx0.status.elim (·.1) fun z=>by omega
   obtain⟨i,gi,d,z5,hi,hgi,T2⟩:=crowd_pick (P:=P) (w:=w) (sl:=sl) (C.awake hg (.inr rfl)) ⟨j,gs[j],Array.getElem?_eq_getElem pk0,ae1⟩;have Cd:=C.at d;obtain⟨k,hk⟩:=(Cd.chans s.ch (Cd.n4 j s hj)).2.2;have hih:i≠h:=by rintro rfl;rw[hg]at hi;obtain rfl:=Option.some.inj hi;cases hgi
   by_cases ej:i=j/\js0 P (i==0) s gi
   ·obtain⟨rfl,hat⟩:=ej;have hp:partners (gs.setIfInBounds i ph) s.ch true=[(h,0)]:=by
     rw[partners_one (stand_get (Ne.symm hih) hg) fun x y hxh hy=>by
      rcases getElem?_stand gs i x y hy with⟨_,rfl⟩|⟨_,hy'⟩
      ·exact offersAt_ph _ _
      ·exact(C.idle x y hxh hy').noSend _]
     simp[offersAt_parked_send]
    have hrt:=crowd_recv_meets (sl:=z5) hi (hat.2.2.2.2 (w.at d)) hk (Ne.symm hih) hg hp;refine Ends.step (T2.trans hrt) ?_;rw[show(MemOp.ofEvents i gi.frame.fn gi.frame.place #[]:Array MemOp)=#[] from rfl];refine fin live T gs _ (w.at d) q k (fun _=>0) #[] _ _ _ _ z5 (by simpa using Cd) hk (by simp) (fun x hx hxj=>by rw[Array.getElem?_setIfInBounds_ne (fun z=>hxj z.symm),Array.getElem?_setIfInBounds_ne (fun z=>hx z.symm)]) ?_ ?_
    ·rw[Array.getElem?_setIfInBounds_ne hih,Array.getElem?_setIfInBounds_self_of_lt C.size,finishComm_send]
    ·rw[Array.getElem?_setIfInBounds_self_of_lt (by simpa using pk0),finishComm_recv]
   ·obtain⟨c5,ops,q',w',bo0,hrt,I2,hgh,hqo,hq0,C',Y1,_⟩:=Cd.by_step (sl:=z5) hi hih hgi hg (fun w' hS=>again_send_open (by rw[hS.2.2 s.ch (Cd.n4 j s hj)];exact hk))
     (fun s' hs' hat=>by
      rw[offersAt_parked_send,if_neg];intro ec;have hij:=C.inj i j s' s hs' hj ec.symm;subst hij;rw[hj]at hs';obtain rfl:=Option.some.inj hs';exact ej ⟨rfl,hat⟩)
    refine Ends.step (T2.trans hrt) (ih _ (by rw[I2,<- hμ];exact Y1) bo0 _ c5 w' z5 q' rfl hgh ?_ C');by_cases hij:j=i
    ·subst hij;rcases Nat.eq_zero_or_pos (q' j)with h0|h0
     ·exact absurd ⟨rfl,hq0 s hj h0⟩ ej
     ·exact h0
    ·rw[hqo j hij];exact hqj
 refine Fin.Z9 H4 fun live T gs w sl d z5 q hg T2 C=>?_;have pk0:j<gs.size:=by
  rcases Nat.lt_or_ge j gs.size with z|z
  ·exact z
  ·have:=(C.above j z).2.1;rw[hj]at this;cases this
 have xx0:Way P (j==0) (X.stay j) s (q j) gs[j]:=by
  have:=C.idle j gs[j] hjh (Array.getElem?_eq_getElem pk0);unfold Idle at this;rw[hj]at this;exact this
 obtain⟨k,hk⟩:=(C.chans s.ch (C.n4 j s hj)).2.2;have Ob0:∀(x:Nat) (y:Goroutine),x≠j->(gs.setIfInBounds h ph)[x]? =some y->offersAt y s.ch false=[]:=by
  intro x y hxj hy;rcases getElem?_stand gs h x y hy with⟨_,rfl⟩|⟨hx,hy'⟩
  ·exact offersAt_ph _ _
  ·exact(C.idle x y hx hy').Us0 fun s' hs' p7=>hxj (C.inj x j s' s hs' hj p7)
 rcases xx0.status with⟨hjr,hqj⟩|⟨_,hq0⟩
 ·have hp:partners (gs.setIfInBounds h ph) s.ch false=[]:=partners_nil fun x y hy=>by
   by_cases hxj:x=j
   ·subst hxj;rw[stand_get hjh (Array.getElem?_eq_getElem pk0)]at hy;obtain rfl:=Option.some.inj hy;exact offersAt_of_not_blocked (by rw[hjr];simp) _ _
   ·exact Ob0 x y hxj hy
  have hw:∀cc∈#[scase s.ch v z'],NoWays (w.at d) (gs.setIfInBounds h ph) cc:=by
   intro cc hcc;simp only[List.mem_toArray,List.mem_cons,List.not_mem_nil,or_false]at hcc;subst hcc;exact ways_send_none hk (Nat.le_refl _) hp
  have hrt:=crowd_waits (sl:=z5) hg (hsend (w.at d)) hw;refine Ends.step (T2.trans hrt) ?_;rw[show(MemOp.ofEvents h g.frame.fn g.frame.place #[]:Array MemOp)=#[] from rfl,Array.append_empty];refine await _ live T _ (w.at d) z5 q rfl (Array.getElem?_setIfInBounds_self_of_lt C.size) hqj ?_;exact⟨C.sim,fun x y hx hy=>C.idle x y hx (by rwa [Array.getElem?_setIfInBounds_ne (fun e=>hx e.symm)]at hy),C.free,by simpa using C.size,by simpa using C.num,C.stays,C.chans,C.n4,C.inj,C.G4,C.bi0,C.C8,by simpa using C.l3,C.old,fun x hx=>C.above x (by simpa using hx),by simpa using C.few,C.en0,C.by0,C.dfn,C.past⟩
 ·have hpk:gs[j]=parked s.me #[rcase s.ch s.z] (.recv false):=by rw[hq0]at xx0;exact xx0.1
  have hgj:gs[j]? =some (parked s.me #[rcase s.ch s.z] (.recv false)):=by rw[<- hpk];exact Array.getElem?_eq_getElem pk0
  have hp:partners (gs.setIfInBounds h ph) s.ch false=[(j,0)]:=by
   rw[partners_one (stand_get hjh hgj) fun x y hxj hy=>Ob0 x y hxj hy,offersAt_parked_recv,if_pos rfl];rfl
  have hrt:=crowd_send_meets (sl:=z5) hg (hsend (w.at d)) hk hjh hgj hp;refine Ends.step (T2.trans hrt) ?_;rw[show(MemOp.ofEvents h g.frame.fn g.frame.place #[]:Array MemOp)=#[] from rfl];refine fin live T gs _ (w.at d) q k (fun _=>0) #[] _ _ _ _ z5 (by simpa using C) hk (by simp) (fun x hx hxj=>by rw[Array.getElem?_setIfInBounds_ne (fun z=>hx z.symm),Array.getElem?_setIfInBounds_ne (fun z=>hxj z.symm)]) ?_ ?_
  ·rw[Array.getElem?_setIfInBounds_self_of_lt (by simpa using C.size),finishComm_send]
  ·rw[Array.getElem?_setIfInBounds_ne (Ne.symm hjh),Array.getElem?_setIfInBounds_self_of_lt pk0,finishComm_recv]
end
end
section
attribute [local irreducible] KK
section
variable {P:Program}{Post:Value->World->Prop}{X:Gh}{u:World}
def Gh.hire (X:Gh) (s:c6):Gh:={X with N1:=upd X.N1 0 (some s),pend:=0,n:=X.n+1}
theorem Fin.spawn {g g' child:Goroutine} {s:c6} {nh:Nat} {G:j5} (H4:g.status= .running) (ib0:X.dn=0) (ky0:X.pend=1) (hG:X.l3=some G) (hgo:∀w,stepG P true g w= .spawn g' child w #[])
  (G6:X.B8 s.ch) (l9:∀i s2,X.N1 i=some s2->s2.ch≠s.ch) (vm0:Way P true (X.stay 0) s nh g') (hF:Fin P Post (X.hire s) X.n child u):Fin P Post X 0 g u:=by
 refine Fin.Z9 H4 fun live T gs w sl d z5 q hg T2 C=>?_;have hrt:=runT_crowd_spawn (P:=P) (sl:=z5) (i:=0) hg (hgo (w.at d));have Gx0:(((MemOp.ofEvents 0 g.frame.fn g.frame.place #[]:Array MemOp).push {g:=0,fn:=g.frame.fn,pos:=g.frame.place,act:=.go gs.size}).push {g:=gs.size,fn:=child.frame.fn,pos:=g.frame.place,act:=.start})=
   #[{g:=0,fn:=g.frame.fn,pos:=g.frame.place,act:=.go gs.size},{g:=gs.size,fn:=child.frame.fn,pos:=g.frame.place,act:=.start}]:=rfl
 rw[Gx0]at hrt;refine Ends.step (T2.trans hrt) ?_;have h0:=C.size;have vo0:=C.above gs.size (Nat.le_refl _);have hc0:gs.size≠0:=by omega
 have hD:∀x,Deaf (T ++ #[{g:=0,fn:=g.frame.fn,pos:=g.frame.place,act:=.go gs.size},{g:=gs.size,fn:=child.frame.fn,pos:=g.frame.place,act:=.start}]) x=Deaf T x:=fun x=>Deaf_quiet (fun op W5 d=>by
  simp only[List.mem_toArray,List.mem_cons,List.not_mem_nil,or_false]at W5;rcases W5 with rfl|rfl <;> rfl)
 have p:=PastH.born (c:=gs.size) C.past (.inl ⟨rfl,ib0⟩) vo0.1 (fun l ⟨p,hp,_⟩=>by rw[vo0.2.2.2]at hp;cases hp) (.inl rfl) g.frame.fn g.frame.place child.frame.fn;have R6:∀i,i≠0->(X.hire s).N1 i=X.N1 i:=fun i hi=>upd_ne X.N1 _ hi;have vp0:(X.hire s).N1 0=some s:=upd_same X.N1 0 (some s);have ho0:count (upd live gs.size true) (gs.size+1)=count live gs.size+1:=by
  show sumTo gs.size _+_=_;rw[show sumTo gs.size (fun i=>if upd live gs.size true i=true then 1 else 0)=count live gs.size from Eo0 true (Nat.le_refl _)];show _+(if upd live gs.size true gs.size=true then 1 else 0)=_;rw[upd_same];rfl
 have I2:((gs.setIfInBounds 0 g').push child).size=gs.size+1:=by simp
 refine hF (upd live gs.size true) _ _ _ z5 (upd q 0 nh) (by rw[<- C.num,Array.getElem?_push,if_pos (by simp)]) ?_;rw[<- C.num];refine⟨C.sim,fun x y hx hy=>?_,by rw[R6 _ hc0];exact vo0.2.1,by rw[I2];omega,by rw[I2,C.num];rfl,C.stays,C.chans,fun i s2 e=>?_,fun i i' s1 s2 e1 e2 hc=>?_,C.G4,C.bi0,C.C8,fun G' e=>⟨(C.l3 G' e).1,?_⟩,C.old,fun x hx=>?_,?_,fun i hi=>?_,fun i hi hor=>?_,((hD _).trans vo0.1).trans ib0.symm,?_⟩
 ·have hxl:x<gs.size:=by
   have:=(Array.getElem?_eq_some_iff.1 hy).1;rw[I2]at this;omega
  rw[Array.getElem?_push,if_neg (by simp;omega)]at hy;unfold Idle;by_cases e:x=0
  ·subst e;rw[Array.getElem?_setIfInBounds_self_of_lt h0]at hy;obtain rfl:=Option.some.inj hy;rw[vp0,upd_same];exact vm0
  ·rw[Array.getElem?_setIfInBounds_ne (fun z=>e z.symm)]at hy;rw[R6 x e,hD,upd_ne q nh e,upd_ne live true (show x≠gs.size by omega)];have:=C.idle x y e hy;unfold Idle at this;exact this
 ·by_cases e0:i=0
  ·subst e0;rw[vp0]at e;obtain rfl:=Option.some.inj e;exact G6
  ·rw[R6 i e0]at e;exact C.n4 i s2 e
 ·by_cases a:i=0 <;> by_cases b:i'=0
  ·rw[a,b]
  ·subst a;rw[vp0]at e1;rw[R6 i' b]at e2;obtain rfl:=Option.some.inj e1;exact absurd hc.symm (l9 i' s2 e2)
  ·subst b;rw[vp0]at e2;rw[R6 i a]at e1;obtain rfl:=Option.some.inj e2;exact absurd hc (l9 i s1 e1)
  ·rw[R6 i a]at e1;rw[R6 i' b]at e2;exact C.inj i i' s1 s2 e1 e2 hc
 ·have:=(C.l3 G' e).2;rw[ky0]at this;rw[I2,ho0];exact this
 ·rw[I2]at hx;have:=C.above x (by omega);exact⟨by rw[hD];exact this.1,by rw[R6 x (by omega)];exact this.2.1,by rw[upd_ne live true (by omega)];exact this.2.2.1,this.2.2.2⟩
 ·rw[I2,ho0];have:=C.few;rw[ky0]at this;exact this
 ·by_cases e:i=gs.size
  ·subst e;exact⟨hc0,by show X.l3≠none;rw[hG];simp⟩
  ·rw[upd_ne live true e]at hi;exact C.en0 i hi
 ·by_cases e:i=gs.size
  ·subst e;exact upd_same _ _ _
  ·rw[upd_ne live true e];rw[R6 i hi]at hor;exact C.by0 i hi (.inl (hor.resolve_right e))
 ·refine((p.leave (Us':=Us (upd live gs.size true)) fun x hx=>?_).fewer (Mem':=(X.hire s).Mem gs.size) fun x hx=>?_).loosen fun x hx=>?_
  ·rcases hx with hx|hx
   ·exact .inl (.inl hx)
   ·by_cases e:x=gs.size
    ·exact .inr e
    ·rw[upd_ne live true e]at hx;exact .inl (.inr hx)
  ·rcases hx with⟨e,_⟩|hx
   ·exact .inr e
   ·by_cases e:x=0
    ·exact .inl (.inl ⟨e,ib0⟩)
    ·rw[R6 x e]at hx;exact .inl (.inr hx)
  ·refine⟨fun e=>?_,?_⟩
   ·subst e;exact hx.2 vo0.2.1
   ·rw[R6 x hx.1];exact hx.2
end
end
section
attribute [local irreducible] KK
structure Base (X:Gh) (u:World) (use:Nat->Bool) (T:Trace) (n:Nat) (w:World):Prop where
 sim:∃ρ,l6 ρ (N2 u w.tape w.drawn) w/\∀b,¬X.low b->ρ b=X.k5 b
 free:X.N1 0=none
 size:0<n
 num:n=X.n
 stays:∀i p,p∈X.stay i->u.cell? p.1=some p.2/\u.frozen? p.1=true
 chans:∀c,X.B8 c->dr0 u c/\X.G4 c=none/\∃k,w.heap[c]? =some (.chan 0 #[] false k k false)
 n4:∀i s,X.N1 i=some s->X.B8 s.ch
 inj:∀i j s s',X.N1 i=some s->X.N1 j=some s'->s.ch=s'.ch->i=j
 G4:∀b o,X.G4 b=some o->dr0 u b/\y4 o=false/\∃p y,w.heap[b]? =some y/\dq0 p o y
 bi0:∀G,X.l3=some G->X.low G.blk
 C8:(∀c,X.B8 c->X.low c)/\X.Sep
 cut:∀G,X.l3=some G->Cut u G
 old:∀G∈X.old,Cut u G
 above:∀j,n <=j->Deaf T j=0/\X.N1 j=none/\use j=false/\X.stay j=[]
 en0:∀i,use i=true->i≠0/\X.l3≠none
 by0:∀i,X.N1 i≠none->i≠0->use i=true
 dfn:Deaf T 0=X.dn
 past:PastH X.Sh (Us use) X.St (X.Mem 0) (X.Lo 0) 0 T
section
variable {P:Program}{X:Gh}{u:World}{live use use':Nat->Bool}{T:Trace}{gs:Array Goroutine}{w w':World}{q:Nat->Nat}{n:Nat}
theorem Ring.base (C:Ring P X 0 u live T gs w q):Base X u live T gs.size w :=
 ⟨C.sim,C.free,C.size,C.num,C.stays,C.chans,C.n4,C.inj,C.G4,C.bi0,C.C8,fun G e=>(C.l3 G e).1,C.old,C.above,C.en0,fun i h hi=>C.by0 i hi (.inl h),C.dfn,C.past⟩
theorem Base.ring (B:Base X u live T gs.size w) (hi:∀i g,i≠0->gs[i]? =some g->Idle P X live T i (q i) g) (hg:∀G,X.l3=some G->m8 G (((count live gs.size+X.pend)*KK:Nat):Int) 0 w) (hf:count live gs.size+X.pend <=X.cap/\X.cap <=65536):Ring P X 0 u live T gs w q :=
 ⟨B.sim,hi,B.free,B.size,B.num,B.stays,B.chans,B.n4,B.inj,B.G4,B.bi0,B.C8,fun G e=>⟨B.cut G e,hg G e⟩,B.old,B.above,hf,B.en0,fun i hi h=>h.elim (fun z=>B.by0 i z hi) fun z=>absurd z hi,B.dfn,B.past⟩
theorem Base.Gy0 (B:Base X u use T n w) {i:Nat} {l:Loc} (hl:X.St i l):l.isMemory=true/\¬X.Sh l:=by
 obtain⟨p,hp,rfl⟩:=hl;refine⟨rfl,?_⟩;rintro⟨a',G,hG,ha,hb,ho⟩;simp only[Loc.cell.injEq]at ha;subst ha;have hc:Cut u G:=hG.elim (B.cut G) (B.old G);obtain⟨c,T1,f,hc,hs⟩:=hc;obtain⟨c',T',f',p7,_,hv'⟩:=Z4 (B.stays i p hp).1;rw[hb,hc]at p7;cases p7;have:=(Array.getElem?_eq_some_iff.1 hv').1;omega
def GEv (G:j5) (x:Nat) (e:Event):Prop:=(∀b,(MemAct.ofEvent e).touch? =some b->(∃a,b.loc= .cell a/\a.block=G.blk/\G.off <=a.off)/\b.kind≠.plain/\(x≠0->b.kind= .atomic))/\∀a,e.loc≠.mark (.release a)
theorem eu0 {G:j5} {x:Nat} {e:Event} (h:Ap0 e=true):GEv G x e:=⟨fun b hb=>(by rw[S8 h]at hb;cases hb),fun a ha=>by unfold Ap0 at h;rw[ha]at h;cases h⟩
theorem xy0 {G:j5} {x:Nat} {e:Event} (h:Event.mute e=true):GEv G x e:=⟨fun b hb=>(by rw[touch_mute h]at hb;cases hb),fun a ha=>by
 obtain⟨l,w,s⟩:=e;cases ha;cases h⟩
theorem Base.step (B:Base X u use T n w) {x:Nat} {fn:FuncId} {pos:String} {es:Array Event} {G:j5} (hG:X.l3=some G) (hx:x<n) (hsx:X.N1 x=none) (hes:∀e∈es,GEv G x e) (hu:(∀e∈es,(MemAct.ofEvent e).touch? =none)\/(x=0\/use x=true/\∀k,k<es.size->deafBehind (Deaf T x) (es.extract 0 k)≠0))
  (hus:∀i,use' i=true->use i=true) (hls:∀i,X.N1 i≠none->i≠0->use' i=true) {pend cap dn:Nat} (V9:dn=if x=0 then deafBehind X.dn es else X.dn) (jt0:∃ρ,l6 ρ (N2 u w'.tape w'.drawn) w'/\∀b,¬X.low b->ρ b=X.k5 b) (u9:∀b,b≠G.blk->w'.heap[b]? =w.heap[b]?) :
  Base {X with pend:=pend,cap:=cap,dn:=dn} u use' (T++MemOp.ofEvents x fn pos es) n w':=by
 have hgn:∀b,(X.B8 b\/X.G4 b≠none)->w'.heap[b]? =w.heap[b]?:=fun b hb=>u9 b (fun e=>by
  subst e;have:=B.C8.2 G (.inl hG);exact hb.elim this.1 fun z=>z this.2)
 have fz0:∀op∈MemOp.ofEvents x fn pos es,op.g=x:=G2;have hd0:Deaf (T++MemOp.ofEvents x fn pos es) 0=dn:=by
  by_cases e:x=0
  ·subst e;rw[Deaf_own,B.dfn,V9,if_pos rfl]
  ·rw[Deaf_other T e _ fz0,B.dfn,V9,if_neg e]
 refine⟨jt0,B.free,B.size,B.num,B.stays,fun c hc=>⟨(B.chans c hc).1,(B.chans c hc).2.1,?_⟩,B.n4,B.inj,fun b o e=>?_,B.bi0,B.C8,B.cut,B.old,fun j hj=>?_,fun i hi=>B.en0 i (hus i hi),hls,hd0,?_⟩
 ·obtain⟨k,hk⟩:=(B.chans c hc).2.2;exact⟨k,(hgn c (.inl hc)).trans hk⟩
 ·obtain⟨h1,h2,p,y,h3,h4⟩:=B.G4 b o e;exact⟨h1,h2,p,y,(hgn b (.inr (by have e':X.G4 b=some o:=e;rw[e'];simp))).trans h3,h4⟩
 ·have:=B.above j hj;refine⟨by rw[Deaf_other T (g':=x) (by omega) _ fz0];exact this.1,this.2.1,?_,this.2.2.2⟩;cases e:use' j with
  |false=>rfl
  |true=>have:=hus j e;rw[this]at *;simp_all
 ·have H0:Past X.Sh (Us use) X.St (fun g=>X.N1 g≠none) (X.Lo 0) (Knows T 0) T:=B.past.fewer fun g hg=>.inr hg;have hh:∀g',X.N1 g'≠none->Deaf (T++MemOp.ofEvents x fn pos es) g'=0:=fun g' o7=>by
   rw[Deaf_other T (show x≠g' from fun e=>o7 (by rw[<- e];exact hsx)) _ fz0];exact H0.hears g' o7
  have p1:Past X.Sh (Us use) X.St (fun g=>X.N1 g≠none) (X.Lo 0) (Knows (T++MemOp.ofEvents x fn pos es) 0) (T++MemOp.ofEvents x fn pos es):=by
   rcases hu with hu|hu
   ·exact H0.appMute (g:=x) (fun i=>Knows.app _) (fun op W5=>by obtain⟨e,he,rfl⟩:=Go.Conc.mem_ofEvents W5;exact hu e he) hh
   ·refine H0.Sp0 (g:=x) (hu.elim (fun e=>.inl e) fun e=>.inr e.1) (fun g l hl=>(B.Gy0 hl).2) (fun i=>Knows.app _) fz0 (fun op W5 b hb=>?_) (fun o3 i hi1 hi2=>?_) hh
    ·obtain⟨e,he,rfl⟩:=Go.Conc.mem_ofEvents W5;obtain⟨⟨a,h1,h2,h3⟩,h4⟩:=(hes e he).1 b hb;exact⟨⟨a,G,.inl hG,h1,h2,h3⟩,h4⟩
    ·obtain⟨m,rfl⟩:∃m,i=T.size+m:=⟨i-T.size,by omega⟩
     have hm:m<es.size:=by
      have I2:(MemOp.ofEvents x fn pos es).size=es.size:=by rw[ofEvents_eq];simp
      omega
     rw[Go.Conc.deaf_inside T x fn pos es m (Nat.le_of_lt hm)];exact(hu.resolve_left o3).2 m hm
  refine PastH.still (p1.leave (Us':=Us use') fun g hg=>hg.imp id (hus g)) (fun z=>z.1 rfl) (fun _ _ _=>Iff.rfl) (fun l hl=>B.Gy0 hl) (fun g hg=>?_) (fun hg=>?_)
  ·rcases hg with⟨e,_⟩|hg
   ·exact .inr e
   ·exact .inl hg
  ·rcases hg with⟨_,e⟩|hg
   ·exact hd0.trans e
   ·exact absurd B.free hg
end
end
section
attribute [local irreducible] KK
def so0 (P:Program) (G:j5) (g g':Goroutine) (es:Array Event):Prop :=
 g.status= .running/\g'.status= .running/\(∀e∈es,GEv G 0 e)/\∀w st sm,m8 G st sm w->stepG P true g w= .go g' w es
def Oc0 (P:Program) (G:j5) (K:Goroutine->Prop):Nat->Nat->Goroutine->Prop
 |0,d,g=>d=0/\K g
 |n+1,d,g=>(d=0/\K g)\/∃g' es,so0 P G g g' es/\Oc0 P G K n (deafBehind d es) g'
def Gz0 (P:Program) (G:j5) (K:Goroutine->Prop):Nat->Nat->Goroutine->Prop
 |0,_,_=>False
 |n+1,d,g=>(∃g' es,so0 P G g g' es/\Gz0 P G K n (deafBehind d es) g')\/(g.status= .running/\∀v:Nat,v<2147483647->∃g',g'.status= .running /\
   (∀w,m8 G ((v*KK:Nat):Int) 0 w->stepG P true g w= .go g' (w.setCell (stA G) (.int .u64 (((v+1)*KK:Nat):Int))) #[rdA (stA G),wrA (stA G)])/\Oc0 P G K n d g')
section
variable {P:Program}{Post:Value->World->Prop}{X:Gh}{u:World}{live:Nat->Bool}{T:Trace}{gs:Array Goroutine}{w w':World}{q:Nat->Nat}
theorem Ring.main (C:Ring P X 0 u live T gs w q) {G:j5} (hG:X.l3=some G) {g g':Goroutine} {es:Array Event} (hes:∀e∈es,GEv G 0 e) {pend cap:Nat} (jt0:∃ρ,l6 ρ (N2 u w'.tape w'.drawn) w'/\∀b,¬X.low b->ρ b=X.k5 b) (u9:∀b,b≠G.blk->w'.heap[b]? =w.heap[b]?)
  (hat:m8 G (((count live gs.size+pend)*KK:Nat):Int) 0 w') (hf:count live gs.size+pend <=cap/\cap <=65536) :
  Ring P {X with pend:=pend,cap:=cap,dn:=deafBehind X.dn es} 0 u live (T++MemOp.ofEvents 0 g.frame.fn g.frame.place es) ((gs.map (woken P g g' w')).setIfInBounds 0 g') w' q/\((gs.map (woken P g g' w')).setIfInBounds 0 g')[0]? =some g':=by
 have I2:((gs.map (woken P g g' w')).setIfInBounds 0 g').size=gs.size:=by simp
 refine⟨?_,Array.getElem?_setIfInBounds_self_of_lt (by simpa using C.size)⟩;have B:=C.base.step (fn:=g.frame.fn) (pos:=g.frame.place) (use':=live) (pend:=pend) (cap:=cap) hG C.size C.free hes (.inr (.inl rfl)) (fun _ h=>h) (fun i h hi=>C.by0 i hi (.inl h)) (dn:=deafBehind X.dn es) (by rw[if_pos rfl]) jt0 u9;rw[<- I2]at B;refine B.ring (fun i y hi hy=>?_) (fun G' e=>?_) (by rw[I2];exact hf)
 ·rw[Array.getElem?_setIfInBounds_ne (fun e=>hi e.symm),Array.getElem?_map]at hy;obtain⟨y₀,hy₀,rfl⟩:=Option.map_eq_some_iff.1 hy;have G4:=C.idle i y₀ hi hy₀;rw[woken_of_again (G4.again (w:=w') fun s e=>?_)]
  ·exact G4.other (fun z=>hi z.symm) G2
  ·obtain⟨k,hk⟩:=(C.chans _ (C.n4 i s e)).2.2;exact⟨k,(u9 _ fun e2=>(C.C8.2 G (.inl hG)).1 (e2▸C.n4 i s e)).trans hk⟩
 ·have e':X.l3=some G':=e;rw[hG]at e';obtain rfl:=Option.some.inj e';rw[I2];exact hat
theorem Fin.af1 {G:j5} {g g':Goroutine} {es:Array Event} (hG:X.l3=some G) (hh:so0 P G g g' es) (hF:Fin P Post {X with dn:=deafBehind X.dn es} 0 g' u):Fin P Post X 0 g u:=by
 obtain⟨hr,_,hes,T2⟩:=hh;refine Fin.Z9 hr fun live T gs w sl d z5 q hg A3 C=>?_;have hat:=(C.l3 G hG).2;obtain⟨C',P2⟩:=C.main hG (g:=g) (g':=g') hes (w':=w.at d) C.sim (fun _ _=>rfl) hat C.few;exact Ends.step (A3.trans (runT_crowd_go (sl:=z5) (i:=0) hg (T2 _ _ _ hat))) (hF _ _ _ _ _ _ P2 C')
theorem Fin.ag1 {G:j5} (hG:X.l3=some G) {K:Goroutine->Prop} (hK:∀g,K g->Fin P Post {X with dn:=0} 0 g u):∀(n d:Nat) (g:Goroutine),Oc0 P G K n d g->Fin P Post {X with dn:=d} 0 g u
 |0,d,g,h=>by obtain⟨rfl,h⟩:=h;exact hK g h
 |n+1,d,g,h=>by
  rcases h with⟨rfl,h⟩|⟨g',es,hh,h⟩
  ·exact hK g h
  ·exact Fin.af1 (X:={X with dn:=d}) hG hh (Fin.ag1 hG hK n _ g' h)
theorem ar0 {G:j5} {x:Nat}:∀e∈#[rdA (stA G),wrA (stA G)],GEv G x e:=by
 intro e he;simp only[List.mem_toArray,List.mem_cons,List.not_mem_nil,or_false]at he;refine⟨fun b hb=>?_,by rcases he with rfl|rfl <;> simp[rdA,wrA]⟩;rcases he with rfl|rfl <;> simp[rdA,wrA,MemAct.ofEvent,MemAct.touch?]at hb <;> subst hb <;> exact⟨⟨stA G,rfl,rfl,Nat.le_refl _⟩,by simp,fun _=>rfl⟩
theorem ju0 {G:j5} (d:Nat):deafBehind d #[rdA (stA G),wrA (stA G)]=d:=rfl
theorem Fin.Ha0 {G:j5} (hG:X.l3=some G) (hp:X.pend=0) (hc:X.cap<65536) {K:Goroutine->Prop} (hK:∀g,K g->Fin P Post {X with pend:=1,cap:=X.cap+1,dn:=0} 0 g u):∀(n d:Nat) (g:Goroutine),Gz0 P G K n d g->Fin P Post {X with dn:=d} 0 g u
 |0,d,g,h=>h.elim
 |n+1,d,g,h=>by
  unfold Gz0 at h;rcases h with⟨g',es,hh,h⟩|⟨hr,xw0⟩
  ·exact Fin.af1 (X:={X with dn:=d}) hG hh (Fin.Ha0 hG hp hc hK n _ g' h)
  ·refine Fin.Z9 hr fun live T gs w sl dd z5 q hg A3 C=>?_;have hat:=(C.l3 G hG).2;have pi0:=C.few;have hp':({X with dn:=d}:Gh).pend=0:=hp;rw[hp',Nat.add_zero]at hat pi0;have nq1:count live gs.size <=X.cap:=pi0.1;obtain⟨g',hr',T2,hB⟩:=xw0 (count live gs.size) (by omega);obtain⟨ρ,hs,hlw⟩:=C.sim;have pj0:=(C.l3 G hG).1;obtain⟨ρ',h1,h2⟩:=l6.setSt hs pj0 hat (((count live gs.size+1)*KK:Nat):Int);obtain⟨C',P2⟩:=C.main hG (g:=g) (g':=g') (pend:=1) (cap:=X.cap+1) ar0 (w':=(w.at dd).setCell (stA G) (.int .u64 (((count live gs.size+1)*KK:Nat):Int)))
    ⟨ρ',h1,fun b hb=>(h2 b fun e=>hb (e▸C.bi0 G hG)).trans (hlw b hb)⟩ (fun b hb=>K1 _ _ hb) (hat.setSt _) ⟨by omega,by omega⟩
   refine Ends.step (A3.trans (runT_crowd_go (sl:=z5) (i:=0) hg (T2 _ hat))) ?_;rw[ju0]at C';exact Fin.ag1 (X:={X with pend:=1,cap:=X.cap+1}) hG hK n d g' hB _ _ _ _ _ _ P2 C'
theorem Fin.ends {g:Goroutine} {v:Value} (hr:g.status= .running) (l9:∀i,X.N1 i=none) (gm0:X.cap=0) (T2:∀w,stepG P true g w= .ended (.done v) w #[])
  (ah1:∀ρ w,l6 ρ (N2 u w.tape w.drawn) w->(∀b,¬X.low b->ρ b=X.k5 b)->Post v w):Fin P Post X 0 g u:=by
 refine Fin.Z9 hr fun live T gs w sl d z5 q hg A3 C=>?_;have hz:count live gs.size+X.pend=0:=by have:=C.few;omega
 have mp0:∀i,live i=false:=fun i=>by
  rcases Nat.lt_or_ge i gs.size with hi|hi
  ·cases e:live i with
   |false=>rfl
   |true=>have:=count_le hi e;omega
  ·exact(C.above i hi).2.2.1
 have hq:∀i g,i≠0->gs[i]? =some g->QuitsD P (q i) (Deaf T i) g:=fun i g hi hg=>by
  have:=C.idle i g hi hg;unfold Idle at this;rw[l9 i]at this;simp only[mp0,Bool.false_eq_true,if_false]at this;exact this.2
 have hrt:=runT_many_ended (P:=P) (sl:=z5) (i:=0) hg (T2 (w.at d));rw[show(MemOp.ofEvents 0 g.frame.fn g.frame.place #[]:Array MemOp)=#[] from rfl]at hrt;have mn0:=A3.trans hrt;obtain⟨ρ,hs,hlw⟩:=C.sim;refine⟨0,crowd gs w sl,_,_,T,by simp only[runNT,mn0];simp,rfl,by unfold step;rw[mn0],v,rfl,ah1 ρ (w.at d) hs hlw,C.past.clean,C.past.over (.inl rfl) (fun x hx=>hx.2 (l9 x)),⟨fun x hx=>?_,rfl⟩,fun j x hx hj=>?_⟩
 ·obtain⟨j,hj⟩:=List.mem_iff_getElem?.1 hx;rw[List.getElem?_drop]at hj;exact⟨_,(hq (1+j) x (by omega) (by simpa [crowd]using hj)).leaves⟩
 ·exact⟨q j,(hq j x hj hx).hears _⟩
end
end
section
attribute [local irreducible] KK
section
variable (P:Program)(G:j5)(K:Goroutine->Prop)(E:Nat->Nat->Goroutine->Prop)
def WE:Nat->Nat->Goroutine->Prop
 |0,d,g=>d=0/\K g
 |n+1,d,g=>(d=0/\K g)\/∃g' es,g.status= .running/\(∀e∈es,GEv G 0 e)/\(∀w,m8 G 0 0 w->stepG P true g w= .go g' w es)/\WE n (deafBehind d es) g'
def Hb0 (n d:Nat) (g:Goroutine):Prop :=
 g.status= .running/\g.offers=none/\(∀w st,m8 G st 0 w->stepG P true g w= .go {g with status:=.blocked} w #[])/\∃g',(∀w,m8 G 0 1 w->stepG P true g w= .go g' (w.setCell (smA G) (.int .u32 0)) (semEvents (smA G)))/\E n d g'
def WS:Nat->Nat->Goroutine->Prop
 |0,_,_=>False
 |n+1,d,g=>(∃g' es,so0 P G g g' es/\WS n (deafBehind d es) g')\/(0<d/\Hb0 P G E n d g)
def WH:Nat->Option Nat->Nat->Nat->Goroutine->Prop
 |0,_,_,_,_=>False
 |n+1,o,V,d,g=>(∃g' es,so0 P G g g' es/\WH n o V (deafBehind d es) g')\/(g.status= .running/\match o with
  |none=>∀v:Nat,v <=V->∃g',(∀w,m8 G ((v*KK:Nat):Int) 0 w->stepG P true g w= .go g' w #[rdA (stA G)])/\(v=0->E n d g')/\(v≠0->WH n (some v) V d g')
  |some vs=>(∃g',(∀w,m8 G ((vs*KK:Nat):Int) 0 w->stepG P true g w= .go g' (w.setCell (stA G) (.int .u64 ((vs*KK+1:Nat):Int))) #[rdA (stA G),wrA (stA G)])/\WS P G E n d g') /\
    ∀v:Nat,v<vs->∃g',(∀w,m8 G ((v*KK:Nat):Int) 0 w->stepG P true g w= .go g' w #[rdA (stA G)])/\WH n none v d g')
end
inductive Md where
 |free
 |wait
 |last (i s:Nat)
 |done
def Ep0 (m:Md) (c:Nat):Int×Int:=match m with
 | .free=>(((c*KK:Nat):Int),0)
 | .wait=>(((c*KK+1:Nat):Int),0)
 | .last _ 0=>(0,0)
 | .last _ (_+1)=>(1,0)
 | .done=>(0,1)
def P8 (lv:Nat->Bool) (m:Md) (i:Nat):Bool:=lv i ||(match m with| .last j _=>i==j|_=>false)
def c7 (P:Program) (G:j5) (lv:Nat->Bool) (m:Md) (T:Trace) (i n:Nat) (g:Goroutine):Prop :=
 if lv i then Lt P G n (Deaf T i) g else match m with
  | .last j s=>if i=j then Lst P G n s (Deaf T i) g else QuitsD P n (Deaf T i) g
  |_=>QuitsD P n (Deaf T i) g
def posOf (m:Md) (lv:Nat->Bool) (n:Nat):Prop:=match m with
 | .free=>True
 | .wait=>0<count lv n
 | .last i s=>count lv n=0/\i≠0/\i<n/\lv i=false/\s <=2
 | .done=>count lv n=0
structure Wr (P:Program) (X:Gh) (G:j5) (u:World) (lv:Nat->Bool) (m:Md) (d:Nat) (T:Trace) (gs:Array Goroutine) (w:World) (q:Nat->Nat):Prop where
 base:Base {X with pend:=0,cap:=0,dn:=d} u (P8 lv m) T gs.size w
 l3:X.l3=some G
 empty:∀i,X.N1 i=none
 idle:∀i g,i≠0->gs[i]? =some g->c7 P G lv m T i (q i) g
 W6:m8 G (Ep0 m (count lv gs.size)).1 (Ep0 m (count lv gs.size)).2 w
 pos:posOf m lv gs.size
 few:count lv gs.size <=65536
theorem c7.status {P:Program} {G:j5} {lv:Nat->Bool} {m:Md} {T:Trace} {i n:Nat} {g:Goroutine} (h:c7 P G lv m T i n g):g.status= .running\/g.status= .finished:=by
 unfold c7 at h;split at h
 ·exact .inl h.running
 ·split at h
  ·split at h
   ·exact .inl h.running
   ·exact h.status
  ·exact h.status
theorem c7.other {P:Program} {G:j5} {lv lv':Nat->Bool} {m m':Md} {T:Trace} {i n x:Nat} {g:Goroutine} (h:c7 P G lv m T i n g) (hx:x≠i) {ops:Trace} (fz0:∀op∈ops,op.g=x) (hl:lv' i=lv i) (hm:m'=m\/((∀s,m≠.last i s)/\∀s,m'≠.last i s)):c7 P G lv' m' (T++ops) i n g:=by
 unfold c7 at h⊢;rw[Deaf_other T hx ops fz0,hl];rcases hm with rfl|⟨h1,h2⟩
 ·exact h
 ·cases hlv:lv i with
  |true=>rw[hlv]at h;exact h
  |false=>
   rw[hlv]at h;simp only[Bool.false_eq_true,if_false]at h⊢;have h3:QuitsD P n (Deaf T i) g:=by
    cases m with
    |last j s=>simp only at h;rw[if_neg (fun e=>h1 s (by rw[e]))]at h;exact h
    |_=>exact h
   cases m' with
   |last j s=>simp only;rw[if_neg (fun e=>h2 s (by rw[e]))];exact h3
   |_=>exact h3
section
variable {P:Program}{X:Gh}{G:j5}{u:World}{lv:Nat->Bool}{m:Md}{d:Nat}{T:Trace}{gs:Array Goroutine}{w:World}{q:Nat->Nat}
theorem Wr.move (C:Wr P X G u lv m d T gs w q) {i n:Nat} {g g':Goroutine} {es:Array Event} {w':World} {lv':Nat->Bool} {m':Md} {sl:Option (Nat×Nat)} (hi:gs[i]? =some g) (o3:i≠0) (T2:stepG P false g w= .go g' w' es) (hes:∀e∈es,GEv G i e)
  (hu:(∀e∈es,(MemAct.ofEvent e).touch? =none)\/(P8 lv m i=true/\∀k,k<es.size->deafBehind (Deaf T i) (es.extract 0 k)≠0)) (hus:∀j,P8 lv' m' j=true->P8 lv m j=true) (jt0:∃ρ,l6 ρ (N2 u w'.tape w'.drawn) w'/\∀b,¬X.low b->ρ b=X.k5 b) (u9:∀b,b≠G.blk->w'.heap[b]? =w.heap[b]?)
  (hq:q i=n+1) (mm0:c7 P G lv' m' (T++MemOp.ofEvents i g.frame.fn g.frame.place es) i n g') (hl:∀j,j≠i->lv' j=lv j) (hm:m'=m\/((∀j,j≠i->∀s,m≠.last j s)/\∀j,j≠i->∀s,m'≠.last j s)) (ga0:m8 G (Ep0 m' (count lv' gs.size)).1 (Ep0 m' (count lv' gs.size)).2 w')
  (xv0:posOf m' lv' gs.size) (ho0:count lv' gs.size <=count lv gs.size) :
  ∃c5 ops q',runT P (crowd gs w sl) i=(.next (crowd c5 w' sl),ops)/\c5.size=gs.size/\(∀g0,gs[0]? =some g0->c5[0]? =some (woken P g g' w' g0))/\Wr P X G u lv' m' d (T++ops) c5 w' q'/\sumTo c5.size q'<sumTo gs.size q:=by
 have Y1:i<gs.size:=(Array.getElem?_eq_some_iff.1 hi).1;have hi0:(i==0)=false:=by simpa using o3
 have I2:((gs.map (woken P g g' w')).setIfInBounds i g').size=gs.size:=by simp
 refine⟨_,_,upd q i n,runT_crowd_go (sl:=sl) hi (by rw[hi0];exact T2),I2,fun g0 h0=>?_,⟨?_,C.l3,C.empty,fun x y hx hy=>?_,by rw[I2];exact ga0,by rw[I2];exact xv0,by rw[I2];exact Nat.le_trans ho0 C.few⟩,?_⟩
 ·rw[Array.getElem?_setIfInBounds_ne o3,Array.getElem?_map,h0];rfl
 ·rw[I2];exact C.base.step (fn:=g.frame.fn) (pos:=g.frame.place) (G:=G) C.l3 Y1 (C.empty i) hes (hu.imp id .inr) hus (fun j hj=>absurd (C.empty j) hj) (by rw[if_neg o3]) jt0 u9
 ·by_cases e:x=i
  ·subst e;rw[Array.getElem?_setIfInBounds_self_of_lt (by simpa using Y1)]at hy;obtain rfl:=Option.some.inj hy;rw[upd_same];exact mm0
  ·rw[Array.getElem?_setIfInBounds_ne (fun z=>e z.symm),Array.getElem?_map]at hy;obtain⟨y₀,hy₀,rfl⟩:=Option.map_eq_some_iff.1 hy;have h1:=C.idle x y₀ hx hy₀;rw[woken_of_again (again_of_running h1.status w'),upd_ne q n e];exact h1.other (fun z=>e z.symm) G2 (hl x e) (hm.imp id fun z=>⟨z.1 x e,z.2 x e⟩)
 ·rw[I2];have h2:sumTo gs.size (upd q i n)+(n+1)=sumTo gs.size q+n:=by
   have:=sumTo_upd q n id Y1;simpa [hq]using this
  omega
end
end
section
attribute [local irreducible] KK
theorem lz0 {G:j5} {x:Nat}:∀e∈semEvents (smA G),GEv G x e:=by
 intro e he;simp only[semEvents,List.mem_toArray,List.mem_cons,List.not_mem_nil,or_false]at he;refine⟨fun b hb=>?_,by rcases he with rfl|rfl|rfl|rfl <;> simp⟩;rcases he with rfl|rfl|rfl|rfl <;> simp[MemAct.ofEvent,MemAct.touch?]at hb <;> subst hb <;> exact⟨⟨smA G,rfl,rfl,Nat.le_succ _⟩,by simp,fun _=>rfl⟩
theorem ic0 {G:j5} (d:Nat):deafBehind d (semEvents (smA G))=d:=by
 simp[deafBehind,semEvents]
theorem kz0 {G:j5} {d:Nat} (hd:0<d):∀k,k<(semEvents (smA G)).size->deafBehind d ((semEvents (smA G)).extract 0 k)≠0:=by
 intro k hk;have hk:k<4:=hk;rcases k with _|_|_|_|k <;> first|omega|(simp[semEvents,deafBehind];try omega)
theorem T8 {d:Nat} {es:Array Event} (h:∀e∈es,e.loc≠.mark .disable/\e.loc≠.mark .enable) (k:Nat):deafBehind d (es.extract 0 k)=d :=
 deafBehind_still (fun e he=>h e (by
  obtain⟨j,hj,rfl⟩:=Array.mem_iff_getElem.1 he;simp only[Array.getElem_extract];exact Array.getElem_mem _)) d
theorem jv0 {G:j5} {x:Nat}:∀e∈#[rdA (stA G)],GEv G x e:=by
 intro e he;simp only[List.mem_toArray,List.mem_cons,List.not_mem_nil,or_false]at he;subst he;refine⟨fun b hb=>?_,by simp[rdA]⟩;simp[rdA,MemAct.ofEvent,MemAct.touch?]at hb;subst hb;exact⟨⟨stA G,rfl,rfl,Nat.le_refl _⟩,by simp,fun _=>rfl⟩
theorem Hc0 {G:j5} {x:Nat}:∀e∈#[wrA (stA G)],GEv G x e:=by
 intro e he;simp only[List.mem_toArray,List.mem_cons,List.not_mem_nil,or_false]at he;subst he;refine⟨fun b hb=>?_,by simp[wrA]⟩;simp[wrA,MemAct.ofEvent,MemAct.touch?]at hb;subst hb;exact⟨⟨stA G,rfl,rfl,Nat.le_refl _⟩,by simp,fun _=>rfl⟩
theorem ma0 {a:Addr}:∀e∈#[rdA a,wrA a],e.loc≠.mark .disable/\e.loc≠.mark .enable:=by
 intro e he;simp only[List.mem_toArray,List.mem_cons,List.not_mem_nil,or_false]at he;rcases he with rfl|rfl <;> exact⟨by simp[rdA,wrA],by simp[rdA,wrA]⟩
theorem v9 {a:Addr}:∀e∈#[rdA a],e.loc≠.mark .disable/\e.loc≠.mark .enable:=by
 intro e he;simp only[List.mem_toArray,List.mem_cons,List.not_mem_nil,or_false]at he;subst he;exact⟨by simp[rdA],by simp[rdA]⟩
theorem id0 {a:Addr}:∀e∈#[wrA a],e.loc≠.mark .disable/\e.loc≠.mark .enable:=by
 intro e he;simp only[List.mem_toArray,List.mem_cons,List.not_mem_nil,or_false]at he;subst he;exact⟨by simp[wrA],by simp[wrA]⟩
section
variable {P:Program}{X:Gh}{G:j5}{u:World}{lv:Nat->Bool}{m:Md}{d:Nat}{T:Trace}{gs:Array Goroutine}{w:World}{q:Nat->Nat}
theorem xz0 (P:Program) (g g':Goroutine) (w':World) (g0:Goroutine):woken P g g' w' g0=g0\/woken P g g' w' g0=g0.again w':=by
 unfold woken;split
 ·exact .inr rfl
 ·exact .inl rfl
theorem Wr.mq0 (C:Wr P X G u lv m d T gs w q) (v:Int):∃ρ,l6 ρ (N2 u (w.setCell (stA G) (.int .u64 v)).tape (w.setCell (stA G) (.int .u64 v)).drawn) (w.setCell (stA G) (.int .u64 v))/\∀b,¬X.low b->ρ b=X.k5 b:=by
 obtain⟨ρ,hs,hlw⟩:=C.base.sim;obtain⟨ρ',h1,h2⟩:=l6.setSt hs (C.base.cut G C.l3) C.W6 v;exact⟨ρ',h1,fun b hb=>(h2 b fun e=>hb (e▸C.base.bi0 G C.l3)).trans (hlw b hb)⟩
theorem Wr.Hd0 (C:Wr P X G u lv m d T gs w q) (v:Int):∃ρ,l6 ρ (N2 u (w.setCell (smA G) (.int .u32 v)).tape (w.setCell (smA G) (.int .u32 v)).drawn) (w.setCell (smA G) (.int .u32 v))/\∀b,¬X.low b->ρ b=X.k5 b:=by
 obtain⟨ρ,hs,hlw⟩:=C.base.sim;obtain⟨ρ',h1,h2⟩:=l6.setSm hs (C.base.cut G C.l3) C.W6 v;exact⟨ρ',h1,fun b hb=>(h2 b fun e=>hb (e▸C.base.bi0 G C.l3)).trans (hlw b hb)⟩
def He0 (P:Program) (X:Gh) (G:j5) (u:World) (lv:Nat->Bool) (m:Md) (d:Nat) (T:Trace) (gs:Array Goroutine) (w:World) (q:Nat->Nat) (i:Nat) (sl:Option (Nat×Nat)):Prop :=
 ∃c5 ops q' w' lv' m',runT P (crowd gs w sl) i=(.next (crowd c5 w' sl),ops)/\c5.size=gs.size/\(∀g0,gs[0]? =some g0->c5[0]? =some g0\/c5[0]? =some (g0.again w'))/\Wr P X G u lv' m' d (T++ops) c5 w' q'/\sumTo c5.size q'<sumTo gs.size q /\
   count lv' c5.size <=count lv gs.size/\(m= .free↔m'= .free)/\(m'= .done->m= .done\/∀g0,gs[0]? =some g0->c5[0]? =some (g0.again w'))
theorem Wr.by (C:Wr P X G u lv m d T gs w q) {i:Nat} {g:Goroutine} {sl:Option (Nat×Nat)} (hi:gs[i]? =some g) (o3:i≠0) (H4:g.status= .running) :
  He0 P X G u lv m d T gs w q i sl:=by
 have Y1:i<gs.size:=(Array.getElem?_eq_some_iff.1 hi).1;have G4:=C.idle i g o3 hi;have pack:∀{g':Goroutine} {w':World} {lv':Nat->Bool} {m':Md} {es:Array Event},(∃c5 ops q',runT P (crowd gs w sl) i=(.next (crowd c5 w' sl),ops)/\c5.size=gs.size/\(∀g0,gs[0]? =some g0->c5[0]? =some (woken P g g' w' g0))/\Wr P X G u lv' m' d (T++ops) c5 w' q'/\sumTo c5.size q'<sumTo gs.size q) ->
   count lv' gs.size <=count lv gs.size->(m= .free↔m'= .free)->(m'= .done->m= .done\/∀g0,woken P g g' w' g0=g0.again w')->He0 P X G u lv m d T gs w q i sl:=by
  rintro g' w' lv' m' es ⟨c5,ops,q',h1,h2,h3,h4,h5⟩ hc hf hd;refine⟨c5,ops,q',w',lv',m',h1,h2,fun g0 h0=>?_,h4,h5,by rw[h2];exact hc,hf,fun e=>(hd e).imp id fun z g0 h0=>?_⟩
  ·rw[h3 g0 h0];rcases xz0 P g g' w' g0 with e|e <;> rw[e]
   ·exact .inl rfl
   ·exact .inr rfl
  ·rw[h3 g0 h0,z g0]
 unfold c7 at G4;cases hl:lv i with
 |true=>
  rw[hl]at G4;simp only[if_true]at G4;have xv0:=count_le Y1 hl;cases hq:q i with
  |zero=>rw[hq]at G4;exact G4.elim
  |succ k=>
   rw[hq]at G4;unfold Lt at G4;rcases G4 with⟨g',es,⟨_,hsy,A3⟩,hL⟩|⟨_,hd0,xw0⟩
   ·refine pack (es:=es) (C.move (sl:=sl) hi o3 (A3 w _ _ C.W6) (fun e he=>eu0 (hsy e he)) (.inl fun e he=>S8 (hsy e he)) (fun _ h=>h) C.base.sim (fun _ _=>rfl) hq ?_ (fun _ _=>rfl) (.inl rfl) C.W6 C.pos (Nat.le_refl _)) (Nat.le_refl _) Iff.rfl fun e=>.inl e;unfold c7;rw[hl,if_pos rfl,Deaf_own];exact hL
   ·have ho0:=sh0 hl Y1;generalize hv:count (upd lv i false) gs.size=v at ho0;have hvb:v<2147483647:=by have:=C.few;omega
    have hdf:P8 lv m i=true/\∀j,j < #[rdA (stA G),wrA (stA G)].size->deafBehind (Deaf T i) (#[rdA (stA G),wrA (stA G)].extract 0 j)≠0:=⟨by unfold P8;rw[hl];rfl,fun j _=>by rw[T8 ma0];omega⟩
    have hdd:Deaf (T++MemOp.ofEvents i g.frame.fn g.frame.place #[rdA (stA G),wrA (stA G)]) i=Deaf T i:=by rw[Deaf_own];exact deafBehind_still ma0 _
    have hus:∀(m':Md),(∀j s,m'= .last j s->j=i)->(∀j s,m≠.last j s)->∀j,P8 (upd lv i false) m' j=true->P8 lv m j=true:=fun m' hm1 hm2 j hj=>by
     unfold P8 at hj⊢;by_cases e:j=i
     ·subst e;rw[hl];rfl
     ·rw[upd_ne lv false e]at hj;cases h2:lv j with
      |true=>rfl
      |false=>
       rw[h2]at hj;cases m' with
       |last j' s'=>have:=hm1 j' s' rfl;subst this;simp[e]at hj
       |_=>simp at hj
    cases m with
    |free=>
     obtain⟨g',A3,ia0,_⟩:=xw0 v 0 (by omega) hvb;have hg:m8 G (((v+1)*KK+0:Nat):Int) 0 w:=by have:=C.W6;rw[ho0]at this;exact this
     have T2:=A3 w hg;rw[Nat.add_zero]at T2;refine pack (es:=#[rdA (stA G),wrA (stA G)]) (C.move (sl:=sl) (m':=.free) (lv':=upd lv i false) hi o3 T2 ar0 (.inr hdf) (hus .free (fun _ _ e=>by cases e) (fun _ _ e=>by cases e)) (C.mq0 _) (fun b hb=>K1 _ _ hb) hq ?_ (fun j hj=>upd_ne lv false hj) (.inl rfl) ?_ trivial (by omega)) (by omega) Iff.rfl fun e=>.inl e
     ·unfold c7;rw[upd_same,if_neg (by simp),hdd];exact ia0 (by omega)
     ·have:=C.W6.setSt ((v*KK:Nat):Int);rw[hv];exact this
    |wait=>
     obtain⟨g',A3,ia0,Hf0⟩:=xw0 v 1 (by omega) hvb;have hg:m8 G (((v+1)*KK+1:Nat):Int) 0 w:=by have:=C.W6;rw[ho0]at this;exact this
     have T2:=A3 w hg;by_cases hv0:v=0
     ·subst hv0;refine pack (es:=#[rdA (stA G),wrA (stA G)]) (C.move (sl:=sl) (m':=.last i 2) (lv':=upd lv i false) hi o3 T2 ar0 (.inr hdf) (hus (.last i 2) (fun j s e=>by cases e;rfl) (fun _ _ e=>by cases e)) (C.mq0 _) (fun b hb=>K1 _ _ hb) hq ?_ (fun j hj=>upd_ne lv false hj)
       (.inr ⟨fun j _ s e=>(by cases e),fun j hj s e=>(by cases e;exact hj rfl)⟩) ?_ ⟨hv,o3,Y1,upd_same _ _ _,Nat.le_refl _⟩ (by omega)) (by omega) ⟨fun e=>(by cases e),fun e=>(by cases e)⟩ fun e=>by cases e
      ·unfold c7;rw[upd_same,if_neg (by simp)];simp only[if_true];rw[hdd];exact Hf0 ⟨rfl,rfl⟩
      ·have:=C.W6.setSt ((0*KK+1:Nat):Int);have e1:((0*KK+1:Nat):Int)=1:=by rw[Nat.zero_mul];rfl
       rw[e1]at this⊢;exact this
     ·refine pack (es:=#[rdA (stA G),wrA (stA G)]) (C.move (sl:=sl) (m':=.wait) (lv':=upd lv i false) hi o3 T2 ar0 (.inr hdf) (hus .wait (fun _ _ e=>by cases e) (fun _ _ e=>by cases e)) (C.mq0 _) (fun b hb=>K1 _ _ hb) hq ?_ (fun j hj=>upd_ne lv false hj) (.inl rfl) ?_ (by show 0<count _ _;omega) (by omega)) (by omega) Iff.rfl fun e=>.inl e
      ·unfold c7;rw[upd_same,if_neg (by simp),hdd];exact ia0 (by omega)
      ·have:=C.W6.setSt ((v*KK+1:Nat):Int);rw[hv];exact this
    |last j s=>have:=C.pos.1;omega
    |done=>have:count lv gs.size=0:=C.pos;omega
 |false=>
  rw[hl]at G4;simp only[Bool.false_eq_true,if_false]at G4;have quit:QuitsD P (q i) (Deaf T i) g->(∀s,m≠.last i s)->He0 P X G u lv m d T gs w q i sl:=fun hQ hml=>by
   cases hq:q i with
   |zero=>rw[hq]at hQ;rw[hQ.1]at H4;cases H4
   |succ k=>
    rw[hq]at hQ;rcases hQ with⟨hf,_⟩|⟨_,g',es,hm,A3,hQ⟩
    ·rw[hf]at H4;cases H4
    ·refine pack (es:=es) (C.move (sl:=sl) hi o3 (A3 w) (fun e he=>xy0 (hm e he)) (.inl fun e he=>touch_mute (hm e he)) (fun _ h=>h) C.base.sim (fun _ _=>rfl) hq ?_ (fun _ _=>rfl) (.inl rfl) C.W6 C.pos (Nat.le_refl _)) (Nat.le_refl _) Iff.rfl fun e=>.inl e;unfold c7;rw[hl,if_neg (by simp),Deaf_own];cases m with
     |last j s=>simp only;rw[if_neg (fun e=>hml s (by rw[e]))];exact hQ
     |_=>exact hQ
  cases m with
  |last j s=>
   simp only at G4;by_cases hij:i=j
   ·subst hij;rw[if_pos rfl]at G4;obtain⟨hc0,_,_,_,hs2⟩:=C.pos;have Ux0:P8 lv (.last i s) i=true:=by unfold P8;simp
    cases hq:q i with
    |zero=>rw[hq]at G4;exact G4.elim
    |succ k=>
     rw[hq]at G4;unfold Lst at G4;obtain⟨hd0,G4⟩:=G4;rcases G4 with⟨g',es,⟨_,hsy,A3⟩,hnm,hL⟩|⟨_,G4⟩
     ·refine pack (es:=es) (C.move (sl:=sl) hi o3 (A3 w _ _ C.W6) (fun e he=>eu0 (hsy e he)) (.inl fun e he=>S8 (hsy e he)) (fun _ h=>h) C.base.sim (fun _ _=>rfl) hq ?_ (fun _ _=>rfl) (.inl rfl) C.W6 C.pos (Nat.le_refl _)) (Nat.le_refl _) Iff.rfl fun e=>.inl e;unfold c7;rw[hl,if_neg (by simp)];simp only[if_true];rw[Deaf_own,deafBehind_still hnm];exact hL
     ·rcases s with _|_|_|s
      ·
       simp only at G4;obtain⟨hwk,g',A3,hQ⟩:=G4;have T2:=A3 w C.W6;refine pack (es:=semEvents (smA G)) (C.move (sl:=sl) (m':=.done) (lv':=lv) hi o3 T2 lz0 (.inr ⟨Ux0,kz0 hd0⟩) (fun j hj=>by unfold P8 at hj⊢;simp at hj;rw[hj];rfl) (C.Hd0 _) (fun b hb=>K1 _ _ hb) hq ?_ (fun _ _=>rfl) (.inr ⟨fun j hj s e=>(by cases e;exact hj rfl),fun j _ s e=>(by cases e)⟩) (C.W6.setSm _) hc0 (Nat.le_refl _)) (Nat.le_refl _) ⟨fun e=>(by cases e),fun e=>(by cases e)⟩ fun _=>.inr fun g0=>?_
       ·unfold c7;rw[hl,if_neg (by simp),Deaf_own,ic0];exact hQ
       ·unfold woken;rw[if_pos];rw[hwk];rcases hQ.status with e|e <;> rw[e] <;> rfl
      ·simp only at G4;obtain⟨g',A3,hL⟩:=G4;have T2:=A3 w C.W6;refine pack (es:=#[wrA (stA G)]) (C.move (sl:=sl) (m':=.last i 0) (lv':=lv) hi o3 T2 Hc0 (.inr ⟨Ux0,fun j _=>by rw[T8 id0];omega⟩) (fun j hj=>hj) (C.mq0 _) (fun b hb=>K1 _ _ hb) hq ?_ (fun _ _=>rfl) (.inr ⟨fun j hj s e=>(by cases e;exact hj rfl),fun j hj s e=>(by cases e;exact hj rfl)⟩) (C.W6.setSt _) ⟨hc0,o3,Y1,hl,by omega⟩ (Nat.le_refl _)) (Nat.le_refl _) ⟨fun e=>(by cases e),fun e=>(by cases e)⟩ fun e=>by cases e
       unfold c7;rw[hl,if_neg (by simp)];simp only[if_true];rw[Deaf_own,deafBehind_still id0];exact hL
      ·simp only at G4;obtain⟨g',A3,hL⟩:=G4;have T2:=A3 w C.W6;refine pack (es:=#[rdA (stA G)]) (C.move (sl:=sl) (m':=.last i 1) (lv':=lv) hi o3 T2 jv0 (.inr ⟨Ux0,fun j _=>by rw[T8 v9];omega⟩) (fun j hj=>hj) C.base.sim (fun b hb=>rfl) hq ?_ (fun _ _=>rfl) (.inr ⟨fun j hj s e=>(by cases e;exact hj rfl),fun j hj s e=>(by cases e;exact hj rfl)⟩) C.W6 ⟨hc0,o3,Y1,hl,by omega⟩ (Nat.le_refl _)) (Nat.le_refl _) ⟨fun e=>(by cases e),fun e=>(by cases e)⟩ fun e=>by cases e
       unfold c7;rw[hl,if_neg (by simp)];simp only[if_true];rw[Deaf_own,deafBehind_still v9];exact hL
      ·omega
   ·rw[if_neg hij]at G4;exact quit G4 fun s' e=>by cases e;exact hij rfl
  |free=>exact quit G4 fun s e=>by cases e
  |wait=>exact quit G4 fun s e=>by cases e
  |done=>exact quit G4 fun s e=>by cases e
end
end
section
attribute [local irreducible] KK
theorem mr0 {lv:Nat->Bool}:∀{n:Nat},0<count lv n->∃i,i<n/\lv i=true
 |0,h=>by simp[count,sumTo]at h
 |n+1,h=>by
  cases e:lv n with
  |true=>exact⟨n,by omega,e⟩
  |false=>
   have:count lv (n+1)=count lv n:=by
    show sumTo n _+(if lv n then 1 else 0)=_;rw[e];rfl
   obtain⟨i,h1,h2⟩:=mr0 (n:=n) (by rw[<- this];exact h);exact⟨i,by omega,h2⟩
theorem ms0 (lv:Nat->Bool):P8 lv .free=lv:=funext fun i=>by unfold P8;simp
section
variable {P:Program}{Post:Value->World->Prop}{X:Gh}{G:j5}{u:World}{lv:Nat->Bool}{m:Md}{d:Nat}{T:Trace}{gs:Array Goroutine}{w:World}{q:Nat->Nat}{K:Goroutine->Prop}
theorem Fin.we (hG:X.l3=some G) (hK:∀g,K g->Fin P Post {X with pend:=0,cap:=0,dn:=0} 0 g u):∀(n d:Nat) (g:Goroutine),WE P G K n d g->Fin P Post {X with pend:=0,cap:=0,dn:=d} 0 g u
 |0,d,g,h=>by obtain⟨rfl,h⟩:=h;exact hK g h
 |n+1,d,g,h=>by
  rcases h with⟨rfl,h⟩|⟨g',es,hr,hes,T2,h⟩
  ·exact hK g h
  ·refine Fin.Z9 hr fun live T gs w sl dd z5 q hg A3 C=>?_;have hat:=(C.l3 G hG).2;have pi0:=C.few;have hc:count live gs.size=0:=by have h1:count live gs.size+0 <=0:=pi0.1;omega
   have hz:(((count live gs.size+0)*KK:Nat):Int)=0:=by rw[hc,Nat.zero_add,Nat.zero_mul];rfl
   have hx1:m8 G 0 0 (w.at dd):=by have h2:m8 G (((count live gs.size+0)*KK:Nat):Int) 0 (w.at dd):=hat;rw[hz]at h2;exact h2
   obtain⟨C',P2⟩:=C.main hG (g:=g) (g':=g') (pend:=0) (cap:=0) hes (w':=w.at dd) C.sim (fun _ _=>rfl) hat pi0;exact Ends.step (A3.trans (runT_crowd_go (sl:=z5) (i:=0) hg (T2 _ hx1))) (Fin.we hG hK n _ g' h _ _ _ _ _ _ P2 C')
theorem Wr.toRing (C:Wr P X G u lv .free d T gs w q) (hc:count lv gs.size=0):Ring P {X with pend:=0,cap:=0,dn:=d} 0 u lv T gs w q:=by
 have B:=C.base;rw[ms0]at B;refine B.ring (fun i g hi hg=>?_) (fun G' e=>?_) ⟨?_,by show(0:Nat) <=65536;omega⟩
 ·have:=C.idle i g hi hg;have Y1:i<gs.size:=(Array.getElem?_eq_some_iff.1 hg).1;have hl:lv i=false:=by
   cases e:lv i with
   |false=>rfl
   |true=>have:=count_le Y1 e;omega
  unfold c7 at this;unfold Idle;rw[show({X with pend:=0,cap:=0,dn:=d}:Gh).N1 i=none from C.empty i];rw[hl]at this⊢;simp only[Bool.false_eq_true,if_false]at this⊢;exact⟨by omega,this⟩
 ·have e':X.l3=some G':=e;rw[C.l3]at e';obtain rfl:=Option.some.inj e';have:=C.W6;exact this
 ·show count lv gs.size+0 <=0;omega
theorem Wr.at (C:Wr P X G u lv m d T gs w q) (k:Nat):Wr P X G u lv m d T gs (w.at k) q :=
 ⟨⟨let⟨ρ,hs,hl⟩:=C.base.sim;⟨ρ,l6.at hs k,hl⟩,C.base.free,C.base.size,C.base.num,C.base.stays,C.base.chans,C.base.n4,C.base.inj,C.base.G4,C.base.bi0,C.base.C8,C.base.cut,C.base.old,C.base.above,C.base.en0,C.base.by0,C.base.dfn,C.base.past⟩,C.l3,C.empty,C.idle,C.W6,C.pos,C.few⟩
theorem Wr.awake (C:Wr P X G u lv m d T gs w q) {a:Goroutine} (ha:gs[0]? =some a) (hs:a.status= .running\/a.status= .blocked):∀g∈gs,awake g:=by
 intro g hg;obtain⟨i,hi,rfl⟩:=Array.mem_iff_getElem.1 hg;by_cases e:i=0
 ·subst e;have:gs[0]=a:=by simpa [Array.getElem?_eq_getElem hi]using ha
  rw[this];exact awake_of (hs.elim .inl fun x=>.inr (.inl x))
 ·exact awake_of ((C.idle i _ e (Array.getElem?_eq_getElem hi)).status.elim .inl fun x=>.inr (.inr x))
theorem Wr.main (C:Wr P X G u lv m d T gs w q) {g g':Goroutine} {es:Array Event} {w':World} {m':Md} (hes:∀e∈es,GEv G 0 e) (jt0:∃ρ,l6 ρ (N2 u w'.tape w'.drawn) w'/\∀b,¬X.low b->ρ b=X.k5 b) (u9:∀b,b≠G.blk->w'.heap[b]? =w.heap[b]?)
  (hm:m'=m\/((∀j s,m≠.last j s)/\∀j s,m'≠.last j s)) (ga0:m8 G (Ep0 m' (count lv gs.size)).1 (Ep0 m' (count lv gs.size)).2 w') (xv0:posOf m' lv gs.size) :
  Wr P X G u lv m' (deafBehind d es) (T++MemOp.ofEvents 0 g.frame.fn g.frame.place es) ((gs.map (woken P g g' w')).setIfInBounds 0 g') w' q/\((gs.map (woken P g g' w')).setIfInBounds 0 g')[0]? =some g':=by
 have I2:((gs.map (woken P g g' w')).setIfInBounds 0 g').size=gs.size:=by simp
 have hus:∀j,P8 lv m' j=true->P8 lv m j=true:=fun j hj=>by
  rcases hm with rfl|⟨h1,h2⟩
  ·exact hj
  ·unfold P8 at hj⊢;cases m' with
   |last j s=>exact absurd rfl (h2 j s)
   |_=>simp at hj;rw[hj];rfl
 refine⟨⟨?_,C.l3,C.empty,fun x y hx hy=>?_,by rw[I2];exact ga0,by rw[I2];exact xv0,by rw[I2];exact C.few⟩,Array.getElem?_setIfInBounds_self_of_lt (by simpa using C.base.size)⟩
 ·rw[I2];exact C.base.step (fn:=g.frame.fn) (pos:=g.frame.place) (G:=G) C.l3 C.base.size (C.empty 0) hes (.inr (.inl rfl)) hus (fun j hj=>absurd (C.empty j) hj) (by rw[if_pos rfl]) jt0 u9
 ·rw[Array.getElem?_setIfInBounds_ne (fun z=>hx z.symm),Array.getElem?_map]at hy;obtain⟨y₀,hy₀,rfl⟩:=Option.map_eq_some_iff.1 hy;have h1:=C.idle x y₀ hx hy₀;rw[woken_of_again (again_of_running h1.status w')];exact h1.other (fun z=>hx z.symm) G2 rfl (hm.imp id fun z=>⟨z.1 x,z.2 x⟩)
theorem again_blocked {g:Goroutine} (hr:g.status= .running) (ho:g.offers=none) (w:World):({g with status:=.blocked}:Goroutine).again w=g:=by
 cases g;simp only at hr ho;subst hr;subst ho;rfl
theorem Fin.sem (hG:X.l3=some G) (hK:∀g,K g->Fin P Post {X with pend:=0,cap:=0,dn:=0} 0 g u):∀(μ n d:Nat) (g:Goroutine) (b:Bool) lv m T gs w sl q,μ=3*sumTo gs.size q+3*n+(if b then 1 else 0)->Wr P X G u lv m d T gs w q->m≠.free ->
  (if b then gs[0]? =some g/\WS P G (WE P G K) n d g else m≠.done/\gs[0]? =some {g with status:=.blocked}/\∃k,n=k+1/\0<d/\Hb0 P G (WE P G K) k d g)->Ends P Post (crowd gs w sl) T:=by
 intro μ
 induction μ using Nat.strongRecOn with
 |_ μ ih=>
  intro n d g b lv m T gs w sl q hμ C hmf hb;have ya0:(∃(i:Nat) (g:Goroutine),gs[i]? =some g/\g.status= .running)/\∀g∈gs,awake g:=by
   cases b with
   |true=>
    obtain⟨h0,hW⟩:=hb;have hr:g.status= .running:=by
     cases n with
     |zero=>exact hW.elim
     |succ n=>
      rcases hW with⟨_,_,hh,_⟩|⟨_,hh⟩
      ·exact hh.1
      ·exact hh.1
    exact⟨⟨0,g,h0,hr⟩,C.awake h0 (.inl hr)⟩
   |false=>
    obtain⟨hmd,h0,k,_,_,_⟩:=hb;refine⟨?_,C.awake h0 (.inr rfl)⟩;cases m with
    |free=>exact absurd rfl hmf
    |done=>exact absurd rfl hmd
    |wait=>
     obtain⟨i,hi,hl⟩:=mr0 (show 0<count lv gs.size from C.pos);have hi0:i≠0:=(C.base.en0 i (by unfold P8;rw[hl];rfl)).1;have:=C.idle i gs[i] hi0 (Array.getElem?_eq_getElem hi);unfold c7 at this;rw[hl,if_pos rfl]at this;exact⟨i,gs[i],Array.getElem?_eq_getElem hi,this.running⟩
    |last i s=>
     obtain⟨_,hi0,hi,hl,_⟩:=C.pos;have:=C.idle i gs[i] hi0 (Array.getElem?_eq_getElem hi);unfold c7 at this;rw[hl,if_neg (by simp)]at this;simp only[if_true]at this;exact⟨i,gs[i],Array.getElem?_eq_getElem hi,this.running⟩
  obtain⟨i,gi,dd,z5,hi,hgi,T2⟩:=crowd_pick (P:=P) (w:=w) (sl:=sl) ya0.2 ya0.1;have Cd:=C.at dd;by_cases e:i=0
  ·subst e;cases b with
   |false=>obtain⟨_,h0,_⟩:=hb;rw[h0]at hi;obtain rfl:=Option.some.inj hi;cases hgi
   |true=>
    obtain⟨h0,hW⟩:=hb;rw[h0]at hi;obtain rfl:=Option.some.inj hi;cases n with
    |zero=>exact hW.elim
    |succ n=>
     rcases hW with⟨g',es,⟨_,_,hes,A3⟩,hW⟩|⟨hd0,hr,ho,vq0,g',Hg0,hE⟩
     ·obtain⟨C',P2⟩:=Cd.main (g:=g) (g':=g') (m':=m) hes Cd.base.sim (fun _ _=>rfl) (.inl rfl) Cd.W6 Cd.pos;exact Ends.step (T2.trans (runT_crowd_go (sl:=z5) (i:=0) h0 (A3 _ _ _ Cd.W6))) (ih _ (by simp only[Array.size_setIfInBounds,Array.size_map];rw[hμ];simp only[if_true];omega) n _ g' true lv m _ _ _ z5 q rfl C' hmf ⟨P2,hW⟩)
     ·have blk:m≠.done->(∃st,m8 G st 0 (w.at dd))->Ends P Post (crowd gs w sl) T:=fun hmd ⟨st,hat⟩=>by
       have hgo:=vq0 _ _ hat;have hrt:=runT_crowd_go (P:=P) (sl:=z5) (i:=0) h0 hgo;rw[show(MemOp.ofEvents 0 g.frame.fn g.frame.place #[]:Array MemOp)=#[] from rfl]at hrt;obtain⟨C',P2⟩:=Cd.main (g:=g) (g':={g with status:=.blocked}) (es:=#[]) (m':=m) (fun e he=>by simp at he) Cd.base.sim (fun _ _=>rfl) (.inl rfl) Cd.W6 Cd.pos;rw[show(MemOp.ofEvents 0 g.frame.fn g.frame.place #[]:Array MemOp)=#[] from rfl]at C';exact Ends.step (T2.trans hrt) (ih _ (by simp only[Array.size_setIfInBounds,Array.size_map];rw[hμ];simp) (n+1) d g false lv m _ _ _ z5 q rfl C' hmf ⟨hmd,P2,n,rfl,hd0,hr,ho,vq0,g',Hg0,hE⟩)
      cases m with
      |free=>exact absurd rfl hmf
      |wait=>exact blk (fun e=>by cases e) ⟨_,Cd.W6⟩
      |last i s=>exact blk (fun e=>by cases e) (by
        have:=Cd.W6;cases s with
        |zero=>exact⟨_,this⟩
        |succ s=>exact⟨_,this⟩)
      |done=>
       obtain⟨C',P2⟩:=Cd.main (g:=g) (g':=g') (es:=semEvents (smA G)) (m':=.free) (w':=(w.at dd).setCell (smA G) (.int .u32 0)) lz0 (Cd.Hd0 0) (fun b hb=>K1 _ _ hb) (.inr ⟨fun j s e=>(by cases e),fun j s e=>(by cases e)⟩)
        (by
         have h1:count lv gs.size=0:=Cd.pos;have h2:m8 G 0 0 _:=Cd.W6.setSm 0;have h3:(((count lv gs.size)*KK:Nat):Int)=0:=by rw[h1,Nat.zero_mul];rfl
         show m8 G (((count lv gs.size)*KK:Nat):Int) 0 _;rw[h3];exact h2) trivial
       rw[ic0]at C';have R:=C'.toRing (by simp only[Array.size_setIfInBounds,Array.size_map];exact Cd.pos);exact Ends.step (T2.trans (runT_crowd_go (sl:=z5) (i:=0) h0 (Hg0 _ Cd.W6))) (Fin.we hG hK n d g' hE _ _ _ _ z5 _ P2 R)
  ·obtain⟨c5,ops,q',w',lv',m',hrt,I2,h0',C',Y1,_,Hh0,Hi0⟩:=Cd.by (sl:=z5) hi e hgi
   have Uy0:m'≠.free:=fun e=>hmf (Hh0.2 e);refine Ends.step (T2.trans hrt) ?_;cases b with
   |true=>
    obtain⟨h0,hW⟩:=hb;have hr:g.status= .running:=by
     cases n with
     |zero=>exact hW.elim
     |succ n=>
      rcases hW with⟨_,_,hh,_⟩|⟨_,hh⟩
      ·exact hh.1
      ·exact hh.1
    refine ih _ (by rw[hμ];simp only[if_true];omega) n d g true lv' m' _ c5 w' z5 q' rfl C' Uy0 ⟨?_,hW⟩;rcases h0' g h0 with z|z
    ·exact z
    ·rw[again_of_running (.inl hr)]at z;exact z
   |false=>
    obtain⟨hmd,h0,k,hk,hd0,vr0⟩:=hb;have hA:c5[0]? =some (({g with status:=.blocked}:Goroutine).again w')->Ends P Post (crowd c5 w' z5) (T++ops):=fun z=>by
     rw[again_blocked vr0.1 vr0.2.1]at z;exact ih _ (by rw[hμ];simp only[if_true];simp;omega) n d g true lv' m' _ c5 w' z5 q' rfl C' Uy0 ⟨z,by rw[hk];exact .inr ⟨hd0,vr0⟩⟩
    by_cases V9:m'= .done
    ·exact hA ((Hi0 V9).resolve_left hmd _ h0)
    ·rcases h0' _ h0 with z|z
     ·exact ih _ (by rw[hμ];simp;omega) n d g false lv' m' _ c5 w' z5 q' rfl C' Uy0 ⟨V9,z,k,hk,hd0,vr0⟩
     ·exact hA z
end
end
section
attribute [local irreducible] KK
section
variable {P:Program}{Post:Value->World->Prop}{X:Gh}{G:j5}{u:World}{K:Goroutine->Prop}
theorem Fin.head (hG:X.l3=some G) (hK:∀g,K g->Fin P Post {X with pend:=0,cap:=0,dn:=0} 0 g u):∀(μ n:Nat) (o:Option Nat) (V d:Nat) (g:Goroutine) lv T gs w sl q,μ=n+sumTo gs.size q->Wr P X G u lv .free d T gs w q->gs[0]? =some g->WH P G (WE P G K) n o V d g->0<d\/True ->
  (match o with|none=>count lv gs.size <=V|some vs=>0<vs/\count lv gs.size <=vs)->Ends P Post (crowd gs w sl) T:=by
 intro μ
 induction μ using Nat.strongRecOn with
 |_ μ ih=>
  intro n o V d g lv T gs w sl q hμ C h0 hW _ hV;cases n with
  |zero=>exact hW.elim
  |succ n=>
   have hr:g.status= .running:=by
    unfold WH at hW;rcases hW with⟨_,_,hh,_⟩|hh
    ·exact hh.1
    ·exact hh.1
   obtain⟨i,gi,dd,z5,hi,hgi,T2⟩:=crowd_pick (P:=P) (w:=w) (sl:=sl) (C.awake h0 (.inl hr)) ⟨0,g,h0,hr⟩;have Cd:=C.at dd;by_cases e:i=0
   ·subst e;rw[h0]at hi;obtain rfl:=Option.some.inj hi;have hat:m8 G ((count lv gs.size*KK:Nat):Int) 0 (w.at dd):=Cd.W6;unfold WH at hW;rcases hW with⟨g',es,⟨_,_,hes,A3⟩,hW⟩|⟨_,hW⟩
    ·obtain⟨C',P2⟩:=Cd.main (g:=g) (g':=g') (m':=.free) hes Cd.base.sim (fun _ _=>rfl) (.inl rfl) Cd.W6 Cd.pos;exact Ends.step (T2.trans (runT_crowd_go (sl:=z5) (i:=0) h0 (A3 _ _ _ Cd.W6))) (ih _ (by simp only[Array.size_setIfInBounds,Array.size_map];omega) n o V _ g' lv _ _ _ z5 q rfl C' P2 hW (.inr trivial) (by simpa using hV))
    ·have mt0:∀g',stepG P true g (w.at dd)= .go g' (w.at dd) #[rdA (stA G)]->(∀T' c5,Wr P X G u lv .free d T' c5 (w.at dd) q->c5.size=gs.size->c5[0]? =some g'->Ends P Post (crowd c5 (w.at dd) z5) T')->Ends P Post (crowd gs w sl) T:=fun g' hgo hk=>by
      obtain⟨C',P2⟩:=Cd.main (g:=g) (g':=g') (es:=#[rdA (stA G)]) (m':=.free) jv0 Cd.base.sim (fun _ _=>rfl) (.inl rfl) Cd.W6 Cd.pos;rw[deafBehind_still v9]at C';exact Ends.step (T2.trans (runT_crowd_go (sl:=z5) (i:=0) h0 hgo)) (hk _ _ C' (by simp) P2)
     cases o with
     |none=>
      have hV':count lv gs.size <=V:=hV;obtain⟨g',A3,hz,hnz⟩:=hW (count lv gs.size) hV';refine mt0 g' (A3 _ hat) fun T' c5 C' I2 P2=>?_;by_cases hc:count lv gs.size=0
      ·exact Fin.we hG hK n d g' (hz hc) _ _ _ _ z5 _ P2 (C'.toRing (by rw[I2];exact hc))
      ·exact ih _ (by rw[I2];omega) n (some (count lv gs.size)) V d g' lv T' c5 _ z5 q rfl C' P2 (hnz hc) (.inr trivial) ⟨by omega,by rw[I2];exact Nat.le_refl _⟩
     |some vs=>
      obtain⟨hvs,hle⟩:=hV;obtain⟨⟨g1,Eq0,hS⟩,Hj0⟩:=hW;by_cases hc:count lv gs.size=vs
      ·subst hc;obtain⟨C',P2⟩:=Cd.main (g:=g) (g':=g1) (es:=#[rdA (stA G),wrA (stA G)]) (m':=.wait) ar0 (Cd.mq0 ((count lv gs.size*KK+1:Nat):Int)) (fun b hb=>K1 _ _ hb) (.inr ⟨fun j s e=>(by cases e),fun j s e=>(by cases e)⟩) (Cd.W6.setSt _) hvs;rw[ju0]at C';exact Ends.step (T2.trans (runT_crowd_go (sl:=z5) (i:=0) h0 (Eq0 _ hat))) (Fin.sem hG hK _ n d g1 true lv .wait _ _ _ z5 q rfl C' (fun e=>(by cases e)) ⟨P2,hS⟩)
      ·obtain⟨g',A3,hH⟩:=Hj0 (count lv gs.size) (by omega);refine mt0 g' (A3 _ hat) fun T' c5 C' I2 P2=>?_;exact ih _ (by rw[I2];omega) n none (count lv gs.size) d g' lv T' c5 _ z5 q rfl C' P2 hH (.inr trivial) (by rw[I2];exact Nat.le_refl _)
   ·obtain⟨c5,ops,q',w',lv',m',hrt,I2,h0',C',Y1,e7,Hh0,_⟩:=Cd.by (sl:=z5) hi e hgi
    have hmf:m'= .free:=Hh0.1 rfl;subst hmf;refine Ends.step (T2.trans hrt) (ih _ (by omega) (n+1) o V d g lv' _ c5 w' z5 q' rfl C' ?_ hW (.inr trivial) ?_)
    ·rcases h0' g h0 with z|z
     ·exact z
     ·rw[again_of_running (.inl hr)]at z;exact z
    ·cases o with
     |none=>exact Nat.le_trans e7 hV
     |some vs=>exact⟨hV.1,Nat.le_trans e7 hV.2⟩
theorem Fin.wait {g:Goroutine} {n:Nat} (hG:X.l3=some G) (l9:∀i,X.N1 i=none) (hp:X.pend=0) (hd:X.dn=0) (hW:WH P G (WE P G K) n none X.cap 0 g) (hK:∀g,K g->Fin P Post {X with pend:=0,cap:=0,dn:=0} 0 g u):Fin P Post X 0 g u:=by
 intro live T gs w sl q hg C;have hat:=(C.l3 G hG).2;have pi0:=C.few;rw[hp,Nat.add_zero]at hat pi0;have B:=C.base;refine Fin.head hG hK _ n none X.cap 0 g live T gs w sl q rfl ⟨?_,hG,l9,fun i y hi hy=>?_,hat,trivial,by omega⟩ hg hW (.inr trivial) pi0.1
 ·rw[ms0];exact⟨B.sim,B.free,B.size,B.num,B.stays,B.chans,B.n4,B.inj,B.G4,B.bi0,B.C8,B.cut,B.old,B.above,B.en0,B.by0,B.dfn.trans hd,by
   have:=B.past;refine this.fewer fun x hx=>?_;rcases hx with⟨e,_⟩|hx
   ·exact .inl ⟨e,hd⟩
   ·exact .inr hx⟩
 ·have:=C.idle i y hi hy;unfold Idle at this;rw[l9 i]at this;unfold c7;obtain⟨_,this⟩:=this;cases e:live i with
  |true=>
   rw[e]at this;simp only[if_true]at this⊢;obtain⟨G',hG',hL⟩:=this;rw[hG]at hG';obtain rfl:=Option.some.inj hG';exact hL
  |false=>
   rw[e]at this;simp only[Bool.false_eq_true,if_false]at this⊢;exact this
end
end
section
attribute [local irreducible] KK
def ev0 (w:World):World:={w with heap:=w.heap.map fun o=>if y4 o then nothing else o}
def X0 (w:World):Gh where
 N1:=fun _=>none
 stay:=fun _=>[]
 l3:=none
 old:=[]
 G4:=fun _=>none
 B8:=fun _=>False
 low:=fun _=>False
 k5:=fun b=>match w.heap[b]? with
  |some o=>if y4 o then .gone o else .all
  |none=>.all
 cap:=0
 pend:=0
 dn:=0
 n:=1
theorem Hk0 (w:World) (n:Nat):(X0 w).T9 n :=
 ⟨fun _ _ h=>(by cases h),fun _ _ h=>(by cases h),fun _ h=>h.elim,fun _ h=>h.elim (fun z=>(by cases z)) fun z=>(by cases z),fun _ h=>h.elim⟩
theorem Da0 {w:World} {b:Nat} (h:w.heap.size <=b):(X0 w).k5 b= .all:=by
 show(match w.heap[b]? with|some o=>if y4 o then V6.gone o else .all|none=>.all)=_;rw[Array.getElem?_eq_none h]
theorem Hl0 {w:World} {b:Nat} {o:Obj} (h:w.heap[b]? =some o) (hv:y4 o=false):(ev0 w).heap[b]? =some o:=by
 show(w.heap.map _)[b]? =_;rw[Array.getElem?_map,h];simp[hv]
theorem Hm0 (w:World):l6 (X0 w).k5 (N2 (ev0 w) w.tape w.drawn) w:=by
 refine⟨rfl,rfl,rfl,rfl,by simp[N2,ev0],fun b x hx=>?_,fun b hb=>Da0 (by simpa [N2,ev0]using hb),fun b x hx=>?_⟩
 ·have D4:(w.heap.map fun o=>if y4 o then nothing else o)[b]? =some x:=hx;rw[Array.getElem?_map]at D4;obtain⟨o,ho,rfl⟩:=Option.map_eq_some_iff.1 D4;refine⟨o,ho,?_⟩;show dq0 (match w.heap[b]? with|some o=>if y4 o then V6.gone o else .all|none=>.all) _ _;rw[ho];cases hv:y4 o
  ·simp only[hv,Bool.false_eq_true,if_false];exact .same o
  ·simp only[hv,if_true];exact .gone _ _ _
 ·have D4:(w.heap.map fun o=>if y4 o then nothing else o)[b]? =some x:=hx;rw[Array.getElem?_map]at D4;obtain⟨o,ho,rfl⟩:=Option.map_eq_some_iff.1 D4;cases hv:y4 o
  ·simp[hv]
  ·simp[nothing,y4]
theorem Fin.start {P:Program} {Post:Value->World->Prop} {g:Goroutine} {w:World} (hF:Fin P Post (X0 w) 0 g (ev0 w)):Ends P Post (solo g w) #[]:=by
 rw[solo_eq_crowd];have l9:∀i a,touchAt (#[]:Trace) i=some a->False:=fun i a h=>by simp[touchAt,Trace.act?]at h
 refine hF (fun _=>false) #[] #[g] w none (fun _=>0) rfl ⟨⟨_,Hm0 w,fun _ _=>rfl⟩,fun i y hi hy=>?_,rfl,by simp,rfl,fun _ _ h=>(by cases h),fun _ h=>h.elim,fun _ _ h=>(by cases h),fun _ _ _ _ h=>(by cases h),fun _ _ h=>(by cases h),fun _ h=>(by cases h),⟨fun _ h=>h.elim,fun _ h=>h.elim (fun z=>(by cases z)) fun z=>(by cases z)⟩,fun _ h=>(by cases h),fun _ h=>(by cases h),
  fun j hj=>⟨rfl,rfl,rfl,rfl⟩,⟨Nat.le_refl _,by show(0:Nat) <=65536;omega⟩,fun _ h=>(by cases h),fun i hi h=>h.elim (fun z=>absurd rfl z) fun z=>absurd z hi,rfl,⟨fun said=>?_,fun i a h=>(l9 i a h).elim,fun i a h=>(l9 i a h).elim,fun g' o7=>rfl,fun i a g' h=>(l9 i a h).elim⟩⟩
 ·have:i=0:=by
   have:=(Array.getElem?_eq_some_iff.1 hy).1;simp at this;omega
  exact absurd this hi
 ·rintro⟨i,j,_,⟨a,b,ha,_⟩,_⟩;exact l9 i a ha
end
end Go.Yc
end
section
namespace Go.Vy
open Go Go.Conc Go.Yc
inductive Out where
 |val (v:Value)
 |skip
 |enter (f:FuncId) (args:Array Value)
 |panic (v:Value)
def Out.res:Out->World->Result Next
 | .val v,w=>.ok (.value v) w
 | .skip,w=>.ok .skip w
 | .enter f args,w=>.ok (.enter f args) w
 | .panic v,w=>.halt (.panic v) w
def yb0 (P:Program) (S:Sem Next) (u:World) (r:Out) (u':World):Prop :=
 ∀ρ x,l6 ρ u x->S9 u u'/\∃x' es,S.runT P x #[]=(r.res x',es)/\l6 ρ u' x'/\∀e∈es,ht0 u e
structure Does (P:Program) (S:Sem Next) (u:World) (r:Out) (u':World):Prop where
 tape:u'.tape=u.tape
 drawn:u'.drawn=u.drawn
 go:∀τ d,yb0 P S (N2 u τ d) r (N2 u' τ d)
theorem Out.xr0 (r:Out) (w:World):xr0 (r.res w):=by cases r <;> trivial
theorem Od0 (r:Out) (w w':World):atW (r.res w) w'=r.res w':=by cases r <;> rfl
theorem Es0 (r:Out) (w:World):hw0 (r.res w)=w:=by cases r <;> rfl
theorem ge0 {P:Program} {S:Sem Next} {u u':World} {r:Out} (ht:D1 P S) (hr:S.run P u=r.res u'):yb0 P S u r u':=by
 intro ρ x hs;have h1:(S.runT P u #[]).1=r.res u':=by rw[Sem.runT_eq];exact hr
 have hf:Yc.xr0 (S.runT P u #[]).1:=by rw[h1];exact r.xr0 u'
 obtain⟨⟨x',h2,h3⟩,h4,h5⟩:=Z6 ht hs hf;rw[h1,Es0]at h3 h4;rw[h1,Od0]at h2;exact⟨h4,x',_,h2,h3,fun e he=>(h5 e he).resolve_left (by simp)⟩
theorem Does.B1 {P:Program} {S:Sem Next} {u u':World} {r:Out} (ht:D1 P S) (h1:u'.tape=u.tape) (h2:u'.drawn=u.drawn) (hr:∀τ d,S.run P (N2 u τ d)=r.res (N2 u' τ d)):Does P S u r u':=⟨h1,h2,fun τ d=>ge0 ht (hr τ d)⟩
structure Cl (P:Program) (main:Bool) (Z:Goroutine->World->Prop):Prop where
 own:∀g u,g.status= .running->(∀τ d,∃g' u' d',Q5 P main g (N2 u τ d) g' u'/\Z g' (N2 u' u.tape d'))->Z g u
class Ctx (P:Program) where
 main:Bool
 Zs:(Goroutine->World->Prop)->Prop
 cl:∀Z,Zs Z->Cl P main Z
theorem mb0 {P:Program} {Post:Value->World->Prop} {X:Gh} {h:Nat} {g:Goroutine} {u:World} {τ:Tape} {d:Nat} (hF:Fin P Post X h g (N2 u τ d)):Fin P Post X h g u :=
 fun live T gs w sl q hg C=>hF live T gs w sl q hg ⟨C.sim,C.idle,C.free,C.size,C.num,C.stays,C.chans,C.n4,C.inj,C.G4,C.bi0,C.C8,C.l3,C.old,C.above,C.few,C.en0,C.by0,C.dfn,C.past⟩
theorem cc0 (P:Program) (Post:Value->World->Prop) (X:Gh) (h:Nat):Cl P (h==0) (Fin P Post X h) :=
 ⟨fun _ _ hr hs=>Fin.own hr fun τ d=>by
  obtain⟨g',u',d',hF,hZ⟩:=hs τ d;exact⟨g',u',hF,mb0 hZ⟩⟩
section
variable {P:Program}{main:Bool}{Z:Goroutine->World->Prop}
theorem Cl.ctl (hZ:Cl P main Z) {g g':Goroutine} {u:World} (hr:g.status= .running) (hr':g'.status= .running) (hs:∀w,stepG P main g w= .go g' w #[]) (h:Z g' u):Z g u :=
 hZ.own g u hr fun τ d=>⟨g',N2 u τ d,u.drawn,⟨hr',fun ρ w hw=>⟨S9.refl _,w,#[],hs w,hw,fun e he=>by simp at he⟩⟩,h⟩
end
def Aq0 (Z:Goroutine->World->Prop) (b:Frame) (k:List Item) (cs:List Frame):Exit->Act->World->Prop
 | .normal,a,w=>Z (G (b.at a k) cs) w
 | .exit id,a,w=>∃k',exitTo id k=some k'/\Z (G (b.at a k') cs) w
 | .goto l,a,w=>∃k',gotoIn l k=some k'/\Z (G (b.at a k') cs) w
 | .ret,a,w=>∀todo,Z (G {b.at a todo with mode:=.returning} cs) w
 | .panic ch,a,w=>∀todo,Z (G {b.at a todo with mode:=.panicking ch} cs) w
 | .outgrown,_,_=>False
theorem Aq0.push {Z:Goroutine->World->Prop} {b:Frame} {x:Item} {k:List Item} {cs:List Frame} {e:Exit} {a:Act} {w:World} (hx:x.plain=true) (he:e≠.normal) (h:Aq0 Z b k cs e a w):Aq0 Z b (x::k) cs e a w:=by
 cases e with
 |normal=>exact absurd rfl he
 |exit id=>obtain⟨k',hk,h⟩:=h;exact⟨k',by cases x <;> simp_all [exitTo,Item.plain],h⟩
 |goto l=>obtain⟨k',hk,h⟩:=h;exact⟨k',by cases x <;> simp_all [gotoIn,Item.plain],h⟩
 |ret=>exact h
 |panic ch=>exact h
 |outgrown=>exact h
def bp0 (P:Program) (fn:Func) (tmps:Array Value) (w:World) (v:Value):Prop:=∀τ d ρ x,l6 ρ (N2 w τ d) x->∃x' es,(results fn tmps).runT P x #[]=(.ok v x',es)/\l6 ρ (N2 w τ d) x'/\∀e∈es,ht0 (N2 w τ d) e
def Leaves (P:Program) (fr:Frame) (w:World):Ending->Prop
 | .returned v=>fr.mode= .returning/\fr.defers=[]/\fr.kind= .normal/\∃fn,P.funcs[fr.fn]? =some fn/\bp0 P fn fr.tmps w v
 | .panicked chain=>fr.mode= .panicking chain/\fr.defers=[]/\fr.catches P=false
 | .outgrown=>False
def Calls (P:Program) [Ctx P] (f:FuncId) (args:Array Value) (w:World) (R:Ending->World->Prop):Prop :=
 ∀Z,Ctx.Zs P Z->∀cs,(∀e w' fr,R e w'->fr.fn=f->Leaves P fr w' e->Z (G fr cs) w')->Z (G (Frame.enter P f args .normal) cs) w
theorem Calls.mono {P:Program} [Ctx P] {f:FuncId} {args:Array Value} {w:World} {R R':Ending->World->Prop} (h:Calls P f args w R) (hr:∀e w',R e w'->R' e w'):Calls P f args w R' :=
 fun Z hZ cs hk=>h Z hZ cs fun e w' fr he hf hl=>hk e w' fr (hr e w' he) hf hl
theorem as0 {P:Program} {main:Bool} {Z:Goroutine->World->Prop} (hZ:Cl P main Z) {fr c:Frame} {cs:List Frame} {w:World} {v:Value} (h:Leaves P fr w (.returned v)) (hk:Z (G (c.finish v) cs) w):Z (G fr (c::cs)) w:=by
 obtain⟨hm,hd,hn,fn,hf,hr⟩:=h;refine hZ.own _ _ rfl fun τ d=>⟨G (c.finish v) cs,N2 w τ d,w.drawn,⟨rfl,fun ρ x hx=>?_⟩,hk⟩
 obtain⟨x',es,H4,D4,hev⟩:=hr τ d ρ x hx;rw[Sem.runT_eq]at H4;obtain⟨h1,h2⟩:=Prod.mk.inj H4;refine⟨S9.refl _,x',seen P fr.fn es ++ #[],?_,D4,fun e he=>?_⟩
 ·simp[G,stepG,unwind,doReturn,hm,hd,hn,hf,h1,h2,GStep.after]
 ·have he':e∈seen P fr.fn es:=by simpa using he
  exact hev e (mem_seen he')
theorem ew0 {P:Program} {main:Bool} {Z:Goroutine->World->Prop} (hZ:Cl P main Z) {fr c:Frame} {cs:List Frame} {w:World} {chain:List PanicEntry} (h:Leaves P fr w (.panicked chain)) (hk:Z (G (c.raise chain) cs) w):Z (G fr (c::cs)) w:=by
 obtain⟨hm,hd,hc⟩:=h;exact hZ.ctl rfl rfl (fun w=>by simp[G,stepG,unwind,hm,hd,hc]) hk
section
variable {P:Program}[Ctx P]
def ai1 (P:Program) [Ctx P] (o:Oper) (a:Act) (next:Act->World->Prop) (Q:Exit->Act->World->Prop) (r:Out) (w:World):Prop:=match r with
 | .val v=>next (a.put o.dst v) w
 | .skip=>next (a.put o.dst undef) w
 | .enter f args=>Calls P f args w fun
  | .returned v,w''=>next (a.put o.dst v) w''
  | .panicked chain,w''=>Q (.panic chain) a w''
  | .outgrown,_=>False
 | .panic v=>Q (.panic [{v,recovered:=false}]) a w
def pt0 (P:Program) [Ctx P] (o:Oper) (a:Act) (w:World) (next:Act->World->Prop) (Q:Exit->Act->World->Prop):Prop :=
 ∀τ d,∃r w',yb0 P (execOp a.eval o) (N2 w τ d) r w'/\ai1 P o a next Q r (N2 w' w.tape w.drawn)
def wpOps (P:Program) [Ctx P] (ops:Array Oper) (Q:Exit->Act->World->Prop):List Nat->Act->World->Prop
 | [],a,w=>Q .normal a w
 |i::rest,a,w=>match ops[i]? with
  |none=>False
  |some o=>if Region.wanted o (yielded ops a.tmps) then pt0 P o a w (wpOps P ops Q rest) Q else wpOps P ops Q rest (a.put o.dst undef) w
def wpList (P:Program) [Ctx P] (ops:Array Oper) (Q:Exit->Act->World->Prop):List Oper->Act->World->Prop
 | [],a,w=>Q .normal a w
 |o::rest,a,w=>if Region.wanted o (yielded ops a.tmps) then pt0 P o a w (wpList P ops Q rest) Q else wpList P ops Q rest (a.put o.dst undef) w
def cwp (P:Program) [Ctx P] (c:Code) (Q:Exit->Act->World->Prop) (a:Act) (w:World):Prop :=
 ∀Z,Ctx.Zs P Z->∀b k cs,b.kind≠.early->(∀e a' w',Q e a' w'->Aq0 Z b k cs e a' w')->Z (G (b.at a (.code c::k)) cs) w
variable {Q Q':Exit->Act->World->Prop}{a:Act}{w:World}{ops:Array Oper}
theorem fr0 {o:Oper} {next next':Act->World->Prop} (hn:∀a w,next a w->next' a w) (hq:∀e a w,Q e a w->Q' e a w) (h:pt0 P o a w next Q):pt0 P o a w next' Q':=by
 intro τ d;obtain⟨r,w',h1,h2⟩:=h τ d;refine⟨r,w',h1,?_⟩;cases r with
 |val v=>exact hn _ _ h2
 |skip=>exact hn _ _ h2
 |enter f args=>exact Calls.mono h2 fun e w'' he=>by cases e <;> first|exact hn _ _ he|exact hq _ _ _ he|exact he
 |panic v=>exact hq _ _ _ h2
theorem V8 {o:Oper} {next:Act->World->Prop} {r:Out} {w':World} (h:Does P (execOp a.eval o) w r w') (hk:ai1 P o a next Q r w'):pt0 P o a w next Q:=by
 intro τ d;refine⟨r,N2 w' τ d,h.go τ d,?_⟩;have:N2 (N2 w' τ d) w.tape w.drawn=w':=by rw[<- h.tape,<- h.drawn];rfl
 rw[this];exact hk
theorem wp_ops:∀(l:List Nat) (a:Act) (w:World),wpOps P ops Q l a w->∀Z,Ctx.Zs P Z->∀b k cs,b.kind≠.early->(∀e a' w',Q e a' w'->Aq0 Z b k cs e a' w')->Z (G (b.at a (.inRegion ops l::k)) cs) w
 | [],a,w,h,Z,hZ,b,k,cs,hb,hk=>(Ctx.cl Z hZ).ctl rfl rfl (fun w=>stepG_region_end) (hk _ _ _ h)
 |i::rest,a,w,h,Z,hZ,b,k,cs,hb,hk=>by
  unfold wpOps at h;cases ho:ops[i]? with
  |none=>rw[ho]at h;exact h.elim
  |some o=>
   rw[ho]at h;simp only at h;cases hw:Region.wanted o (yielded ops a.tmps)with
   |false=>
    rw[hw]at h;exact(Ctx.cl Z hZ).ctl rfl rfl (fun w=>stepG_unwanted ho hw) (wp_ops rest _ _ h Z hZ b k cs hb hk)
   |true=>
    rw[hw,if_pos rfl]at h;have aa0:∀v,(b.at a (.inRegion ops (i::rest)::k)).finish v=b.at (a.put o.dst v) (.inRegion ops rest::k):=by
     intro v;rw[Frame.finish_at,ho];rfl
    have Hn0:(b.kind==CallKind.early)=false:=by simpa using hb
    refine(Ctx.cl Z hZ).own _ _ rfl fun τ d=>?_;obtain⟨r,w',hr,hK⟩:=h τ d;have fol:∀g',g'.status= .running->(∀x x' es,(execOp a.eval o).runT P x #[]=(r.res x',es)->stepG P (Ctx.main P) (G (b.at a (.inRegion ops (i::rest)::k)) cs) x= .go g' x' (seen P b.fn es))->Q5 P (Ctx.main P) (G (b.at a (.inRegion ops (i::rest)::k)) cs) (N2 w τ d) g' w':=by
     intro g' o7 hs;refine⟨o7,fun ρ x hx=>?_⟩;obtain⟨h1,x',es,h2,h3,h4⟩:=hr ρ x hx;exact⟨h1,x',_,hs x x' es h2,h3,fun e he=>h4 e (mem_seen he)⟩
    have split:∀x x' es,(execOp a.eval o).runT P x #[]=(r.res x',es)->(execOp a.eval o).run P x=r.res x'/\(execOp a.eval o).events P x #[]=es:=fun x x' es h=>by
     rw[Sem.runT_eq]at h;exact Prod.mk.inj h
    cases r with
    |val v=>
     refine⟨G (b.at (a.put o.dst v) (.inRegion ops rest::k)) cs,w',w.drawn,fol _ rfl fun x x' es h=>?_,wp_ops rest _ _ hK Z hZ b k cs hb hk⟩;obtain⟨h1,h2⟩:=split x x' es h;rw[stepG_value ho hw hb h1,listed,h2]
    |skip=>
     refine⟨G (b.at (a.put o.dst undef) (.inRegion ops rest::k)) cs,w',w.drawn,fol _ rfl fun x x' es h=>?_,wp_ops rest _ _ hK Z hZ b k cs hb hk⟩;obtain⟨h1,h2⟩:=split x x' es h;rw[stepG_none ho hw hb h1,listed,h2]
    |enter f args=>
     refine⟨G (Frame.enter P f args .normal) (b.at a (.inRegion ops (i::rest)::k)::cs),w',w.drawn,fol _ rfl fun x x' es h=>?_,hK Z hZ _ fun e w'' fr he hf hl=>?_⟩
     ·obtain⟨h1,h2⟩:=split x x' es h;rw[stepG_enter ho hw hb h1,listed,h2]
     ·cases e with
      |returned v=>
       refine U594 ?_;exact wp_ops rest _ _ he Z hZ b k cs hb hk
      |panicked chain=>
       refine U580 ?_;exact hk _ _ _ he _
      |outgrown=>exact he.elim
    |panic v=>
     refine⟨G {b.at a (.inRegion ops (i::rest)::k)with mode:=.panicking [{v,recovered:=false}]} cs,w',w.drawn,fol _ rfl fun x x' es h=>?_,hk _ _ _ hK _⟩;obtain⟨h1,h2⟩:=split x x' es h;have h1':(execOp a.eval o).run P x= .halt (.panic v) x':=h1;rw[stepG_oper ho hw];simp[stepG.apply,h1',h2,G,Frame.at,Hn0,GStep.after,Frame.raise]
theorem wp_mono {c:Code} (h:cwp P c Q a w) (hq:∀e a w,Q e a w->Q' e a w):cwp P c Q' a w:=fun Z hZ b k cs hb hk=>h Z hZ b k cs hb fun e a' w' he=>hk e a' w' (hq e a' w' he)
theorem wp_skip (h:Q .normal a w):cwp P .skip Q a w:=fun Z hZ _b _k _cs _hb hk=>(Ctx.cl Z hZ).ctl rfl rfl (fun _=>stepG_skip) (hk _ _ _ h)
theorem wp_exit {id:Nat} (h:Q (.exit id) a w):cwp P (.exit id) Q a w:=fun Z hZ b k cs hb hk=>by
 obtain⟨k',h1,h2⟩:=hk _ _ _ h;exact(Ctx.cl Z hZ).ctl rfl rfl (fun _=>stepG_exit h1) h2
theorem wp_ret (h:Q .ret a w):cwp P .ret Q a w:=fun Z hZ _b _k _cs _hb hk=>(Ctx.cl Z hZ).ctl rfl rfl (fun _=>stepG_ret') (hk _ _ _ h _)
theorem wp_seq {x y:Code} (h:cwp P x (Exit.then (cwp P y Q) Q) a w):cwp P (.seq x y) Q a w:=by
 intro Z hZ b k cs hb hk;refine(Ctx.cl Z hZ).ctl rfl rfl (fun _=>stepG_seq) (h Z hZ b (.code y::k) cs hb fun e a' w' he=>?_);cases e with
 |normal=>exact he Z hZ b k cs hb hk
 |exit id=>exact(hk _ _ _ he).push rfl (by simp)
 |goto l=>exact(hk _ _ _ he).push rfl (by simp)
 |ret=>exact(hk _ _ _ he).push rfl (by simp)
 |panic ch=>exact(hk _ _ _ he).push rfl (by simp)
 |outgrown=>exact(hk _ _ _ he).push rfl (by simp)
theorem wp_cond {c:Operand} {x y:Code} {t:Bool} (hc:a.eval c= .bool t) (h:cwp P (if t then x else y) Q a w):cwp P (.cond c x y) Q a w :=
 fun Z hZ b k cs hb hk=>(Ctx.cl Z hZ).ctl rfl rfl (fun _=>stepG_cond hc) (h Z hZ b k cs hb hk)
theorem wp_cond_true {c:Operand} {x y:Code} (hc:a.eval c= .bool true) (h:cwp P x Q a w):cwp P (.cond c x y) Q a w:=wp_cond hc h
theorem wp_cond_false {c:Operand} {x y:Code} (hc:a.eval c= .bool false) (h:cwp P y Q a w):cwp P (.cond c x y) Q a w:=wp_cond hc h
theorem wp_block {id:Nat} {c:Code} (h:cwp P c (Exit.inBlock id Q) a w):cwp P (.block id c) Q a w:=by
 intro Z hZ b k cs hb hk;refine(Ctx.cl Z hZ).ctl rfl rfl (fun _=>stepG_block) (h Z hZ b (.inBlock id::k) cs hb fun e a' w' he=>?_);cases e with
 |normal=>exact(Ctx.cl Z hZ).ctl rfl rfl (fun _=>stepG_inBlock) (hk _ _ _ he)
 |exit id'=>
  by_cases G4:id'=id
  ·simp only[Exit.inBlock,G4,if_true]at he;exact⟨k,by simp[exitTo,G4],hk _ _ _ he⟩
  ·simp only[Exit.inBlock,G4,if_false]at he;obtain⟨k',h1,h2⟩:=hk _ _ _ he;have:(id==id')=false:=by simp;exact fun h=>G4 h.symm
   exact⟨k',by simp[exitTo,this,h1],h2⟩
 |goto l=>
  obtain⟨k',h1,h2⟩:=hk _ _ _ he;exact⟨k',by simp[gotoIn,h1],h2⟩
 |ret=>exact hk _ _ _ he
 |panic ch=>exact hk _ _ _ he
 |outgrown=>exact hk _ _ _ he
theorem wp_loop_ghost {c:Code} (I:Nat->Act->World->Prop) (k₀:Nat) (h₀:I k₀ a w) (round:∀n a w,I n a w->cwp P c (Exit.then (fun a' w'=>∃n',n'<n/\I n' a' w') Q) a w):cwp P (.loop c) Q a w:=by
 intro Z hZ b k cs hb hk;have key:∀n a w,I n a w->Z (G (b.at a (.code c :: .inLoop c::k)) cs) w:=by
  intro n
  induction n using Nat.strongRecOn with
  |_ n ih=>
   intro a w hI;refine round n a w hI Z hZ b (.inLoop c::k) cs hb fun e a' w' he=>?_;cases e with
   |normal=>
    obtain⟨n',hn,hI'⟩:=he;exact(Ctx.cl Z hZ).ctl rfl rfl (fun _=>stepG_inLoop) (ih n' hn a' w' hI')
   |exit id=>exact(hk _ _ _ he).push rfl (by simp)
   |goto l=>exact(hk _ _ _ he).push rfl (by simp)
   |ret=>exact(hk _ _ _ he).push rfl (by simp)
   |panic ch=>exact(hk _ _ _ he).push rfl (by simp)
   |outgrown=>exact(hk _ _ _ he).push rfl (by simp)
 exact(Ctx.cl Z hZ).ctl rfl rfl (fun _=>stepG_loop) (key k₀ a w h₀)
theorem mu0 (pre:List Oper):∀(l:List Oper) (a:Act) (w:World),wpList P (pre++l).toArray Q l a w->wpOps P (pre++l).toArray Q ((List.range l.length).map (pre.length + ·)) a w
 | [],_,_,h=>h
 |o::l,a,w,h=>by
  have h0:(pre++o::l).toArray[pre.length]? =some o:=by simp
  have e:(List.range (o::l).length).map (pre.length + ·)=pre.length::(List.range l.length).map ((pre ++ [o]).length + ·):=by
   simp[List.range_succ_eq_map,List.map_map];intro x _;omega
  rw[e];unfold wpOps;rw[h0];simp only;unfold wpList at h;have key:∀a w,wpList P (pre++o::l).toArray Q l a w->wpOps P (pre++o::l).toArray Q ((List.range l.length).map ((pre ++ [o]).length + ·)) a w:=fun a w hh=>by
   have:=mu0 (pre ++ [o]) l a w;rw[List.append_assoc]at this;exact this hh
  split
  ·rename_i hw;rw[if_pos hw]at h;exact fr0 key (fun _ _ _ z=>z) h
  ·rename_i hw;rw[if_neg hw]at h;exact key _ _ h
theorem wp_region_lit {id:Nat} {l:List Oper} (h:wpList P l.toArray Q l a w):cwp P (.region id l.toArray false) Q a w:=by
 intro Z hZ b k cs hb hk;refine(Ctx.cl Z hZ).ctl rfl rfl (fun _=>stepG_region) (wp_ops _ _ _ ?_ Z hZ b k cs hb hk);have:=mu0 (P:=P) (Q:=Q) [] l a w;simp only[List.nil_append,List.length_nil,Nat.zero_add,List.map_id']at this;simpa using this h
theorem wp_region_draw {id:Nat} (h:∀t,wpOps P ops Q (Region.schedule (P.follows .mixedOrders) ops t) a {w with drawn:=w.drawn+1}):cwp P (.region id ops true) Q a w:=by
 intro Z hZ b k cs hb hk;refine(Ctx.cl Z hZ).own _ _ rfl fun τ d=>?_;refine⟨G (b.at a (.inRegion ops (Region.schedule (P.follows .mixedOrders) ops (τ d (.order b.fn id)))::k)) cs,{N2 w τ d with drawn:=d+1},w.drawn+1,⟨rfl,fun ρ x hx=>⟨⟨Nat.le_refl _,fun _ o ho=>⟨o,ho,Z3.refl o⟩⟩,{x with drawn:=x.drawn+1},#[],?_,?_,fun e he=>by simp at he⟩⟩,wp_ops _ _ _ (h _) Z hZ b k cs hb hk⟩
 ·rw[stepG_region_draw,hx.tape,hx.drawn];rfl
 ·exact⟨hx.os,hx.output,hx.tape,by show x.drawn+1=d+1;rw[hx.drawn];rfl,hx.size,hx.obj,hx.new,hx.Y6⟩
def bodyPost (P:Program) [Ctx P] (fn:Func) (R:Ending->World->Prop):Exit->Act->World->Prop
 | .normal,a,w| .ret,a,w=>a.defers=[]/\∃v,bp0 P fn a.tmps w v/\R (.returned v) w
 | .panic chain,a,w=>a.defers=[]/\R (.panicked chain) w
 |_,_,_=>False
theorem calls_of_wp {f:FuncId} {fn:Func} {c:Code} {args:Array Value} {R:Ending->World->Prop} (hf:P.funcs[f]? =some fn) (hb:fn.body=some c)
  (h:cwp P c (bodyPost P fn R) {tmps:=args++Array.replicate (fn.ntmps-args.size) undef,defers:=[]} w):Calls P f args w R:=by
 intro Z hZ cs hk;rw[enter_at args hf hb];refine h Z hZ (base f) [] cs (by simp[base]) fun e a' w' he=>?_;have cd0:∀a' w' todo,(a'.defers=[]/\∃v,bp0 P fn a'.tmps w' v/\R (.returned v) w')->Z (G {(base f).at a' todo with mode:=.returning} cs) w':=fun a' w' todo ⟨hd,v,hr,hR⟩=>
  hk _ _ _ hR rfl ⟨rfl,hd,rfl,fn,hf,hr⟩
 cases e with
 |normal=>exact(Ctx.cl Z hZ).ctl rfl rfl (fun _=>stepG_end) (cd0 a' w' [] he)
 |ret=>exact fun todo=>cd0 a' w' todo he
 |panic chain=>exact fun todo=>hk _ _ _ he.2 rfl ⟨rfl,he.1,by simp[Frame.catches,Frame.at,base,hf]⟩
 |exit id=>exact he.elim
 |goto l=>exact he.elim
 |outgrown=>exact he.elim
end
end Go.Vy
end
section
namespace Go.Yc
open Go
section
theorem I1 {α:Type} {P:Program} (a:α):D1 P (pure a:Sem α):=trivial
theorem G1 {α β:Type} {P:Program} {s:Sem α} {f:α->Sem β} (h:D1 P s) (hf:∀a,D1 P (f a)):D1 P (s >>=f):=N6 hf h
theorem Sr0 {α β:Type} {P:Program} {s:Sem α} {f:α->β} (h:D1 P s):D1 P (f <$> s):=N6 (f:=fun a=>pure (f a)) (fun _=>trivial) h
theorem A4 {α:Type} {P:Program} (h:Halt):D1 P (.halt h:Sem α):=trivial
theorem Ho0 {P:Program} (a:Addr) (m:Mode):D1 P (load a m):=fun _=>trivial
theorem vs0 {P:Program} (a:Addr) (v:Value) (m:Mode):D1 P (store a v m):=trivial
theorem Ss0 {P:Program} {o:Obj} (h:y4 o=false):D1 P (newObj o):=⟨h,fun _=>trivial⟩
theorem ie0 {P:Program} (q:Question):D1 P (choose q):=fun _=>trivial
theorem fs0 {P:Program}:D1 P program:=trivial
theorem yc0 {P:Program} (r:Nat):D1 P (getObj r):=fun _=>trivial
theorem mc0 {α:Type} {P:Program} (s:String):D1 P (stuck s:Sem α):=trivial
theorem H7 {α:Type} {P:Program} (s:Unsupported):D1 P (unsupported s:Sem α):=trivial
theorem sr0 {P:Program} (n:Nat):D1 P (askRoom n):=by
 unfold askRoom;split
 ·show(if Am0 Mark.noRoom=true then D1 P (Sem.pure ()) else dead P (Sem.pure ()));exact trivial
 ·trivial
theorem Hp0 {α β:Type} {P:Program} {f:α->Sem β} (hf:∀a,D1 P (f a)):∀(l:List α),D1 P (l.mapM f)
 | []=>by rw[List.mapM_nil];trivial
 |x::l=>by
  rw[List.mapM_cons];exact G1 (hf x) fun _=>G1 (Hp0 hf l) fun _=>trivial
theorem D2 {α β:Type} {P:Program} {f:α->Sem β} (hf:∀a,D1 P (f a)) (l:Array α):D1 P (l.mapM f):=by
 rw[Array.mapM_eq_mapM_toList];exact Sr0 (Hp0 hf _)
attribute [local irreducible] D1 dead
theorem at0 {P:Program} (t:TypeId):D1 P (typeInfo t):=by
 unfold typeInfo
 repeat' (first|exact I1 _|exact A4 _|exact fs0|(refine G1 ?_ (fun _=>?_))|(refine D2 (fun _=>?_) _)|split|(dsimp only))
theorem Z2 {P:Program} (t:TypeId):D1 P (underlying t):=by
 unfold underlying
 repeat' (first|exact I1 _|exact A4 _|exact fs0|(refine G1 ?_ (fun _=>?_))|(refine D2 (fun _=>?_) _)|split|(dsimp only))
theorem x9 {P:Program} (t:TypeId):D1 P (zeroValue t):=by
 unfold zeroValue
 repeat' (first|exact I1 _|exact A4 _|exact at0 _|(refine G1 ?_ (fun _=>?_))|(refine D2 (fun _=>?_) _)|split|(dsimp only))
theorem m6 {P:Program} (t:TypeId):D1 P (sizeOf t):=by
 unfold sizeOf
 repeat' (first|exact I1 _|exact at0 _|(refine G1 ?_ (fun _=>?_))|(refine D2 (fun _=>?_) _)|split|(dsimp only))
theorem vt0 {P:Program} (t:TypeId):D1 P (isAgg t):=by
 unfold isAgg
 repeat' (first|exact I1 _|exact Z2 _|(refine G1 ?_ (fun _=>?_))|(refine D2 (fun _=>?_) _)|split|(dsimp only))
theorem ei0 {P:Program} (a:Addr):∀(n i:Nat) (acc:Array Value),D1 P (loadCellsFrom a i n acc)
 |0,_,_=>by unfold loadCellsFrom;exact I1 _
 |n+1,i,acc=>by
  unfold loadCellsFrom;exact G1 (Ho0 _ _) fun _=>ei0 a n _ _
theorem la0 {P:Program} (a:Addr) (n:Nat):D1 P (loadCells a n):=by
 unfold loadCells
 repeat' (first|exact ei0 _ _ _ _|(refine G1 ?_ (fun _=>?_))|(refine D2 (fun _=>?_) _)|split|(dsimp only))
theorem ac0 {P:Program} (a:Addr):∀(vs:List Value) (i:Nat),D1 P (storeCells a vs i)
 | [],_=>by unfold storeCells;exact I1 _
 |v::vs,i=>by
  unfold storeCells;exact G1 (vs0 _ _ _) fun _=>ac0 a vs _
theorem ss0 {P:Program} (t:TypeId) (a:Addr):D1 P (loadVar t a):=by
 unfold loadVar
 repeat' (first|exact I1 _|exact la0 _ _|exact vt0 _|exact m6 _|exact Ho0 _ _|(refine G1 ?_ (fun _=>?_))|(refine D2 (fun _=>?_) _)|split|(dsimp only))
theorem mv0 {P:Program} (t:TypeId) (a:Addr) (v:Value):D1 P (storeVar t a v):=by
 unfold storeVar
 repeat' (first|exact A4 _|exact ac0 _ _ _|exact m6 _|(refine G1 ?_ (fun _=>?_))|(refine D2 (fun _=>?_) _)|split|(dsimp only))
theorem if0 {P:Program} (t:TypeId) (c:Array Value):D1 P (newRow t c):=by
 unfold newRow
 repeat' (first|exact I1 _|exact Ss0 rfl|(refine G1 ?_ (fun _=>?_))|(refine D2 (fun _=>?_) _)|split|(dsimp only))
theorem mw0 {P:Program} (t:TypeId) (v:Value):D1 P (newVar t v):=by
 unfold newVar
 repeat' (first|exact if0 _ _|(refine G1 ?_ (fun _=>?_))|(refine D2 (fun _=>?_) _)|split|(dsimp only))
theorem Hq0 {P:Program} (t:TypeId):D1 P (elemOf t):=by
 unfold elemOf
 repeat' (first|exact I1 _|exact A4 _|exact Z2 _|(refine G1 ?_ (fun _=>?_))|(refine D2 (fun _=>?_) _)|split|(dsimp only))
theorem Ar0 {P:Program} (t:TypeId) (c:Array Value) (o:Nat):D1 P (part t c o):=by
 unfold part
 repeat' (first|exact I1 _|exact A4 _|exact vt0 _|exact m6 _|(refine G1 ?_ (fun _=>?_))|(refine D2 (fun _=>?_) _)|split|(dsimp only))
theorem D5 {α:Type} {P:Program} (e:RuntimeError):D1 P (runtimePanic e:Sem α):=by
 unfold runtimePanic
 repeat' (first|exact A4 _|exact Hq0 _|exact mw0 _ _|exact fs0|(refine G1 ?_ (fun _=>?_))|(refine D2 (fun _=>?_) _)|split|(dsimp only))
theorem gf0 {α:Type} {P:Program} (k:IntKind) (x y:Int) (c:BoundsCode):D1 P (boundsPanic k x y c:Sem α):=by
 unfold boundsPanic
 repeat' (first|exact I1 _|exact Sr0 (ie0 _)|exact D5 _|exact ie0 _|(refine G1 ?_ (fun _=>?_))|(refine D2 (fun _=>?_) _)|split|(dsimp only))
theorem jw0 {P:Program} (v:Value):D1 P (asIntOf v):=by
 unfold asIntOf
 repeat' (first|exact I1 _|exact A4 _|(refine G1 ?_ (fun _=>?_))|(refine D2 (fun _=>?_) _)|split|(dsimp only))
theorem vu0 {P:Program} (v:Value):D1 P (asInt v):=by
 unfold asInt
 repeat' (first|exact I1 _|exact jw0 _|(refine G1 ?_ (fun _=>?_))|(refine D2 (fun _=>?_) _)|split|(dsimp only))
theorem Hr0 {P:Program} (v:Value):D1 P (asBool v):=by
 unfold asBool
 repeat' (first|exact I1 _|exact A4 _|(refine G1 ?_ (fun _=>?_))|(refine D2 (fun _=>?_) _)|split|(dsimp only))
theorem Oe0 {P:Program} (v:Value):D1 P (asAgg v):=by
 unfold asAgg
 repeat' (first|exact I1 _|exact A4 _|(refine G1 ?_ (fun _=>?_))|(refine D2 (fun _=>?_) _)|split|(dsimp only))
theorem ig0 {P:Program} (v:Value):D1 P (asAddr v):=by
 unfold asAddr
 repeat' (first|exact I1 _|exact A4 _|exact D5 _|(refine G1 ?_ (fun _=>?_))|(refine D2 (fun _=>?_) _)|split|(dsimp only))
theorem Of0 {P:Program} (t:TypeId) (h:Bool) (o:Value):D1 P (Instr.alloc t h o):=by
 unfold Instr.alloc
 repeat' (first|exact I1 _|exact mw0 _ _|exact mv0 _ _ _|exact x9 _|(refine G1 ?_ (fun _=>?_))|(refine D2 (fun _=>?_) _)|split|(dsimp only))
theorem ak1 {P:Program} (t:TypeId) (v:Value):D1 P (Instr.box t v):=by
 unfold Instr.box
 repeat' (first|exact I1 _|exact mw0 _ _|(refine G1 ?_ (fun _=>?_))|(refine D2 (fun _=>?_) _)|split|(dsimp only))
theorem Og0 {P:Program} (t:TypeId) (p:Array (Nat×Value)):D1 P (Instr.build t p):=by
 unfold Instr.build
 repeat' (first|exact I1 _|exact A4 _|exact m6 _|exact x9 _|exact Z2 _|(refine G1 ?_ (fun _=>?_))|(refine D2 (fun _=>?_) _)|split|(dsimp only))
theorem vv0 {P:Program} (t:TypeId) (n:Nat) (p:Array (Nat×Value)):D1 P (Instr.buildSlice t n p):=by
 unfold Instr.buildSlice
 repeat' (first|exact I1 _|exact A4 _|exact if0 _ _|exact m6 _|exact x9 _|exact Z2 _|(refine G1 ?_ (fun _=>?_))|(refine D2 (fun _=>?_) _)|split|(dsimp only))
theorem au0 {P:Program} (v:Value):D1 P (Instr.sureAddr v):=by
 unfold Instr.sureAddr
 repeat' (first|exact I1 _|exact A4 _|(refine G1 ?_ (fun _=>?_))|(refine D2 (fun _=>?_) _)|split|(dsimp only))
theorem Hs0 {P:Program} (t:TypeId) (v:Value):D1 P (Instr.loadAt t v):=by
 unfold Instr.loadAt
 repeat' (first|exact au0 _|exact ss0 _ _|(refine G1 ?_ (fun _=>?_))|(refine D2 (fun _=>?_) _)|split|(dsimp only))
theorem Et0 {P:Program} (t:TypeId) (v x:Value):D1 P (Instr.storeAt t v x):=by
 unfold Instr.storeAt
 repeat' (first|exact au0 _|exact mv0 _ _ _|(refine G1 ?_ (fun _=>?_))|(refine D2 (fun _=>?_) _)|split|(dsimp only))
theorem Eu0 {P:Program} (t:TypeId) (v x:Value):D1 P (Instr.indexAt t v x):=by
 unfold Instr.indexAt
 repeat' (first|exact I1 _|exact A4 _|exact au0 _|exact jw0 _|exact gf0 _ _ _ _|exact m6 _|exact Z2 _|(refine G1 ?_ (fun _=>?_))|(refine D2 (fun _=>?_) _)|split|(dsimp only))
theorem Ew0 {P:Program} (v:Value) (n:Nat):D1 P (Instr.extract v n):=by
 unfold Instr.extract
 repeat' (first|exact I1 _|exact A4 _|(refine G1 ?_ (fun _=>?_))|(refine D2 (fun _=>?_) _)|split|(dsimp only))
theorem Oh0 {P:Program} (t:TypeId) (v:Value) (n:Nat):D1 P (Instr.field t v n):=by
 unfold Instr.field
 repeat' (first|exact A4 _|exact Oe0 _|exact Ar0 _ _ _|exact Z2 _|(refine G1 ?_ (fun _=>?_))|(refine D2 (fun _=>?_) _)|split|(dsimp only))
theorem lt0 {P:Program} (t:TypeId) (v:Value):D1 P (Instr.makeInterface t v):=by
 unfold Instr.makeInterface
 repeat' (first|exact I1 _|exact A4 _|exact Z2 _|(refine G1 ?_ (fun _=>?_))|(refine D2 (fun _=>?_) _)|split|(dsimp only))
theorem yd0 {P:Program} (t:TypeId) (a b:Value):D1 P (Instr.makeSlice t a b):=by
 unfold Instr.makeSlice
 repeat' (first|exact I1 _|exact A4 _|exact vu0 _|exact D5 _|exact if0 _ _|exact m6 _|exact x9 _|exact Z2 _|exact at0 _|exact sr0 _|exact ie0 _|(refine G1 ?_ (fun _=>?_))|(refine D2 (fun _=>?_) _)|split|(dsimp only))
theorem As0 {P:Program} (t:TypeId) (a:Value):D1 P (Instr.makeChan t a):=by
 unfold Instr.makeChan
 repeat' (first|exact I1 _|exact A4 _|exact vu0 _|exact D5 _|exact Z2 _|exact at0 _|exact Ss0 rfl|(refine G1 ?_ (fun _=>?_))|(refine D2 (fun _=>?_) _)|split|(dsimp only))
theorem vw0 {P:Program} (x:Value) (y:Nat) (c:BoundsCode):D1 P (Instr.sliceBound x y c):=by
 unfold Instr.sliceBound
 repeat' (first|exact I1 _|exact jw0 _|exact gf0 _ _ _ _|(refine G1 ?_ (fun _=>?_))|(refine D2 (fun _=>?_) _)|split|(dsimp only))
theorem gg0 {P:Program} (b:Bool) (l c:Nat) (x y z:Option Value):D1 P (Instr.sliceBounds b l c x y z):=by
 unfold Instr.sliceBounds
 repeat' (first|exact I1 _|exact A4 _|exact vw0 _ _ _|(refine G1 ?_ (fun _=>?_))|(refine D2 (fun _=>?_) _)|split|(dsimp only))
theorem Oi0 {P:Program} (t:TypeId) (v:Value) (x y z:Option Value):D1 P (Instr.slice t v x y z):=by
 unfold Instr.slice
 repeat' (first|exact I1 _|exact A4 _|exact gg0 _ _ _ _ _ _|exact ig0 _|exact m6 _|exact Z2 _|(refine G1 ?_ (fun _=>?_))|(refine D2 (fun _=>?_) _)|split|(dsimp only))
theorem Ex0 {P:Program} (t:TypeId) (v:Value) (x y z:Option Value):D1 P (Instr.sliceAt t v x y z):=by
 unfold Instr.sliceAt
 repeat' (first|exact I1 _|exact Oi0 _ _ _ _ _|exact gg0 _ _ _ _ _ _|exact au0 _|exact m6 _|exact Z2 _|(refine G1 ?_ (fun _=>?_))|(refine D2 (fun _=>?_) _)|split|(dsimp only))
theorem Oj0 {P:Program} (o:UnOp) (x:Value):D1 P (Op.unary o x):=by
 unfold Op.unary
 repeat' (first|exact I1 _|exact A4 _|(refine G1 ?_ (fun _=>?_))|(refine D2 (fun _=>?_) _)|split|(dsimp only))
theorem Db0 {P:Program} (x:Value):D1 P (Builtin.lenOf x):=by
 unfold Builtin.lenOf
 repeat' (first|exact I1 _|exact A4 _|(refine G1 ?_ (fun _=>?_))|(refine D2 (fun _=>?_) _)|split|(dsimp only))
theorem ih0 {P:Program} (s n:Nat) (x:Value):D1 P (Builtin.firstCells s n x):=by
 unfold Builtin.firstCells
 repeat' (first|exact I1 _|exact A4 _|exact la0 _ _|(refine G1 ?_ (fun _=>?_))|(refine D2 (fun _=>?_) _)|split|(dsimp only))
theorem al1 {P:Program} (a:Array TypeId) (t:TypeId) (x:Array Value):D1 P (Builtin.len_ a t x):=by
 unfold Builtin.len_
 repeat' (first|exact I1 _|exact A4 _|exact Z2 _|exact yc0 _|(refine G1 ?_ (fun _=>?_))|(refine D2 (fun _=>?_) _)|split|(dsimp only))
theorem am1 {P:Program} (a:Array TypeId) (t:TypeId) (x:Array Value):D1 P (Builtin.cap_ a t x):=by
 unfold Builtin.cap_
 repeat' (first|exact I1 _|exact A4 _|exact Z2 _|exact yc0 _|(refine G1 ?_ (fun _=>?_))|(refine D2 (fun _=>?_) _)|split|(dsimp only))
theorem Uz0 {P:Program} (a:Array TypeId) (t:TypeId) (x:Array Value):D1 P (Builtin.copy_ a t x):=by
 unfold Builtin.copy_
 repeat' (first|exact I1 _|exact A4 _|exact ih0 _ _ _|exact Db0 _|exact ac0 _ _ _|exact m6 _|exact Z2 _|(refine G1 ?_ (fun _=>?_))|(refine D2 (fun _=>?_) _)|split|(dsimp only))
end
end Go.Yc
end
section
namespace Go.Vc
open Go
abbrev Env:=Nat->Value
def upd (e:Env) (d:Nat) (v:Value):Env:=fun t=>if t=d then v else e t
def j3 (e:Env) (d:Option Nat) (v:Value):Env:=match d with|some d=>upd e d v|none=>e
def ev (e:Env) (x:Operand):Value:=match x with
 | .tmp t=>e t
 | .const v=>v
 | .global g=>.pointer (some ⟨g,0,none⟩)
 | .func f=>.func (.func f) #[] #[]
theorem upd_same (e:Env) (d:Nat) (v:Value):upd e d v d=v:=if_pos rfl
theorem upd_ne (e:Env) {d t:Nat} (v:Value) (h:t≠d):upd e d v t=e t:=if_neg h
theorem V0 {e:Env} {t:Nat} {v:Value} (h:e t=v):e=upd e t v:=by
 funext s;unfold upd;split
 ·rename_i hs;rw[hs,h]
 ·rfl
structure Rep (n:Nat) (a:Act) (e:Env):Prop where
 size:a.tmps.size=n
 defers:a.defers=[]
 get:∀t,a.tmps.getD t undef=e t
theorem Rep.eval {n:Nat} {a:Act} {e:Env} (h:Rep n a e):a.eval=ev e:=by
 funext x;cases x <;> simp[Act.eval,ev,h.get]
def I4 (n:Nat) (d:Option Nat):Bool:=match d with|some d=>Nat.blt d n|none=>true
theorem Rep.put {n:Nat} {a:Act} {e:Env} (h:Rep n a e) {d:Option Nat} (hd:I4 n d=true) (v:Value):Rep n (a.put d v) (j3 e d v):=by
 cases d with
 |none=>exact h
 |some d=>
  have g6:d<n:=by simpa [I4,Nat.blt_eq]using hd
  refine⟨by simp[Act.put,h.size],by simp[Act.put,h.defers],fun t=>?_⟩;have hg:=h.get t;simp only[Act.put,j3,upd,Array.getD_eq_getD_getElem?,Array.getElem?_setIfInBounds]at hg⊢;by_cases htd:t=d
  ·subst htd;simp[h.size,g6]
  ·simp only[htd,if_false,Ne.symm htd];exact hg
def lift (n:Nat) (Q:Exit->Env->World->Prop):Exit->Act->World->Prop:=fun x a w=>∃e,Rep n a e/\Q x e w
def W9 (next:Env->World->Prop) (Q:Exit->Env->World->Prop):Exit->Env->World->Prop
 | .normal,e,w=>next e w
 |x,e,w=>Q x e w
def av0 (id:Nat) (Q:Exit->Env->World->Prop):Exit->Env->World->Prop
 | .exit id',e,w=>if id'=id then Q .normal e w else Q (.exit id') e w
 |x,e,w=>Q x e w
section
variable {n:Nat}{e:Env}{w:World}
def Ol0 (n:Nat) (l:List Oper):Bool:=l.all fun o=>I4 n o.dst
variable {ops:Array Oper}{o:Oper}{v:Value}
def W2 (ops:Array Oper) (e:Env) (j:Nat):Option Bool :=
 match(ops[j]?).bind (·.dst)with
 |some t=>match e t with| .bool b=>some b|_=>none
 |none=>none
theorem lb0 {a:Act} (ha:Rep n a e) (j:Nat):yielded ops a.tmps j=W2 ops e j:=by
 unfold yielded W2;cases h:(ops[j]?).bind (·.dst)with
 |none=>simp
 |some t=>
  have hg:=ha.get t;simp only[Option.bind_some,Array.getD_eq_getD_getElem?]at hg⊢;cases h2:a.tmps[t]? with
  |none=>rw[h2]at hg;simp only[Option.getD_none]at hg;rw[<- hg];rfl
  |some u=>rw[h2]at hg;simp only[Option.getD_some]at hg;rw[<- hg];cases u <;> rfl
theorem p5 {a:Act} (ha:Rep n a e) (o:Oper):Region.wanted o (yielded ops a.tmps)=Region.wanted o (W2 ops e):=by
 have:yielded ops a.tmps=W2 ops e:=funext (lb0 ha);rw[this]
def Ret (R:Value->World->Prop):Ending->World->Prop
 | .returned v,w=>R v w
 |_,_=>False
end
section
end
def hav (G:List Nat) (f e:Env):Env:=fun t=>if G.contains t then f t else e t
def S0 (G:List Nat) (e' e:Env):Prop:=∀t,G.contains t=false->e' t=e t
theorem S0.refl (G:List Nat) (e:Env):S0 G e e:=fun _ _=>rfl
theorem S0.upd {G:List Nat} {e' e:Env} {d:Nat} {v:Value} (hd:G.contains d=true) (h:S0 G e' e):S0 G (upd e' d v) e:=fun t ht=>by
 have:t≠d:=fun h=>by subst h;rw[hd]at ht;cases ht
 rw[upd_ne _ _ this];exact h t ht
theorem S0.out {G:List Nat} {e' e:Env} (h:S0 G e' e):∃f,e'=hav G f e:=⟨e',by
 funext t;unfold hav;split
 ·rfl
 ·rename_i ht;exact h t (by simpa using ht)⟩
section
end
end Go.Vc
end
