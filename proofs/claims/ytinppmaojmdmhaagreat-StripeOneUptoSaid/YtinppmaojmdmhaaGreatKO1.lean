/- What the claim leans on, part 1. Laws. -/
import Derived.Conc.TokenTrace
import GoSem.Claim
import Derived.Below
import Derived.Conc.Token
import Derived.Conc.Listed
import Derived.Orders
import Derived.Deep.LoopGhost
import Derived.Conc.CompanyDraw
import GoSem.Dispatch
import Derived.WalkKit
set_option linter.unusedVariables false
namespace Go
structure B(Q:Prop):Prop where
  v:Q
section
variable{P Q:Prop}
theorem U180(h:P:=by refine AtR.leaveD (E0 _) rfl Tryz.func62 rfl hcm ?_;exact QuitsD.mono hT (by omega)):P:=h
theorem U369(h:P:=by refine ends.cell (cs:=#[.slice (some ⟨b33,0,none⟩) (2*n) (2*n),.int .i64 ((kc:Int)+1),.int .i64 (IntKind.i64.wrap (md+1))]) (.inr rfl) rfl rfl underlying97 rfl o8 X1 ?_;exact⟨_,_,_,_,rfl,hW.bk Ga0 Kt0 (Rm0 (by omega)),hb⟩):P:=h
theorem U370(h:P:=by refine ends.cell (cs:=#[.slice (some ⟨b14,0,none⟩) n n,.int .i64 ((kc:Int)+1),.int .i64 (IntKind.i64.wrap (md+1))]) (.inr rfl) rfl rfl underlying97 rfl o8 X1 ?_;exact⟨_,_,_,_,rfl,hW.bk Ga0 Kt0 (Rm0 (by omega)),hb⟩):P:=h
theorem U49(h:P:=by refine U16 ?_;exact⟨rfl,hb⟩):P:=h
theorem U376(h:P:=by refine U13 ?_;exact⟨_,(by(try clear X7);(try clear hun);(try clear He0);(try clear hs1);(try clear Ue0);omega),⟨i+1,_,_,_,rfl,rfl,rfl,rfl,rfl,rfl,rfl,(by omega),Ue0,hb,N5,X1,hY,hH,hC,hKs⟩⟩):P:=h
theorem U384(h:P:=by refine U13 ?_;exact⟨_,by omega,⟨i+1,a2,q+1,cp2,rfl,rfl,rfl,rfl,rfl,rfl,rfl,(by omega),(by rw[hrl,List.length_append,hq];rfl),(by rw[hrl,List.map_append];simpa [Pc0,hc]using hO2),hb⟩⟩):P:=h
theorem U388(h:P:=by rw[hm.hit j p t hp hd (V9 j hj)];exact(yz0 e0 ops.toList vals t j p (by rw[hlz];exact hp) hd (fun i' p' hp' L6=>h.one i' j p' p t (by rw[<- hlz];exact hp') hp L6 hd) _ hj).symm):P:=h
theorem U29(h:P:=by refine U16 ?_;exact⟨rfl,rfl⟩):P:=h
theorem U193(h:P:=by refine U82 ?_;exact⟨rfl,u0,F',h',r',⟨hK,hg0⟩,hC0,hCn,j3,ht⟩):P:=h
theorem U404(h:P:=by refine U13 ?_;exact⟨_,by omega,⟨v+1,(o3 ja (slot (2*n) (ky b)) a69),(o3 jc (slot (2*n) (ky b)) c69),rfl,rfl,rfl,rfl,rfl,rfl,rfl,rfl,rfl,hlv,hb,X1,I2,hK,hW⟩⟩):P:=h
theorem U405(h:P:=by refine U175 ?_;refine U13 ?_;exact⟨_,by omega,⟨j+1,_,_,_,_,_,rfl,rfl,rfl,rfl,rfl,rfl,hE1⟩⟩):P:=h
theorem U411(h:P:=by refine U13 ?_;exact⟨_,by omega,⟨v+1,(o3 ja (slot n (ky b)) a69),(o3 jc (slot n (ky b)) c69),rfl,rfl,rfl,rfl,rfl,rfl,rfl,rfl,rfl,hlv,hb,X1,I2,hK,hW⟩⟩):P:=h
theorem U39(h:P:=by refine U177 ?_;exact U405):P:=h
theorem U417(h:P:=by refine U13 ?_;exact⟨_,by omega,⟨i+1,a,q,cp,rfl,rfl,rfl,rfl,rfl,rfl,rfl,(by omega),(by rw[hrl];exact hq),(by rw[hrl];exact hO),hb⟩⟩):P:=h
theorem U204(h:P:=by refine U364 ?_;exact⟨m5,_,r5,hN,rfl,_,rfl⟩):P:=h
theorem U420(h:P:=by refine T.nrm ?_;exact⟨_,by omega,⟨n9+1,_,_,rfl,rfl,rfl,rfl,rfl,rfl,rfl,(.inl ⟨hn1,hH2,hC1⟩),hb,N5,X1,hY,hH,hC,hKs⟩⟩):P:=h
theorem U93(h:P:=by refine U82 ?_;exact⟨rfl,bw0⟩):P:=h
theorem U447(h:P:=by refine ZA.done hZ ?_;exact ZA.leaves (fn:=Tryz.f126) (f:=126) rfl func126 rfl (fun fr h8 h9=>hK _ fr h2 h8 h9)):P:=h
theorem U478(h:P:=by have hZ':Ctx.Zs prog (Fin prog Post {X' with pend:=0,cap:=0,dn:=0} 0):=E6;refine ZA.back (ft0 prog Post {X' with pend:=0,cap:=0,dn:=0} 0) (i:=1) rfl rfl ha h9 ?_;exact Vv0 hE hT hJ' (by rw[<- hrb];rfl) rfl):P:=h
theorem U219(h:P:=by refine U132 ?_;exact⟨rfl,hC,j3⟩):P:=h
theorem U488(h:P:=by rw[<- hv];exact next w (hl (fun j=>listed.getD j false) w hDi hVD C6 hJ)):P:=h
theorem U513(h:P:=by rw[hM9,h9.1,h9.2.1,h9.2.2.1,h9.2.2.2.1];exact⟨rfl,rfl,rfl,rfl⟩):P:=h
theorem U516(h:P:=by refine ends.none (.inr rfl) rfl ?_;exact⟨m1,_,r1,hN,rfl,_,rfl⟩):P:=h
theorem U517(h:P:=by refine AtR.Oa0 V0 rfl Tryz.func60 rfl ?_;exact Ob0 hK):P:=h
theorem U520(h:P:=by refine AtR.Oa0 R2 rfl Tryz.func64 rfl ?_;exact ci1 hK):P:=h
theorem U144(h:P:=by refine U7 ?_;exact U49):P:=h
theorem U239(h:P:=by refine U151 ?_;refine U35 ?_;refine U13 ?_;exact⟨_,by omega,⟨u+1,ja,jc,rfl,rfl,rfl,rfl,rfl,rfl,J1,hb,X1,I2,hK,(WB.round hW (by omega))⟩⟩):P:=h
variable(k:Q)
include k
theorem U0(h:Q->P:=by intro O;refine W.seq ?_;exact W.region rfl O):P:=h k
theorem U3(h:Q->P:=by intro O;refine L.nil ?_;show W _ _ _ _ _ _;exact O):P:=h k
theorem U58(h:Q->P:=by intro O;refine W.ret ?_;(repeat(first|refine T.ret ?_|refine B.ret ?_|refine N.ret ?_));exact O):P:=h k
theorem U13(h:Q->P:=by intro O;refine L.nil ?_;exact T.nrm O):P:=h k
theorem U150(h:Q->P:=by intro O;refine ZA.W hZ hb ?_;exact W.region rfl O):P:=h k
theorem U2(h:Q->P:=by intro O;refine U13 ?_;show ZA _ _ _ _ _ _ _;exact O):P:=h k
theorem U78(h:Q->P:=by intro O;(repeat(first|refine T.nrm ?_|refine B.nrm ?_|refine N.nrm ?_));exact ends.none (.inl rfl) rfl O):P:=h k
theorem U151(h:Q->P:=by intro O;(repeat(first|refine T.exit ?_|refine N.exit ?_|refine B.tw1 (by decide) ?_));exact B.bq1 O):P:=h k
theorem U10(h:Q->P:=by intro O;refine L.va (H3 rfl) ?_;exact L.va (E1 rfl) O):P:=h k
theorem U1(h:Q->P:=by intro O;have hb:Below w0.heap.size w0 w0:=Below.refl _ _;refine U0 ?_;revert hb;exact O):P:=h k
theorem U16(h:Q->P:=by intro O;refine U58 ?_;exact ends.one (.inr rfl) rfl O):P:=h k
theorem U4(h:Q->P:=by intro O;refine ZA.seq hZ ?_;exact U150 O):P:=h k
theorem U106(h:Q->P:=by intro O;refine L.pu 0 [.slice (some ⟨va m2 lb.j (s2.st lb.j).M3,0,none⟩) ((s2.st lb.j).O0) (vc m2 lb.j (s2.st lb.j).M3),.int .i64 ((s2.st lb.j).l.length:Nat),.int .i64 ((s2.st lb.j).made:Nat)] #[.slice (some ⟨va m2 lb.j (s2.st lb.j).M3,0,none⟩) ((s2.st lb.j).O0) (vc m2 lb.j (s2.st lb.j).M3),.int .i64 ((s2.st lb.j).l.length:Nat),.int .i64 ((s2.st lb.j).made:Nat)] o8 C8 (fun w A1 hg N2=>?_);have hN:=hN.j6 hg Ai0 lt9;revert w A1 hg N2 hN;exact O):P:=h k
theorem U336(h:Q->P:=by intro O;refine D.va (fun w' L1=>(A0 rfl underlying123 rfl ((hA.j0 L1).q0 0 (v:=.p c.cb) rfl))) ?_;exact D.va (fun w' L1=>(E1 rfl)) O):P:=h k
theorem U5(h:Q->P:=by intro O;refine L.va (gt0 rfl) ?_;exact U3 O):P:=h k
theorem U59(h:Q->P:=by intro O;refine W.skip ?_;show W _ _ _ _ _ _;exact O):P:=h k
theorem U337(h:Q->P:=by intro O;show W _ _ _ _ _ _;exact W.region rfl O):P:=h k
theorem U247(h:Q->P:=by intro O;refine N0.off (E0 _) rfl rfl ?_;exact N0.off (E0 _) rfl rfl O):P:=h k
theorem U338(h:B Q->P:=by intro O;refine L.va (pm0 rfl rfl (by omega)) ?_;exact L.va (C4 rfl) O.1):P:=h ⟨k⟩
theorem U152(h:Q->P:=by intro O;refine At.seq (E0 _) ?_;exact At.region (E0 _) O):P:=h k
theorem U27(h:Q->P:=by intro O;refine F.va rfl rfl (fun w' L1=>(H3 rfl)) ?_;exact F.va rfl rfl (fun w' L1=>(E1 rfl)) O):P:=h k
theorem U248(h:Q->P:=by intro O;refine W.fl 10 [5] [0,1,2,3,4,5,6,7,8,9] (fun w'=>K0 w' b9 #[.slice (some ⟨va m2 lb.j (s2.st lb.j).M3,0,none⟩) ((s2.st lb.j).O0) (vc m2 lb.j (s2.st lb.j).M3),.int .i64 ((s2.st lb.j).l.length:Nat),.int .i64 ((s2.st lb.j).made:Nat)] 97/\K0 w' (eb m e) #[.string lb.q,.int .i64 nm2,.p lm2,.pointer (some (⟨cnG m e,0,none⟩))] 127) (by kernel_rfl) (by kernel_rfl) (by kernel_rfl) (by kernel_rfl) (by kernel_rfl) (⟨C8.j0 (Below.refl w.heap.size w).drew,G7.j0 (Below.refl w.heap.size w).drew⟩) ?_;have V3:Below w.heap.size w w.drew:=(Below.refl w.heap.size w).drew;revert V3;exact O):P:=h k
theorem U6(h:Q->P:=by intro O;refine W.seq ?_;exact U0 O):P:=h k
theorem U43(h:Q->P:=by intro O;refine L.off rfl ?_;exact L.off rfl O):P:=h k
theorem U249(h:Q->P:=by intro O;refine L.va (D2 (cs:=[.int .i64 obj,.int .i64 num]) rfl underlying162 rfl qb0 rfl (hC.T6 rfl)) ?_;exact L.va (H3 rfl) O):P:=h k
theorem U7(h:Q->P:=by intro O;refine L.va (no0 rfl) ?_;exact U3 O):P:=h k
theorem U153(h:Q->P:=by intro O;refine L.va (C4 rfl) ?_;exact L.va (Q8 (i:=plc o) (n:=4) rfl rfl underlying166 lg0 (gp0 o)) O):P:=h k
theorem U250(h:Q->P:=by intro O;refine L.va (A0 rfl underlying157 rfl (hM.q0 0 (v:=(.iface 242 (.pointer (some ⟨sb,0,none⟩)))) rfl)) ?_;exact L.va (H3 rfl) O):P:=h k
theorem U251(h:Q->P:=by intro O;refine F.va rfl rfl (fun w' L1=>(B0 rfl underlying97 rfl qa0 (by decide))) ?_;exact F.va rfl rfl (fun w' L1=>(A0 rfl underlying95 rfl (L1.q0 0 (v:=.slice a n c) rfl))) O):P:=h k
theorem U339(h:Q->P:=by intro O;refine W.block ?_;exact W.loop (fun k e w=>∃(v:Nat),∃(ja:Nat->Option Addr),∃(jc:Nat->Nat),k=(qs sl n en u).length-v/\e 4= .pointer (some ⟨b4,0,none⟩)/\e 5= .pointer (some ⟨b5,0,none⟩)/\e 41= .slice a41 (n+1) c41/\e 42= .int .i64 ((n+1:Nat):Int)/\e 43= .int .i64 (u:Nat)/\e 47= .slice (o3 ia n (some ⟨b39,0,none⟩) u) ((qs sl n en u).length) (o3 ic n 1 u)/\e 48= .int .i64 ((qs sl n en u).length:Nat)/\e 49= .int .i64 (v:Nat)/\v <=(qs sl n en u).length/\Below w0.heap.size w0 w/\K0 w b4 #[.slice none 0 0,.int .i64 0,.int .i64 0] 97/\K0 w b5 #[.slice (some ⟨b33,0,none⟩) (2*n) (2*n),.int .i64 ((kc:Int)+1),.int .i64 (IntKind.i64.wrap (md+1))] 97/\Kg w1 w b33/\WB w w1.heap.size (2*n) b33 (at_ ky (2*n) (flv (qs sl n en) u v)) ja jc) _ ⟨0,ja,jc,rfl,rfl,rfl,rfl,rfl,rfl,rfl,rfl,rfl,Nat.zero_le _,hb,X1,I2,hK,(by rw[Cx0];exact hW)⟩ O):P:=h k
theorem U340(h:Q->P:=by intro O;refine F.va rfl rfl (fun w' L1=>(B0 rfl underlying97 rfl sz3 (by decide))) ?_;exact F.va rfl rfl (fun w' L1=>(A0 rfl underlying3 rfl (L1.q0 2 (v:=.int .i64 md) rfl))) O):P:=h k
theorem U341(h:Q->P:=by intro O;refine W.block ?_;exact W.loop (fun k e w=>∃(v:Nat),∃(ja:Nat->Option Addr),∃(jc:Nat->Nat),k=(qs sl n en u).length-v/\e 4= .pointer (some ⟨b4,0,none⟩)/\e 5= .pointer (some ⟨b5,0,none⟩)/\e 41= .slice a41 (n+1) c41/\e 42= .int .i64 ((n+1:Nat):Int)/\e 43= .int .i64 (u:Nat)/\e 47= .slice (o3 ia n (some ⟨b39,0,none⟩) u) ((qs sl n en u).length) (o3 ic n 1 u)/\e 48= .int .i64 ((qs sl n en u).length:Nat)/\e 49= .int .i64 (v:Nat)/\v <=(qs sl n en u).length/\Below w0.heap.size w0 w/\K0 w b4 #[.slice none 0 0,.int .i64 0,.int .i64 0] 97/\K0 w b5 #[.slice (some ⟨b14,0,none⟩) n n,.int .i64 ((kc:Int)+1),.int .i64 (IntKind.i64.wrap (md+1))] 97/\Kg w1 w b14/\WB w w1.heap.size n b14 (at_ ky n (flv (qs sl n en) u v)) ja jc) _ ⟨0,ja,jc,rfl,rfl,rfl,rfl,rfl,rfl,rfl,rfl,rfl,Nat.zero_le _,hb,X1,I2,hK,(by rw[Cx0];exact hW)⟩ O):P:=h k
theorem U31(h:Q->P:=by intro O;refine L.va (bg0 rfl) ?_;exact L.on rfl O):P:=h k
theorem U252(h:Q->P:=by intro O;refine U247 ?_;exact N0.val (E0 _) (M1 _) rfl (v:=.bool false) (fb0 rfl rfl) O):P:=h k
theorem U154(h:Q->P:=by intro O;refine W.seq ?_;exact W.nt0 5 (fun w'=>Below w.heap.size w w') (by kernel_rfl) (by kernel_rfl) (by kernel_rfl) (by kernel_rfl) ((Below.refl w.heap.size w).drew) O):P:=h k
theorem U22(h:Q->P:=by intro O;refine L.va (H3 rfl) ?_;exact L.va (C4 rfl) O):P:=h k
theorem U107(h:Q->P:=by intro O;refine B.nrm ?_;exact U337 O):P:=h k
theorem U17(h:Q->P:=by intro O;have V3:Below w.heap.size w w.drew:=(Below.refl w.heap.size w).drew;have hb:=G0 hb V3;revert V3 hb;exact O):P:=h k
theorem U342(h:Q->P:=by intro O;refine N0.nil (E0 _) ?_;exact At.V6 (E0 _) rfl O):P:=h k
theorem U8(h:Q->P:=by intro O;refine F.nil ?_;show L _ _ _ _ _ _ _;exact O):P:=h k
theorem U60(h:Q->P:=by intro O;refine D.va (fun w' L1=>(H3 rfl)) ?_;exact D.va (fun w' L1=>(E1 rfl)) O):P:=h k
theorem U18(h:Q->P:=by intro O;refine L.va (dr0 rfl) ?_;exact U3 O):P:=h k
theorem U61(h:Q->P:=by intro O;refine L.va (gv0 rfl rfl) ?_;exact U3 O):P:=h k
theorem U253(h:Q->P:=by intro O;refine U3 ?_;exact W.V6 rfl O):P:=h k
theorem U108(h:Q->P:=by intro O;refine L.va (Bh0 rfl) ?_;exact U3 O):P:=h k
theorem U109(h:Q->P:=by intro O;refine L.va (B0 rfl underlying97 rfl qa0 (by decide)) ?_;exact L.va (A0 rfl underlying95 rfl (A2.q0 0 (v:=.slice a n c) rfl)) O):P:=h k
theorem U155(h:B Q->P:=by intro O;refine L.va (C4 rfl) ?_;refine L.va (pm0 rfl rfl (by omega)) ?_;exact L.va (gt0 rfl) O.1):P:=h ⟨k⟩
theorem U9(h:Q->P:=by intro O;refine L.nil ?_;show ZA _ _ _ _ _ _ _;exact O):P:=h k
theorem U110(h:Q->P:=by intro O;refine N0.val (E0 _) (M1 _) rfl (v:=.bool false) (Z9 (r:=false) rfl rfl (by decide)) ?_;exact N0.val (E0 _) (M1 _) rfl (v:=.bool false) (M0 rfl) O):P:=h k
theorem U111(h:Q->P:=by intro O;refine L.va (H3 rfl) ?_;exact L.on rfl O):P:=h k
theorem U156(h:Q->P:=by intro O;refine L.pu 0 [.slice (some ⟨b14,0,none⟩) n n,.int .i64 ((kc:Int)+1),.int .i64 (IntKind.i64.wrap (md+1))] #[.slice (some ⟨b14,0,none⟩) n n,.int .i64 ((kc:Int)+1),.int .i64 (IntKind.i64.wrap (md+1))] o8 I2 (fun w A1 hg N2=>?_);have Y5:=N4.ei0 I2 hg;revert w A1 hg N2 Y5;exact O):P:=h k
theorem U23(h:Q->P:=by intro O;refine L.va (R9 rfl) ?_;exact L.va (C4 rfl) O):P:=h k
theorem U343(h:B Q->P:=by intro O;refine L.va (az0 (i:=(slot (2*n) (ky b))) rfl rfl underlying95 ff0 hi) ?_;refine L.put (b:=b33) (o:=0+(slot (2*n) (ky b))*1) (vs:=[.slice a69 ((at_ ky (2*n) (flv (qs sl n en) u v) (slot (2*n) (ky b))).length+1) c69]) (arr (2*n) fun j=>.slice (o3 ja (slot (2*n) (ky b)) a69 j) (o3 (at_ ky (2*n) (flv (qs sl n en) u v)) (slot (2*n) (ky b)) ((at_ ky (2*n) (flv (qs sl n en) u v) (slot (2*n) (ky b))) ++ [b]) j).length (o3 jc (slot (2*n) (ky b)) c69 j)) rfl rfl rfl ff0 rfl rfl hoc (by rw[T5];omega) (ed0 hi (by rw[Y0,Y0,Y0,List.length_append];rfl) (fun j hj=>by rw[Z0 hj,Z0 hj,Z0 hj])) (fun w A1 hg N2=>?_);revert w A1 hg N2;exact O.1):P:=h ⟨k⟩
theorem U254(h:Q->P:=by intro O;refine F.va rfl rfl (fun w' L1=>(D2 (cs:=[.slice (some ⟨va m2 lb.j (s2.st lb.j).M3,0,none⟩) ((s2.st lb.j).O0) (vc m2 lb.j (s2.st lb.j).M3),.int .i64 ((s2.st lb.j).l.length:Nat),.int .i64 ((s2.st lb.j).made:Nat)]) rfl underlying97 rfl o8 rfl (L1.1.T6 rfl))) ?_;exact U27 O):P:=h k
theorem U344(h:Q->P:=by intro O;refine W.seq ?_;exact W.block O):P:=h k
theorem U255(h:Q->P:=by intro O;refine At.seq V0 ?_;exact At.region V0 O):P:=h k
theorem U157(h:Q->P:=by intro O;refine D.va (fun w' L1=>(B0 rfl underlying173 rfl Zk0 (by decide))) ?_;exact D.va (fun w' L1=>(A0 rfl underlying170 rfl ((hg.m.run.j0 L1).q0 7 (v:=.chan (some R.yb)) rfl))) O):P:=h k
theorem U345(h:Q->P:=by intro O;refine N0.val Z2 (M1 _) rfl (v:=.pointer (some ⟨gr.blk,gr.off,none⟩)) (M0 rfl) ?_;exact N0.val Z2 (M1 _) rfl (v:=.pointer (some ⟨gr.blk,gr.off,none⟩)) (J5 rfl) O):P:=h k
theorem U158(h:Q->P:=by intro O;refine F.va rfl rfl (fun w' L1=>(B0 rfl underlying97 rfl sz3 (by decide))) ?_;exact F.va rfl rfl (fun w' L1=>(A0 rfl underlying3 rfl (L1.q0 1 (v:=.int .i64 (kc:Int)) rfl))) O):P:=h k
theorem U346(h:B Q->P:=by intro O;refine L.va (az0 (i:=(slot n (ky b))) rfl rfl underlying95 ff0 hi) ?_;refine L.put (b:=b14) (o:=0+(slot n (ky b))*1) (vs:=[.slice a69 ((at_ ky n (flv (qs sl n en) u v) (slot n (ky b))).length+1) c69]) (arr n fun j=>.slice (o3 ja (slot n (ky b)) a69 j) (o3 (at_ ky n (flv (qs sl n en) u v)) (slot n (ky b)) ((at_ ky n (flv (qs sl n en) u v) (slot n (ky b))) ++ [b]) j).length (o3 jc (slot n (ky b)) c69 j)) rfl rfl rfl ff0 rfl rfl hoc (by rw[T5];omega) (ed0 hi (by rw[Y0,Y0,Y0,List.length_append];rfl) (fun j hj=>by rw[Z0 hj,Z0 hj,Z0 hj])) (fun w A1 hg N2=>?_);revert w A1 hg N2;exact O.1):P:=h ⟨k⟩
theorem U62(h:Q->P:=by intro O;refine F.va rfl rfl (fun w' L1=>(H3 rfl)) ?_;exact F.va rfl rfl (fun w' L1=>(C4 rfl)) O):P:=h k
theorem U159(h:Q->P:=by intro O;refine At.seq (W0 _ gr 2) ?_;exact At.region (W0 _ gr 2) O):P:=h k
theorem U63(h:Q->P:=by intro O;refine U10 ?_;exact L.va (B0 rfl underlying248 rfl sz4 (by decide)) O):P:=h k
theorem U160(h:Q->P:=by intro O;refine N0.off V0 rfl rfl ?_;exact N0.off V0 rfl rfl O):P:=h k
theorem U79(h:Q->P:=by intro O;refine L.va (E1 rfl) ?_;exact L.va (B0 rfl underlying173 rfl lf0 (by decide)) O):P:=h k
theorem U11(h:Q->P:=by intro O;refine U2 ?_;exact ZA.seq hZ O):P:=h k
theorem U112(h:Q->P:=by intro O;refine At.seq (E0 _) ?_;exact U152 O):P:=h k
theorem U113(h:Q->P:=by intro O;refine L.va (E1 rfl) ?_;exact L.va (B0 rfl underlying248 rfl sz4 (by decide)) O):P:=h k
theorem U12(h:Q->P:=by intro O;refine U4 ?_;exact L.va (H3 rfl) O):P:=h k
theorem U161(h:Q->P:=by intro O;refine U153 ?_;exact L.va (A0 (v:=.pointer (some (⟨eb m e,0,none⟩))) rfl underlying71 rfl (by have h9:=K0.lr0 hE.hA (gp0 o);rw[gs0]at h9;exact h9)) O):P:=h k
theorem U347(h:Q->P:=by intro O;refine L.va (A0 rfl underlying242 rfl (hB0.q0 0 (v:=.pointer (some ⟨sb,0,none⟩)) rfl)) ?_;exact L.va (E1 rfl) O):P:=h k
theorem U256(h:Q->P:=by intro O;refine L.va (D9 rfl rfl) ?_;exact L.va (D9 rfl rfl) O):P:=h k
theorem U32(h:Q->P:=by intro O;refine ZA.code hZ hb ?_;exact W.region rfl O):P:=h k
theorem U19(h:Q->P:=by intro O;refine L.va E7 ?_;exact U3 O):P:=h k
theorem U162(h:Q->P:=by intro O;refine L.va (B0 rfl underlying97 rfl qa0 (by decide)) ?_;exact L.va (A0 rfl underlying95 rfl (I2.q0 0 (v:=.slice (some ⟨b14,0,none⟩) n n) rfl)) O):P:=h k
theorem U348(h:B Q->P:=by intro O;have hi:=lp0 (n:=(2*n)) (by omega) (ky b);refine W.fl 11 [9,10] [0,1,2,3,4,5,6,7,8,9,10] (fun w'=>K0 w' b5 #[.slice (some ⟨b33,0,none⟩) (2*n) (2*n),.int .i64 ((kc:Int)+1),.int .i64 (IntKind.i64.wrap (md+1))] 97/\K0 w' b33 (arr (2*n) fun j=>.slice (ja j) (at_ ky (2*n) (flv (qs sl n en) u v) j).length (jc j)) 195) (by kernel_rfl) (by kernel_rfl) (by kernel_rfl) (by kernel_rfl) (by kernel_rfl) (⟨I2.j0 (Below.refl w.heap.size w).drew,hoc.j0 (Below.refl w.heap.size w).drew⟩) ?_;revert hi;exact O.1):P:=h ⟨k⟩
theorem U257(h:Q->P:=by intro O;refine ZA.V6 hZ rfl ?_;exact ZA.skip hZ O):P:=h k
theorem U258(h:Q->P:=by intro O;refine N0.val V0 (M1 _) rfl (v:=.bool false) (Z9 (r:=false) rfl rfl (by decide)) ?_;exact N0.val V0 (M1 _) rfl (v:=.bool false) (M0 rfl) O):P:=h k
theorem U349(h:Q->P:=by intro O;refine L.va (B0 rfl underlying45 rfl Jx0 (by decide)) ?_;exact L.va (A0 rfl underlying41 rfl (X1.q0 0 (v:=.slice R.ea R.evs.length R.ec) rfl)) O):P:=h k
theorem U15(h:Q->P:=by intro O;have lt2:=F2.lq hb.size;have hb:=G0 hb F2.below;revert lt2 hb;exact O):P:=h k
theorem U64(h:Q->P:=by intro O;refine L.alloc (cs:=#[.slice none 0 0,.int .i64 0,.int .i64 0]) Ff0 rfl (fun w b5 F5=>?_);have lt5:=F5.lq hb.size;revert w b5 F5 lt5;exact O):P:=h k
theorem U80(h:Q->P:=by intro O;refine L.va (C4 rfl) ?_;exact L.on rfl O):P:=h k
theorem U33(h:Q->P:=by intro O;refine U3 ?_;exact W.W7 rfl O):P:=h k
theorem U350(h:Q->P:=by intro O;refine W.seq ?_;exact W.fl 11 [8,10] [0,1,2,3,4,5,6,7,9,8,10] (fun w'=>K0 w' b5 #[.slice a9 n c9,.int .i64 (IntKind.i64.wrap (ct-1)),.int .i64 md] 97/\K0 w' b2 #[.slice a n c,.int .i64 ct,.int .i64 md] 97/\Bk w' Bl n a c sl ia ic) (by kernel_rfl) (by kernel_rfl) (by kernel_rfl) (by kernel_rfl) (by kernel_rfl) (⟨I2.j0 (Below.refl w.heap.size w).drew,A2.j0 (Below.refl w.heap.size w).drew,hB.j0 (Below.refl w.heap.size w).drew⟩) O):P:=h k
theorem U351(h:B Q->P:=by intro O;have hi:=lp0 (n:=n) (by omega) (ky b);refine W.fl 11 [9,10] [0,1,2,3,4,5,6,7,8,9,10] (fun w'=>K0 w' b5 #[.slice (some ⟨b14,0,none⟩) n n,.int .i64 ((kc:Int)+1),.int .i64 (IntKind.i64.wrap (md+1))] 97/\K0 w' b14 (arr n fun j=>.slice (ja j) (at_ ky n (flv (qs sl n en) u v) j).length (jc j)) 195) (by kernel_rfl) (by kernel_rfl) (by kernel_rfl) (by kernel_rfl) (by kernel_rfl) (⟨I2.j0 (Below.refl w.heap.size w).drew,hoc.j0 (Below.refl w.heap.size w).drew⟩) ?_;revert hi;exact O.1):P:=h ⟨k⟩
theorem U114(h:Q->P:=by intro O;refine U249 ?_;exact L.va (u5 (l:=[.tmp 2]) (vs:=[.pointer (some ⟨b2,0,none⟩)]) rfl) O):P:=h k
theorem U163(h:Q->P:=by intro O;refine L.va (B0 rfl underlying97 rfl sz3 (by decide)) ?_;exact L.va (A0 rfl underlying3 rfl (I2.q0 1 (v:=.int .i64 ((kc:Int)+1)) rfl)) O):P:=h k
theorem U352(h:Q->P:=by intro O;refine F.va rfl rfl (fun w' L1=>(D9 rfl rfl)) ?_;exact F.va rfl rfl (fun w' L1=>(D9 rfl rfl)) O):P:=h k
theorem U164(h:Q->P:=by intro O;refine U153 ?_;exact L.va (A0 (v:=.pointer none) rfl underlying71 rfl (by have h9:=K0.lr0 hE.hA (gp0 o);rw[gs0]at h9;exact h9)) O):P:=h k
theorem U115(h:Q->P:=by intro O;refine L.alloc (cs:=#[.slice none 0 0,.int .i64 0,.int .i64 0]) Ff0 rfl (fun w b9 F9=>?_);(have Ai0:=hN.at_.fresh (Nat.le_of_eq F9.here.symm));revert w b9 F9 Ai0;exact O):P:=h k
theorem U165(h:Q->P:=by intro O;refine L.va (B0 rfl underlying39 rfl jj1 (by decide)) ?_;exact L.va (A0 rfl underlying36 rfl (N5.q0 2 (v:=.slice ba m bc) rfl)) O):P:=h k
theorem U353(h:Q->P:=by intro O;refine L.va (C4 rfl) ?_;exact U3 O):P:=h k
theorem U166(h:Q->P:=by intro O;refine U336 ?_;exact D.va (fun w' L1=>(B0 rfl underlying248 rfl Hy0 (by decide))) O):P:=h k
theorem U14(h:Q->P:=by intro O;refine U6 ?_;exact L.va (C4 rfl) O):P:=h k
theorem U354(h:Q->P:=by intro O;refine U4 ?_;exact L.va (A0 rfl underlying123 rfl (hA.q0 0 (v:=.p c.cb) rfl)) O):P:=h k
theorem U167(h:Q->P:=by intro O;refine U336 ?_;exact D.va (fun w' L1=>(B0 rfl underlying248 rfl sz3 (by decide))) O):P:=h k
theorem U355(h:Q->P:=by intro O;have hX1:=et1 (e:=en) (Bl:=Bl) (hB0.j0 hb).inn gn0 (Nat.le_trans hBl Wz0);have hE1:as0 w1 ky (fl (qs sl n en) (n+1)):=(fn0 sl n en).symm▸(hE0.j0 hb);revert hX1 hE1;exact O):P:=h k
theorem U356(h:Q->P:=by intro O;refine L.va (D2 (cs:=[.slice (some ⟨b33,0,none⟩) (2*n) (2*n),.int .i64 ((kc:Int)+1),.int .i64 (IntKind.i64.wrap (md+1))]) rfl underlying97 rfl o8 rfl (I2.T6 rfl)) ?_;refine L.pu 0 [.slice (some ⟨b33,0,none⟩) (2*n) (2*n),.int .i64 ((kc:Int)+1),.int .i64 (IntKind.i64.wrap (md+1))] #[.slice (some ⟨b33,0,none⟩) (2*n) (2*n),.int .i64 ((kc:Int)+1),.int .i64 (IntKind.i64.wrap (md+1))] o8 X1 (fun w A1 hg N2=>?_);revert w A1 hg N2;exact O):P:=h k
theorem U259(h:Q->P:=by intro O;refine U342 ?_;exact At.skip (E0 _) O):P:=h k
theorem U81(h:Q->P:=by intro O;refine U160 ?_;exact N0.val V0 (M1 _) rfl (v:=.bool false) (fb0 rfl rfl) O):P:=h k
theorem U168(h:Q->P:=by intro O;refine L.va (R9 rfl) ?_;exact L.va (M6 rfl underlying195 rfl) O):P:=h k
theorem U116(h:Q->P:=by intro O;refine U151 ?_;show W _ _ _ _ _ _;exact O):P:=h k
theorem U44(h:Q->P:=by intro O;refine At.seq R2 ?_;exact At.region R2 O):P:=h k
theorem U169(h:Q->P:=by intro O;refine L.va (H3 rfl) ?_;refine L.ct0 (cs:=#[.pointer (some ⟨en,0,none⟩)]) rfl rfl underlying195 lg0 rfl ⟨_,cr1⟩ (by decide) (fun w b39 F39=>?_);revert w b39 F39;exact O):P:=h k
theorem U357(h:Q->P:=by intro O;refine L.va (D2 (cs:=[.slice (some ⟨b14,0,none⟩) n n,.int .i64 ((kc:Int)+1),.int .i64 (IntKind.i64.wrap (md+1))]) rfl underlying97 rfl o8 rfl (I2.T6 rfl)) ?_;refine L.pu 0 [.slice (some ⟨b14,0,none⟩) n n,.int .i64 ((kc:Int)+1),.int .i64 (IntKind.i64.wrap (md+1))] #[.slice (some ⟨b14,0,none⟩) n n,.int .i64 ((kc:Int)+1),.int .i64 (IntKind.i64.wrap (md+1))] o8 X1 (fun w A1 hg N2=>?_);revert w A1 hg N2;exact O):P:=h k
theorem U82(h:Q->P:=by intro O;refine L.nil ?_;exact U78 O):P:=h k
theorem U117(h:Q->P:=by intro O;refine U0 ?_;exact L.va (C4 rfl) O):P:=h k
theorem U170(h:Q->P:=by intro O;refine L.off rfl ?_;exact L.va (A7 rfl) O):P:=h k
theorem U171(h:Q->P:=by intro O;refine L.va (E1 rfl) ?_;exact L.va (B0 rfl underlying92 rfl jq1 (by decide)) O):P:=h k
theorem U172(h:Q->P:=by intro O;refine L.ct0 (cs:=#[.slice (some ⟨b39,0,none⟩) 1 1]) rfl rfl underlying95 ff0 rfl ⟨_,ju1⟩ (by decide) (fun w b40 F40=>?_);have Cy0:=F40.lq hb.size;revert w b40 F40 Cy0;exact O):P:=h k
theorem U260(h:Q->P:=by intro O;refine L.va (E1 rfl) ?_;exact L.on rfl O):P:=h k
theorem U173(h:B Q->P:=by intro O;refine F.doo rfl rfl ?_;refine L.make (m:=n) rfl rfl underlying95 nx0 (z0:=.slice none 0 0) rfl (by decide) (by omega) (by omega) (fun w b14 F14=>?_);revert w b14 F14;exact O.1):P:=h ⟨k⟩
theorem U34(h:Q->P:=by intro O;refine L.va (no0 rfl) ?_;exact U2 O):P:=h k
theorem U261(h:Q->P:=by intro O;refine D.va (fun w' L1=>(A0 rfl underlying3 rfl ((hC.j0 L1).q0 0 (v:=.i (i:Int)) rfl))) ?_;exact D.va (fun w' L1=>az0 (i:=i) rfl rfl underlying37 sz3 hi) O):P:=h k
theorem U83(h:Q->P:=by intro O;refine U59 ?_;exact U344 O):P:=h k
theorem U84(h:Q->P:=by intro O;refine U1 ?_;intro hb;refine L.box (cs:=#[.pointer (some ⟨sb,0,none⟩)]) rfl rfl (fun w b2 F2=>?_);revert hb w b2 F2;exact O):P:=h k
theorem U358(h:Q->P:=by intro O;refine F.va rfl rfl (fun w' L1=>(az0 (i:=(slot (2*n) (ky b))) rfl rfl underlying95 ff0 hi)) ?_;exact F.va rfl rfl (fun w' L1=>(A0 (v:=.slice (ja (slot (2*n) (ky b))) (at_ ky (2*n) (flv (qs sl n en) u v) (slot (2*n) (ky b))).length (jc (slot (2*n) (ky b)))) rfl underlying195 rfl (K0.lr0 L1.2 hi))) O):P:=h k
theorem U262(h:Q->P:=by intro O;refine D.va (fun w' L1=>(A0 rfl underlying169 rfl (((hg.m.blk i _ (B7 hc)).j0 L1).q0 1 (v:=.p R.rb) rfl))) ?_;exact D.va (fun w' L1=>(E1 rfl)) O):P:=h k
theorem U174(h:Q->P:=by intro O;refine N0.val (W0 _ gr 2) (M1 _) rfl (v:=.bool false) (fb0 rfl rfl) ?_;exact N0.nil (W0 _ gr 2) O):P:=h k
theorem U85(h:Q->P:=by intro O;refine U253 ?_;exact U59 O):P:=h k
theorem U359(h:Q->P:=by intro O;refine L.va (A0 rfl underlying27 rfl (hC.q0 2 (v:=.pointer (some ⟨wb,0,none⟩)) rfl)) ?_;exact L.call (K2 rfl func69 rfl cw1 rfl) (qs0 wb w hW) O):P:=h k
theorem U263(h:Q->P:=by intro O;refine U2 ?_;exact ZA.nt0 hZ hb 11 (fun w'=>Below w.heap.size w w') (by kernel_rfl) (by kernel_rfl) (by kernel_rfl) (by kernel_rfl) (Below.refl w.heap.size w).drew O):P:=h k
theorem U118(h:Q->P:=by intro O;refine At.seq (T3 _ gr) ?_;exact At.region (T3 _ gr) O):P:=h k
theorem U360(h:Q->P:=by intro O;refine L.va (B0 rfl underlying45 rfl Od0 (by decide)) ?_;exact L.va (A0 rfl underlying42 rfl (X1.q0 1 (v:=.slice R.na R.nts.length R.nc) rfl)) O):P:=h k
theorem U45(h:Q->P:=by intro O;refine At.seq Z2 ?_;exact At.region Z2 O):P:=h k
theorem U175(h:B Q->P:=by intro O;refine U107 ?_;exact U155 O.1):P:=h ⟨k⟩
theorem U264(h:Q->P:=by intro O;refine W.nt0 13 (fun w'=>Below w.heap.size w w') (by kernel_rfl) (by kernel_rfl) (by kernel_rfl) (by kernel_rfl) ((Below.refl w.heap.size w).drew) ?_;exact U166 O):P:=h k
theorem U265(h:Q->P:=by intro O;refine N0.val hY hb rfl (px0 rfl underlying173 rfl Zk0 (by decide)) ?_;exact N0.stay (v:=.chan (some R.yb)) hb rfl (by simp) rfl underlying170 rfl O):P:=h k
theorem U46(h:Q->P:=by intro O;refine U3 ?_;exact W.region rfl O):P:=h k
theorem U266(h:Q->P:=by intro O;refine L.va (B0 rfl underlying164 rfl qb0 (by decide)) ?_;exact L.va (D2 (cs:=[.i obj,.i num]) rfl underlying162 rfl qb0 rfl (hC.T6 rfl)) O):P:=h k
theorem U86(h:Q->P:=by intro O;refine L.va (p6 rfl) ?_;exact L.nil O):P:=h k
theorem U267(h:Q->P:=by intro O;refine N0.off (W0 _ gr 2) rfl rfl ?_;exact N0.off (W0 _ gr 2) rfl rfl O):P:=h k
theorem U361(h:Q->P:=by intro O;refine F.va rfl rfl (fun w' L1=>(az0 (i:=(slot n (ky b))) rfl rfl underlying95 ff0 hi)) ?_;exact F.va rfl rfl (fun w' L1=>(A0 (v:=.slice (ja (slot n (ky b))) (at_ ky n (flv (qs sl n en) u v) (slot n (ky b))).length (jc (slot n (ky b)))) rfl underlying195 rfl (K0.lr0 L1.2 hi))) O):P:=h k
theorem U176(h:Q->P:=by intro O;refine L.va (A0 rfl underlying89 rfl (A2.q0 0 (v:=.p cb) rfl)) ?_;exact L.va (E1 rfl) O):P:=h k
theorem U177(h:Q->P:=by intro O;refine L.nil ?_;exact B.nrm O):P:=h k
theorem U65(h:Q->P:=by intro O;refine U4 ?_;exact L.va (bg0 rfl) O):P:=h k
theorem U362(h:Q->P:=by intro O;refine F.va rfl rfl (fun w' L1=>(A0 (v:=.slice (ia (slot n (ky e))) (sl (slot n (ky e))).length (ic (slot n (ky e)))) rfl underlying195 rfl (Own.at1 (Bk.out L1.2.2) hj))) ?_;exact F.va rfl rfl (fun w' L1=>(u5 (l:=[.tmp 3]) (vs:=[.pointer (some ⟨b3,0,none⟩)]) rfl)) O):P:=h k
theorem U268(h:B Q->P:=by intro O;refine L.va (M6 rfl underlying95 rfl) ?_;exact L.va (nq1 (n:=n) (by omega)▸vx0 rfl rfl) O.1):P:=h ⟨k⟩
theorem U363(h:Q->P:=by intro O;refine L.va (D2 (cs:=[.slice (some ⟨va m2 lb.j (s2.st lb.j).M3,0,none⟩) ((s2.st lb.j).O0) (vc m2 lb.j (s2.st lb.j).M3),.int .i64 ((s2.st lb.j).l.length:Nat),.int .i64 ((s2.st lb.j).made:Nat)]) rfl underlying97 rfl o8 rfl (C8.T6 rfl)) ?_;exact L.va v5 O):P:=h k
theorem U269(h:Q->P:=by intro O;refine D.va (fun w' L1=>(A0 rfl underlying169 rfl ((hC.j0 L1).q0 1 (v:=.p R.rb) rfl))) ?_;exact D.va (fun w' L1=>(E1 rfl)) O):P:=h k
theorem U364(h:Q->P:=by intro O;refine ZR.leave rfl func28 L5 ?_;exact ends.none (.inr rfl) rfl O):P:=h k
theorem U66(h:Q->P:=by intro O;refine U33 ?_;exact W.region rfl O):P:=h k
theorem U178(h:Q->P:=by intro O;refine L.va (S5 (i:=v) rfl rfl underlying195 lg0 (hX1 u J1).sl hlv) ?_;have hO9:=hK.own (hX1 u J1) (Ks0 u J1);revert hO9;exact O):P:=h k
theorem U270(h:Q->P:=by intro O;refine F.va rfl rfl (fun w' L1=>(E1 rfl)) ?_;exact F.va rfl rfl (fun w' L1=>(B0 rfl underlying92 rfl jq1 (by decide))) O):P:=h k
theorem U365(h:B Q->P:=by intro O;refine L.va (A0 (v:=.pointer (some (⟨cl i,0,none⟩))) rfl underlying89 rfl (go0 (o:=67+i*1) hT (by omega) (Gh0 J1))) ?_;exact L.call (P2 rfl rfl func39 rfl Vk0 rfl) (ne1 (cl i) wb Ry0 i (sa i) (sn i) (sc i) (ct i:Nat) (md i) _ (hC.all i J1) hW) O.1):P:=h ⟨k⟩
theorem U271(h:Q->P:=by intro O;have neA:=O1.ne hA (hg.m.blk i c hc) (by decide);refine L.stC (i:=i) (o:=9) (vs:=[.bool false]) hg {c with wt:=false} hc rfl rfl rfl rfl sz4 rfl rfl (by decide) rfl (fun w hg j3=>?_);revert neA w hg j3;exact O):P:=h k
theorem U366(h:B Q->P:=by intro O;refine L.put (b:=b4) (o:=0+plc o*1) (vs:=[.pointer none]) (arr 4 fun x=>Am0 m (o3 has (plc o) none x)) rfl rfl rfl lg0 rfl rfl hE.hA (by rw[T5];have:=gp0 o;omega) (ed0 (gp0 o) (by rw[Y0];rfl) (fun j hj=>by rw[Z0 hj])) (fun w hA2 hg N2=>?_);(have X7:=hE.at_.j6 hg (by rw[r8];exact hE.nf));revert w hA2 hg N2 X7;exact O.1):P:=h ⟨k⟩
theorem U367(h:B Q->P:=by intro O;refine N0.val (E0 _) (M1 _) rfl (v:=.int .i32 (((v:Nat):Int))) (E4 (r:=((v:Nat):Int)) rfl Tryz.underlying140 Tryz.underlying21 (fc0 v (by omega))) ?_;exact N0.val (E0 _) (M1 _) rfl (v:=.int .i32 (((v:Nat):Int))) (I1 rfl) O.1):P:=h ⟨k⟩
theorem U272(h:Q->P:=by intro O;refine U167 ?_;exact D.va (fun w' L1=>(A0 rfl underlying3 rfl (((hg.m.blk i _ (B7 hc)).j0 L1).q0 0 (v:=.i (i:Int)) rfl))) O):P:=h k
theorem U119(h:Q->P:=by intro O;refine At.V6 (W0 _ gr 2) rfl ?_;exact At.skip (W0 _ gr 2) O):P:=h k
theorem U368(h:Q->P:=by intro O;refine L.va (D2 (cs:=[.slice a9 n c9,.int .i64 (IntKind.i64.wrap (ct-1)),.int .i64 md]) rfl underlying97 rfl o8 rfl (I2.T6 rfl)) ?_;refine L.pu 0 [.slice a9 n c9,.int .i64 (IntKind.i64.wrap (ct-1)),.int .i64 md] #[.slice a9 n c9,.int .i64 (IntKind.i64.wrap (ct-1)),.int .i64 md] o8 X1 (fun w A1 hg N2=>?_);revert w A1 hg N2;exact O):P:=h k
theorem U67(h:Q->P:=by intro O;refine At.seq C3 ?_;exact At.region C3 O):P:=h k
theorem U47(h:Q->P:=by intro O;refine ZA.O4 hZ ?_;exact ZA.seq hZ O):P:=h k
theorem U68(h:Q->P:=by intro O;refine W.region rfl ?_;exact L.va (C4 rfl) O):P:=h k
theorem U179(h:Q->P:=by intro O;refine U6 ?_;exact L.va (H3 rfl) O):P:=h k
theorem U28(h:Q->P:=by intro O;exact U3 O):P:=h k
theorem U273(h:Q->P:=by intro O;refine W.seq ?_;exact W.quiet (fun w'=>Below w.heap.size w w') (by kernel_rfl) (by kernel_rfl) ((Below.refl w.heap.size w).drew) O):P:=h k
theorem U120(h:Q->P:=by intro O;refine At.seq V0 ?_;exact U255 O):P:=h k
theorem U181(h:Q->P:=by intro O;refine AtR.leave0 (E0 _) O7 rfl Tryz.func60 rfl ?_;exact N0.nil (E0 _) O):P:=h k
theorem U371(h:Q->P:=by intro O;refine L.va (B0 rfl underlying65 rfl sz3 (by decide)) ?_;exact L.on rfl O):P:=h k
theorem U48(h:Q->P:=by intro O;refine U0 ?_;exact L.va (H3 rfl) O):P:=h k
theorem U372(h:Q->P:=by intro O;refine U154 ?_;exact D.va (fun w' L1=>(D2 (cs:=[.slice (some ⟨b33,0,none⟩) (2*n) (2*n),.int .i64 ((kc:Int)+1),.int .i64 (IntKind.i64.wrap (md+1))]) rfl underlying97 rfl o8 rfl ((I2.j0 L1).T6 rfl))) O):P:=h k
theorem U35(h:B Q->P:=by intro O;refine U107 ?_;exact U338 O.1):P:=h ⟨k⟩
theorem U274(h:Q->P:=by intro O;refine U159 ?_;exact N0.val (W0 _ gr 2) (M1 _) rfl (v:=.int .u64 (((0*4294967296+1:Nat):Int))) (M0 rfl) O):P:=h k
theorem U182(h:Q->P:=by intro O;rw[P0 s4,P0 s5,P0 s41,P0 s42,P0 s43];exact O):P:=h k
theorem U373(h:Q->P:=by intro O;refine L.va (A0 (v:=.int .i64 ((C c+1:Nat):Int)) rfl underlying3 rfl (by have h9:=K0.lr0 hC hcm;rw[Y0]at h9;exact h9)) ?_;exact L.va (jq0 (m:=((C c+1:Nat):Int)) (k:=2) rfl rfl (by decide)) O):P:=h k
theorem U374(h:Q->P:=by intro O;refine U154 ?_;exact D.va (fun w' L1=>(D2 (cs:=[.slice (some ⟨b14,0,none⟩) n n,.int .i64 ((kc:Int)+1),.int .i64 (IntKind.i64.wrap (md+1))]) rfl underlying97 rfl o8 rfl ((I2.j0 L1).T6 rfl))) O):P:=h k
theorem U375(h:Q->P:=by intro O;refine F.va rfl rfl (fun w' L1=>(B0 rfl underlying92 rfl sz3 (by decide))) ?_;exact F.va rfl rfl (fun w' L1=>(A0 (v:=.int .i64 p.obj) rfl underlying3 rfl (go0 (o:=1) (Tn.tb L1) (by decide) rfl))) O):P:=h k
theorem U36(h:Q->P:=by intro O;refine U31 ?_;exact U111 O):P:=h k
theorem U377(h:Q->P:=by intro O;refine N0.val (W0 _ gr 2) (M1 _) rfl (v:=.pointer (some ⟨gr.blk,gr.off,none⟩)) (M0 rfl) ?_;exact N0.val (W0 _ gr 2) (M1 _) rfl (v:=.pointer (some ⟨gr.blk,gr.off,none⟩)) (J5 rfl) O):P:=h k
theorem U378(h:Q->P:=by intro O;refine N0.val (W0 _ gr 1) (M1 _) rfl (v:=.pointer (some ⟨gr.blk,gr.off,none⟩)) (M0 rfl) ?_;exact N0.val (W0 _ gr 1) (M1 _) rfl (v:=.pointer (some ⟨gr.blk,gr.off,none⟩)) (J5 rfl) O):P:=h k
theorem U183(h:Q->P:=by intro O;refine L.alloc (cs:=#[.slice none 0 0,.int .i64 0,.int .i64 0]) Ff0 rfl (fun w b4 F4=>?_);have lt4:=F4.lq hb.size;revert w b4 F4 lt4;exact O):P:=h k
theorem U184(h:Q->P:=by intro O;refine U251 ?_;exact F.va rfl rfl (fun w' L1=>(M6 rfl underlying95 rfl)) O):P:=h k
theorem U379(h:Q->P:=by intro O;refine N0.val (E0 _) (M1 _) rfl (v:=.int .u32 0) (E4 (r:=0) rfl Tryz.underlying140 Tryz.underlying143 (by decide)) ?_;exact N0.val (E0 _) (M1 _) rfl (v:=.int .u32 0) (I1 rfl) O):P:=h k
theorem U380(h:Q->P:=by intro O;refine F.va rfl rfl (fun w' L1=>(B0 rfl underlying92 rfl Vi0 (by decide))) ?_;exact F.va rfl rfl (fun w' L1=>(A0 (v:=.p p.wb) rfl underlying27 rfl (go0 (o:=0) (Tn.tb L1) (by decide) rfl))) O):P:=h k
theorem U50(h:Q->P:=by intro O;refine U2 ?_;exact ZA.W7 hZ rfl O):P:=h k
theorem U381(h:Q->P:=by intro O;refine N0.val (T3 _ gr) (M1 _) rfl (v:=.pointer (some ⟨gr.blk,gr.off,none⟩)) (M0 rfl) ?_;exact N0.val (T3 _ gr) (M1 _) rfl (v:=.pointer (some ⟨gr.blk,gr.off,none⟩)) (J5 rfl) O):P:=h k
theorem U185(h:Q->P:=by intro O;refine U10 ?_;exact L.va (B0 rfl underlying173 rfl Ol0 (by decide)) O):P:=h k
theorem U24(h:Q->P:=by intro O;refine U83 ?_;exact U0 O):P:=h k
theorem U382(h:Q->P:=by intro O;refine N0.toUnsafe je1 (M1 _) rfl rfl (.inl rfl) Tryz.underlying203 Tryz.underlying205 ac1 ?_;exact N0.zf0 R2 (M1 _) .acquire (by simp) (.inl rfl) rfl Tryz.func120 kw1 rfl rfl lp1 rfl O):P:=h k
theorem U383(h:Q->P:=by intro O;refine F.va rfl rfl (fun w' L1=>(B0 rfl underlying45 rfl Jx0 (by decide))) ?_;exact F.va rfl rfl (fun w' L1=>(A0 rfl underlying41 rfl (L1.1.q0 1 (v:=.slice R.ea R.evs.length R.ec) rfl))) O):P:=h k
theorem U275(h:Q->P:=by intro O;have h5:=(Goes.ai0 hg I2 (Nat.zero_lt_succ _) hF5).2;have hgn:Gn K w0 m F L3 u F':=Gn.j6 ⟨hK,Goes.down hbL hg⟩ j3 ⟨lt5,h5⟩;revert h5 hgn;exact O):P:=h k
theorem U69(h:Q->P:=by intro O;have Y5:=N4.ei0 X1 hg;have hb:=M4 hb hb.size hg lt4;revert Y5 hb;exact O):P:=h k
theorem U385(h:Q->P:=by intro O;refine L.va (B0 rfl underlying97 rfl qa0 (by decide)) ?_;refine L.pu 0 [.slice (some ⟨b33,0,none⟩) (2*n) (2*n)] #[.slice (some ⟨b33,0,none⟩) (2*n) (2*n),.int .i64 ((kc:Int)+1),.int .i64 (IntKind.i64.wrap (md+1))] qa0 I2 (fun w A1 hg N2=>?_);revert w A1 hg N2;exact O):P:=h k
theorem U51(h:Q->P:=by intro O;refine U353 ?_;exact W.block O):P:=h k
theorem U20(h:Q->P:=by intro O;refine U0 ?_;refine U61 ?_;exact W.seq O):P:=h k
theorem U386(h:Q->P:=by intro O;refine F.va rfl rfl (fun w' L1=>(G2 (parts:=[(0,.tmp 14),(1,.tmp 17),(2,.tmp 20)]) rfl (Rn0 (some ⟨b14,0,none⟩) n n ((kc:Int)+1) (IntKind.i64.wrap (md+1))))) ?_;exact F.doo rfl rfl O):P:=h k
theorem U186(h:Q->P:=by intro O;refine L.va (bg0 rfl) ?_;exact U43 O):P:=h k
theorem U187(h:Q->P:=by intro O;refine U347 ?_;exact L.va (B0 rfl underlying244 rfl sz4 (by decide)) O):P:=h k
theorem U387(h:Q->P:=by intro O;refine N0.val V0 (M1 _) rfl (v:=.int .u32 0) (E4 (r:=0) rfl Tryz.underlying140 Tryz.underlying143 (by decide)) ?_;exact N0.val V0 (M1 _) rfl (v:=.int .u32 0) (I1 rfl) O):P:=h k
theorem U276(h:Q->P:=by intro O;refine U113 ?_;exact L.va (A0 rfl underlying4 rfl ((hg.m.blk i c hc).q0 10 (v:=.bool c.st) rfl)) O):P:=h k
theorem U389(h:Q->P:=by intro O;refine N0.val C3 (M1 _) rfl (v:=.pointer (some ⟨gr.blk,gr.off,none⟩)) (M0 rfl) ?_;exact N0.val C3 (M1 _) rfl (v:=.pointer (some ⟨gr.blk,gr.off,none⟩)) (J5 rfl) O):P:=h k
theorem U390(h:Q->P:=by intro O;refine N0.ek0 V0 (M1 _) rfl rfl (v:=.i 1) (M0 rfl) ?_;exact N0.ek0 V0 (M1 _) rfl rfl (v:=.int .i32 1) (E4 (r:=1) rfl Tryz.underlying3 Tryz.underlying21 (by decide)) O):P:=h k
theorem U391(h:Q->P:=by intro O;refine N0.val R2 (M1 _) rfl (v:=.pointer (some ⟨gr.blk,gr.off,none⟩)) (M0 rfl) ?_;exact N0.val R2 (M1 _) rfl (v:=.pointer (some ⟨gr.blk,gr.off,none⟩)) (J5 rfl) O):P:=h k
theorem U277(h:Q->P:=by intro O;refine F.va rfl rfl (fun w' L1=>(gu0 rfl rfl)) ?_;exact F.va rfl rfl (fun w' L1=>(C4 rfl)) O):P:=h k
theorem U21(h:Q->P:=by intro O;refine U116 ?_;exact U0 O):P:=h k
theorem U278(h:Q->P:=by intro O;refine N0.val hY hb rfl (v:=.p R.rb) (M0 rfl) ?_;exact N0.val hY hb rfl (J5 rfl) O):P:=h k
theorem U188(h:Q->P:=by intro O;refine L.va (H3 rfl) ?_;exact L.va (H3 rfl) O):P:=h k
theorem U392(h:B Q->P:=by intro O;exact L.call (P2 rfl rfl func93 rfl Vl0 rfl) (Wv0 (some ⟨b33,0,none⟩) (2*n) (2*n) ((kc:Int)+1) (IntKind.i64.wrap (md+1)) (ky b) hkz (by omega) (by omega) _) O.1):P:=h ⟨k⟩
theorem U189(h:B Q->P:=by intro O;refine L.va (eh0 rfl rfl (by omega)) ?_;exact L.va (C4 rfl) O.1):P:=h ⟨k⟩
theorem U393(h:Q->P:=by intro O;refine F.va rfl rfl (fun w' L1=>(B0 rfl underlying97 rfl qa0 (by decide))) ?_;exact F.va rfl rfl (fun w' L1=>(A0 rfl underlying95 rfl (L1.2.1.q0 0 (v:=.slice a n c) rfl))) O):P:=h k
theorem U394(h:B Q->P:=by intro O;refine N0.val (E0 _) (M1 _) rfl (v:=.bool true) (gj0 (r:=true) rfl rfl (decide_eq_true (by omega))) ?_;exact N0.val (E0 _) (M1 _) rfl (v:=.bool true) (M0 rfl) O.1):P:=h ⟨k⟩
theorem U190(h:Q->P:=by intro O;refine L.va (R9 rfl) ?_;exact L.va (M6 rfl underlying101 rfl) O):P:=h k
theorem U25(h:Q->P:=by intro O;refine U85 ?_;exact U0 O):P:=h k
theorem U395(h:Q->P:=by intro O;refine N0.ek0 (W0 _ gr 2) (M1 _) rfl rfl (v:=.bool false) (gj0 (r:=false) rfl rfl (by decide)) ?_;exact N0.val (W0 _ gr 2) (M1 _) rfl (v:=.bool false) (bl0 rfl rfl) O):P:=h k
theorem U191(h:Q->P:=by intro O;have Ks0:=fun j hj=>Own.Cm0 (hX1 j hj) (P3 qy0) (by decide);have Rp0:=Nat.le_trans hBl Ga0;revert Ks0 Rp0;exact O):P:=h k
theorem U192(h:Q->P:=by intro O;refine L.va (vv0 rfl) ?_;exact U256 O):P:=h k
theorem U396(h:Q->P:=by intro O;refine F.va rfl rfl (fun w' L1=>(G2 (parts:=[(0,.tmp 14),(1,.tmp 17),(2,.tmp 20)]) rfl (Rn0 (some ⟨b14,0,none⟩) n n ((kc:Int)+1) (IntKind.i64.wrap (md+1))))) ?_;exact U8 O):P:=h k
theorem U121(h:Q->P:=by intro O;refine L.va (dr0 rfl) ?_;exact U2 O):P:=h k
theorem U397(h:Q->P:=by intro O;refine F.va rfl rfl (fun w' L1=>(B0 rfl underlying97 rfl sz3 (by decide))) ?_;exact F.va rfl rfl (fun w' L1=>(A0 rfl underlying3 rfl (L1.q0 1 (v:=.int .i64 ct) rfl))) O):P:=h k
theorem U398(h:Q->P:=by intro O;refine F.va rfl rfl (fun w' L1=>(B0 rfl underlying248 rfl sz3 (by decide))) ?_;exact F.va rfl rfl (fun w' L1=>(A0 rfl underlying3 rfl (L1.2.q0 0 (v:=.i (i:Int)) rfl))) O):P:=h k
theorem U37(h:Q->P:=by intro O;have lt5:=F5.lq hb.size;have hb:=G0 hb F5.below;revert lt5 hb;exact O):P:=h k
theorem U399(h:Q->P:=by intro O;refine D.va (fun w' L1=>(B0 rfl underlying127 rfl sz9 (by decide))) ?_;exact D.va (fun w' L1=>(A0 rfl underlying9 rfl ((G7.j0 L1).q0 0 (v:=.string (ky e)) rfl))) O):P:=h k
theorem U400(h:B Q->P:=by intro O;refine F.doo rfl rfl ?_;exact L.call (P2 rfl rfl func99 rfl rq1 rfl) (np1 N c8 b3 e a8 (sl (slot n (ky e))) (by have:=hsl _ hj;omega) he ky w hD (hE0.j0 hb) Z7 hk3 hN8) O.1):P:=h ⟨k⟩
theorem U87(h:Q->P:=by intro O;refine N0.nil (E0 _) ?_;exact U112 O):P:=h k
theorem U38(h:Q->P:=by intro O;refine D.nil (fun w O2=>?_);have hb:=G0 hb O2;revert w O2 hb;exact O):P:=h k
theorem U401(h:B Q->P:=by intro O;exact L.call (P2 rfl rfl func93 rfl Vl0 rfl) (Wv0 (some ⟨b14,0,none⟩) n n ((kc:Int)+1) (IntKind.i64.wrap (md+1)) (ky b) hkz (by omega) (by omega) _) O.1):P:=h ⟨k⟩
theorem U88(h:Q->P:=by intro O;refine ZA.seq hZ ?_;exact ZA.W hZ hb O):P:=h k
theorem U70(h:Q->P:=by intro O;refine L.va (dr0 rfl) ?_;exact U7 O):P:=h k
theorem U122(h:Q->P:=by intro O;refine L.on rfl ?_;exact U80 O):P:=h k
theorem U402(h:Q->P:=by intro O;refine L.va (B0 rfl underlying127 rfl Zh0 (by decide)) ?_;exact L.va (A0 (v:=.pointer (some ⟨cnG m2 e,0,none⟩)) rfl underlying125 rfl (hE.hE.q0 3 rfl)) O):P:=h k
theorem U403(h:B Q->P:=by intro O;refine N0.val V0 (M1 _) rfl (v:=.bool true) (gj0 (r:=true) rfl rfl (decide_eq_true (by omega))) ?_;exact N0.val V0 (M1 _) rfl (v:=.bool true) (M0 rfl) O.1):P:=h ⟨k⟩
theorem U279(h:Q->P:=by intro O;refine N0.val R2 (M1 _) rfl (v:=.int .u64 0) (I1 rfl) ?_;exact N0.nil R2 O):P:=h k
theorem U89(h:Q->P:=by intro O;refine N0.nil V0 ?_;refine At.V6 V0 rfl ?_;exact At.skip V0 O):P:=h k
theorem U123(h:Q->P:=by intro O;refine W.region rfl ?_;exact L.va (R9 rfl) O):P:=h k
theorem U194(h:Q->P:=by intro O;refine F.va rfl rfl (fun w' L1=>(vv0 rfl)) ?_;exact U352 O):P:=h k
theorem U406(h:Q->P:=by intro O;refine U345 ?_;exact N0.val Z2 (M1 _) rfl (v:=.pointer (some ⟨gr.blk,gr.off,none⟩)) (z5 (s:=1) gr.off gr.off rfl Tryz.underlying142 rfl wy0 (by decide) rfl) O):P:=h k
theorem U407(h:Q->P:=by intro O;refine U345 ?_;exact N0.val Z2 (M1 _) rfl (v:=.pointer (some ⟨gr.blk,gr.off,none⟩)) (z5 (s:=1) gr.off gr.off rfl Tryz.underlying145 rfl wz0 (by decide) rfl) O):P:=h k
theorem U408(h:Q->P:=by intro O;refine L.va (gv0 rfl rfl) ?_;exact U11 O):P:=h k
theorem U195(h:B Q->P:=by intro O;refine F.va rfl rfl (fun w' L1=>(eh0 rfl rfl (by omega))) ?_;refine U340 ?_;exact F.va rfl rfl (fun w' L1=>(gu0 rfl rfl)) O.1):P:=h ⟨k⟩
theorem U280(h:Q->P:=by intro O;have hB:=hB.mod Y5 rfl;have A2:=A2.other hg mu0;revert hB A2;exact O):P:=h k
theorem U409(h:Q->P:=by intro O;refine L.va (B0 rfl underlying127 rfl jr1 (by decide)) ?_;exact L.va (A0 rfl underlying124 rfl (G7.q0 2 (v:=.pointer (some (⟨lmG m e,0,none⟩))) rfl)) O):P:=h k
theorem U410(h:Q->P:=by intro O;refine L.va (S5 (i:=i) rfl rfl underlying57 jl1 hKs.sl J1) ?_;exact L.va (A0 (v:=.slice (kA i) (ks i).length (kC i)) rfl underlying61 rfl ((hKs).row i J1)) O):P:=h k
theorem U196(h:Q->P:=by intro O;refine F.va rfl rfl (fun w' L1=>(dr0 rfl)) ?_;exact U8 O):P:=h k
theorem U197(h:Q->P:=by intro O;refine F.va rfl rfl (fun w' L1=>(B0 rfl underlying97 rfl qa0 (by decide))) ?_;refine F.va rfl rfl (fun w' L1=>(A0 rfl underlying95 rfl (L1.1.q0 0 (v:=.slice (some ⟨b33,0,none⟩) (2*n) (2*n)) rfl))) ?_;exact F.va rfl rfl (fun w' L1=>(C4 rfl)) O):P:=h k
theorem U198(h:Q->P:=by intro O;refine F.va rfl rfl (fun w' L1=>(B0 rfl underlying97 rfl qa0 (by decide))) ?_;refine F.va rfl rfl (fun w' L1=>(A0 rfl underlying95 rfl (L1.1.q0 0 (v:=.slice (some ⟨b14,0,none⟩) n n) rfl))) ?_;exact F.va rfl rfl (fun w' L1=>(C4 rfl)) O):P:=h k
theorem U199(h:Q->P:=by intro O;rw[P0 s0,P0 s7,P0 s8,P0 s9];exact O):P:=h k
theorem U281(h:Q->P:=by intro O;refine N0.val (W0 _ gr 2) (M1 _) rfl (v:=.bool false) (M0 rfl) ?_;exact U267 O):P:=h k
theorem U282(h:Q->P:=by intro O;refine D.va (fun w' L1=>(B0 rfl underlying173 rfl lf0 (by decide))) ?_;refine D.va (fun w' L1=>(B0 rfl underlying45 rfl Bw0 (by decide))) ?_;exact D.va (fun w' L1=>(A0 rfl underlying37 rfl ((hR.j0 L1).q0 3 (v:=.slice (pt R.eb) R.m R.m) rfl))) O):P:=h k
theorem U200(h:Q->P:=by intro O;have hmA:=fm0 (hWo.inn _ hi) hga hNo (TS:=[71]) rfl;have hb:=jb0 hb hmA Kt0;revert hmA hb;exact O):P:=h k
theorem U283(h:Q->P:=by intro O;refine U23 ?_;exact L.va (S5 (i:=c) rfl rfl underlying37 sz3 (fun _=>rfl) hcm) O):P:=h k
theorem U124(h:Q->P:=by intro O;refine U2 ?_;exact U257 O):P:=h k
theorem U284(h:Q->P:=by intro O;refine U112 ?_;exact N0.val (E0 _) (M1 _) rfl (v:=.int .u32 0) (M0 rfl) O):P:=h k
theorem U125(h:Q->P:=by intro O;show L _ _ _ _ _ _ _;exact L.va (H3 rfl) O):P:=h k
theorem U285(h:Q->P:=by intro O;have X1:=X1.j0 O2;have I2:=I2.j0 O2;revert X1 I2;exact O):P:=h k
theorem U286(h:Q->P:=by intro O;refine L.va (B0 rfl underlying248 rfl cm1 (by decide)) ?_;exact L.on rfl O):P:=h k
theorem U90(h:Q->P:=by intro O;have Y5:=N4.ei0 I2 hg;have hb:=M4 hb hb.size hg lt5;revert Y5 hb;exact O):P:=h k
theorem U52(h:Q->P:=by intro O;have X1:=X1.mod hmA rfl;have I2:=I2.mod hmA rfl;revert X1 I2;exact O):P:=h k
theorem U201(h:Q->P:=by intro O;refine U179 ?_;exact L.va (c5 rfl rfl underlying71) O):P:=h k
theorem U126(h:Q->P:=by intro O;refine W.region rfl ?_;exact L.va v5 O):P:=h k
theorem U412(h:Q->P:=by intro O;refine N0.val (W0 _ gr 2) (M1 _) rfl (v:=.bool true) (M0 rfl) ?_;exact N0.ek0 (W0 _ gr 2) (M1 _) rfl rfl (v:=.i (-1)) (M0 rfl) O):P:=h k
theorem U40(h:Q->P:=by intro O;have J8:=F5.ne X1;have hb:=G0 hb F5.below;revert J8 hb;exact O):P:=h k
theorem U413(h:Q->P:=by intro O;refine L.va (S5 (i:=slot n (ky e)) rfl rfl underlying95 ff0 hC.sl hj) ?_;refine L.Bu0 (i:=slot n (ky e)) (v:=.slice a8 (wo (sl (slot n (ky e))) e).length c8) rfl rfl ff0 rfl hC hj (fun w1 hC2 hmd=>?_);revert w1 hC2 hmd;exact O):P:=h k
theorem U287(h:B Q->P:=by intro O;refine ZA.V6 hZ (rb (decide_eq_false (by omega))) ?_;exact ZA.exit hZ rfl O.1):P:=h ⟨k⟩
theorem U414(h:Q->P:=by intro O;refine U58 ?_;exact ends.cell (cs:=#[.slice a9 n c9,.int .i64 (IntKind.i64.wrap (ct-1)),.int .i64 md]) (.inr rfl) rfl rfl underlying97 rfl o8 X1 O):P:=h k
theorem U415(h:Q->P:=by intro O;refine L.va v5 ?_;exact L.call (P2 rfl rfl func51 rfl kd1 rfl) (Da0 p.tb p.wb p.obj p.n p.rw p.cl p.n p.n lb.q hqs hn0 Ld0 _ hN.tb) O):P:=h k
theorem U202(h:Q->P:=by intro O;refine At.seq (W0 _ gr 2) ?_;exact U159 O):P:=h k
theorem U127(h:Q->P:=by intro O;refine L.va (Bh0 rfl) ?_;exact L.nil O):P:=h k
theorem U91(h:Q->P:=by intro O;refine T.nrm ?_;show ZA _ _ _ _ _ _ _;exact O):P:=h k
theorem U288(h:Q->P:=by intro O;refine U23 ?_;exact L.va (S5 (i:=i) rfl rfl underlying195 lg0 hO.sl J1) O):P:=h k
theorem U416(h:Q->P:=by intro O;refine F.va rfl rfl (fun w' L1=>(C4 rfl)) ?_;exact F.va rfl rfl (fun w' L1=>(S5 (i:=slot n (ky e)) rfl rfl underlying95 ff0 su1 hj)) O):P:=h k
theorem U53(h:Q->P:=by intro O;refine U5 ?_;exact W.block O):P:=h k
theorem U203(h:Q->P:=by intro O;refine L.va (M6 rfl underlying95 rfl) ?_;exact U51 O):P:=h k
theorem U71(h:Q->P:=by intro O;have A2:=A2.j0 F5.below;have X1:=X1.j0 F5.below;revert A2 X1;exact O):P:=h k
theorem U418(h:Q->P:=by intro O;refine L.va (S5 (i:=i) rfl rfl underlying171 Bx0 hM.cls.sl J1) ?_;exact L.va (A0 (v:=.p c.cb) rfl underlying123 rfl (Pb0 hM hc)) O):P:=h k
theorem U54(h:Q->P:=by intro O;have hN:=hN.j0 G1;have C8:=C8.j0 G1;revert hN C8;exact O):P:=h k
theorem U26(h:Q->P:=by intro O;refine U3 ?_;exact U0 O):P:=h k
theorem U419(h:Q->P:=by intro O;refine L.va (A0 rfl underlying171 rfl (hM.run.q0 0 (v:=.slice R.ca R.cl.length R.cc) rfl)) ?_;exact L.va (M6 rfl underlying171 rfl) O):P:=h k
theorem U92(h:Q->P:=by intro O;refine U43 ?_;exact U43 O):P:=h k
theorem U72(h:Q->P:=by intro O;refine U124 ?_;exact ZA.seq hZ O):P:=h k
theorem U289(h:B Q->P:=by intro O;refine ZA.W7 hZ (rb (decide_eq_true (by omega))) ?_;exact ZA.skip hZ O.1):P:=h ⟨k⟩
theorem U290(h:Q->P:=by intro O;refine U10 ?_;exact L.va (B0 rfl underlying173 rfl lf0 (by decide)) O):P:=h k
theorem U421(h:Q->P:=by intro O;refine L.va (A0 rfl underlying22 rfl (((hM.j0 hb).blk i _ hc).q0 6 (v:=.func (.func f) #[] caps) rfl)) ?_;exact L.on rfl O):P:=h k
theorem U291(h:Q->P:=by intro O;refine L.va (B0 rfl underlying164 rfl Vi0 (by decide)) ?_;refine L.va (A0 rfl underlying27 rfl (hC.q0 2 (v:=.p wb) rfl)) ?_;exact L.call (K2 rfl func69 rfl cw1 rfl) (qs0 wb w hW) O):P:=h k
theorem U205(h:Q->P:=by intro O;refine L.on rfl ?_;exact L.va (S9 rfl rfl) O):P:=h k
theorem U292(h:Q->P:=by intro O;refine U22 ?_;exact L.va (B0 rfl underlying162 rfl sz3 (by decide)) O):P:=h k
theorem U206(h:Q->P:=by intro O;refine U252 ?_;exact U259 O):P:=h k
theorem U422(h:B Q->P:=by intro O;refine L.va (nr1 (n:=n) (by omega)▸vx0 rfl rfl) ?_;refine L.make (m:=(2*n)) rfl rfl underlying95 nx0 (z0:=.slice none 0 0) rfl (by decide) (by omega) (by omega) (fun w b33 F33=>?_);revert w b33 F33;exact O.1):P:=h ⟨k⟩
theorem U423(h:Q->P:=by intro O;refine U249 ?_;exact L.va (u5 (l:=[.tmp 2,.tmp 5]) (vs:=[.pointer (some ⟨b2,0,none⟩),.pointer (some ⟨b5,0,none⟩)]) rfl) O):P:=h k
theorem U73(h:Q->P:=by intro O;refine U108 ?_;exact U0 O):P:=h k
theorem U424(h:Q->P:=by intro O;refine N0.val V0 (M1 _) rfl (v:=.bool true) (M0 rfl) ?_;exact N0.ek0 V0 (M1 _) rfl rfl (v:=.i 1) (M0 rfl) O):P:=h k
theorem U425(h:Q->P:=by intro O;have Rk0:=hb.size;refine L.call (K2 rfl func98 rfl On0 rfl) (is0 Bl n c a (lst (fun j=>.slice (ia j) (sl j).length (ic j)) n) hn w hB.out (fun u hu=>lq0 hu)) ?_;revert Rk0;exact O):P:=h k
theorem U293(h:Q->P:=by intro O;have at0:=hso.re0 hok;have hsl:=hso.sl lb.j;revert at0 hsl;exact O):P:=h k
theorem U426(h:B Q->P:=by intro O;refine N0.val (E0 _) (M1 _) rfl (v:=.bool false) (iy0 (r:=false) rfl rfl (decide_eq_false (by omega))) ?_;exact U259 O.1):P:=h ⟨k⟩
theorem U207(h:Q->P:=by intro O;refine F.va rfl rfl (fun w' L1=>(H3 rfl)) ?_;refine F.doo rfl rfl ?_;refine L.ct0 (cs:=#[.pointer (some ⟨b,0,none⟩)]) rfl rfl underlying195 lg0 rfl ⟨_,cr1⟩ (by decide) (fun w b68 F68=>?_);revert w b68 F68;exact O):P:=h k
theorem U427(h:Q->P:=by intro O;refine L.va (A0 rfl underlying125 rfl (A2.q0 0 (v:=.pointer (some ⟨cb,0,none⟩)) rfl)) ?_;exact L.va (E1 rfl) O):P:=h k
theorem U428(h:Q->P:=by intro O;refine L.va (A0 rfl underlying125 rfl (Z7.q0 0 (v:=.pointer (some ⟨cb,0,none⟩)) rfl)) ?_;exact L.va (E1 rfl) O):P:=h k
theorem U208(h:Q->P:=by intro O;refine At.seq W5 ?_;exact At.region W5 O):P:=h k
theorem U294(h:B Q->P:=by intro O;(have hF5:¬F b5:=fun z=>by have:=hK.tlt hT z;omega);(have hF2:¬F b2:=fun z=>by have:=hK.tlt hT z;omega);revert hF5 hF2;exact O.1):P:=h ⟨k⟩
theorem U429(h:Q->P:=by intro O;refine L.va (A0 rfl underlying89 rfl (A2.q0 0 (v:=.pointer (some ⟨cb,0,none⟩)) rfl)) ?_;exact L.va (E1 rfl) O):P:=h k
theorem U295(h:Q->P:=by intro O;refine N0.nil (E0 _) ?_;exact At.W7 (E0 _) rfl O):P:=h k
theorem U430(h:Q->P:=by intro O;refine L.va v5 ?_;exact L.va (H3 rfl) O):P:=h k
theorem U431(h:Q->P:=by intro O;refine L.va (A0 rfl underlying86 rfl (hOb.q0 0 (v:=.slice oa ((p.bo i).length) oc) rfl)) ?_;exact L.va (C4 rfl) O):P:=h k
theorem U432(h:Q->P:=by intro O;refine U8 ?_;refine L.pu 0 [.slice a9 n c9,.int .i64 (IntKind.i64.wrap (ct-1)),.int .i64 md] #[.slice a9 n c9,.int .i64 (IntKind.i64.wrap (ct-1)),.int .i64 md] o8 I2 (fun w A1 hg N2=>?_);revert w A1 hg N2;exact O):P:=h k
theorem U41(h:Q->P:=by intro O;refine U18 ?_;exact U0 O):P:=h k
theorem U433(h:Q->P:=by intro O;refine L.va (S5 (i:=j) rfl rfl underlying86 Vj0 hsl J1) ?_;exact L.va (B0 rfl underlying85 rfl sz3 (by decide)) O):P:=h k
theorem U434(h:B Q->P:=by intro O;refine N0.val V0 (M1 _) rfl (v:=.bool false) (iy0 (r:=false) rfl rfl (decide_eq_false (by omega))) ?_;exact U89 O.1):P:=h ⟨k⟩
theorem U30(h:Q->P:=by intro O;rw[hw9];exact O):P:=h k
theorem U209(h:Q->P:=by intro O;refine N0.nil R2 ?_;exact At.seq R2 O):P:=h k
theorem U435(h:Q->P:=by intro O;refine At.region R2 ?_;exact N0.val R2 (M1 _) rfl (v:=.pointer (some ⟨gr.blk,gr.off,none⟩)) (M0 rfl) O):P:=h k
theorem U436(h:Q->P:=by intro O;refine U371 ?_;exact L.va (A0 (v:=.int .i64 (evX R i).kind) rfl underlying3 rfl (Uc0 hY.run.mem.evs hi9).1) O):P:=h k
theorem U437(h:Q->P:=by intro O;refine L.va (A0 rfl underlying89 rfl (A2.q0 0 (v:=.p cb) rfl)) ?_;exact L.va (c5 rfl rfl underlying89) O):P:=h k
theorem U128(h:Q->P:=by intro O;refine N0.nil V0 ?_;exact U120 O):P:=h k
theorem U438(h:Q->P:=by intro O;refine U371 ?_;exact L.va (A0 (v:=.int .i64 (evX R i).obj) rfl underlying3 rfl (Uc0 hY.run.mem.evs hi9).2) O):P:=h k
theorem U129(h:Q->P:=by intro O;have hC:=hC.j0 F2.below;have A2:=F2.blk;revert hC A2;exact O):P:=h k
theorem U439(h:Q->P:=by intro O;refine D.va (fun w' L1=>(E1 rfl)) ?_;exact D.va (fun w' L1=>(B0 rfl underlying191 rfl sz2 (by decide))) O):P:=h k
theorem U440(h:Q->P:=by intro O;refine D.va (fun w' L1=>(E1 rfl)) ?_;exact D.va (fun w' L1=>(B0 rfl underlying244 rfl sz3 (by decide))) O):P:=h k
theorem U441(h:Q->P:=by intro O;refine U152 ?_;exact N0.val (E0 _) (M1 _) rfl (v:=.int .u64 (((v*4294967296+0:Nat):Int))) (M0 rfl) O):P:=h k
theorem U442(h:Q->P:=by intro O;refine U152 ?_;exact N0.val (E0 _) (M1 _) rfl (v:=.int .u64 (((v*4294967296+1:Nat):Int))) (M0 rfl) O):P:=h k
theorem U296(h:Q->P:=by intro O;refine L.box (cs:=#[.slice a n c,.int .i64 ct,.int .i64 md]) rfl rfl (fun w b2 F2=>?_);refine U15 ?_;intro lt2 hb;revert w b2 F2 lt2 hb;exact O):P:=h k
theorem U55(h:Q->P:=by intro O;refine U285 ?_;intro X1 I2;have hK:=hK.j0 O2;have hW:=hW.j0 O2;have hoc:=hoc.j0 O2;revert X1 I2 hK hW hoc;exact O):P:=h k
theorem U443(h:Q->P:=by intro O;refine U152 ?_;exact N0.val (E0 _) (M1 _) rfl (v:=.int .u64 (((0*4294967296+0:Nat):Int))) (M0 rfl) O):P:=h k
theorem U210(h:Q->P:=by intro O;refine U58 ?_;exact ends.two (.inr rfl) rfl O):P:=h k
theorem U444(h:Q->P:=by intro O;refine U255 ?_;exact N0.val V0 (M1 _) rfl (v:=.int .u64 ((((0+1)*4294967296+0:Nat):Int))) (M0 rfl) O):P:=h k
theorem U445(h:Q->P:=by intro O;refine U255 ?_;exact N0.val V0 (M1 _) rfl (v:=.int .u64 ((((v+1)*4294967296+0:Nat):Int))) (M0 rfl) O):P:=h k
theorem U446(h:Q->P:=by intro O;refine U63 ?_;exact L.va (A0 rfl underlying4 rfl (((hM.j0 hb).blk i _ hc).q0 9 (v:=.bool true) rfl)) O):P:=h k
theorem U297(h:Q->P:=by intro O;have V3:Below w.heap.size w w.drew:=(Below.refl w.heap.size w).drew;have hN:=hN.j0 V3;revert V3 hN;exact O):P:=h k
theorem U298(h:Q->P:=by intro O;refine ZA.region hZ ?_;refine ZA.recover hZ (i:=0) (rest:=[]) rfl rfl rfl rfl hmd (fun c45 v hsv=>?_);revert c45 v hsv;exact O):P:=h k
theorem U448(h:Q->P:=by intro O;refine U170 ?_;exact L.nil O):P:=h k
theorem U42(h:Q->P:=by intro O;refine U0 ?_;exact U5 O):P:=h k
theorem U449(h:Q->P:=by intro O;refine U44 ?_;exact N0.Hu0 R2 (M1 _) .enable (by simp) (.inl rfl) rfl Tryz.func109 qc0 rfl rfl qe0 O):P:=h k
theorem U450(h:Q->P:=by intro O;refine L.va (Ho0 rfl rfl) ?_;exact U86 O):P:=h k
theorem U451(h:Q->P:=by intro O;refine L.va (C4 rfl) ?_;exact L.call (r6 rfl rfl rfl func68 rfl rg1 rfl) (Ku0 wb obj num _ hW) O):P:=h k
theorem U452(h:Q->P:=by intro O;refine L.va (R5 (r:=true) (by decide) (S9 (m:=0) (k:=0) rfl rfl)) ?_;exact L.va (p6 rfl) O):P:=h k
theorem U299(h:Q->P:=by intro O;refine U2 ?_;exact Xo0 hZ hb rfl (i:=2) rfl rfl rfl O):P:=h k
theorem U453(h:Q->P:=by intro O;refine U45 ?_;exact N0.val Z2 (M1 _) rfl (v:=.int .u64 (((v*4294967296+0:Nat):Int))) (M0 rfl) O):P:=h k
theorem U454(h:Q->P:=by intro O;refine N0.val W5 (M1 _) rfl (v:=.pointer (some ⟨gr.blk,gr.off,none⟩)) (M0 rfl) ?_;refine N0.val W5 (M1 _) rfl (v:=.pointer (some ⟨gr.blk,gr.off,none⟩)) (J5 rfl) ?_;exact N0.val W5 (M1 _) rfl (v:=.pointer (some ⟨gr.blk,gr.off+1,none⟩)) (z5 (s:=1) gr.off (gr.off+1) rfl Tryz.underlying145 rfl Oj0 (by decide) rfl) O):P:=h k
theorem U56(h:Q->P:=by intro O;refine U28 ?_;exact U58 O):P:=h k
theorem U300(h:Q->P:=by intro O;refine U280 ?_;intro hB A2;have X1:=X1.other hg J8;revert hB A2 X1;exact O):P:=h k
theorem U94(h:Q->P:=by intro O;have hW:=hW.j0 F5.below;have hC:=hC.j0 F5.below;revert hW hC;exact O):P:=h k
theorem U301(h:Q->P:=by intro O;refine U179 ?_;exact L.va (c5 rfl rfl underlying23) O):P:=h k
theorem U211(h:Q->P:=by intro O;refine L.va v5 ?_;exact L.va v5 O):P:=h k
theorem U302(h:Q->P:=by intro O;refine U349 ?_;exact L.va (M6 rfl underlying41 rfl) O):P:=h k
theorem U455(h:B Q->P:=by intro O;refine L.va (R5 (r:=false) (decide_eq_false (by omega)) (np0 rfl rfl)) ?_;exact L.va (A7 rfl) O.1):P:=h ⟨k⟩
theorem U303(h:Q->P:=by intro O;refine L.va (Dm0 rfl) ?_;exact L.va E7 O):P:=h k
theorem U456(h:Q->P:=by intro O;refine L.va (A0 rfl underlying89 rfl (Z7.q0 0 (v:=.p cb) rfl)) ?_;exact L.va (E1 rfl) O):P:=h k
theorem U57(h:Q->P:=by intro O;have hB:=hB.j0 V3;have A2:=A2.j0 V3;revert hB A2;exact O):P:=h k
theorem U457(h:Q->P:=by intro O;refine ZA.done hZ ?_;(have K3:=Iz0 (b:={lb with ph:=.R6 e,bs:=s2.st lb.j,bk:=H7 s2 lb.j}) hN.at_ rfl rfl (.inr ⟨e,rfl⟩));revert K3;exact O):P:=h k
theorem U130(h:Q->P:=by intro O;refine U0 ?_;exact L.va v5 O):P:=h k
theorem U304(h:Q->P:=by intro O;refine L.va (dr0 rfl) ?_;exact L.va (no0 rfl) O):P:=h k
theorem U458(h:Q->P:=by intro O;exact L.call (P2 rfl rfl func93 rfl Vl0 rfl) (Wv0 a n c ct md (ky e) hkz h0 hn _) O):P:=h k
theorem U459(h:Q->P:=by intro O;refine L.va (R5 (r:=true) (by decide) (S9 (m:=1) (k:=1) rfl rfl)) ?_;exact L.va (p6 rfl) O):P:=h k
theorem U460(h:Q->P:=by intro O;refine L.va (S5 (i:=n9) rfl rfl underlying42 cp1 hY.run.mem.nts.sl hnl) ?_;exact L.on rfl O):P:=h k
theorem U461(h:Q->P:=by intro O;refine U63 ?_;exact L.va (A0 rfl underlying4 rfl ((hM.blk i c hc).q0 9 (v:=.bool c.wt) rfl)) O):P:=h k
theorem U462(h:Q->P:=by intro O;refine U202 ?_;exact N0.val (W0 _ gr 2) (M1 _) rfl (v:=.int .i32 (((0:Nat):Int))) (M0 rfl) O):P:=h k
theorem U463(h:Q->P:=by intro O;refine U112 ?_;exact N0.val (E0 _) (M1 _) rfl (v:=.int .i32 (((0:Nat):Int))) (M0 rfl) O):P:=h k
theorem U74(h:B Q->P:=by intro O;refine U175 ?_;exact U13 O.1):P:=h ⟨k⟩
theorem U131(h:Q->P:=by intro O;refine U108 ?_;exact U6 O):P:=h k
theorem U464(h:Q->P:=by intro O;refine U120 ?_;exact N0.val V0 (M1 _) rfl (v:=.int .i32 ((((v+1):Nat):Int))) (M0 rfl) O):P:=h k
theorem U75(h:Q->P:=by intro O;refine U36 ?_;exact U260 O):P:=h k
theorem U465(h:Q->P:=by intro O;refine L.va (A0 rfl underlying4 rfl (hC.q0 2 (v:=.bool h) rfl)) ?_;exact L.va (nq0 rfl) O):P:=h k
theorem U212(h:Q->P:=by intro O;have Y5:=N4.ei0 hoc hg;have hb:=M4 hb hb.size hg Ga0;revert Y5 hb;exact O):P:=h k
theorem U76(h:Q->P:=by intro O;(have hso:=hN.at_.so);(have hM:=hN.at_.mem);have hfi:=hM.find hso (j:=lb.j) lb.q;revert hso hM hfi;exact O):P:=h k
theorem U305(h:Q->P:=by intro O;have neE:=O1.ne hE hg.m.ends (by decide);refine L.stE (i:=i) hg hi rfl rfl sz3 (fun w hg j3=>?_);revert neE w hg j3;exact O):P:=h k
theorem U466(h:Q->P:=by intro O;refine L.va (H3 rfl) ?_;exact L.va (u5 (l:=[.tmp 2,.tmp 5]) (vs:=[.p b2,.p b5]) rfl) O):P:=h k
theorem U77(h:Q->P:=by intro O;have hj:=(h.L3 b hf).j;have hT:=h.iq0 hk hf;revert hj hT;exact O):P:=h k
theorem U467(h:Q->P:=by intro O;refine L.va (A0 rfl underlying23 rfl (hTp.q0 0 (v:=.p p.tb) rfl)) ?_;exact U188 O):P:=h k
theorem U95(h:Q->P:=by intro O;refine U293 ?_;intro at0 hsl;have hll:=hso.ll lb.j;refine L.call (P2 rfl rfl func54 rfl kf1 rfl) (Ir0 r2.ky p.B (s2.st lb.j).O0 (vc m2 lb.j (s2.st lb.j).M3) (some ⟨va m2 lb.j (s2.st lb.j).M3,0,none⟩) _ _ (at_ r2.ky (s2.st lb.j).O0 ((s2.st lb.j).l.map (eb m2))) (iaG m2 lb.j (s2.st lb.j).M3) (icG m2 lb.j (s2.st lb.j).M3) lb.q hqs hsl.1 (Nat.le_trans hsl.2 (Nat.le_trans (Nat.succ_le_succ at0) (by decide))) (fun j _=>Nat.le_trans (oe0 ..) (by rw[List.length_map];exact Nat.le_trans hll (Nat.le_trans at0 (by decide)))) _ (hM.bk lb.j hj) ((hM.zw0 hso).sub fun b hb=>(List.mem_filter.1 hb).1)) ?_;revert at0 hsl hll;exact O):P:=h k
theorem U306(h:Q->P:=by intro O;refine L.va E7 ?_;exact L.va (no0 rfl) O):P:=h k
theorem U468(h:Q->P:=by intro O;refine U114 ?_;exact L.va (u5 (l:=[.tmp 2]) (vs:=[.pointer (some ⟨b2,0,none⟩)]) rfl) O):P:=h k
theorem U307(h:Q->P:=by intro O;refine U4 ?_;exact L.va (R9 rfl) O):P:=h k
theorem U213(h:Q->P:=by intro O;have hZ:Ctx.Zs prog (Fin prog Post X 0):=E6;have hb:=M1 80;revert hZ hb;exact O):P:=h k
theorem U308(h:Q->P:=by intro O;refine ZA.O4 hZ ?_;exact ZA.inBlock hZ O):P:=h k
theorem U214(h:Q->P:=by intro O;have hZ:Ctx.Zs prog (Fin prog Post X 0):=E6;have hb:=M1 41;revert hZ hb;exact O):P:=h k
theorem U469(h:Q->P:=by intro O;rw[P0 s6,P0 s39,P0 s40,P0 s41,P0 s4,P0 s1];exact O):P:=h k
theorem U215(h:Q->P:=by intro O;refine L.va (gt0 rfl) ?_;exact U11 O):P:=h k
theorem U470(h:Q->P:=by intro O;refine L.va (E1 rfl) ?_;exact L.va (B0 rfl underlying164 rfl o8 (by decide)) O):P:=h k
theorem U471(h:Q->P:=by intro O;refine L.va (C4 rfl) ?_;exact L.va (S5 (i:=i) rfl rfl underlying36 ct1 hBo.sl J1) O):P:=h k
theorem U472(h:Q->P:=by intro O;refine U247 ?_;exact N0.val (E0 _) (M1 _) rfl (v:=.bool true) (bl0 rfl rfl) O):P:=h k
theorem U473(h:Q->P:=by intro O;refine U2 ?_;refine ZA.call (i:=1) (rest:=[]) hZ hb (f:=80) (args:=#[.p R.rb]) rfl rfl (K2 rfl func80 rfl rm1 rfl) (fun a ha=>?_);revert a ha;exact O):P:=h k
theorem U309(h:Q->P:=by intro O;refine U117 ?_;exact U5 O):P:=h k
theorem U474(h:Q->P:=by intro O;refine U131 ?_;exact L.va (R9 rfl) O):P:=h k
theorem U475(h:Q->P:=by intro O;refine Fd0 (Q:=fun _ _ _=>False) hZ hb (fun _ _ _ hx=>hx.elim) ho ?_;show si0 P _ a w _ _;exact O):P:=h k
theorem U310(h:Q->P:=by intro O;refine At.O4 hY ?_;exact At.region hY O):P:=h k
theorem U476(h:Q->P:=by intro O;rw[P0 s1,P0 s4,P0 s7,P0 s8,P0 s9,P0 s10];exact O):P:=h k
theorem U477(h:B Q->P:=by intro O;refine L.va (R5 (r:=false) (decide_eq_false (by omega)) (np0 rfl rfl)) ?_;exact U85 O.1):P:=h ⟨k⟩
theorem U96(h:Q->P:=by intro O;rw[hw];exact O):P:=h k
theorem U479(h:B Q->P:=by intro O;refine L.va (R5 (r:=false) (decide_eq_false (by omega)) (gv0 rfl rfl)) ?_;exact U31 O.1):P:=h ⟨k⟩
theorem U480(h:B Q->P:=by intro O;refine U268 ?_;exact L.va (R5 (r:=true) (decide_eq_true (by omega)) (np0 rfl rfl)) O.1):P:=h ⟨k⟩
theorem U311(h:Q->P:=by intro O;refine N0.val (E0 _) (M1 _) rfl (v:=.bool false) (M0 rfl) ?_;refine U247 ?_;exact U206 O):P:=h k
theorem U216(h:B Q->P:=by intro O;have hbL:=hb;(have hF2:¬F b2:=fun z=>by have:=hK.tlt hT z;omega);revert hbL hF2;exact O.1):P:=h ⟨k⟩
theorem U481(h:B Q->P:=by intro O;refine U171 ?_;exact L.va (Q8 (i:=i) (n:=64) rfl rfl underlying90 Og0 (by omega)) O.1):P:=h ⟨k⟩
theorem U482(h:Q->P:=by intro O;refine L.va (B0 rfl underlying63 rfl sz3 (by decide)) ?_;exact L.on rfl O):P:=h k
theorem U132(h:Q->P:=by intro O;exact U82 O):P:=h k
theorem U217(h:Q->P:=by intro O;have hb:=G0 hb F68.below;have X1:=X1.j0 F68.below;revert hb X1;exact O):P:=h k
theorem U483(h:Q->P:=by intro O;refine L.va (H3 rfl) ?_;refine L.ct0 (cs:=#[.p cb]) rfl rfl underlying171 Bx0 rfl ⟨_,Zg0⟩ (by decide) (fun w b35 F35=>?_);revert w b35 F35;exact O):P:=h k
theorem U484(h:Q->P:=by intro O;refine L.va (A0 rfl underlying3 rfl (I2.q0 0 (v:=.i o) rfl)) ?_;refine L.va (B0 rfl underlying162 rfl sz3 (by decide)) ?_;exact L.va (A0 rfl underlying3 rfl (I2.q0 1 (v:=.i n) rfl)) O):P:=h k
theorem U312(h:Q->P:=by intro O;refine L.va (A7 rfl) ?_;exact L.nil O):P:=h k
theorem U133(h:Q->P:=by intro O;have lt3:=F3.lq hb.size;have hb:=G0 hb F3.below;revert lt3 hb;exact O):P:=h k
theorem U485(h:Q->P:=by intro O;refine F.va rfl rfl (fun w' L1=>(H3 rfl)) ?_;exact F.doo rfl rfl O):P:=h k
theorem U486(h:Q->P:=by intro O;refine N0.val V0 (M1 _) rfl (v:=.bool false) (M0 rfl) ?_;exact U160 O):P:=h k
theorem U97(h:Q->P:=by intro O;refine U32 ?_;exact U22 O):P:=h k
theorem U487(h:Q->P:=by intro O;refine N0.val V0 (M1 _) rfl (v:=.int .u32 0) (M0 rfl) ?_;exact U258 O):P:=h k
theorem U218(h:B Q->P:=by intro O;refine L.va (E1 rfl) ?_;refine L.va (B0 rfl underlying92 rfl jp1 (by decide)) ?_;refine L.va (Q8 (i:=lb.j) (n:=64) rfl rfl underlying88 cu1 (by omega)) ?_;exact L.va (A0 (v:=.pointer (some (⟨p.rw lb.j,0,none⟩))) rfl underlying87 rfl (go0 (o:=3+lb.j*1) hN.tb (by omega) (ff1 hj Ld0))) O.1):P:=h ⟨k⟩
theorem U489(h:B Q->P:=by intro O;have h1:=Int.emod_nonneg (hsh k/64) (b:=(n:Int)) (by omega);have h2:=Int.emod_lt_of_pos (hsh k/64) (b:=(n:Int)) (by omega);revert h1 h2;exact O.1):P:=h ⟨k⟩
theorem U134(h:Q->P:=by intro O;refine U3 ?_;exact W.seq O):P:=h k
theorem U98(h:Q->P:=by intro O;refine U28 ?_;exact U6 O):P:=h k
theorem U490(h:Q->P:=by intro O;refine N0.ek0 V0 (M1 _) rfl rfl (v:=.bool true) (gj0 (r:=true) rfl rfl (by decide)) ?_;refine N0.val V0 (M1 _) rfl (v:=.bool true) (bl0 rfl rfl) ?_;exact N0.val V0 (M1 _) rfl (v:=.bool true) (M0 rfl) O):P:=h k
theorem U491(h:Q->P:=by intro O;refine L.va (B0 rfl underlying127 rfl Zh0 (by decide)) ?_;refine L.on rfl ?_;exact L.va (A0 rfl underlying125 rfl (G7.q0 3 (v:=.pointer (some (⟨cnG m e,0,none⟩))) rfl)) O):P:=h k
theorem U492(h:Q->P:=by intro O;refine L.va (B0 rfl underlying45 rfl Od0 (by decide)) ?_;refine L.on rfl ?_;exact L.va (A0 rfl underlying42 rfl (X1.q0 1 (v:=.slice R.na R.nts.length R.nc) rfl)) O):P:=h k
theorem U313(h:Q->P:=by intro O;show L _ _ _ _ _ _ _;exact U10 O):P:=h k
theorem U493(h:Q->P:=by intro O;refine U44 ?_;exact N0.val R2 (M1 _) rfl (v:=.int .u64 0) (M0 rfl) O):P:=h k
theorem U135(h:Q->P:=by intro O;refine U43 ?_;exact U448 O):P:=h k
theorem U99(h:Q->P:=by intro O;have hb:=G0 hb O2;have N5:=N5.j0 O2;revert hb N5;exact O):P:=h k
theorem U494(h:Q->P:=by intro O;have X1:=X1.other hg (K0.ne X1 el0 (by decide));have hch:=hch.grown hg (fun r e=>by cases e;exact⟨_,_,_,P3 el0⟩);revert X1 hch;exact O):P:=h k
theorem U220(h:Q->P:=by intro O;have hb:=G0 hb F39.below;have X1:=X1.j0 F39.below;revert hb X1;exact O):P:=h k
theorem U221(h:Q->P:=by intro O;have hb:=G0 hb F40.below;have X1:=X1.j0 F40.below;revert hb X1;exact O):P:=h k
theorem U495(h:Q->P:=by intro O;refine ZR.leave rfl func58 L5 ?_;exact ends.two (.inr rfl) rfl O):P:=h k
theorem U496(h:Q->P:=by intro O;refine ZR.leave rfl func59 L5 ?_;exact ends.one (.inr rfl) rfl O):P:=h k
theorem U497(h:Q->P:=by intro O;refine L.va (B0 rfl underlying173 rfl Zi0 (by decide)) ?_;exact U2 O):P:=h k
theorem U498(h:Q->P:=by intro O;refine U313 ?_;exact L.va (B0 rfl underlying248 rfl Zl0 (by decide)) O):P:=h k
theorem U100(h:Q->P:=by intro O;have hR:=hg.m.run;(have hC:=(hg.m.blk i c hc));revert hR hC;exact O):P:=h k
theorem U499(h:Q->P:=by intro O;refine L.va (H3 rfl) ?_;exact L.va (m8 rfl rfl underlying124) O):P:=h k
theorem U222(h:Q->P:=by intro O;have hb:=G0 hb F14.below;have hB:=hB.j0 F14.below;revert hb hB;exact O):P:=h k
theorem U223(h:Q->P:=by intro O;have I2:=I2.j0 F68.below;have hK:=hK.j0 F68.below;revert I2 hK;exact O):P:=h k
theorem U224(h:Q->P:=by intro O;have hW:=hW.j0 F68.below;have hoc:=hoc.j0 F68.below;revert hW hoc;exact O):P:=h k
theorem U500(h:Q->P:=by intro O;refine L.va (c5 rfl rfl underlying71) ?_;exact L.va (A7 rfl) O):P:=h k
theorem U314(h:Q->P:=by intro O;refine F.va rfl rfl (fun w' L1=>(B0 rfl underlying127 rfl sz9 (by decide))) ?_;refine F.va rfl rfl (fun w' L1=>(A0 rfl underlying9 rfl (L1.2.q0 0 (v:=.string lb.q) rfl))) ?_;exact F.doo rfl rfl O):P:=h k
theorem U315(h:Q->P:=by intro O;refine N0.val V0 (M1 _) rfl (v:=.bool true) (bl0 rfl rfl) ?_;refine N0.nil V0 ?_;exact At.W7 V0 rfl O):P:=h k
theorem U501(h:B Q->P:=by intro O;refine ZA.V6 hZ (rb (decide_eq_false (by omega))) ?_;exact ZA.skip hZ O.1):P:=h ⟨k⟩
theorem U502(h:Q->P:=by intro O;refine U10 ?_;exact L.va (B0 rfl underlying187 rfl Zj0 (by decide)) O):P:=h k
theorem U503(h:Q->P:=by intro O;refine U10 ?_;exact L.va (B0 rfl underlying127 rfl sz9 (by decide)) O):P:=h k
theorem U316(h:Q->P:=by intro O;refine ZA.seq hZ ?_;exact ZA.block hZ O):P:=h k
theorem U101(h:Q->P:=by intro O;refine U18 ?_;exact U16 O):P:=h k
theorem U504(h:Q->P:=by intro O;refine U79 ?_;exact L.va (B0 rfl underlying45 rfl sz4 (by decide)) O):P:=h k
theorem U505(h:Q->P:=by intro O;refine L.va (B0 rfl underlying191 rfl Vi0 (by decide)) ?_;exact U359 O):P:=h k
theorem U102(h:Q->P:=by intro O;refine U46 ?_;refine L.va (A0 rfl underlying242 rfl (A2.q0 0 (v:=.pointer (some ⟨sb,0,none⟩)) rfl)) ?_;refine L.va (E1 rfl) ?_;exact L.va (B0 rfl underlying244 rfl qb0 (by decide)) O):P:=h k
theorem U103(h:Q->P:=by intro O;refine L.va (H3 rfl) ?_;refine L.va (m8 rfl rfl underlying87) ?_;refine U66 ?_;refine U10 ?_;refine L.va (B0 rfl underlying160 rfl Zj0 (by decide)) ?_;exact U250 O):P:=h k
theorem U506(h:B Q->P:=by intro O;have hσ:=Eu0 (V:=V) h (.cons hi0 hl) i (by omega) hs V9 (fun j hj=>hkf j hj) de0 hV;rw[hσ];revert hσ;exact O.1):P:=h ⟨k⟩
theorem U317(h:Q->P:=by intro O;refine ZD.seq hZ ?_;exact ZD.region hZ O):P:=h k
theorem U318(h:Q->P:=by intro O;refine ZA.block hZ ?_;exact ZA.loop hZ O):P:=h k
theorem U507(h:Q->P:=by intro O;refine ZR.leave rfl func29 L5 ?_;exact ends.one (.inr rfl) rfl O):P:=h k
theorem U319(h:Q->P:=by intro O;refine N0.nil (T3 _ gr) ?_;exact U118 O):P:=h k
theorem U508(h:Q->P:=by intro O;refine L.va (A0 rfl underlying125 rfl (hB0.q0 0 (v:=.pointer (some ⟨cb,0,none⟩)) rfl)) ?_;refine L.va (E1 rfl) ?_;exact L.va (B0 rfl underlying191 rfl sz2 (by decide)) O):P:=h k
theorem U104(h:Q->P:=by intro O;refine U15 ?_;intro lt2 hb;refine U129 ?_;intro hC A2;revert lt2 hb hC A2;exact O):P:=h k
theorem U136(h:B Q->P:=by intro O;refine U150 ?_;refine U338 ?_;refine U2 ?_;exact ZA.inLoop hZ O.1):P:=h ⟨k⟩
theorem U509(h:Q->P:=by intro O;refine U10 ?_;exact L.va (B0 rfl underlying92 rfl sz3 (by decide)) O):P:=h k
theorem U225(h:Q->P:=by intro O;refine U253 ?_;exact W.skip O):P:=h k
theorem U137(h:Q->P:=by intro O;refine U9 ?_;exact U4 O):P:=h k
theorem U510(h:Q->P:=by intro O;refine ii0 (Ctx.cl Z hZ) hl ?_;rw[Frame.raise_at];exact O):P:=h k
theorem U511(h:B Q->P:=by intro O;have h1:=Int.emod_nonneg (hsh k) (b:=(n:Int)) (by omega);have h2:=Int.emod_lt_of_pos (hsh k) (b:=(n:Int)) (by omega);revert h1 h2;exact O.1):P:=h ⟨k⟩
theorem U320(h:B Q->P:=by intro O;refine L.va (Q8 (i:=lb.j) (n:=64) rfl rfl underlying90 Og0 (by omega)) ?_;refine L.va (A0 (v:=.pointer (some (⟨p.cl lb.j,0,none⟩))) rfl underlying89 rfl (go0 (o:=67+lb.j*1) hN.tb (by omega) (Gh0 hj))) ?_;exact L.va (H3 rfl) O.1):P:=h ⟨k⟩
theorem U512(h:Q->P:=by intro O;refine At.seq (W0 _ gr 0) ?_;exact At.region (W0 _ gr 0) O):P:=h k
theorem U105(h:Q->P:=by intro O;have A2:=A2.j0 O2;have Z7:=Z7.j0 O2;revert A2 Z7;exact O):P:=h k
theorem U226(h:Q->P:=by intro O;have A2:=A2.j0 F14.below;have X1:=X1.j0 F14.below;revert A2 X1;exact O):P:=h k
theorem U227(h:Q->P:=by intro O;have h7:=h7.j0 F40.below;have gn0:=gn0.j0 F40.below;revert h7 gn0;exact O):P:=h k
theorem U514(h:Q->P:=by intro O;refine ZA.done hZ ?_;(have K3:=Iz0 (b:={lb with ph:=.R6 e}) hN.at_ rfl rfl (.inr ⟨e,rfl⟩));revert K3;exact O):P:=h k
theorem U515(h:B Q->P:=by intro O;refine F.va rfl rfl (fun w' L1=>(Q8 (i:=lb.j) (n:=64) rfl rfl underlying90 Og0 (by omega))) ?_;refine F.va rfl rfl (fun w' L1=>(A0 (v:=.pointer (some (⟨p.cl lb.j,0,none⟩))) rfl underlying89 rfl (go0 (o:=67+lb.j*1) (Tn.tb L1.1) (by omega) (Gh0 hj)))) ?_;exact F.va rfl rfl (fun w' L1=>(H3 rfl)) O.1):P:=h ⟨k⟩
theorem U228(h:Q->P:=by intro O;have hb:=M4 hb hb.size hg lt5;refine U300 ?_;intro hB A2 X1;revert hb hB A2 X1;exact O):P:=h k
theorem U321(h:Q->P:=by intro O;refine L.va (gt0 rfl) ?_;exact U2 O):P:=h k
theorem U322(h:Q->P:=by intro O;refine U4 ?_;exact L.va (C4 rfl) O):P:=h k
theorem U323(h:Q->P:=by intro O;refine U21 ?_;exact L.va (R9 rfl) O):P:=h k
theorem U229(h:Q->P:=by intro O;have hC:=hC.j0 F39.below;have h7:=h7.j0 F39.below;revert hC h7;exact O):P:=h k
theorem U324(h:B Q->P:=by intro O;refine U218 ?_;exact L.va (H3 rfl) O.1):P:=h ⟨k⟩
theorem U518(h:Q->P:=by intro O;have N5:=K0.other N5 hg (K0.ne N5 hH (by decide));have X1:=K0.other X1 hg (K0.ne X1 hH (by decide));revert N5 X1;exact O):P:=h k
theorem U138(h:Q->P:=by intro O;refine U5 ?_;exact U16 O):P:=h k
theorem U139(h:Q->P:=by intro O;refine U4 ?_;exact U408 O):P:=h k
theorem U140(h:Q->P:=by intro O;refine U83 ?_;exact U309 O):P:=h k
theorem U230(h:Q->P:=by intro O;refine L.va (B0 rfl underlying45 rfl Jx0 (by decide)) ?_;refine L.on rfl ?_;refine L.va (A0 rfl underlying41 rfl (X1.q0 0 (v:=.slice R.ea R.evs.length R.ec) rfl)) ?_;refine U122 ?_;refine L.va (S5 (i:=i) rfl rfl underlying41 cq1 hY.run.mem.evs.sl hi9) ?_;refine L.on rfl ?_;refine L.va (B0 rfl underlying67 rfl ta0 (by decide)) ?_;exact L.on rfl O):P:=h k
theorem U325(h:Q->P:=by intro O;refine L.va (C4 rfl) ?_;exact U2 O):P:=h k
theorem U519(h:Q->P:=by intro O;refine F.va rfl rfl (fun w' L1=>(vw0 rfl rfl)) ?_;exact U340 O):P:=h k
theorem U141(h:Q->P:=by intro O;refine U19 ?_;exact U16 O):P:=h k
theorem U326(h:Q->P:=by intro O;refine U117 ?_;exact L.va (C4 rfl) O):P:=h k
theorem U142(h:Q->P:=by intro O;have hN:=hN.j0 F9.below;have C8:=F9.blk;revert hN C8;exact O):P:=h k
theorem U143(h:Q->P:=by intro O;refine U108 ?_;exact U16 O):P:=h k
theorem U231(h:Q->P:=by intro O;refine U34 ?_;exact U65 O):P:=h k
theorem U521(h:Q->P:=by intro O;refine L.va (gv0 rfl rfl) ?_;exact L.va (bg0 rfl) O):P:=h k
theorem U327(h:Q->P:=by intro O;have hex:=fw0 (h.sel i o ho) hlk;have hwa:=fx0 hlk;revert hex hwa;exact O):P:=h k
theorem U232(h:Q->P:=by intro O;refine W.region rfl ?_;refine L.va (S9 rfl rfl) ?_;exact U7 O):P:=h k
theorem U233(h:Q->P:=by intro O;refine U186 ?_;exact U92 O):P:=h k
theorem U522(h:Q->P:=by intro O;rw[P0 s0,P0 s1,P0 s7,P0 s8];exact O):P:=h k
theorem U234(h:Q->P:=by intro O;have I2:=I2.mod Y5 rfl;have hW:=WB.next hb9 hW2;revert I2 hW;exact O):P:=h k
theorem U145(h:Q->P:=by intro O;refine U0 ?_;exact U19 O):P:=h k
theorem U235(h:Q->P:=by intro O;refine U85 ?_;exact U6 O):P:=h k
theorem U523(h:Q->P:=by intro O;refine F.va rfl rfl (fun w' L1=>(B0 rfl underlying97 rfl qa0 (by decide))) ?_;refine F.va rfl rfl (fun w' L1=>(A0 rfl underlying95 rfl (L1.1.q0 0 (v:=.slice a9 n c9) rfl))) ?_;exact F.va rfl rfl (fun w' L1=>(C4 rfl)) O):P:=h k
theorem U146(h:Q->P:=by intro O;refine U96 ?_;exact U25 O):P:=h k
theorem U524(h:Q->P:=by intro O;refine cm0 (Ctx.cl Z hZ) hl ?_;rw[dd0];exact O):P:=h k
theorem U147(h:Q->P:=by intro O;have X1:=X1.j0 G1;have I2:=I2.j0 G1;revert X1 I2;exact O):P:=h k
theorem U148(h:Q->P:=by intro O;have X1:=X1.j0 V3;have I2:=I2.j0 V3;revert X1 I2;exact O):P:=h k
theorem U236(h:Q->P:=by intro O;refine U60 ?_;refine D.va (fun w' L1=>(B0 rfl underlying127 rfl sz9 (by decide))) ?_;exact D.va (fun w' L1=>(A0 rfl underlying9 rfl ((G7.j0 L1).q0 0 (v:=.string (ky b)) rfl))) O):P:=h k
theorem U525(h:Q->P:=by intro O;refine U12 ?_;exact L.va (m8 rfl rfl underlying71) O):P:=h k
theorem U526(h:Q->P:=by intro O;refine U12 ?_;exact L.va (c5 rfl rfl underlying123) O):P:=h k
theorem U527(h:Q->P:=by intro O;refine U360 ?_;exact L.va (M6 rfl underlying42 rfl) O):P:=h k
theorem U528(h:Q->P:=by intro O;refine U179 ?_;exact L.va (c5 rfl rfl underlying123) O):P:=h k
theorem U529(h:Q->P:=by intro O;refine U48 ?_;exact L.va (m8 rfl rfl underlying71) O):P:=h k
theorem U328(h:Q->P:=by intro O;refine U121 ?_;exact ZA.ret hZ O):P:=h k
theorem U237(h:B Q->P:=by intro O;refine L.nil ?_;exact U35 O.1):P:=h ⟨k⟩
theorem U238(h:Q->P:=by intro O;refine U311 ?_;refine U112 ?_;exact N0.val (E0 _) (M1 _) rfl (v:=.int .i32 (((v:Nat):Int))) (M0 rfl) O):P:=h k
theorem U530(h:Q->P:=by intro O;refine L.va (c5 rfl rfl underlying125) ?_;exact U235 O):P:=h k
theorem U149(h:Q->P:=by intro O;refine D.nil (fun w O2=>?_);have hg:=hg.j0 O2;revert w O2 hg;exact O):P:=h k
theorem U531(h:Q->P:=by intro O;refine F.va rfl rfl (fun w' L1=>(H3 rfl)) ?_;exact U27 O):P:=h k
theorem U532(h:Q->P:=by intro O;refine L.va (M6 rfl underlying61 rfl) ?_;exact U61 O):P:=h k
theorem U240(h:Q->P:=by intro O;refine N0.val (E0 _) (M1 _) rfl (v:=.bool true) (M0 rfl) ?_;refine N0.ek0 (E0 _) (M1 _) rfl rfl (v:=.i (-1)) (M0 rfl) ?_;refine N0.ek0 (E0 _) (M1 _) rfl rfl (v:=.bool false) (gj0 (r:=false) rfl rfl (by decide)) ?_;exact N0.val (E0 _) (M1 _) rfl (v:=.bool false) (bl0 rfl rfl) O):P:=h k
theorem U329(h:Q->P:=by intro O;refine ZA.inBlock hZ ?_;exact U354 O):P:=h k
theorem U533(h:B Q->P:=by intro O;have h1:=Int.emod_nonneg e (b:=(n:Int)) (by omega);have h2:=Int.emod_lt_of_pos e (b:=(n:Int)) (by omega);revert h1 h2;exact O.1):P:=h ⟨k⟩
theorem U241(h:Q->P:=by intro O;have hK:=hK.mod hmA rfl;have hoc:=hoc.mod hmA rfl;revert hK hoc;exact O):P:=h k
theorem U534(h:B Q->P:=by intro O;refine U355 ?_;intro hX1 hE1;(have Cz0:a41≠none->ab a41≠b14:=fun ha=>by obtain⟨cur,_,hle,_⟩:=hL1.row ha;omega);revert hX1 hE1 Cz0;exact O.1):P:=h ⟨k⟩
theorem U535(h:B Q->P:=by intro O;refine U355 ?_;intro hX1 hE1;(have Cz0:a41≠none->ab a41≠b33:=fun ha=>by obtain⟨cur,_,hle,_⟩:=hL1.row ha;omega);revert hX1 hE1 Cz0;exact O.1):P:=h ⟨k⟩
theorem U536(h:Q->P:=by intro O;refine D.va (fun w' L1=>(D2 (cs:=[.slice a n c,.int .i64 ct,.int .i64 md]) rfl underlying97 rfl o8 rfl ((A2.j0 L1).T6 rfl))) ?_;refine D.va (fun w' L1=>(A0 rfl underlying71 rfl ((Z7.j0 L1).q0 0 (v:=.pointer (some ⟨e,0,none⟩)) rfl))) ?_;exact D.va (fun w' L1=>(E1 rfl)) O):P:=h k
theorem U330(h:Q->P:=by intro O;show L _ _ _ _ _ _ _;exact U430 O):P:=h k
theorem U537(h:Q->P:=by intro O;refine U307 ?_;exact L.va (M6 rfl underlying171 rfl) O):P:=h k
theorem U242(h:Q->P:=by intro O;have hb:=jb0 hb hmA h07;have hL:=es1 (e:=en) hL;revert hb hL;exact O):P:=h k
theorem U331(h:Q->P:=by intro O;have hZ:Ctx.Zs prog (Fin prog Post X g):=E6;have hb:=bkd 151;revert hZ hb;exact O):P:=h k
theorem U332(h:Q->P:=by intro O;have hZ:Ctx.Zs prog (Fin prog Post X 0):=E6;have hb:=M1 76;revert hZ hb;exact O):P:=h k
theorem U243(h:Q->P:=by intro O;exact U192 O):P:=h k
theorem U538(h:Q->P:=by intro O;refine U474 ?_;exact L.va (op0 rfl rfl underlying195) O):P:=h k
theorem U539(h:Q->P:=by intro O;refine U109 ?_;exact L.va (M6 rfl underlying95 rfl) O):P:=h k
theorem U244(h:Q->P:=by intro O;rw[P0 s4,P0 s5,P0 s41,P0 s42,P0 s43,P0 s47,P0 s48,P0 s49];exact U20 O):P:=h k
theorem U540(h:Q->P:=by intro O;refine L.va (B0 rfl underlying59 rfl co1 (by decide)) ?_;refine L.va (A0 rfl underlying57 rfl (N5.q0 1 (v:=.slice ka m kc) rfl)) ?_;exact L.va (M6 rfl underlying57 rfl) O):P:=h k
theorem U541(h:Q->P:=by intro O;refine U474 ?_;exact L.va (op0 rfl rfl underlying95) O):P:=h k
theorem U245(h:Q->P:=by intro O;refine U24 ?_;refine L.va (S5 (i:=u) rfl rfl underlying95 ff0 hL1.sl J1) ?_;refine L.va (A0 (v:=.slice (o3 ia n (some ⟨b39,0,none⟩) u) (qs sl n en u).length (o3 ic n 1 u)) rfl underlying195 rfl (Own.at1 (hK.own hL1 Cz0) J1)) ?_;refine U73 ?_;refine U168 ?_;exact U353 O):P:=h k
theorem U542(h:Q->P:=by intro O;refine N0.nil C3 ?_;exact At.V6 C3 rfl O):P:=h k
theorem U543(h:Q->P:=by intro O;refine N0.nil W5 ?_;exact At.W7 W5 rfl O):P:=h k
theorem U246(h:Q->P:=by intro O;have lt1:=F1.lq hb.size;have hb:=G0 hb F1.below;revert lt1 hb;exact O):P:=h k
theorem U333(h:Q->P:=by intro O;refine U6 ?_;exact L.va v5 O):P:=h k
theorem U334(h:Q->P:=by intro O;refine ZA.block hZ ?_;exact U354 O):P:=h k
theorem U335(h:Q->P:=by intro O;refine L.on rfl ?_;exact U450 O):P:=h k
end
abbrev Value.i(x:Int):Value:=.int .i64 x
abbrev Value.p(b:Nat):Value:=.pointer (some ⟨b,0,none⟩)
abbrev pt(b:Nat):Option Addr:=some ⟨b,0,none⟩
end Go
section
namespace Go.Yc
open Go Go.Conc
structure Past (Sh:Loc->Prop) (Us:Nat->Prop) (St:Nat->Loc->Prop) (Mem Lo:Nat->Prop) (K:Nat->Prop) (t:Trace):Prop where
 clean:∀said,¬Race said t
 known:∀i a,touchAt t i=some a->a.loc.isMemory=true->¬Sh a.loc->K i\/(a.write=false/\∃g,t.g? i=some g/\Lo g/\St g a.loc)
 wrote:∀i a,touchAt t i=some a->a.write=true->∀g,Mem g->St g a.loc->Knows t g i
 hears:∀g,Mem g->Deaf t g=0
 ys0:∀i a g,touchAt t i=some a->Sh a.loc->t.g? i=some g->(∀g',Us g'->Knows t g' i)\/(a.kind≠.plain/\(g≠0->a.kind= .atomic/\¬t.heard i))
def PastH (Sh:Loc->Prop) (Us:Nat->Prop) (St:Nat->Loc->Prop) (Mem Lo:Nat->Prop) (h:Nat) (t:Trace):Prop:=Past Sh Us St Mem Lo (Knows t h) t
section
variable {Sh:Loc->Prop}{Us Us':Nat->Prop}{St St':Nat->Loc->Prop}{Mem Mem' Lo Lo':Nat->Prop}{h:Nat}{K K':Nat->Prop}{t u:Trace}
theorem Past.fewer (H:Past Sh Us St Mem Lo K t) (hM:∀g,Mem' g->Mem g):Past Sh Us St Mem' Lo K t :=
 ⟨H.clean,H.known,fun i a ha hw g hg hS=>H.wrote i a ha hw g (hM g hg) hS,fun g hg=>H.hears g (hM g hg),H.ys0⟩
theorem Past.loosen (H:Past Sh Us St Mem Lo K t) (hL:∀g,Lo g->Lo' g):Past Sh Us St Mem Lo' K t :=
 ⟨H.clean,fun i a ha hm hs=>(H.known i a ha hm hs).imp id fun⟨x,g,hg,hl,hS⟩=>⟨x,g,hg,hL g hl,hS⟩,H.wrote,H.hears,H.ys0⟩
theorem Past.old_known (H:Past Sh Us St Mem Lo K t) (hK:∀i,K i->K' i) {i:Nat} {a:Touch} {x:MemOp} (V5:t[i]? =some x) (E8:x.act.touch? =some a) (hm:a.loc.isMemory=true) (hs:¬Sh a.loc) :
  K' i\/(a.write=false/\∃g,(t++u).g? i=some g/\Lo g/\St g a.loc) :=
 (H.known i a (by rw[touchAt_of V5];exact E8) hm hs).imp (hK i) fun⟨p,g,hg,hl,hS⟩=>⟨p,g,by rw[g?_old (lt_size_of_getElem? V5)];exact hg,hl,hS⟩
theorem Past.old_hears {g:Nat} (H:Past Sh Us St Mem Lo K t) (hu:∀op∈u,op.g=g) (hd:Mem g->Deaf (t++u) g=Deaf t g):∀g',Mem g'->Deaf (t++u) g'=0:=fun g' hg'=>by
 by_cases e:g'=g
 ·subst e;exact(hd hg').trans (H.hears g' hg')
 ·exact(Deaf_other t (fun x=>e x.symm) u hu).trans (H.hears g' hg')
theorem Past.ie0 (H:Past Sh Us St Mem Lo K t) {i g:Nat} {a:Touch} {x:MemOp} (V5:t[i]? =some x) (E8:x.act.touch? =some a) (hs:Sh a.loc) (hg:(t++u).g? i=some g) :
  (∀g',Us g'->Knows (t++u) g' i)\/(a.kind≠.plain/\(g≠0->a.kind= .atomic/\¬(t++u).heard i)):=by
 have J1:=lt_size_of_getElem? V5;rw[g?_old J1]at hg;rcases H.ys0 i a g (by rw[touchAt_of V5];exact E8) hs hg with this|this
 ·exact .inl fun g' hg'=>(this g' hg').app u
 ·exact .inr ⟨this.1,fun N3=>⟨(this.2 N3).1,fun hh=>(this.2 N3).2 ((heard_old J1).1 hh)⟩⟩
theorem Past.leave (H:Past Sh Us St Mem Lo K t) (hU:∀g,Us' g->Us g):Past Sh Us' St Mem Lo K t :=
 ⟨H.clean,H.known,H.wrote,H.hears,fun i a g ha hs hg=>(H.ys0 i a g ha hs hg).imp (fun z g' hg'=>z g' (hU g' hg')) id⟩
theorem PastH.Ly0 {Sh':Loc->Prop} (H:PastH Sh Us St Mem Lo h t) (hS:∀l,Sh l->Sh' l) (hLo:∀g l,Lo g->St g l->¬Sh' l) (hm:∀l,Sh' l->l.isMemory=true) (hU:∀g,Us g->g=h):PastH Sh' Us St Mem Lo h t :=
 ⟨H.clean,fun i a ha hm hs=>H.known i a ha hm fun z=>hs (hS _ z),H.wrote,H.hears,fun i a g ha hs hg=>by
  by_cases e:Sh a.loc
  ·exact H.ys0 i a g ha e hg
  ·rcases H.known i a ha (hm _ hs) e with hk|⟨_,g',_,hl,hS'⟩
   ·exact .inl fun g'' pr1=>by rw[hU g'' pr1];exact hk
   ·exact absurd hs (hLo g' _ hl hS')⟩
theorem Past.appMute {g:Nat} (H:Past Sh Us St Mem Lo K t) (hK:∀i,K i->K' i) (hn:∀op∈u,op.act.touch? =none) (hh:∀g',Mem g'->Deaf (t++u) g'=0):Past Sh Us St Mem Lo K' (t++u):=by
 refine⟨fun said=>noRace_appendMute (H.clean said) hn,fun i a ha hm hs=>?_,fun i a ha hw g' hg' hS=>?_,hh,fun i a g' ha hs hg'=>?_⟩
 ·obtain⟨x,hx,E8⟩:=touch_of ha;rcases getElem?_append_cases hx with⟨_,V5⟩|⟨_,hxu⟩
  ·exact H.old_known hK V5 E8 hm hs
  ·rw[hn x hxu]at E8;cases E8
 ·obtain⟨x,hx,E8⟩:=touch_of ha;rcases getElem?_append_cases hx with⟨_,V5⟩|⟨_,hxu⟩
  ·exact(H.wrote i a (by rw[touchAt_of V5];exact E8) hw g' hg' hS).app u
  ·rw[hn x hxu]at E8;cases E8
 ·obtain⟨x,hx,E8⟩:=touch_of ha;rcases getElem?_append_cases hx with⟨_,V5⟩|⟨_,hxu⟩
  ·exact H.ie0 V5 E8 hs hg'
  ·rw[hn x hxu]at E8;cases E8
theorem Past.appRead {g:Nat} (H:Past Sh Us St Mem Lo K t) (hK:∀i,K i->K' i) (hg:Mem g) (hL:Lo g) (hu:∀op∈u,op.g=g) (hr:∀op∈u,∀b,op.act.touch? =some b->b.write=false/\St g b.loc/\¬Sh b.loc) (hd:Deaf (t++u) g=Deaf t g) :
  Past Sh Us St Mem Lo K' (t++u):=by
 refine⟨fun said=>noRace_append (H.clean said) hu fun i a ha op hop b hb hc=>?_,fun i a ha hm hs=>?_,fun i a ha hw g' hg' hS=>?_,H.old_hears hu (fun _=>hd),fun i a g' ha hs hg'=>?_⟩
 ·obtain⟨hb0,hbS,_⟩:=hr op hop b hb;rcases hc.2.2.1 with x|x
  ·exact H.wrote i a ha x g hg (hc.1▸hbS)
  ·rw[hb0]at x;cases x
 ·obtain⟨x,hx,E8⟩:=touch_of ha;rcases getElem?_append_cases hx with⟨_,V5⟩|⟨_,hxu⟩
  ·exact H.old_known hK V5 E8 hm hs
  ·exact .inr ⟨(hr x hxu a E8).1,g,by rw[g?_of hx,hu x hxu],hL,(hr x hxu a E8).2.1⟩
 ·obtain⟨x,hx,E8⟩:=touch_of ha;rcases getElem?_append_cases hx with⟨_,V5⟩|⟨_,hxu⟩
  ·exact(H.wrote i a (by rw[touchAt_of V5];exact E8) hw g' hg' hS).app u
  ·rw[(hr x hxu a E8).1]at hw;cases hw
 ·obtain⟨x,hx,E8⟩:=touch_of ha;rcases getElem?_append_cases hx with⟨_,V5⟩|⟨_,hxu⟩
  ·exact H.ie0 V5 E8 hs hg'
  ·exact absurd hs (hr x hxu a E8).2.2
def HOk (Sh:Loc->Prop) (St:Nat->Loc->Prop) (h:Nat) (op:MemOp):Prop:=∀b,op.act.touch? =some b->¬Sh b.loc/\(b.write=true->∀g,g≠h->¬St g b.loc)
theorem PastH.appH (H:PastH Sh Us St Mem Lo h t) (hLo:¬Lo h) (hu:∀op∈u,op.g=h) (hs:∀op∈u,HOk Sh St h op) (hd:Deaf (t++u) h=Deaf t h):PastH Sh Us St Mem Lo h (t++u):=by
 refine⟨fun said=>noRace_append (H.clean said) hu fun i a ha op hop b hb hc=>?_,fun i a ha hm hns=>?_,fun i a ha hw g hg hS=>?_,H.old_hears hu (fun _=>hd),fun i a g' ha hsh hg'=>?_⟩
 ·obtain⟨h1,h2⟩:=hs op hop b hb;rcases H.known i a ha hc.2.1 (hc.1▸h1)with hk|⟨hw,g,_,hl,hS⟩
  ·exact hk
  ·rcases hc.2.2.1 with x|x
   ·rw[hw]at x;cases x
   ·exact absurd (hc.1▸hS) (h2 x g fun e=>hLo (e▸hl))
 ·obtain⟨x,hx,E8⟩:=touch_of ha;rcases getElem?_append_cases hx with⟨_,V5⟩|⟨_,hxu⟩
  ·exact H.old_known (fun i=>Knows.app u) V5 E8 hm hns
  ·have:=knows_own hx;rw[hu x hxu]at this;exact .inl this
 ·obtain⟨x,hx,E8⟩:=touch_of ha;rcases getElem?_append_cases hx with⟨_,V5⟩|⟨_,hxu⟩
  ·exact(H.wrote i a (by rw[touchAt_of V5];exact E8) hw g hg hS).app u
  ·by_cases e:g=h
   ·have:=knows_own hx;rw[hu x hxu]at this;rw[e];exact this
   ·exact absurd hS ((hs x hxu a E8).2 hw g e)
 ·obtain⟨x,hx,E8⟩:=touch_of ha;rcases getElem?_append_cases hx with⟨_,V5⟩|⟨_,hxu⟩
  ·exact H.ie0 V5 E8 hsh hg'
  ·exact absurd hsh (hs x hxu a E8).1
def GOk (Sh:Loc->Prop) (g:Nat) (op:MemOp):Prop:=∀b,op.act.touch? =some b->Sh b.loc/\b.kind≠.plain/\(g≠0->b.kind= .atomic)
theorem Past.Yu0 {g:Nat} (H:Past Sh Us St Mem Lo K t) (hUs:Us g) (ho1:∀g l,St g l->¬Sh l) (hK:∀i,K i->K' i) (hu:∀op∈u,op.g=g) (hs:∀op∈u,GOk Sh g op) (hdf:g≠0->∀i,t.size <=i->i<t.size+u.size->(t++u).deaf g i≠0)
  (hh:∀g',Mem g'->Deaf (t++u) g'=0):Past Sh Us St Mem Lo K' (t++u):=by
 refine⟨fun said=>noRace_append (H.clean said) hu fun i a ha op hop b hb hc=>?_,fun i a ha hm hns=>?_,fun i a ha hw g' hg' hS=>?_,hh,fun i a g' ha hsh hg'=>?_⟩
 ·obtain⟨h1,h2,h3⟩:=hs op hop b hb;obtain⟨x,hx,E8⟩:=touch_of ha;rcases H.ys0 i a x.g ha (hc.1▸h1) (g?_of hx)with hsx|hsx
  ·exact hsx g hUs
  rcases hc.2.2.2 with y|y|⟨_,y1,y2⟩
  ·exact absurd y hsx.1
  ·exact absurd y h2
  ·have e1:g=0:=Classical.byContradiction fun e=>by have:=h3 e;rw[y2]at this;cases this
   have e2:x.g=0:=Classical.byContradiction fun e=>by have:=(hsx.2 e).1;rw[y1]at this;cases this
   have:=knows_own hx;rw[e2]at this;rw[e1];exact this
 ·obtain⟨x,hx,E8⟩:=touch_of ha;rcases getElem?_append_cases hx with⟨_,V5⟩|⟨_,hxu⟩
  ·exact H.old_known hK V5 E8 hm hns
  ·exact absurd (hs x hxu a E8).1 hns
 ·obtain⟨x,hx,E8⟩:=touch_of ha;rcases getElem?_append_cases hx with⟨_,V5⟩|⟨_,hxu⟩
  ·exact(H.wrote i a (by rw[touchAt_of V5];exact E8) hw g' hg' hS).app u
  ·exact absurd (hs x hxu a E8).1 (ho1 _ _ hS)
 ·obtain⟨x,hx,E8⟩:=touch_of ha;rcases getElem?_append_cases hx with⟨_,V5⟩|⟨hi,hxu⟩
  ·exact H.ie0 V5 E8 hsh hg'
  ·obtain⟨h1,h2,h3⟩:=hs x hxu a E8;have hgx:g'=g:=by rw[g?_of hx]at hg';rw[<- hu x hxu];exact(Option.some.inj hg').symm
   subst hgx;refine .inr ⟨h2,fun N3=>⟨h3 N3,?_⟩⟩;rintro⟨g2,hg2,hd2⟩;rw[hg']at hg2;obtain rfl:=Option.some.inj hg2;exact hdf N3 i hi (by have:=lt_size_of_getElem? hx;simpa using this) hd2
theorem PastH.still (H:PastH Sh Us St Mem Lo h t) (hLo:¬Lo h) (hSt:∀g,g≠h->∀l,St' g l↔St g l) (hS:∀l,St' h l->l.isMemory=true/\¬Sh l) (hM:∀g,Mem' g->Mem g\/g=h) (hd:Mem' h->Deaf t h=0):PastH Sh Us St' Mem' Lo h t :=
 ⟨H.clean,fun i a ha hm hs=>(H.known i a ha hm hs).imp id fun⟨x,g,hg,hl,hS'⟩=>⟨x,g,hg,hl,(hSt g (fun e=>hLo (e▸hl)) _).2 hS'⟩,
  fun i a ha hw g hg hl=>by
   by_cases e:g=h
   ·subst e;obtain⟨h1,h2⟩:=hS _ hl;rcases H.known i a ha h1 h2 with hk|⟨L1,_⟩
    ·exact hk
    ·rw[hw]at L1;cases L1
   ·exact H.wrote i a ha hw g ((hM g hg).resolve_right e) ((hSt g e _).1 hl),
  fun g hg=>by
   by_cases e:g=h
   ·subst e;exact hd hg
   ·exact H.hears g ((hM g hg).resolve_right e),H.ys0⟩
end
section
variable {Sh:Loc->Prop}{Us:Nat->Prop}{St:Nat->Loc->Prop}{Mem Lo:Nat->Prop}{h j:Nat}{t:Trace}
theorem PastH.give (H:PastH Sh Us St Mem Lo h t) (hh:Mem h) (hj:Mem j) (fh:FuncId) (ph:String) (fj:FuncId) (pj:String) (c k cap:Nat) :
  PastH Sh Us St Mem (fun g=>Lo g/\g≠j) j (t++met h j fh ph fj pj c k cap):=by
 have hn:=met_mute h j fh ph fj pj c k cap;have hq:=fun g=>met_quiet h j fh ph fj pj c k cap g;have e0:(t++met h j fh ph fj pj c k cap)[t.size]? =some {g:=h,fn:=fh,pos:=ph,act:=.send c k}:=by simp[met]
 have e3:(t++met h j fh ph fj pj c k cap)[t.size+3]? =some {g:=j,fn:=fj,pos:=pj,act:=.recvDone c k}:=by simp[met]
 have Uf0:HappensBefore (t++met h j fh ph fj pj c k cap) t.size (t.size+3) :=
  Relation.TransGen.single (.inr ⟨.handOver (act?_of e0) (act?_of e3),⟨h,g?_of e0,by rw[deaf_old (Nat.le_refl _)];exact H.hears h hh⟩,⟨j,g?_of e3,by rw[deaf_quiet (hq j) 3 (by simp[met])];exact H.hears j hj⟩⟩)
 refine⟨fun said=>noRace_appendMute (H.clean said) hn,fun i a ha hm hs=>?_,fun i a ha hw g hg hS=>?_,fun g hg=>(Deaf_quiet (hq g)).trans (H.hears g hg),fun i a g' ha hsh hg'=>?_⟩
 ·obtain⟨x,hx,E8⟩:=touch_of ha;rcases getElem?_append_cases hx with⟨hi,V5⟩|⟨_,hxu⟩
  ·rcases H.known i a (by rw[touchAt_of V5];exact E8) hm hs with hk|⟨p,g,hg,hl,hS⟩
   ·exact .inl ⟨t.size+3,_,e3,rfl,.inr ((hk.hb_new (Nat.le_refl _) e0 rfl).trans Uf0)⟩
   ·by_cases e:g=j
    ·subst e;have:=knows_own hx;rw[show x.g=g from by have:=g?_of V5;rw[hg]at this;exact(Option.some.inj this).symm]at this;exact .inl this
    ·exact .inr ⟨p,g,by rw[g?_old hi];exact hg,⟨hl,e⟩,hS⟩
  ·rw[hn x hxu]at E8;cases E8
 ·obtain⟨x,hx,E8⟩:=touch_of ha;rcases getElem?_append_cases hx with⟨_,V5⟩|⟨_,hxu⟩
  ·exact(H.wrote i a (by rw[touchAt_of V5];exact E8) hw g hg hS).app _
  ·rw[hn x hxu]at E8;cases E8
 ·obtain⟨x,hx,E8⟩:=touch_of ha;rcases getElem?_append_cases hx with⟨_,V5⟩|⟨_,hxu⟩
  ·exact H.ie0 V5 E8 hsh hg'
  ·rw[hn x hxu]at E8;cases E8
theorem PastH.born {c:Nat} (H:PastH Sh Us St Mem Lo h t) (hh:Mem h) (hc0:Deaf t c=0) (hSt:∀l,¬St c l) (hUs:Us h) (fh:FuncId) (ph:String) (fc:FuncId) :
  PastH Sh (fun g=>Us g\/g=c) St (fun g=>Mem g\/g=c) Lo c (t ++ #[{g:=h,fn:=fh,pos:=ph,act:=.go c},{g:=c,fn:=fc,pos:=ph,act:=.start}]):=by
 generalize hu:(#[{g:=h,fn:=fh,pos:=ph,act:=.go c},{g:=c,fn:=fc,pos:=ph,act:=.start}]:Trace)=u;have hn:∀op∈u,op.act.touch? =none:=by
  intro op hop;subst hu;simp only[List.mem_toArray,List.mem_cons,List.not_mem_nil,or_false]at hop;rcases hop with rfl|rfl <;> rfl
 have hq:∀g,∀op∈u,∀d,deafStep g d op=d:=by
  intro g op hop d;subst hu;simp only[List.mem_toArray,List.mem_cons,List.not_mem_nil,or_false]at hop;rcases hop with rfl|rfl <;> rfl
 have e0:(t++u)[t.size]? =some {g:=h,fn:=fh,pos:=ph,act:=.go c}:=by subst hu;simp
 have e1:(t++u)[t.size+1]? =some {g:=c,fn:=fc,pos:=ph,act:=.start}:=by subst hu;simp
 have Uf0:HappensBefore (t++u) t.size (t.size+1) :=
  Relation.TransGen.single (.inr ⟨.spawn (act?_of e0) (act?_of e1) (g?_of e1),⟨h,g?_of e0,by rw[deaf_old (Nat.le_refl _)];exact H.hears h hh⟩,⟨c,g?_of e1,by rw[deaf_quiet (hq c) 1 (by subst hu;simp)];exact hc0⟩⟩)
 refine⟨fun said=>noRace_appendMute (H.clean said) hn,fun i a ha hm hs=>?_,fun i a ha hw g hg hS=>?_,fun g hg=>(Deaf_quiet (hq g)).trans (hg.elim (H.hears g) fun e=>e▸hc0),fun i a g' ha hsh hg'=>?_⟩
 ·obtain⟨x,hx,E8⟩:=touch_of ha;rcases getElem?_append_cases hx with⟨hi,V5⟩|⟨_,hxu⟩
  ·rcases H.known i a (by rw[touchAt_of V5];exact E8) hm hs with hk|⟨p,g,hg,hl,hS⟩
   ·exact .inl ⟨t.size+1,_,e1,rfl,.inr ((hk.hb_new (Nat.le_refl _) e0 rfl).trans Uf0)⟩
   ·exact .inr ⟨p,g,by rw[g?_old hi];exact hg,hl,hS⟩
  ·rw[hn x hxu]at E8;cases E8
 ·obtain⟨x,hx,E8⟩:=touch_of ha;rcases getElem?_append_cases hx with⟨_,V5⟩|⟨_,hxu⟩
  ·rcases hg with hg|rfl
   ·exact(H.wrote i a (by rw[touchAt_of V5];exact E8) hw g hg hS).app u
   ·exact absurd hS (hSt _)
  ·rw[hn x hxu]at E8;cases E8
 ·obtain⟨x,hx,E8⟩:=touch_of ha;rcases getElem?_append_cases hx with⟨_,V5⟩|⟨_,hxu⟩
  ·have J1:=lt_size_of_getElem? V5;rcases H.ys0 i a g' (by rw[touchAt_of V5];exact E8) hsh (by rw[<- g?_old (u:=u) J1];exact hg')with y|y
   ·refine .inl fun g2 hg2=>?_;rcases hg2 with hg2|rfl
    ·exact(y g2 hg2).app u
    ·exact⟨t.size+1,_,e1,rfl,.inr (((y h hUs).hb_new (Nat.le_refl _) e0 rfl).trans Uf0)⟩
   ·exact .inr ⟨y.1,fun N3=>⟨(y.2 N3).1,fun hh=>(y.2 N3).2 ((heard_old J1).1 hh)⟩⟩
  ·rw[hn x hxu]at E8;cases E8
theorem PastH.over (H:PastH Sh Us St Mem Lo 0 t) (hU:Us 0) (hL:∀g,¬Lo g):t.HandedOver:=by
 rintro i g hg N3 ⟨x,hx,hm,kp0⟩;by_cases hs:Sh x.loc
 ·rcases H.ys0 i x g hx hs hg with hk|this
  ·obtain⟨q,z,hq,hz,hb⟩:=hk 0 hU;rcases hb with rfl|hb
   ·rw[g?_of hq,hz]at hg;exact absurd (Option.some.inj hg).symm N3
   ·exact⟨q,by rw[g?_of hq,hz],hb⟩
  ·exact(kp0.elim (fun z=>absurd (this.2 N3).1 z) fun z=>absurd z (this.2 N3).2)
 ·rcases H.known i x hx hm hs with⟨q,z,hq,hz,hb⟩|⟨_,g',_,hl,_⟩
  ·rcases hb with rfl|hb
   ·rw[g?_of hq,hz]at hg;exact absurd (Option.some.inj hg).symm N3
   ·exact⟨q,by rw[g?_of hq,hz],hb⟩
  ·exact absurd hl (hL g')
end
end Go.Yc
end
section
namespace Go.Yc
open Go
def Eh0:Mark->Bool
 | .acquire _| .release _| .releaseMerge _| .disable| .enable| .read _| .write _=>false
 |_=>true
def Q4:Obj->Bool
 | .view ..=>true
 |_=>false
def R7:Obj->Bool
 | .cells ..=>true
 |_=>false
def dead {α:Type} (P:Program):Sem α->Prop
 | .pure _=>False
 | .load _ _ k=>∀v,dead P (k v)
 | .store _ _ _ k=>dead P k
 | .new _ k=>∀r,dead P (k r)
 | .shape _ k=>∀s,dead P (k s)
 | .freeze _ _ k=>dead P k
 | .frozen _ k=>∀b,dead P (k b)
 | .getObj _ k=>∀o,dead P (k o)
 | .setObj _ _ k=>dead P k
 | .choose _ k=>∀n,dead P (k n)
 | .sys _ k=>∀r,dead P (k r)
 | .program k=>dead P (k P)
 | .mark _ k=>dead P k
 | .halt h=>∀v,h≠.panic v
def j1 {α:Type} (P:Program):Sem α->Prop
 | .pure _=>True
 | .load _ _ k=>∀v,j1 P (k v)
 | .store _ _ _ k=>j1 P k
 | .new o k=>Q4 o=false/\∀r,j1 P (k r)
 | .shape _ k=>∀s,dead P (k s)
 | .freeze _ _ k=>dead P k
 | .frozen _ k=>∀b,dead P (k b)
 | .getObj _ k=>∀o,j1 P (k o)
 | .setObj _ o k=>(Q4 o=false/\R7 o=false)/\j1 P k
 | .choose _ k=>∀n,j1 P (k n)
 | .sys _ k=>∀r,dead P (k r)
 | .program k=>j1 P (k P)
 | .mark m k=>if Eh0 m then j1 P k else dead P k
 | .halt _=>True
theorem K4 {α β:Type} {P:Program} (f:α->Sem β):∀{s:Sem α},dead P s->dead P (s.bind f)
 | .pure _,h=>h.elim
 | .load _ _ k,h=>fun v=>K4 f (h v)
 | .store _ _ _ k,h=>K4 f (s:=k) h
 | .new _ k,h=>fun r=>K4 f (h r)
 | .shape _ k,h=>fun s=>K4 f (h s)
 | .freeze _ _ k,h=>K4 f (s:=k) h
 | .frozen _ k,h=>fun b=>K4 f (h b)
 | .getObj _ k,h=>fun o=>K4 f (h o)
 | .setObj _ _ k,h=>K4 f (s:=k) h
 | .choose _ k,h=>fun n=>K4 f (h n)
 | .sys _ k,h=>fun r=>K4 f (h r)
 | .program k,h=>K4 f (s:=k P) h
 | .mark _ k,h=>K4 f (s:=k) h
 | .halt _,h=>h
theorem I7 {α β:Type} {P:Program} {f:α->Sem β} (hf:∀a,j1 P (f a)):∀{s:Sem α},j1 P s->j1 P (s.bind f)
 | .pure a,_=>hf a
 | .load _ _ k,h=>fun v=>I7 hf (h v)
 | .store _ _ _ k,h=>I7 hf (s:=k) h
 | .new _ k,h=>⟨h.1,fun r=>I7 hf (h.2 r)⟩
 | .shape _ k,h=>fun s=>K4 f (h s)
 | .freeze _ _ k,h=>K4 f (s:=k) h
 | .frozen _ k,h=>fun b=>K4 f (h b)
 | .getObj _ k,h=>fun o=>I7 hf (h o)
 | .setObj _ _ k,h=>⟨h.1,I7 hf (s:=k) h.2⟩
 | .choose _ k,h=>fun n=>I7 hf (h n)
 | .sys _ k,h=>fun r=>K4 f (h r)
 | .program k,h=>I7 hf (s:=k P) h
 | .mark m k,h=>by
  unfold j1 at h;show j1 P (Sem.mark m (k.bind f));unfold j1;split at h
  ·rename_i hm;rw[if_pos hm];exact I7 hf (s:=k) h
  ·rename_i hm;rw[if_neg hm];exact K4 f (s:=k) h
 | .halt _,_=>trivial
def inR (f:Nat×Nat) (i:Nat):Prop:=f.1 <=i/\i<f.2
inductive C7 where
 |all
 |cut (rest:Array Value) (f:Nat×Nat)
 |gone (o:Obj)
inductive fr0:C7->Obj->Obj->Prop
 |same (o:Obj):fr0 .all o o
 |cut (c rest:Array Value) (T:TypeId) (f f':Nat×Nat) (h:∀i,inR f i->inR f' i):fr0 (.cut rest f) (.cells c T f') (.cells (c++rest) T f)
 |gone (T:TypeId) (f:Nat×Nat) (o:Obj):fr0 (.gone o) (.cells #[] T f) o
structure X6 (ρ:Nat->C7) (u w:World):Prop where
 os:w.os=u.os
 output:w.output=u.output
 tape:w.tape=u.tape
 drawn:w.drawn=u.drawn
 size:w.heap.size=u.heap.size
 obj:∀(b:Nat) (x:Obj),u.heap[b]? =some x->∃y,w.heap[b]? =some y/\fr0 (ρ b) x y
 new:∀b,u.heap.size <=b->ρ b= .all
 G8:∀(b:Nat) (x:Obj),u.heap[b]? =some x->Q4 x=false
def I4 (x y:Obj):Prop:=match x,y with
 | .cells c T f,.cells c' T' f'=>c'.size=c.size/\T'=T/\f'=f/\∀i,inR f i->c'[i]? =c[i]?
 | .cells ..,_=>False
 |_,y=>R7 y=false
structure Evo (u u':World):Prop where
 size:u.heap.size <=u'.heap.size
 obj:∀(b:Nat) (x:Obj),u.heap[b]? =some x->∃y,u'.heap[b]? =some y/\I4 x y
theorem I4.refl:∀x,I4 x x
 | .cells ..=>⟨rfl,rfl,rfl,fun _ _=>rfl⟩
 | .pending ..=>rfl
 | .view ..=>rfl
 | .number ..=>rfl
 | .map ..=>rfl
 | .chan ..=>rfl
 | .stringIter ..=>rfl
 | .mapIter ..=>rfl
 | .loop ..=>rfl
 | .deferred ..=>rfl
 | .coro ..=>rfl
 | .finalizers ..=>rfl
theorem I4.trans {x y z:Obj} (h:I4 x y) (h':I4 y z):I4 x z:=by
 cases x <;> cases y <;> first|exact h.elim|skip
 case cells.cells=>
  cases z <;> first|exact h'.elim|skip
  obtain⟨h1,rfl,rfl,h2⟩:=h;obtain⟨h3,rfl,rfl,h4⟩:=h';exact⟨h3.trans h1,rfl,rfl,fun i hi=>(h4 i hi).trans (h2 i hi)⟩
 all_goals (first|(cases z <;> simp_all [I4,R7]))
theorem Evo.refl (u:World):Evo u u:=⟨Nat.le_refl _,fun _ x h=>⟨x,h,I4.refl x⟩⟩
theorem Evo.trans {u v x:World} (h:Evo u v) (h':Evo v x):Evo u x :=
 ⟨Nat.le_trans h.size h'.size,fun b o ho=>by
  obtain⟨o',h1,h2⟩:=h.obj b o ho;obtain⟨o'',h3,h4⟩:=h'.obj b o' h1;exact⟨o'',h3,h2.trans h4⟩⟩
def kq0 (u:World) (e:Event):Prop:=match e.loc with
 | .cell a=>a.block<u.heap.size->(∃v,u.cell? a=some v)/\(e.write=true->u.frozen? a=false)
 | .obj r=>r<u.heap.size->∃x,u.heap[r]? =some x/\R7 x=false
 | .mark m=>Eh0 m=true
 |_=>False
theorem X5 {u:World} {a:Addr} {v:Value} (h:u.cell? a=some v):∃c T f,u.heap[a.block]? =some (.cells c T f)/\a.spot=none/\c[a.off]? =some v:=by
 unfold World.cell? at h;split at h
 ·rename_i c T f hb;split at h
  ·cases h
  ·rename_i hs;exact⟨c,T,f,hb,by cases hh:a.spot <;> simp_all,h⟩
 ·cases h
section
variable {ρ:Nat->C7}{u w u':World}{a:Addr}{v:Value}
theorem X6.cell (h:X6 ρ u w) (hc:u.cell? a=some v):w.cell? a=some v:=by
 obtain⟨c,T,f,hb,hs,hv⟩:=X5 hc;obtain⟨y,hy,hl⟩:=h.obj _ _ hb;unfold World.cell?;generalize ρ a.block=p at hl;cases hl with
 |same=>rw[hy];simp[hs,hv]
 |cut _ rest _ f0 _ hf=>
  rw[hy];simp only[hs,Option.isSome_none,Bool.false_eq_true,if_false];rw[Array.getElem?_append_left (Array.getElem?_eq_some_iff.1 hv).1];exact hv
 |gone=>simp at hv
theorem X6.frozen (h:X6 ρ u w) (hc:u.cell? a=some v) (hf:u.frozen? a=false):w.frozen? a=false:=by
 obtain⟨c,T,f,hb,hs,hv⟩:=X5 hc;obtain⟨y,hy,hl⟩:=h.obj _ _ hb;unfold World.frozen? at hf⊢;rw[hb]at hf;generalize ρ a.block=p at hl;cases hl with
 |same=>rw[hy];exact hf
 |cut _ rest _ f0 _ hf0=>
  rw[hy];simp only[Bool.and_eq_false_imp,decide_eq_true_eq,decide_eq_false_iff_not]at hf⊢;intro h1 h2;exact hf (hf0 _ ⟨h1,h2⟩).1 (hf0 _ ⟨h1,h2⟩).2
 |gone=>simp at hv
theorem heap_setCell (u:World) (a:Addr) (v:Value) (b:Nat):(u.setCell a v).heap[b]? =(u.heap[b]?).map fun o=>if b=a.block then(match o with| .cells c T f=>.cells (if a.spot.isSome then c else c.setIfInBounds a.off v) T f|o=>o) else o:=by
 unfold World.setCell;simp only[Array.getElem?_modify];by_cases h:a.block=b
 ·subst h;simp only[if_true];cases u.heap[a.block]? with
  |none=>rfl
  |some o=>cases o <;> rfl
 ·simp[h,Ne.symm h]
theorem X6.setCell (h:X6 ρ u w) (hc:u.cell? a=some v) (x:Value):X6 ρ (u.setCell a x) (w.setCell a x):=by
 obtain⟨c,T,f,hb,hs,hv⟩:=X5 hc;have J1:=(Array.getElem?_eq_some_iff.1 hv).1;refine⟨h.os,h.output,h.tape,h.drawn,by simp[World.setCell,h.size],fun b o ho=>?_,fun b hb=>h.new b (by simpa [World.setCell]using hb),fun b o ho=>?_⟩
 ·rw[heap_setCell]at ho⊢;obtain⟨o1,h1,rfl⟩:=Option.map_eq_some_iff.1 ho;obtain⟨y,hy,hl⟩:=h.obj b o1 h1;refine⟨_,by rw[hy];rfl,?_⟩;by_cases hba:b=a.block
  ·subst hba;rw[hb]at h1;obtain rfl:=Option.some.inj h1;simp only[if_true,hs,Option.isSome_none,Bool.false_eq_true,if_false];generalize ρ a.block=p at hl⊢;cases hl with
   |same=>exact .same _
   |cut _ rest _ f0 _ hf0=>
    show fr0 _ _ (.cells ((c++rest).setIfInBounds a.off x) T f0);rw[show(c++rest).setIfInBounds a.off x=c.setIfInBounds a.off x++rest by
     rw[Array.setIfInBounds_append_left J1]]
    exact .cut _ _ _ _ _ hf0
   |gone=>simp at hv
  ·simp only[hba,if_false];exact hl
 ·rw[heap_setCell]at ho;obtain⟨o1,h1,rfl⟩:=Option.map_eq_some_iff.1 ho;have:=h.G8 b o1 h1;by_cases hba:b=a.block
  ·simp only[hba,if_true];cases o1 <;> simp_all [Q4]
  ·simp only[hba,if_false];exact this
theorem As0 (u:World) (a:Addr) (x:Value) (hz:u.frozen? a=false):Evo u (u.setCell a x):=by
 refine⟨by simp[World.setCell],fun b o ho=>?_⟩;rw[heap_setCell,ho];refine⟨_,rfl,?_⟩;by_cases hba:b=a.block
 ·subst hba;unfold World.frozen? at hz;rw[ho]at hz;simp only[if_true];cases o <;> simp only[I4,R7]
  rename_i c T f;split
  ·simp
  ·refine⟨by simp,trivial,trivial,fun i hi=>?_⟩;rw[Array.getElem?_setIfInBounds_ne];rintro rfl;obtain⟨lo,hi'⟩:=f;simp only[Bool.and_eq_false_imp,decide_eq_true_eq,decide_eq_false_iff_not]at hz;exact hz hi.1 hi.2
 ·simp only[hba,if_false];exact I4.refl o
theorem Lz0 (u:World) (o:Obj):Evo u {u with heap:=u.heap.push o}:=by
 refine⟨by simp,fun b x hx=>⟨x,?_,I4.refl x⟩⟩;have:=(Array.getElem?_eq_some_iff.1 hx).1;show(u.heap.push o)[b]? =some x;rw[Array.getElem?_push,if_neg (by omega)];exact hx
theorem X6.push (h:X6 ρ u w) {o:Obj} (ho:Q4 o=false):X6 ρ {u with heap:=u.heap.push o} {w with heap:=w.heap.push o}:=by
 refine⟨h.os,h.output,h.tape,h.drawn,by simp[h.size],fun b x hx=>?_,fun b hb=>h.new b (by simp at hb;omega),fun b x hx=>?_⟩
 ·have V5:(u.heap.push o)[b]? =some x:=hx;show ∃y,(w.heap.push o)[b]? =some y/\_;rw[Array.getElem?_push]at V5⊢;rw[h.size];split at V5
  ·rename_i hb;rw[if_pos hb];cases V5;exact⟨_,rfl,by rw[h.new b (by omega)];exact .same _⟩
  ·rename_i hb;rw[if_neg hb];exact h.obj b x V5
 ·have V5:(u.heap.push o)[b]? =some x:=hx;rw[Array.getElem?_push]at V5;split at V5
  ·cases V5;exact ho
  ·exact h.G8 b x V5
theorem Ei0 {r:Nat} {x:Obj} (hr:u.heap[r]? =some x) (hx:R7 x=false) {o:Obj} (ho:R7 o=false):Evo u {u with heap:=u.heap.setIfInBounds r o}:=by
 refine⟨by simp,fun b y hy=>?_⟩;show ∃z,(u.heap.setIfInBounds r o)[b]? =some z/\_;rw[Array.getElem?_setIfInBounds];by_cases h:r=b
 ·subst h;have J1:=(Array.getElem?_eq_some_iff.1 hr).1;rw[hr]at hy;obtain rfl:=Option.some.inj hy;refine⟨o,by simp[J1],?_⟩;cases x <;> simp_all [I4,R7]
 ·exact⟨y,by simp[h,hy],I4.refl y⟩
theorem X6.setObj (h:X6 ρ u w) {r:Nat} {o x:Obj} (hr:u.heap[r]? =some x) (hx:R7 x=false) (ho:Q4 o=false):X6 ρ {u with heap:=u.heap.setIfInBounds r o} {w with heap:=w.heap.setIfInBounds r o}:=by
 have hal:ρ r= .all:=by
  obtain⟨y,_,hl⟩:=h.obj r x hr;generalize ρ r=p at hl⊢;cases hl <;> first|rfl|cases hx
 refine⟨h.os,h.output,h.tape,h.drawn,by simp[h.size],fun b x hx=>?_,fun b hb=>h.new b (by simpa using hb),fun b x hx=>?_⟩
 ·have V5:(u.heap.setIfInBounds r o)[b]? =some x:=hx;show ∃y,(w.heap.setIfInBounds r o)[b]? =some y/\_;rw[Array.getElem?_setIfInBounds]at V5⊢;by_cases hrb:r=b
  ·subst hrb;simp only[if_true]at V5⊢;rw[h.size];split at V5
   ·rename_i hb;rw[if_pos hb];cases V5;exact⟨_,rfl,by rw[hal];exact .same _⟩
   ·cases V5
  ·simp only[hrb,if_false]at V5⊢;exact h.obj b x V5
 ·have V5:(u.heap.setIfInBounds r o)[b]? =some x:=hx;rw[Array.getElem?_setIfInBounds]at V5;by_cases hrb:r=b
  ·subst hrb;simp only[if_true]at V5;split at V5
   ·cases V5;exact ho
   ·cases V5
  ·simp only[hrb,if_false]at V5;exact h.G8 b x V5
theorem kq0.back (he:Evo u u') {e:Event} (h:kq0 u' e):kq0 u e:=by
 obtain⟨l,wr,sy⟩:=e;cases l with
 |cell a=>
  intro J1;obtain⟨⟨v,hv⟩,hw⟩:=h (Nat.lt_of_lt_of_le J1 he.size);have hx:u.heap[a.block]? =some u.heap[a.block]:=Array.getElem?_eq_getElem J1;obtain⟨y,hy,hk⟩:=he.obj _ _ hx;obtain⟨c,T,f,hb,hs,hc⟩:=X5 hv;rw[hb]at hy;obtain rfl:=Option.some.inj hy;generalize u.heap[a.block]=x at hx hk;cases x <;> simp only[I4,R7,Bool.true_eq_false]at hk
  rename_i c0 T0 f0;obtain⟨h1,rfl,rfl,_⟩:=hk;have ua1:=(Array.getElem?_eq_some_iff.1 hc).1;refine⟨⟨c0[a.off]'(by omega),by unfold World.cell?;rw[hx];simp[hs,show a.off<c0.size by omega]⟩,fun hwr=>?_⟩;have:=hw hwr;unfold World.frozen? at this⊢;rw[hb]at this;rw[hx];exact this
 |obj r=>
  intro J1;obtain⟨x',V5,hc⟩:=h (Nat.lt_of_lt_of_le J1 he.size);have hx:u.heap[r]? =some u.heap[r]:=Array.getElem?_eq_getElem J1;obtain⟨y,hy,hk⟩:=he.obj _ _ hx;rw[V5]at hy;obtain rfl:=Option.some.inj hy;refine⟨_,hx,?_⟩;generalize u.heap[r]=x at hk;cases x <;> first|rfl|(cases x' <;> simp_all [I4,R7])
 |output=>exact h
 |goroutines=>exact h
 |mark m=>exact h
def At0 {α:Type}:Result α->Prop
 | .ok _ _=>True
 | .halt (.panic _) _=>True
 |_=>False
def atW {α:Type}:Result α->World->Result α
 | .ok a _,w=>.ok a w
 | .halt h _,w=>.halt h w
def kr0 {α:Type}:Result α->World
 | .ok _ w=>w
 | .halt _ w=>w
def one:Value->Bool
 | .agg _=>false
 | .tuple _=>false
 |_=>true
theorem cl0 {α:Type} {P:Program} {m:Mode} {a:Addr} {v:Value} {k:Sem α} (h:one v=true) (u:World) (es:Array Event):(Sem.store m a v k).runT P u es=match u.cell? a with
  |some _=>if u.frozen? a then(.halt (.unsupported (.unsafePointer "a write to bytes that a string shares")) u,es) else k.runT P (u.setCell a v) (es.push ⟨.cell a,true,m== .atomic⟩)
  |none=>match u.farStore P a v (m== .atomic)with
   | .ok (u,Ug0)=>k.runT P u (es++Ug0.toArray.map (⟨.cell ·,true,m== .atomic⟩))
   | .error h=>(.halt h u,es):=by
 cases v <;> first|rfl|cases h
theorem if0 {α:Type} {P:Program} {m:Mode} {a:Addr} {v:Value} {k:Sem α} (h:one v=false) (u:World) (es:Array Event):(Sem.store m a v k).runT P u es=(.halt (.stuck "store: not the value of one cell") u,es):=by
 cases v <;> first|rfl|cases h
theorem ni0 {P:Program} {u:World} {a:Addr} {b:Bool} {h:Halt} (he:u.farLoad P a b= .error h):∀v,h≠.panic v:=by
 unfold World.farLoad at he;split at he
 ·split at he
  ·cases he
  ·cases he;intro v;simp
 ·cases he;unfold World.noCell;split <;> intro v <;> simp
theorem ks0 {P:Program} {u:World} {a:Addr} {x:Value} {b:Bool} {h:Halt} (he:u.farStore P a x b= .error h):∀v,h≠.panic v:=by
 unfold World.farStore at he;split at he
 ·split at he
  ·cases he
  ·cases he;intro v;simp
 ·cases he;unfold World.noCell;split <;> intro v <;> simp
theorem es0 {α:Type} {h:Halt} {w:World} (hf:At0 (α:=α) (.halt h w)):∃v,h= .panic v:=by
 cases h <;> first|exact⟨_,rfl⟩|exact hf.elim
theorem j2 {α:Type} {P:Program}:∀{s:Sem α},dead P s->∀(u:World) (es:Array Event),¬At0 (s.runT P u es).1
 | .pure _,h,_,_=>h.elim
 | .load m a k,h,u,es=>by
  unfold Sem.runT;split
  ·exact j2 (h _) _ _
  ·split
   ·exact j2 (h _) _ _
   ·rename_i he;intro hf;obtain⟨v,hv⟩:=es0 hf;exact ni0 he v hv
 | .store m a v k,h,u,es=>by
  cases ho:one v
  ·rw[if0 ho];exact id
  ·rw[cl0 ho];split
   ·split
    ·exact id
    ·exact j2 (s:=k) h _ _
   ·split
    ·exact j2 (s:=k) h _ _
    ·rename_i he;intro hf;obtain⟨v,hv⟩:=es0 hf;exact ks0 he v hv
 | .new _ k,h,u,es=>j2 (h _) _ _
 | .shape _ k,h,u,es=>j2 (h _) _ _
 | .freeze _ _ k,h,u,es=>j2 (s:=k) h _ _
 | .frozen _ k,h,u,es=>j2 (h _) _ _
 | .getObj _ k,h,u,es=>by
  unfold Sem.runT;split
  ·exact id
  ·exact j2 (h _) _ _
  ·exact id
 | .setObj _ _ k,h,u,es=>by
  unfold Sem.runT;split
  ·exact id
  ·exact j2 (s:=k) h _ _
  ·exact id
 | .choose _ k,h,u,es=>by
  unfold Sem.runT;split
  ·exact j2 (h _) _ _
  ·exact j2 (h _) _ _
 | .sys _ k,h,u,es=>j2 (h _) _ _
 | .program k,h,u,es=>j2 (s:=k P) h _ _
 | .mark _ k,h,u,es=>j2 (s:=k) h _ _
 | .halt hh,h,u,es=>by
  intro hf;obtain⟨v,hv⟩:=es0 hf;exact h v hv
structure Au0 {α:Type} (P:Program) (ρ:Nat->C7) (s:Sem α) (u w:World) (es:Array Event):Prop where
 out:∃w',s.runT P w es=(atW (s.runT P u es).1 w',(s.runT P u es).2)/\X6 ρ (kr0 (s.runT P u es).1) w'
 evo:Evo u (kr0 (s.runT P u es).1)
 evs:∀e∈(s.runT P u es).2,e∈es\/kq0 u e
theorem Au0.of {α β:Type} {P:Program} {ρ:Nat->C7} {s:Sem α} {t:Sem β} {u w u' w':World} {es es':Array Event} {f:Result β->Result α} (h:Au0 P ρ t u' w' es') (hu:s.runT P u es=(f (t.runT P u' es').1,(t.runT P u' es').2)) (hw:s.runT P w es=(f (t.runT P w' es').1,(t.runT P w' es').2))
  (hf:∀r w,f (atW r w)=atW (f r) w) (hfw:∀r,kr0 (f r)=kr0 r) (he:Evo u u') (hes:∀e∈es',e∈es\/kq0 u e):Au0 P ρ s u w es:=by
 obtain⟨⟨w2,h1,h2⟩,h3,h4⟩:=h;refine⟨⟨w2,?_,?_⟩,?_,?_⟩
 ·rw[hw,h1,hu];simp only[hf]
 ·rw[hu];simp only[hfw];exact h2
 ·rw[hu];simp only[hfw];exact he.trans h3
 ·rw[hu];intro e hee;rcases h4 e hee with h5|h5
  ·exact hes e h5
  ·exact .inr (h5.back he)
theorem Au0.go {α:Type} {P:Program} {ρ:Nat->C7} {s t:Sem α} {u w u' w':World} {es es':Array Event} (h:Au0 P ρ t u' w' es') (hu:s.runT P u es=t.runT P u' es') (hw:s.runT P w es=t.runT P w' es') (he:Evo u u') (hes:∀e∈es',e∈es\/kq0 u e):Au0 P ρ s u w es :=
 Au0.of (f:=id) h hu hw (fun _ _=>rfl) (fun _=>rfl) he hes
theorem Av0 {o:Obj} (h:R7 o=true):∃c T f,o= .cells c T f:=by
 cases o <;> first|exact⟨_,_,_,rfl⟩|cases h
theorem bc0 {u:World} {es:Array Event} {x:Event} (hx:kq0 u x):∀e∈es.push x,e∈es\/kq0 u e:=by
 intro e he;rcases Array.mem_push.1 he with h|rfl
 ·exact .inl h
 ·exact .inr hx
theorem X6.ask {ρ:Nat->C7} {u w:World} (h:X6 ρ u w) (d:Nat):X6 ρ {u with drawn:=d} {w with drawn:=d}:=⟨h.os,h.output,h.tape,rfl,h.size,h.obj,h.new,h.G8⟩
theorem e8 {α:Type} {P:Program} {ρ:Nat->C7}:∀{s:Sem α},j1 P s->∀{u w:World} {es:Array Event},X6 ρ u w->At0 (s.runT P u es).1->Au0 P ρ s u w es
 | .pure a,_,u,w,es,hs,_=>⟨⟨w,rfl,hs⟩,Evo.refl u,fun e he=>.inl he⟩
 | .halt hh,_,u,w,es,hs,_=>⟨⟨w,rfl,hs⟩,Evo.refl u,fun e he=>.inl he⟩
 | .load m a k,h,u,w,es,hs,hf=>by
  cases hc:u.cell? a with
  |some v=>
   have hu:(Sem.load m a k).runT P u es=(k v).runT P u (es.push ⟨.cell a,false,m== .atomic⟩):=by
    conv=>lhs;unfold Sem.runT
    rw[hc]
   have hw:(Sem.load m a k).runT P w es=(k v).runT P w (es.push ⟨.cell a,false,m== .atomic⟩):=by
    conv=>lhs;unfold Sem.runT
    rw[hs.cell hc]
   rw[hu]at hf;exact(e8 (h v) hs hf).go hu hw (Evo.refl u) (bc0 (fun _=>⟨⟨v,hc⟩,fun h9=>by cases h9⟩))
  |none=>
   exfalso;unfold Sem.runT at hf;rw[hc]at hf;have:∃hh,u.farLoad P a (m== .atomic)= .error hh:=by
    unfold World.farLoad;cases hb:u.heap[a.block]? with
    |none=>exact⟨_,rfl⟩
    |some o=>
     cases o
     case view at_ t=>exact absurd (hs.G8 _ _ hb) (by simp[Q4])
     all_goals exact⟨_,rfl⟩
   obtain⟨hh,he⟩:=this;rw[he]at hf;obtain⟨v,hv⟩:=es0 hf;exact ni0 he v hv
 | .store m a x k,h,u,w,es,hs,hf=>by
  cases ho:one x
  ·rw[if0 ho]at hf;exact hf.elim
  ·cases hc:u.cell? a with
   |some v=>
    cases hz:u.frozen? a
    ·have hu:(Sem.store m a x k).runT P u es=k.runT P (u.setCell a x) (es.push ⟨.cell a,true,m== .atomic⟩):=by
      rw[cl0 ho,hc,hz];rfl
     have hw:(Sem.store m a x k).runT P w es=k.runT P (w.setCell a x) (es.push ⟨.cell a,true,m== .atomic⟩):=by
      rw[cl0 ho,hs.cell hc,hs.frozen hc hz];rfl
     rw[hu]at hf;exact(e8 (s:=k) h (hs.setCell hc x) hf).go hu hw (As0 u a x hz) (bc0 (fun _=>⟨⟨v,hc⟩,fun _=>hz⟩))
    ·rw[cl0 ho,hc,hz]at hf;exact hf.elim
   |none=>
    exfalso;rw[cl0 ho,hc]at hf;have:∃hh,u.farStore P a x (m== .atomic)= .error hh:=by
     unfold World.farStore;cases hb:u.heap[a.block]? with
     |none=>exact⟨_,rfl⟩
     |some o=>
      cases o
      case view at_ t=>exact absurd (hs.G8 _ _ hb) (by simp[Q4])
      all_goals exact⟨_,rfl⟩
    obtain⟨hh,he⟩:=this;rw[he]at hf;obtain⟨v,hv⟩:=es0 hf;exact ks0 he v hv
 | .new o k,h,u,w,es,hs,hf=>by
  refine(e8 (h.2 u.heap.size) (hs.push h.1) hf).go rfl ?_ (Lz0 u o) (fun e he=>.inl he);show(k w.heap.size).runT P _ es=_;rw[hs.size]
 | .shape _ k,h,u,w,es,hs,hf=>absurd hf (j2 (h _) _ _)
 | .freeze _ _ k,h,u,w,es,hs,hf=>absurd hf (j2 (s:=k) h _ _)
 | .frozen _ k,h,u,w,es,hs,hf=>absurd hf (j2 (h _) _ _)
 | .getObj r k,h,u,w,es,hs,hf=>by
  cases hb:u.heap[r]? with
  |none=>unfold Sem.runT at hf;rw[hb]at hf;exact hf.elim
  |some o=>
   cases hco:R7 o
   ·obtain⟨y,hy,hl⟩:=hs.obj r o hb;have hyo:y=o:=by generalize ρ r=p at hl;cases hl <;> first|rfl|cases hco
    subst hyo;have hu:(Sem.getObj r k).runT P u es=(k y).runT P u (es.push ⟨.obj r,false,y.isChan⟩):=by
     conv=>lhs;unfold Sem.runT
     rw[hb];cases y <;> first|rfl|cases hco
    have hw:(Sem.getObj r k).runT P w es=(k y).runT P w (es.push ⟨.obj r,false,y.isChan⟩):=by
     conv=>lhs;unfold Sem.runT
     rw[hy];cases y <;> first|rfl|cases hco
    rw[hu]at hf;exact(e8 (h y) hs hf).go hu hw (Evo.refl u) (bc0 (fun _=>⟨y,hb,hco⟩))
   ·obtain⟨c,T,f,rfl⟩:=Av0 hco;unfold Sem.runT at hf;rw[hb]at hf;exact hf.elim
 | .setObj r o k,h,u,w,es,hs,hf=>by
  cases hb:u.heap[r]? with
  |none=>unfold Sem.runT at hf;rw[hb]at hf;exact hf.elim
  |some y=>
   cases hco:R7 y
   ·obtain⟨y',hy,hl⟩:=hs.obj r y hb;have hyo:y'=y:=by generalize ρ r=p at hl;cases hl <;> first|rfl|cases hco
    subst hyo;have hu:(Sem.setObj r o k).runT P u es=k.runT P {u with heap:=u.heap.setIfInBounds r o} (es.push ⟨.obj r,true,o.isChan⟩):=by
     conv=>lhs;unfold Sem.runT
     rw[hb];cases y' <;> first|rfl|cases hco
    have hw:(Sem.setObj r o k).runT P w es=k.runT P {w with heap:=w.heap.setIfInBounds r o} (es.push ⟨.obj r,true,o.isChan⟩):=by
     conv=>lhs;unfold Sem.runT
     rw[hy];cases y' <;> first|rfl|cases hco
    rw[hu]at hf;exact(e8 (s:=k) h.2 (hs.setObj hb hco h.1.1) hf).go hu hw (Ei0 hb hco h.1.2) (bc0 (fun _=>⟨y',hb,hco⟩))
   ·obtain⟨c,T,f,rfl⟩:=Av0 hco;unfold Sem.runT at hf;rw[hb]at hf;exact hf.elim
 | .choose q k,h,u,w,es,hs,hf=>by
  cases hq:q.forced
  ·have hu:(Sem.choose q k).runT P u es=(k (q.cut (u.tape u.drawn q))).runT P {u with drawn:=u.drawn+1} es:=by
    conv=>lhs;unfold Sem.runT
    rw[hq];rfl
   have hw:(Sem.choose q k).runT P w es=(k (q.cut (u.tape u.drawn q))).runT P {w with drawn:=u.drawn+1} es:=by
    conv=>lhs;unfold Sem.runT
    rw[hq,hs.tape,hs.drawn];rfl
   rw[hu]at hf;exact(e8 (h _) (hs.ask _) hf).go hu hw ⟨Nat.le_refl _,fun _ x hx=>⟨x,hx,I4.refl x⟩⟩ (fun e he=>.inl he)
  ·have hu:(Sem.choose q k).runT P u es=(k 0).runT P u es:=by
    conv=>lhs;unfold Sem.runT
    rw[hq];rfl
   have hw:(Sem.choose q k).runT P w es=(k 0).runT P w es:=by
    conv=>lhs;unfold Sem.runT
    rw[hq];rfl
   rw[hu]at hf;exact(e8 (h 0) hs hf).go hu hw (Evo.refl u) (fun e he=>.inl he)
 | .sys _ k,h,u,w,es,hs,hf=>absurd hf (j2 (h _) _ _)
 | .program k,h,u,w,es,hs,hf=>(e8 (s:=k P) h hs hf).go rfl rfl (Evo.refl u) (fun e he=>.inl he)
 | .mark m k,h,u,w,es,hs,hf=>by
  unfold j1 at h;split at h
  ·rename_i hm;exact(e8 (s:=k) h hs hf).go rfl rfl (Evo.refl u) (bc0 hm)
  ·exact absurd hf (j2 (s:=k) h _ _)
end
end Go.Yc
end
section
namespace Go.Yc
open Go Go.Conc
open Go.ConcN (sumTo upd sumTo_upd upd_ne upd_same sumTo_congr)
section
def V2 (u:World) (τ:Tape) (d:Nat):World:={u with tape:=τ,drawn:=d}
theorem fr0.uniq {p:C7} {x y y':Obj} (h:fr0 p x y) (h':fr0 p x y'):y=y':=by
 cases h <;> cases h' <;> rfl
theorem v9 {c:Array Value} {T:TypeId} {f:Nat×Nat} {y:Obj} (hk:I4 (.cells c T f) y):∃c',y= .cells c' T f/\c'.size=c.size/\∀i,inR f i->c'[i]? =c[i]?:=by
 cases y <;> try(exact hk.elim)
 obtain⟨h1,rfl,rfl,h2⟩:=hk;exact⟨_,rfl,h1,h2⟩
def ji0 (u:World) (b:Nat):Prop:=∃T f,u.heap[b]? =some (.cells #[] T f)
theorem ji0.evo {u u':World} {b:Nat} (h:ji0 u b) (he:Evo u u'):ji0 u' b:=by
 obtain⟨T,f,hb⟩:=h;obtain⟨y,hy,hk⟩:=he.obj _ _ hb;obtain⟨c,rfl,h1,_⟩:=v9 hk;have:c=#[]:=by simpa using h1
 subst this;exact⟨_,_,hy⟩
theorem ji0.kept {ρ:Nat->C7} {u u' w w':World} {b:Nat} (h:ji0 u b) (he:Evo u u') (hs:X6 ρ u w) (hs':X6 ρ u' w'):w'.heap[b]? =w.heap[b]?:=by
 obtain⟨T,f,hb⟩:=h;obtain⟨y,hy,hk⟩:=he.obj _ _ hb;obtain⟨c,rfl,h1,_⟩:=v9 hk;have:c=#[]:=by simpa using h1
 subst this;obtain⟨z,hz,hl⟩:=hs.obj _ _ hb;obtain⟨z',hz',J7⟩:=hs'.obj _ _ hy;rw[hz,hz',hl.uniq J7]
theorem Ej0 {u u':World} {a:Addr} {v:Value} (hc:u.cell? a=some v) (hf:u.frozen? a=true) (he:Evo u u'):u'.cell? a=some v/\u'.frozen? a=true:=by
 obtain⟨c,T,f,hb,hs,hv⟩:=X5 hc;obtain⟨y,hy,hk⟩:=he.obj _ _ hb;obtain⟨c',rfl,h1,h2⟩:=v9 hk;unfold World.frozen? at hf⊢;unfold World.cell?;rw[hb]at hf;rw[hy];obtain⟨lo,hi⟩:=f;refine⟨?_,hf⟩;simp only[hs,Option.isSome_none,Bool.false_eq_true,if_false];simp only[Bool.and_eq_true,decide_eq_true_eq]at hf;rw[h2 _ hf];exact hv
structure K7 where
 blk:Nat
 off:Nat
def stA (G:K7):Addr:=⟨G.blk,G.off,none⟩
def smA (G:K7):Addr:=⟨G.blk,G.off+1,none⟩
def KK:Nat:=4294967296
attribute [local irreducible] KK
def GAt (G:K7) (st sm:Int) (w:World):Prop:=∃c T,w.heap[G.blk]? =some (.cells (c ++ #[.int .u64 st,.int .u32 sm]) T (0,0))/\c.size=G.off
def Cut (u:World) (G:K7):Prop:=∃c T f,u.heap[G.blk]? =some (.cells c T f)/\c.size=G.off
theorem Cut.evo {u u':World} {G:K7} (h:Cut u G) (he:Evo u u'):Cut u' G:=by
 obtain⟨c,T,f,hb,hc⟩:=h;obtain⟨y,hy,hk⟩:=he.obj _ _ hb;obtain⟨c',rfl,h1,_⟩:=v9 hk;exact⟨_,_,_,hy,h1.trans hc⟩
theorem Cut.kept {ρ:Nat->C7} {u u' w w':World} {G:K7} {st sm:Int} (h:Cut u G) (he:Evo u u') (hs:X6 ρ u w) (hs':X6 ρ u' w') (hg:GAt G st sm w):GAt G st sm w':=by
 obtain⟨c,T,f,hb,hc⟩:=h;obtain⟨y,hy,hk⟩:=he.obj _ _ hb;obtain⟨c',rfl,h1,_⟩:=v9 hk;obtain⟨z,hz,hl⟩:=hs.obj _ _ hb;obtain⟨z',hz',J7⟩:=hs'.obj _ _ hy;obtain⟨c0,T0,hg,hc0⟩:=hg;rw[hz]at hg;obtain rfl:=Option.some.inj hg;generalize ρ G.blk=p at hl J7;generalize hz0:(Obj.cells (c0 ++ #[.int .u64 st,.int .u32 sm]) T0 (0,0))=z0 at hl;cases hl with
 |same=>
  obtain⟨rfl,_,_⟩:=Obj.cells.inj hz0;simp at hc;omega
 |cut _ rest _ f1 _ _=>
  obtain⟨h2,rfl,h3⟩:=Obj.cells.inj hz0;have N2:c.size=c0.size:=by omega
  have:rest=#[.int .u64 st,.int .u32 sm]:=(Array.append_inj_right h2 N2.symm).symm;subst this;cases J7 with
  |cut _ _ _ _ _ _=>exact⟨c',T0,by rw[hz',<- h3],h1.trans hc⟩
 |gone=>
  subst hz0;cases J7 with
  |gone=>exact⟨c0,T0,hz',hc0⟩
theorem GAt.cells {G:K7} {st sm:Int} {w:World} (h:GAt G st sm w):w.cell? (stA G)=some (.int .u64 st)/\w.cell? (smA G)=some (.int .u32 sm)/\w.frozen? (stA G)=false/\w.frozen? (smA G)=false:=by
 obtain⟨c,T,hb,hc⟩:=h;refine⟨?_,?_,?_,?_⟩
 ·simp[World.cell?,stA,hb,<- hc]
 ·simp only[World.cell?,smA,hb,Option.isSome_none,Bool.false_eq_true,if_false];rw[Array.getElem?_append_right (by omega)];simp[<- hc]
 ·simp[World.frozen?,stA,hb]
 ·simp[World.frozen?,smA,hb]
def I6 (P:Program) (main:Bool) (g:Goroutine) (u:World) (g':Goroutine) (u':World):Prop :=
 g'.status= .running/\∀ρ w,X6 ρ u w->Evo u u'/\∃w' es,stepG P main g w= .go g' w' es/\X6 ρ u' w'/\∀e∈es,kq0 u e
structure S6 where
 ch:Nat
 z:Value
 me:Goroutine
def mb0 (P:Program) (main:Bool) (s:S6) (g:Goroutine):Prop :=
 g.status= .running/\g.frame=s.me.frame/\g.callers=s.me.callers/\g.dying=s.me.dying/\∀w,stepG P main g w= .comm s.me #[rcase s.ch s.z] true (.recv false) w #[]
abbrev ig0:=List (Addr×Value)
def Way (P:Program) (main:Bool) (l:ig0) (s:S6):Nat->Goroutine->Prop
 |0,g=>g=parked s.me #[rcase s.ch s.z] (.recv false)/\∃g₀,mb0 P main s g₀
 |n+1,g=>mb0 P main s g\/(0<n/\g.status= .running/\∃g' es,(∀e∈es,∃p∈l,e=⟨.cell p.1,false,false⟩)/\(∀w,(∀p∈l,w.cell? p.1=some p.2)->stepG P main g w= .go g' w es)/\Way P main l s n g')
theorem Way.status {P:Program} {main:Bool} {l:ig0} {s:S6}:∀{n:Nat} {g:Goroutine},Way P main l s n g->(g.status= .running/\0<n)\/(g.status= .blocked/\n=0)
 |0,_,h=>.inr ⟨by have:=h.1;subst this;rfl,rfl⟩
 |_+1,_,h=>.inl ⟨h.elim (fun x=>x.1) fun x=>x.2.1,by omega⟩
def Ek0 (e:Event):Bool:=match e.loc with
 | .mark (.read _)| .mark (.write _)| .mark (.release _)=>false
 | .mark _=>true
 |_=>false
def rdA (a:Addr):Event:=⟨.cell a,false,true⟩
def wrA (a:Addr):Event:=⟨.cell a,true,true⟩
def hp1 (P:Program) (G:K7) (g:Goroutine) (g':Goroutine) (es:Array Event):Prop :=
 g.status= .running/\(∀e∈es,Ek0 e=true)/\∀w st sm,GAt G st sm w->stepG P false g w= .go g' w es
def Lst (P:Program) (G:K7):Nat->Nat->Nat->Goroutine->Prop
 |0,_,_,_=>False
 |n+1,s,d,g=>0<d/\((∃g' es,hp1 P G g g' es/\(∀e∈es,e.loc≠.mark .disable/\e.loc≠.mark .enable)/\Lst P G n s d g')\/(g.status= .running/\match s with
  |2=>∃g',(∀w,GAt G 1 0 w->stepG P false g w= .go g' w #[rdA (stA G)])/\Lst P G n 1 d g'
  |1=>∃g',(∀w,GAt G 1 0 w->stepG P false g w= .go g' (w.setCell (stA G) (.int .u64 0)) #[wrA (stA G)])/\Lst P G n 0 d g'
  |_=>mayWake P g=true/\∃g',(∀w,GAt G 0 0 w->stepG P false g w= .go g' (w.setCell (smA G) (.int .u32 1)) (semEvents (smA G)))/\QuitsD P n d g'))
def Lt (P:Program) (G:K7):Nat->Nat->Goroutine->Prop
 |0,_,_=>False
 |n+1,d,g=>(∃g' es,hp1 P G g g' es/\Lt P G n (deafBehind d es) g')\/(g.status= .running/\0<d/\∀v wt:Nat,wt <=1->v<2147483647->∃g',
   (∀w,GAt G (((v+1)*KK+wt:Nat):Int) 0 w->stepG P false g w= .go g' (w.setCell (stA G) (.int .u64 ((v*KK+wt:Nat):Int))) #[rdA (stA G),wrA (stA G)])/\(¬(v=0/\wt=1)->QuitsD P n d g')/\(v=0/\wt=1->Lst P G n 2 d g'))
theorem Lt.running {P:Program} {G:K7}:∀{n d:Nat} {g:Goroutine},Lt P G n d g->g.status= .running:=by
 intro n d g h;cases n with
 |zero=>exact h.elim
 |succ n=>
  unfold Lt at h;rcases h with⟨_,_,x,_⟩|x
  ·exact x.1
  ·exact x.1
theorem Lst.running {P:Program} {G:K7}:∀{n s d:Nat} {g:Goroutine},Lst P G n s d g->g.status= .running:=by
 intro n s d g h;cases n with
 |zero=>exact h.elim
 |succ n=>
  unfold Lst at h;rcases h with⟨_,⟨_,_,x,_⟩|x⟩
  ·exact x.1
  ·exact x.1
end
section
attribute [local irreducible] KK
structure Gh where
 W1:Nat->Option S6
 stay:Nat->ig0
 J4:Option K7
 old:List K7
 y5:Nat->Option Obj
 chs:Nat->Prop
 low:Nat->Prop
 w7:Nat->C7
 cap:Nat
 pend:Nat
 dn:Nat
 n:Nat
def Gh.Sh (X:Gh) (l:Loc):Prop:=∃a G,(X.J4=some G\/G∈X.old)/\l= .cell a/\a.block=G.blk/\G.off <=a.off
def Us (live:Nat->Bool) (g:Nat):Prop:=g=0\/live g=true
def Gh.St (X:Gh) (i:Nat) (l:Loc):Prop:=∃p∈X.stay i,l= .cell p.1
def Gh.Mem (X:Gh) (h g:Nat):Prop:=(g=h/\X.dn=0)\/X.W1 g≠none
def Gh.Lo (X:Gh) (h g:Nat):Prop:=g≠h/\X.W1 g≠none
def count (live:Nat->Bool) (n:Nat):Nat:=sumTo n fun i=>if live i then 1 else 0
def Idle (P:Program) (X:Gh) (live:Nat->Bool) (T:Trace) (i n:Nat) (g:Goroutine):Prop:=match X.W1 i with
 |some s=>Way P (i==0) (X.stay i) s n g
 |none=>0<i/\if live i then ∃G,X.J4=some G/\Lt P G n (Deaf T i) g else QuitsD P n (Deaf T i) g
def Gh.Sep (X:Gh):Prop:=∀G,(X.J4=some G\/G∈X.old)->¬X.chs G.blk/\X.y5 G.blk=none
structure Ring (P:Program) (X:Gh) (h:Nat) (u:World) (live:Nat->Bool) (T:Trace) (gs:Array Goroutine) (w:World) (q:Nat->Nat):Prop where
 sim:∃ρ,X6 ρ (V2 u w.tape w.drawn) w/\∀b,¬X.low b->ρ b=X.w7 b
 idle:∀i g,i≠h->gs[i]? =some g->Idle P X live T i (q i) g
 free:X.W1 h=none
 size:h<gs.size
 num:gs.size=X.n
 stays:∀i p,p∈X.stay i->u.cell? p.1=some p.2/\u.frozen? p.1=true
 chans:∀c,X.chs c->ji0 u c/\X.y5 c=none/\∃k,w.heap[c]? =some (.chan 0 #[] false k k false)
 L4:∀i s,X.W1 i=some s->X.chs s.ch
 inj:∀i j s s',X.W1 i=some s->X.W1 j=some s'->s.ch=s'.ch->i=j
 y5:∀b o,X.y5 b=some o->ji0 u b/\Q4 o=false/\∃p y,w.heap[b]? =some y/\fr0 p o y
 eu0:∀G,X.J4=some G->X.low G.blk
 bd0:(∀c,X.chs c->X.low c)/\X.Sep
 J4:∀G,X.J4=some G->Cut u G/\GAt G (((count live gs.size+X.pend)*KK:Nat):Int) 0 w
 old:∀G∈X.old,Cut u G
 above:∀j,gs.size <=j->Deaf T j=0/\X.W1 j=none/\live j=false/\X.stay j=[]
 few:count live gs.size+X.pend <=X.cap/\X.cap <=65536
 ho0:∀i,live i=true->i≠0/\X.J4≠none
 ef0:∀i,i≠0->(X.W1 i≠none\/i=h)->live i=true
 dfn:Deaf T h=X.dn
 past:PastH X.Sh (Us live) X.St (X.Mem h) (X.Lo h) h T
theorem hq1 {X:Gh} {u:World} {h:Nat} (S2:∀i p,p∈X.stay i->u.cell? p.1=some p.2/\u.frozen? p.1=true) (hg:∀G,(X.J4=some G\/G∈X.old)->Cut u G) {e:Event} (he:kq0 u e) (fn:FuncId) (pos:String) :
  HOk X.Sh X.St h {g:=h,fn,pos,act:=.ofEvent e}/\e.loc≠.mark .disable/\e.loc≠.mark .enable:=by
 obtain⟨l,wr,sy⟩:=e;cases l with
 |cell a=>
  refine⟨fun b hb=>?_,by simp,by simp⟩;simp only[ofEvent_cell0,MemAct.touch?,Option.some.injEq]at hb;subst hb;refine⟨?_,fun hwr g _=>?_⟩
  ·rintro⟨a',G,hG,ha,hb,ho⟩;simp only[Loc.cell.injEq]at ha;subst ha;obtain⟨c,T,f,hc,hs⟩:=hg G hG;obtain⟨⟨v,hv⟩,_⟩:=he (by rw[hb];exact(Array.getElem?_eq_some_iff.1 hc).1);obtain⟨c',T',f',H8,_,hv'⟩:=X5 hv;rw[hb,hc]at H8;cases H8;have:=(Array.getElem?_eq_some_iff.1 hv').1;omega
  ·rintro⟨p,hp,ha⟩;simp only[Loc.cell.injEq]at ha;subst ha;obtain⟨h1,h2⟩:=S2 g p hp;obtain⟨c',T',f',H8,_,_⟩:=X5 h1;have:=(he (Array.getElem?_eq_some_iff.1 H8).1).2 hwr;rw[h2]at this;cases this
 |obj r=>
  refine⟨fun b hb=>?_,by simp,by simp⟩;have:b.loc= .obj r:=by
   cases wr <;> cases sy <;> simp[MemAct.ofEvent,MemAct.touch?]at hb <;> (try(subst hb;rfl))
  refine⟨?_,fun _ g _=>?_⟩
  ·rintro⟨a',G,_,ha,_⟩;rw[this]at ha;cases ha
  ·rintro⟨p,_,ha⟩;rw[this]at ha;cases ha
 |output=>exact he.elim
 |goroutines=>exact he.elim
 |mark m=>
  have hm:Eh0 m=true:=he;cases m <;> first|(cases hm;done)|exact⟨fun b hb=>by simp[MemAct.ofEvent,MemAct.touch?]at hb,by simp,by simp⟩
section
variable {P:Program}{X:Gh}{h:Nat}{u:World}{live:Nat->Bool}{T:Trace}{gs:Array Goroutine}{w:World}{q:Nat->Nat}
theorem Way.again {main:Bool} {l:ig0} {s:S6} {n:Nat} {g:Goroutine} (hw:Way P main l s n g) (hc:∃k,w.heap[s.ch]? =some (.chan 0 #[] false k k false)):g.again w=g:=by
 rcases hw.status with⟨h1,_⟩|⟨_,rfl⟩
 ·exact again_of_running (.inl h1) w
 ·obtain⟨rfl,_⟩:=hw;obtain⟨k,hk⟩:=hc;exact again_recv_open hk
theorem Idle.again {i n:Nat} {g:Goroutine} (hi:Idle P X live T i n g) (hc:∀s,X.W1 i=some s->∃k,w.heap[s.ch]? =some (.chan 0 #[] false k k false)):g.again w=g:=by
 unfold Idle at hi;cases e:X.W1 i with
 |some s=>rw[e]at hi;exact Way.again hi (hc s e)
 |none=>
  rw[e]at hi;obtain⟨_,hi⟩:=hi;split at hi
  ·obtain⟨G,_,hl⟩:=hi;exact again_of_running (.inl hl.running) w
  ·exact again_of_running hi.status w
theorem Idle.other {i n g':Nat} {g:Goroutine} (hi:Idle P X live T i n g) (N3:g'≠i) {ops:Trace} (jj0:∀op∈ops,op.g=g'):Idle P X live (T++ops) i n g:=by
 unfold Idle at hi⊢;rw[Deaf_other T N3 ops jj0];exact hi
theorem Idle.awake {i n:Nat} {g:Goroutine} (hi:Idle P X live T i n g):awake g:=by
 unfold Idle at hi;cases e:X.W1 i with
 |some s=>rw[e]at hi;exact awake_of (hi.status.elim (fun x=>.inl x.1) fun x=>.inr (.inl x.1))
 |none=>
  rw[e]at hi;obtain⟨_,hi⟩:=hi;split at hi
  ·obtain⟨G,_,hl⟩:=hi;exact awake_of (.inl hl.running)
  ·exact awake_of (hi.status.elim .inl fun x=>.inr (.inr x))
theorem Ring.awake (C:Ring P X h u live T gs w q) {a:Goroutine} (ha:gs[h]? =some a) (hs:a.status= .running\/a.status= .blocked):∀g∈gs,awake g:=by
 intro g hg;obtain⟨i,hi,rfl⟩:=Array.mem_iff_getElem.1 hg;by_cases e:i=h
 ·subst e;have:gs[i]=a:=by simpa [Array.getElem?_eq_getElem hi]using ha
  rw[this];exact awake_of (hs.elim .inl fun x=>.inr (.inl x))
 ·exact(C.idle i _ e (Array.getElem?_eq_getElem hi)).awake
theorem X6.at {ρ:Nat->C7} (hs:X6 ρ (V2 u w.tape w.drawn) w) (d:Nat):X6 ρ (V2 u (w.at d).tape (w.at d).drawn) (w.at d):=⟨hs.os,hs.output,rfl,rfl,hs.size,hs.obj,hs.new,hs.G8⟩
theorem Ring.at (C:Ring P X h u live T gs w q) (d:Nat):Ring P X h u live T gs (w.at d) q :=
 ⟨let⟨ρ,hs,hl⟩:=C.sim;⟨ρ,X6.at hs d,hl⟩,C.idle,C.free,C.size,C.num,C.stays,C.chans,C.L4,C.inj,C.y5,C.eu0,C.bd0,C.J4,C.old,C.above,C.few,C.ho0,C.ef0,C.dfn,C.past⟩
theorem Ring.own (C:Ring P X h u live T gs w q) {g g':Goroutine} {u':World} (ha:gs[h]? =some g) (hF:I6 P (h==0) g (V2 u w.tape w.drawn) g' u') :
  ∃w' es,stepG P (h==0) g w= .go g' w' es/\Ring P X h u' live (T++MemOp.ofEvents h g.frame.fn g.frame.place es) ((gs.map (woken P g g' w')).setIfInBounds h g') w' q/\((gs.map (woken P g g' w')).setIfInBounds h g')[h]? =some g':=by
 obtain⟨hr,hF⟩:=hF;obtain⟨ρ,hs,hlw⟩:=C.sim;obtain⟨hE,w',es,S2,hs',hev⟩:=hF ρ w hs;have hE:Evo u u':=⟨hE.size,hE.obj⟩
 have hs1:X6 ρ {u with tape:=w.tape,drawn:=w.drawn} w:=hs;have j3:∀G,(X.J4=some G\/G∈X.old)->Cut u G:=fun G hG=>hG.elim (fun e=>(C.J4 G e).1) (C.old G);have hr1:=fun e he=>hq1 (X:=X) (h:=h) C.stays j3 (hev e he);have jj0:∀op∈MemOp.ofEvents h g.frame.fn g.frame.place es,op.g=h:=fun op hop=>by obtain⟨e,_,rfl⟩:=Go.Conc.mem_ofEvents hop;rfl
 have hd:Deaf (T++MemOp.ofEvents h g.frame.fn g.frame.place es) h=Deaf T h:=by
  rw[Deaf_own];exact deafBehind_still (fun e he=>(hr1 e he g.frame.fn g.frame.place).2) _
 have hch:∀c,X.chs c->∃k,w'.heap[c]? =some (.chan 0 #[] false k k false):=fun c e=>by
  obtain⟨hg,_,k,hk⟩:=C.chans c e;exact⟨k,by rw[ji0.kept (u:=V2 u w.tape w.drawn) hg ⟨hE.size,hE.obj⟩ hs hs'];exact hk⟩
 refine⟨w',es,S2,⟨⟨ρ,?_,hlw⟩,fun i y hi hy=>?_,C.free,by simpa using C.size,by simpa using C.num,fun i p hp=>Ej0 (C.stays i p hp).1 (C.stays i p hp).2 hE,
  fun c e=>⟨(C.chans c e).1.evo hE,(C.chans c e).2.1,hch c e⟩,C.L4,C.inj,fun b o e=>?_,C.eu0,C.bd0,fun G e=>⟨(C.J4 G e).1.evo hE,?_⟩,fun G hG=>(C.old G hG).evo hE,fun j hj=>?_,by simpa using C.few,C.ho0,C.ef0,hd.trans C.dfn,?_⟩,Array.getElem?_setIfInBounds_self_of_lt (by simpa using C.size)⟩
 ·rw[hs'.tape,hs'.drawn];exact hs'
 ·rw[Array.getElem?_setIfInBounds_ne (fun e=>hi e.symm),Array.getElem?_map]at hy;obtain⟨y₀,hy₀,rfl⟩:=Option.map_eq_some_iff.1 hy;have y5:=C.idle i y₀ hi hy₀;rw[woken_of_again (y5.again fun s e=>hch _ (C.L4 i s e))];exact y5.other (fun z=>hi z.symm) jj0
 ·obtain⟨h1,h2,p,y,hy,hl⟩:=C.y5 b o e;exact⟨h1.evo hE,h2,p,y,by rw[ji0.kept (u:=V2 u w.tape w.drawn) h1 ⟨hE.size,hE.obj⟩ hs hs'];exact hy,hl⟩
 ·have:=Cut.kept (u:=V2 u w.tape w.drawn) (C.J4 G e).1 ⟨hE.size,hE.obj⟩ hs hs' (C.J4 G e).2;simpa using this
 ·simp only[Array.size_setIfInBounds,Array.size_map]at hj;rw[Deaf_other T (g':=h) (by have:=C.size;omega) _ jj0];exact C.above j hj
 ·exact PastH.appH C.past (fun z=>z.1 rfl) jj0 (fun op hop=>by obtain⟨e,he,rfl⟩:=Go.Conc.mem_ofEvents hop;exact(hr1 e he _ _).1) hd
end
end
section
attribute [local irreducible] KK
theorem X3 (w:World) {a:Addr} (v:Value) {b:Nat} (h:b≠a.block):(w.setCell a v).heap[b]? =w.heap[b]?:=by
 rw[heap_setCell];cases w.heap[b]? with
 |none=>rfl
 |some o=>simp[h]
theorem X6.J4 {ρ:Nat->C7} {u w:World} {G:K7} {st sm:Int} (hs:X6 ρ (V2 u w.tape w.drawn) w) (hc:Cut u G) (hg:GAt G st sm w) (st' sm':Int) {w':World} (hw:w'.heap[G.blk]? =some (.cells ((let c:=w.heap[G.blk]?;match c with|some (.cells c _ _)=>c.extract 0 G.off|_=>#[]) ++ #[.int .u64 st',.int .u32 sm']) (match w.heap[G.blk]? with|some (.cells _ T _)=>T|_=>0) (0,0)))
  (ho:∀b,b≠G.blk->w'.heap[b]? =w.heap[b]?) (hz:w'.heap.size=w.heap.size) (h1:w'.os=w.os) (h2:w'.output=w.output):∃ρ',X6 ρ' (V2 u w'.tape w'.drawn) w'/\∀b,b≠G.blk->ρ' b=ρ b:=by
 obtain⟨c,T,f,hb,hcs⟩:=hc;obtain⟨c0,T0,hg,hc0⟩:=hg;obtain⟨z,hz0,hl⟩:=hs.obj _ _ (show(V2 u w.tape w.drawn).heap[G.blk]? =some _ from hb);rw[hz0]at hg;obtain rfl:=Option.some.inj hg;rw[hz0]at hw;simp only at hw;have ht:(c0 ++ #[Value.int .u64 st,Value.int .u32 sm]).extract 0 G.off=c0:=by rw[<- hc0];simp[Array.extract_append]
 rw[ht]at hw;obtain⟨p',hp'⟩:∃p',fr0 p' (.cells c T f) (.cells (c0 ++ #[.int .u64 st',.int .u32 sm']) T0 (0,0)):=by
  generalize ρ G.blk=p at hl;generalize hq:(Obj.cells (c0 ++ #[.int .u64 st,.int .u32 sm]) T0 (0,0))=z1 at hl;cases hl with
  |same=>
   obtain⟨rfl,_,_⟩:=Obj.cells.inj hq;simp at hcs;omega
  |cut _ rest _ f1 _ hf=>
   obtain⟨h3,rfl,h4⟩:=Obj.cells.inj hq;have N2:c.size=c0.size:=by omega
   have:c=c0:=(Array.append_inj_left h3 N2.symm).symm;subst this;rw[<- h4]at hf;exact⟨_,.cut _ _ _ _ _ hf⟩
  |gone=>exact⟨_,.gone _ _ _⟩
 refine⟨fun b=>if b=G.blk then p' else ρ b,⟨h1.trans hs.os,h2.trans hs.output,rfl,rfl,hz.trans hs.size,fun b x hx=>?_,fun b p7=>?_,hs.G8⟩,fun b hb=>if_neg hb⟩
 ·by_cases e:b=G.blk
  ·subst e;have V5:u.heap[G.blk]? =some x:=hx;rw[hb]at V5;obtain rfl:=Option.some.inj V5;exact⟨_,hw,by rw[if_pos rfl];exact hp'⟩
  ·rw[ho b e,if_neg e];exact hs.obj b x hx
 ·have J1:G.blk<u.heap.size:=(Array.getElem?_eq_some_iff.1 hb).1;have hb2:u.heap.size <=b:=p7;rw[if_neg (by omega)];exact hs.new b p7
theorem GAt.setSt {G:K7} {st sm:Int} {w:World} (h:GAt G st sm w) (v:Int):GAt G v sm (w.setCell (stA G) (.int .u64 v)):=by
 obtain⟨c,T,hb,hc⟩:=h;refine⟨c,T,?_,hc⟩;rw[heap_setCell];simp only[stA,hb,Option.map_some,if_true,Option.isSome_none,Bool.false_eq_true,if_false];congr 2;apply Array.ext_getElem?;intro i;rw[Array.getElem?_setIfInBounds];by_cases hi:G.off=i
 ·subst hi;simp[<- hc]
 ·rw[if_neg hi];rcases Nat.lt_or_ge i c.size with h1|h1
  ·rw[Array.getElem?_append_left h1,Array.getElem?_append_left h1]
  ·rw[Array.getElem?_append_right h1,Array.getElem?_append_right h1];obtain⟨k,hk⟩:∃k,i-c.size=k+1:=⟨i-c.size-1,by omega⟩
   rw[hk];cases k <;> rfl
theorem GAt.setSm {G:K7} {st sm:Int} {w:World} (h:GAt G st sm w) (v:Int):GAt G st v (w.setCell (smA G) (.int .u32 v)):=by
 obtain⟨c,T,hb,hc⟩:=h;refine⟨c,T,?_,hc⟩;rw[heap_setCell];simp only[smA,hb,Option.map_some,if_true,Option.isSome_none,Bool.false_eq_true,if_false];congr 2;apply Array.ext_getElem?;intro i;rw[Array.getElem?_setIfInBounds];by_cases hi:G.off+1=i
 ·subst hi;rw[if_pos rfl,if_pos (by simp;omega),Array.getElem?_append_right (by omega)];simp[<- hc]
 ·rw[if_neg hi];rcases Nat.lt_or_ge i c.size with h1|h1
  ·rw[Array.getElem?_append_left h1,Array.getElem?_append_left h1]
  ·rw[Array.getElem?_append_right h1,Array.getElem?_append_right h1];rcases Nat.eq_zero_or_pos (i-c.size)with h2|h2
   ·rw[h2];rfl
   ·obtain⟨k,hk⟩:∃k,i-c.size=k+2:=⟨i-c.size-2,by omega⟩
    rw[hk];cases k <;> rfl
structure Hf0 (G:K7) (w w':World):Prop where
 other:∀b,b≠G.blk->w'.heap[b]? =w.heap[b]?
 size:w'.heap.size=w.heap.size
 os:w'.os=w.os
 output:w'.output=w.output
theorem Hf0.setCell {G:K7} {w:World} {a:Addr} (ha:a.block=G.blk) (v:Value):Hf0 G w (w.setCell a v) :=
 ⟨fun b hb=>X3 w v (by rw[ha];exact hb),by simp[World.setCell],rfl,rfl⟩
theorem GAt.extract {G:K7} {st sm:Int} {w:World} (h:GAt G st sm w):w.heap[G.blk]? =some (.cells ((let c:=w.heap[G.blk]?;match c with|some (.cells c _ _)=>c.extract 0 G.off|_=>#[]) ++ #[.int .u64 st,.int .u32 sm]) (match w.heap[G.blk]? with|some (.cells _ T _)=>T|_=>0) (0,0)):=by
 obtain⟨c,T,hb,hc⟩:=h;have ht:(c ++ #[Value.int .u64 st,Value.int .u32 sm]).extract 0 G.off=c:=by rw[<- hc];simp[Array.extract_append]
 rw[hb];simp only[ht]
theorem nj0 {G:K7} {st sm:Int} {w:World} (h:GAt G st sm w) {a:Addr} (ha:a.block=G.blk) (hs:a.spot=none) (ho:G.off <=a.off) (v:Value) :
  (let c:=(w.setCell a v).heap[G.blk]?;match c with|some (.cells c _ _)=>c.extract 0 G.off|_=>#[])=(let c:=w.heap[G.blk]?;match c with|some (.cells c _ _)=>c.extract 0 G.off|_=>#[]) /\
  (match(w.setCell a v).heap[G.blk]? with|some (.cells _ T _)=>T|_=>0)=(match w.heap[G.blk]? with|some (.cells _ T _)=>T|_=>0):=by
 obtain⟨c,T,hb,hc⟩:=h;rw[heap_setCell,hb];simp only[Option.map_some,ha,if_true,hs,Option.isSome_none,Bool.false_eq_true,if_false,and_true];apply Array.ext_getElem?;intro i;simp only[Array.getElem?_extract,Array.getElem?_setIfInBounds,Nat.zero_add,Array.size_setIfInBounds];by_cases hi:i<G.off
 ·have:a.off≠i:=by omega
  simp[this]
 ·have:¬i<min G.off (c ++ #[Value.int .u64 st,Value.int .u32 sm]).size-0:=by omega
  rw[if_neg this,if_neg this]
theorem X6.setSt {ρ:Nat->C7} {u w:World} {G:K7} {st sm:Int} (hs:X6 ρ (V2 u w.tape w.drawn) w) (hc:Cut u G) (hg:GAt G st sm w) (v:Int):∃ρ',X6 ρ' (V2 u (w.setCell (stA G) (.int .u64 v)).tape (w.setCell (stA G) (.int .u64 v)).drawn) (w.setCell (stA G) (.int .u64 v))/\∀b,b≠G.blk->ρ' b=ρ b:=by
 have h1:=(hg.setSt v).extract;have h2:=nj0 hg (a:=stA G) rfl rfl (Nat.le_refl _) (.int .u64 v);rw[h2.1,h2.2]at h1;have t:=Hf0.setCell (G:=G) (w:=w) (a:=stA G) rfl (.int .u64 v);exact X6.J4 hs hc hg v sm h1 t.other t.size rfl rfl
theorem X6.setSm {ρ:Nat->C7} {u w:World} {G:K7} {st sm:Int} (hs:X6 ρ (V2 u w.tape w.drawn) w) (hc:Cut u G) (hg:GAt G st sm w) (v:Int):∃ρ',X6 ρ' (V2 u (w.setCell (smA G) (.int .u32 v)).tape (w.setCell (smA G) (.int .u32 v)).drawn) (w.setCell (smA G) (.int .u32 v))/\∀b,b≠G.blk->ρ' b=ρ b:=by
 have h1:=(hg.setSm v).extract;have h2:=nj0 hg (a:=smA G) rfl rfl (Nat.le_succ _) (.int .u32 v);rw[h2.1,h2.2]at h1;have t:=Hf0.setCell (G:=G) (w:=w) (a:=smA G) rfl (.int .u32 v);exact X6.J4 hs hc hg st v h1 t.other t.size rfl rfl
section
variable {P:Program}{X:Gh}{h:Nat}{u:World}{live:Nat->Bool}{T:Trace}{gs:Array Goroutine}{w:World}{q:Nat->Nat}
def eg0 (X:Gh) (w w':World):Prop:=w'.tape=w.tape/\w'.drawn=w.drawn/\(∀c,X.chs c->w'.heap[c]? =w.heap[c]?)
theorem eg0.refl (w:World):eg0 X w w:=⟨rfl,rfl,fun _ _=>rfl⟩
theorem Ring.put (C:Ring P X h u live T gs w q) {i n':Nat} {g':Goroutine} {ops:Array MemOp} {L8:Array Goroutine} {dj0:Nat->Bool} {w':World} (J1:i<gs.size) (hih:i≠h) (N2:L8.size=gs.size) (bg1:∀x,x≠i->L8[x]? =gs[x]?) (B5:L8[i]? =some g')
  (jj0:∀op∈ops,op.g=i) (Ma0:Idle P X dj0 (T++ops) i n' g') (hl:∀x,x≠i->dj0 x=live x) (hli:dj0 i=true->live i=true) (hls:X.W1 i≠none->dj0 i=live i) (Hg0:PastH X.Sh (Us dj0) X.St (X.Mem h) (X.Lo h) h (T++ops))
  (mc0:∃ρ,X6 ρ (V2 u w'.tape w'.drawn) w'/\∀b,¬X.low b->ρ b=X.w7 b) (be0:∀b,(X.chs b\/X.y5 b≠none)->w'.heap[b]? =w.heap[b]?) (Uh0:∀G,X.J4=some G->GAt G (((count dj0 L8.size+X.pend)*KK:Nat):Int) 0 w') (ry0:count dj0 gs.size <=count live gs.size):Ring P X h u dj0 (T++ops) L8 w' (upd q i n'):=by
 refine⟨mc0,fun x y hx hy=>?_,C.free,by rw[N2];exact C.size,by rw[N2];exact C.num,C.stays,fun c e=>⟨(C.chans c e).1,(C.chans c e).2.1,?_⟩,C.L4,C.inj,fun b o e=>?_,C.eu0,C.bd0,fun G e=>⟨(C.J4 G e).1,Uh0 G e⟩,C.old,fun j hj=>?_,⟨by rw[N2];exact Nat.le_trans (Nat.add_le_add_right ry0 _) C.few.1,C.few.2⟩,fun j hj=>?_,fun j hj hs=>?_,(Deaf_other T hih ops jj0).trans C.dfn,Hg0⟩
 ·by_cases e:x=i
  ·subst e;rw[B5]at hy;obtain rfl:=Option.some.inj hy;rw[upd_same];exact Ma0
  ·rw[bg1 x e]at hy;rw[upd_ne q n' e];have:=(C.idle x y hx hy).other (fun z=>e z.symm) jj0;unfold Idle at this⊢;rw[hl x e];exact this
 ·obtain⟨k,hk⟩:=(C.chans c e).2.2;exact⟨k,by rw[be0 _ (.inl e)];exact hk⟩
 ·obtain⟨h1,h2,p,y,hy,hk⟩:=C.y5 b o e;exact⟨h1,h2,p,y,by rw[be0 b (.inr (by have e':X.y5 b=some o:=e;rw[e'];simp))];exact hy,hk⟩
 ·rw[N2]at hj;rw[Deaf_other T (g':=i) (by omega) ops jj0,hl j (by omega)];exact C.above j hj
 ·by_cases e:j=i
  ·subst e;exact C.ho0 j (hli hj)
  ·rw[hl j e]at hj;exact C.ho0 j hj
 ·by_cases e:j=i
  ·subst e;rcases hs with hs|hs
   ·rw[hls hs];exact C.ef0 j hj (.inl hs)
   ·exact absurd hs hih
  ·rw[hl j e];exact C.ef0 j hj hs
end
end
section
attribute [local irreducible] KK
theorem vl0 {live:Nat->Bool} {i n:Nat} (hi:live i=true) (hn:i<n):count live n=count (upd live i false) n+1:=by
 have:=sumTo_upd live false (fun b=>if b then 1 else 0) hn;simp only[hi,if_true,Bool.false_eq_true,if_false]at this;unfold count;omega
theorem Jh0 {live:Nat->Bool} {i n:Nat} (x:Bool) (hn:n <=i):count (upd live i x) n=count live n:=by
 unfold count;exact sumTo_congr fun j hj=>by rw[upd_ne live x (by omega)]
theorem Q3 {g:Nat} {fn:FuncId} {pos:String} {es:Array Event}:∀op∈MemOp.ofEvents g fn pos es,op.g=g:=fun op hop=>by obtain⟨e,_,rfl⟩:=Go.Conc.mem_ofEvents hop;rfl
theorem fs0 {e:Event} (h:Ek0 e=true):(MemAct.ofEvent e).touch? =none:=by
 obtain⟨l,wr,sy⟩:=e;cases l with
 |mark m=>cases m <;> first|(cases h;done)|rfl
 |_=>cases h
section
variable {P:Program}{X:Gh}{h:Nat}{u:World}{live:Nat->Bool}{T:Trace}{gs:Array Goroutine}{w:World}{q:Nat->Nat}
theorem Idle.noSend {i n:Nat} {y:Goroutine} (hi:Idle P X live T i n y) (c:Nat):offersAt y c true=[]:=by
 unfold Idle at hi;cases e:X.W1 i with
 |some s=>
  rw[e]at hi;rcases hi.status with⟨h1,_⟩|⟨_,rfl⟩
  ·exact offersAt_of_not_blocked (by rw[h1];simp) _ _
  ·obtain⟨rfl,_⟩:=hi;exact offersAt_parked_recv' _ _ _ _ _
 |none=>
  rw[e]at hi;obtain⟨_,hi⟩:=hi;split at hi
  ·obtain⟨G,_,hl⟩:=hi;exact offersAt_of_not_blocked (by rw[hl.running];simp) _ _
  ·exact offersAt_of_not_blocked (fun hb=>by rcases hi.status with z|z <;> rw[z]at hb <;> cases hb) _ _
theorem Idle.bh1 {i n:Nat} {y:Goroutine} (hi:Idle P X live T i n y) {c:Nat} (hc:∀s,X.W1 i=some s->s.ch≠c):offersAt y c false=[]:=by
 unfold Idle at hi;cases e:X.W1 i with
 |some s=>
  rw[e]at hi;rcases hi.status with⟨h1,_⟩|⟨_,rfl⟩
  ·exact offersAt_of_not_blocked (by rw[h1];simp) _ _
  ·obtain⟨rfl,_⟩:=hi;rw[offersAt_parked_recv,if_neg (hc s e)]
 |none=>
  rw[e]at hi;obtain⟨_,hi⟩:=hi;split at hi
  ·obtain⟨G,_,hl⟩:=hi;exact offersAt_of_not_blocked (by rw[hl.running];simp) _ _
  ·exact offersAt_of_not_blocked (fun hb=>by rcases hi.status with z|z <;> rw[z]at hb <;> cases hb) _ _
theorem Ring.by_step (C:Ring P X h u live T gs w q) {i:Nat} {g gh:Goroutine} {sl:Option (Nat×Nat)} (hi:gs[i]? =some g) (N3:i≠h) (K3:g.status= .running) (hh:gs[h]? =some gh)
  (hA:∀w',eg0 X w w'->gh.again w'=gh) (hO:∀s,X.W1 i=some s->mb0 P (i==0) s g->offersAt gh s.ch true=[]) :
  ∃(L8:Array Goroutine) (ops:Array MemOp) (q':Nat->Nat) (w':World) (dj0:Nat->Bool),runT P (crowd gs w sl) i=(.next (crowd L8 w' sl),ops)/\L8.size=gs.size/\L8[h]? =some gh/\(∀x,x≠i->q' x=q x) /\
   (∀s,X.W1 i=some s->q' i=0->mb0 P (i==0) s g)/\Ring P X h u dj0 (T++ops) L8 w' q'/\sumTo gs.size q'<sumTo gs.size q/\eg0 X w w':=by
 have J1:i<gs.size:=(Array.getElem?_eq_some_iff.1 hi).1;have oh0:∀(w':World),eg0 X w w'->∀(a a':Goroutine) (x:Nat) (y:Goroutine),gs[x]? =some y->woken P a a' w' y=y:=fun w' hS a a' x y hy=>woken_of_again (by
  by_cases hx:x=h
  ·subst hx;rw[hh]at hy;obtain rfl:=Option.some.inj hy;exact hA w' hS
  ·exact(C.idle x y hx hy).again fun s e=>by obtain⟨k,hk⟩:=(C.chans _ (C.L4 x s e)).2.2;exact⟨k,by rw[hS.2.2 _ (C.L4 x s e)];exact hk⟩)
 have Aw0:∀(w':World),eg0 X w w'->∀(a' g':Goroutine) (x:Nat),x≠i->((gs.map (woken P g a' w')).setIfInBounds i g')[x]? =gs[x]?:=by
  intro w' hS a' g' x hx;rw[Array.getElem?_setIfInBounds_ne (fun e=>hx e.symm),Array.getElem?_map];cases e:gs[x]? with
  |none=>rfl
  |some y=>simp[oh0 w' hS g a' x y e]
 have B5:∀(w':World) (a' g':Goroutine),((gs.map (woken P g a' w')).setIfInBounds i g')[i]? =some g':=fun w' a' g'=>Array.getElem?_setIfInBounds_self_of_lt (by simpa using J1);have Ji0:∀k,q i=k+1->sumTo gs.size (upd q i k)<sumTo gs.size q:=by
  intro k hqi;have h2:sumTo gs.size (upd q i k)+(k+1)=sumTo gs.size q+k:=by
   have:=sumTo_upd q k id J1;simpa [hqi]using this
  omega
 have y5:=C.idle i g N3 hi;unfold Idle at y5;cases e:X.W1 i with
 |none=>
  rw[e]at y5;obtain⟨jt0,hq⟩:=y5;have hi0:(i==0)=false:=by simp;omega
  have hMi:¬X.Mem h i:=fun z=>z.elim (fun z=>N3 z.1) fun z=>z e;cases hl:live i with
  |false=>
   rw[hl]at hq;simp only[Bool.false_eq_true,if_false]at hq;cases hqi:q i with
   |zero=>rw[hqi]at hq;rw[hq.1]at K3;cases K3
   |succ k=>
    rw[hqi]at hq;rcases hq with⟨hf,_⟩|⟨_,g',es,hm,y7,hq'⟩
    ·rw[hf]at K3;cases K3
    have hS:=eg0.refl (X:=X) w;refine⟨_,_,upd q i k,w,live,runT_crowd_go (sl:=sl) hi (by rw[hi0];exact y7 w),by simp,(Aw0 w hS _ _ h (Ne.symm N3)).trans hh,fun x hx=>upd_ne q k hx,fun s hs=>(by cases hs),?_,Ji0 k hqi,hS⟩;refine C.put J1 N3 (by simp) (Aw0 w hS _ _) (B5 w _ _) Q3 (by unfold Idle;rw[e];simp only[hl,Bool.false_eq_true,if_false];exact⟨jt0,by rw[Deaf_own];exact hq'⟩) (fun _ _=>rfl) id (fun _=>rfl) ?_ C.sim (fun _ _=>rfl) (fun G hG=>by simpa using(C.J4 G hG).2) (Nat.le_refl _);exact C.past.appMute (g:=i) (fun x=>Knows.app _) (fun op hop=>by obtain⟨e',he,rfl⟩:=Go.Conc.mem_ofEvents hop;exact touch_mute (hm e' he)) (C.past.old_hears Q3 (fun z=>absurd z hMi))
  |true=>
   rw[hl]at hq;simp only[if_true]at hq;obtain⟨G,hG,hq⟩:=hq;obtain⟨Jj0,Ax0⟩:=C.J4 G hG;cases hqi:q i with
   |zero=>rw[hqi]at hq;exact hq.elim
   |succ k=>
    rw[hqi]at hq;unfold Lt at hq;rcases hq with⟨g',es,⟨_,hsy,y7⟩,hq'⟩|⟨_,hd0,Ay0⟩
    ·have hS:=eg0.refl (X:=X) w;refine⟨_,_,upd q i k,w,live,runT_crowd_go (sl:=sl) hi (by rw[hi0];exact y7 w _ _ Ax0),by simp,(Aw0 w hS _ _ h (Ne.symm N3)).trans hh,fun x hx=>upd_ne q k hx,fun s hs=>(by cases hs),?_,Ji0 k hqi,hS⟩;refine C.put J1 N3 (by simp) (Aw0 w hS _ _) (B5 w _ _) Q3 (by unfold Idle;rw[e];simp only[hl,if_true];exact⟨jt0,G,hG,by rw[Deaf_own];exact hq'⟩) (fun _ _=>rfl) id (fun _=>rfl) ?_ C.sim (fun _ _=>rfl) (fun G hG=>by simpa using(C.J4 G hG).2) (Nat.le_refl _);exact C.past.appMute (g:=i) (fun x=>Knows.app _) (fun op hop=>by obtain⟨e',he,rfl⟩:=Go.Conc.mem_ofEvents hop;exact fs0 (hsy e' he)) (C.past.old_hears Q3 (fun z=>absurd z hMi))
    ·have kp0:=vl0 hl J1;generalize hv0:count (upd live i false) gs.size=v0 at kp0;obtain⟨v,hv⟩:∃v,v=v0+X.pend:=⟨_,rfl⟩
     have kp0:count live gs.size+X.pend=v+1:=by omega
     have hvb:v<2147483647:=by have:=C.few;omega
     obtain⟨g',y7,Az0,_⟩:=Ay0 v 0 (by omega) hvb;have ht1:GAt G (((v+1)*KK+0:Nat):Int) 0 w:=by rw[Nat.add_zero,<- kp0];exact Ax0
     have S2:=y7 w ht1;rw[Nat.add_zero]at S2;have hgv:=Ax0.setSt ((v*KK:Nat):Int);have pc0:stepG P (i==0) g w= .go g' (w.setCell (stA G) (.int .u64 ((v*KK:Nat):Int))) #[rdA (stA G),wrA (stA G)]:=by rw[hi0];exact S2
     have hgn:∀b,(X.chs b\/X.y5 b≠none)->(w.setCell (stA G) (.int .u64 ((v*KK:Nat):Int))).heap[b]? =w.heap[b]?:=fun b hb=>X3 w _ (fun e=>by
      have e:b=G.blk:=e;subst e;have:=C.bd0.2 G (.inl hG);exact hb.elim this.1 fun z=>z this.2)
     have hS:eg0 X w (w.setCell (stA G) (.int .u64 ((v*KK:Nat):Int))):=⟨rfl,rfl,fun c hc=>hgn _ (.inl hc)⟩
     have hdq:∀t:Trace,∀j,j <=(MemOp.ofEvents i g.frame.fn g.frame.place #[rdA (stA G),wrA (stA G)]).size->(t++MemOp.ofEvents i g.frame.fn g.frame.place #[rdA (stA G),wrA (stA G)]).deaf i (t.size+j)=Deaf t i:=fun t=>deaf_quiet (fun op hop d=>by
      obtain⟨e',he,rfl⟩:=Go.Conc.mem_ofEvents hop;simp only[List.mem_toArray,List.mem_cons,List.not_mem_nil,or_false]at he;rcases he with rfl|rfl <;> rfl)
     have hdd:Deaf (T++MemOp.ofEvents i g.frame.fn g.frame.place #[rdA (stA G),wrA (stA G)]) i=Deaf T i:=by
      rw[Deaf_own];exact deafBehind_still (fun e' he=>by
       simp only[List.mem_toArray,List.mem_cons,List.not_mem_nil,or_false]at he;rcases he with rfl|rfl <;> exact⟨by simp[rdA,wrA],by simp[rdA,wrA]⟩) _
     refine⟨_,_,upd q i k,_,upd live i false,runT_crowd_go (sl:=sl) hi pc0,by simp,(Aw0 _ hS _ _ h (Ne.symm N3)).trans hh,fun x hx=>upd_ne q k hx,fun s hs=>(by cases hs),?_,Ji0 k hqi,hS⟩;refine C.put J1 N3 (by simp) (Aw0 _ hS _ _) (B5 _ _ _) Q3 (by unfold Idle;rw[e];simp only[upd_same,Bool.false_eq_true,if_false];exact⟨jt0,by rw[hdd];exact Az0 (by omega)⟩) (fun x hx=>upd_ne live false hx) (fun z=>by rw[upd_same]at z;cases z) (fun z=>absurd e z) ?_ ?_ hgn (fun G' hG'=>?_) (by omega)
     ·refine Past.leave (Us:=Us live) ?_ (fun x hx=>?_)
      ·refine Past.Yu0 (g:=i) C.past (.inr hl) (fun g' l J7 hsh=>?_) (fun x=>Knows.app _) Q3 (fun op hop=>?_) (fun _ j hj1 hj2=>?_) (C.past.old_hears Q3 (fun z=>absurd z hMi))
       ·obtain⟨p,hp,rfl⟩:=J7;obtain⟨a',G',hG',ha,hb,ho⟩:=hsh;simp only[Loc.cell.injEq]at ha;subst ha;have hc:Cut u G':=hG'.elim (fun z=>(C.J4 G' z).1) (C.old G');obtain⟨c,T1,f,hc,hs⟩:=hc;obtain⟨c',T',f',H8,_,hv'⟩:=X5 (C.stays g' p hp).1;rw[hb,hc]at H8;cases H8;have:=(Array.getElem?_eq_some_iff.1 hv').1;omega
       ·obtain⟨e',he,rfl⟩:=Go.Conc.mem_ofEvents hop;intro b hb;simp only[List.mem_toArray,List.mem_cons,List.not_mem_nil,or_false]at he;rcases he with rfl|rfl <;> simp[rdA,wrA,MemAct.ofEvent,MemAct.touch?]at hb <;> subst hb <;> exact⟨⟨stA G,G,.inl hG,rfl,rfl,Nat.le_refl _⟩,by simp,fun _=>rfl⟩
       ·obtain⟨m,rfl⟩:∃m,j=T.size+m:=⟨j-T.size,by omega⟩
        rw[hdq T m (by omega)];omega
      ·rcases hx with hx|hx
       ·exact .inl hx
       ·by_cases ex:x=i
        ·subst ex;rw[upd_same]at hx;cases hx
        ·rw[upd_ne live false ex]at hx;exact .inr hx
     ·obtain⟨ρ,hs,hlw⟩:=C.sim;obtain⟨ρ',h1,h2⟩:=X6.setSt hs Jj0 Ax0 ((v*KK:Nat):Int);exact⟨ρ',h1,fun b hb=>(h2 b fun e=>hb (e▸C.eu0 G hG)).trans (hlw b hb)⟩
     ·rw[hG]at hG';obtain rfl:=Option.some.inj hG';simp only[Array.size_setIfInBounds,Array.size_map,hv0,<- hv];exact hgv
 |some s=>
  rw[e]at y5;have hM:X.Mem h i:=.inr (by rw[e];simp);have hLo:X.Lo h i:=⟨N3,by rw[e];simp⟩
  have hS:=eg0.refl (X:=X) w;obtain⟨n,hqi⟩:∃n,q i=n+1:=by
   rcases y5.status with⟨_,h2⟩|⟨h1,_⟩
   ·exact⟨q i-1,by omega⟩
   ·rw[K3]at h1;cases h1
  rw[hqi]at y5;have hu1:mb0 P (i==0) s g\/(0<n/\∃g' es,(∀e'∈es,∃p∈X.stay i,e'=⟨.cell p.1,false,false⟩)/\(∀w,(∀p∈X.stay i,w.cell? p.1=some p.2)->stepG P (i==0) g w= .go g' w es)/\Way P (i==0) (X.stay i) s n g') :=
   y5.elim .inl fun z=>.inr ⟨z.1,z.2.2⟩
  rcases hu1 with X7|⟨hn0,g',es,hes,y7,yt0⟩
  ·obtain⟨k,hk⟩:=(C.chans _ (C.L4 i s e)).2.2;have hw:∀cc∈#[rcase s.ch s.z],NoWays w (gs.setIfInBounds i ph) cc:=by
    intro cc hcc;simp only[List.mem_toArray,List.mem_cons,List.not_mem_nil,or_false]at hcc;subst hcc;refine ways_recv_none hk (partners_nil fun x y hy=>?_);rcases getElem?_stand gs i x y hy with⟨_,rfl⟩|⟨hx,hy'⟩
    ·exact offersAt_ph _ _
    ·by_cases hxh:x=h
     ·subst hxh;rw[hh]at hy';obtain rfl:=Option.some.inj hy';exact hO s e X7
     ·exact(C.idle x y hxh hy').noSend _
   refine⟨_,_,upd q i 0,w,live,crowd_waits (sl:=sl) hi (X7.2.2.2.2 w) hw,by simp,(Array.getElem?_setIfInBounds_ne N3).trans hh,fun x hx=>upd_ne q 0 hx,fun s' hs' _=>by rw[<- Option.some.inj hs'];exact X7,?_,?_,hS⟩
   ·refine C.put J1 N3 (by simp) (fun x hx=>Array.getElem?_setIfInBounds_ne (fun z=>hx z.symm)) (Array.getElem?_setIfInBounds_self_of_lt J1) Q3 (by unfold Idle;rw[e];exact⟨rfl,g,X7⟩) (fun _ _=>rfl) id (fun _=>rfl) ?_ C.sim (fun _ _=>rfl) (fun G hG=>by simpa using(C.J4 G hG).2) (Nat.le_refl _);exact C.past.appMute (g:=i) (fun x=>Knows.app _) (fun op hop=>by obtain⟨e',he,rfl⟩:=Go.Conc.mem_ofEvents hop;simp at he) (C.past.old_hears Q3 (fun _=>by rw[Deaf_own];rfl))
   ·have h2:sumTo gs.size (upd q i 0)+(n+1)=sumTo gs.size q+0:=by
     have:=sumTo_upd q 0 id J1;simpa [hqi]using this
    omega
  ·obtain⟨ρ,hs,_⟩:=C.sim;have S2:=y7 w fun p hp=>hs.cell (u:=V2 u w.tape w.drawn) (C.stays i p hp).1;refine⟨_,_,upd q i n,w,live,runT_crowd_go (sl:=sl) hi S2,by simp,(Aw0 w hS _ _ h (Ne.symm N3)).trans hh,fun x hx=>upd_ne q n hx,fun s' _ hz=>by rw[upd_same]at hz;omega,?_,Ji0 n hqi,hS⟩;refine C.put J1 N3 (by simp) (Aw0 w hS _ _) (B5 w _ _) Q3 (by unfold Idle;rw[e];exact yt0) (fun _ _=>rfl) id (fun _=>rfl) ?_ C.sim (fun _ _=>rfl) (fun G hG=>by simpa using(C.J4 G hG).2) (Nat.le_refl _);refine C.past.appRead (g:=i) (fun x=>Knows.app _) hM hLo Q3 (fun op hop b hb=>?_) ?_
   ·obtain⟨e',he,rfl⟩:=Go.Conc.mem_ofEvents hop;obtain⟨p,hp,rfl⟩:=hes e' he;simp only[ofEvent_cell0,MemAct.touch?,Option.some.injEq]at hb;subst hb;refine⟨rfl,⟨p,hp,rfl⟩,?_⟩;rintro⟨a',G',hG',ha,hb,ho⟩;simp only[Loc.cell.injEq]at ha;subst ha;have hc:Cut u G':=hG'.elim (fun z=>(C.J4 G' z).1) (C.old G');obtain⟨c,T1,f,hc,hs⟩:=hc;obtain⟨c',T',f',H8,_,hv'⟩:=X5 (C.stays i p hp).1;rw[hb,hc]at H8;cases H8;have:=(Array.getElem?_eq_some_iff.1 hv').1;omega
   ·rw[Deaf_own];exact deafBehind_still (fun e' he=>by obtain⟨p,_,rfl⟩:=hes e' he;exact⟨by simp,by simp⟩) _
end
end
section
attribute [local irreducible] KK
def Ends (P:Program) (Post:Value->World->Prop) (m:Machine) (t:Trace):Prop :=
 ∃N last o w' t',runNT P (N+1) m t=(.ended o w',t')/\runN P N m= .next last/\step P last= .ended o w'/\Conc.Good P Post last o w' t'
theorem jo0 {P:Program}:∀{N:Nat} {m m':Machine} {t t':Trace},runNT P N m t=(.next m',t')->runN P N m= .next m'
 |0,m,m',t,t',h=>by simp only[runNT,Prod.mk.injEq]at h;simp only[runN];exact h.1
 |N+1,m,m',t,t',h=>by
  simp only[runNT]at h;unfold runN step;cases e:stepT P m with
  |mk s ops=>
   rw[e]at h;cases s with
   |next m1=>exact jo0 h
   |ended o w=>simp at h
theorem vn0 {P:Program}:∀(a b:Nat) (m m':Machine),runN P a m= .next m'->runN P (a+b) m=runN P b m'
 |0,b,m,m',h=>by simp only[runN,Stepped.next.injEq]at h;rw[Nat.zero_add,h]
 |a+1,b,m,m',h=>by
  rw[show a+1+b=(a+b)+1 by omega];have h':(match step P m with| .next m=>runN P a m|e=>e)= .next m':=h;show(match step P m with| .next m=>runN P (a+b) m|e=>e)=_;cases e:step P m with
  |next m1=>rw[e]at h';exact vn0 a b m1 m' h'
  |ended o w=>rw[e]at h';cases h'
section
variable {P:Program}{Post:Value->World->Prop}
theorem Ends.steps {N:Nat} {m m':Machine} {t t':Trace} (h:runNT P N m t=(.next m',t')) (hE:Ends P Post m' t'):Ends P Post m t:=by
 obtain⟨M,last,o,w',t2,h1,h2,h3,h4⟩:=hE;exact⟨N+M,last,o,w',t2,by rw[Nat.add_assoc,runNT_add,h];exact h1,by rw[vn0 N M m m' (jo0 h)];exact h2,h3,h4⟩
theorem Ends.step {m m':Machine} {t:Trace} {ops:Array MemOp} (h:stepT P m=(.next m',ops)) (hE:Ends P Post m' (t++ops)):Ends P Post m t :=
 Ends.steps (N:=1) (by simp only[runNT,h]) hE
end
def Fin (P:Program) (Post:Value->World->Prop) (X:Gh) (h:Nat) (g:Goroutine) (u:World):Prop :=
 ∀live T gs w sl q,gs[h]? =some g->Ring P X h u live T gs w q->Ends P Post (crowd gs w sl) T
section
variable {P:Program}{Post:Value->World->Prop}{X:Gh}{h:Nat}{u:World}
theorem Ring.hv1 {g:Goroutine} (K3:g.status= .running) (K:Machine->Trace->Prop) (hK:∀m m' t ops,stepT P m=(.next m',ops)->K m' (t++ops)->K m t)
  (pd0:∀live T gs w sl d sl' q,gs[h]? =some g->stepT P (crowd gs w sl)=runT P (crowd gs (w.at d) sl') h->Ring P X h u live T gs (w.at d) q->K (crowd gs w sl) T) :
  ∀(μ:Nat) live T gs w sl q,sumTo gs.size q=μ->gs[h]? =some g->Ring P X h u live T gs w q->K (crowd gs w sl) T:=by
 intro μ
 induction μ using Nat.strongRecOn with
 |_ μ ih=>
  intro live T gs w sl q hμ hg C;obtain⟨i,gi,d,sl',hi,hgi,S2⟩:=crowd_pick (P:=P) (w:=w) (sl:=sl) (C.awake hg (.inl K3)) ⟨h,g,hg,K3⟩;have Cd:=C.at d;by_cases e:i=h
  ·subst e;exact pd0 live T gs w sl d sl' q hg S2 Cd
  ·obtain⟨L8,ops,q',w',dj0,hrt,N2,hgh,_,_,C',J1,_⟩:=Cd.by_step (sl:=sl') hi e hgi hg (fun w' _=>again_of_running (.inl K3) w') (fun s _ _=>offersAt_of_not_blocked (by rw[K3];simp) _ _);exact hK _ _ _ _ (S2.trans hrt) (ih _ (by rw[N2,<- hμ];exact J1) dj0 (T++ops) L8 w' sl' q' rfl hgh C')
theorem Fin.dk0 {g:Goroutine} (K3:g.status= .running) (pd0:∀live T gs w sl d sl' q,gs[h]? =some g->stepT P (crowd gs w sl)=runT P (crowd gs (w.at d) sl') h->Ring P X h u live T gs (w.at d) q->Ends P Post (crowd gs w sl) T):Fin P Post X h g u :=
 fun live T gs w sl q hg C=>Ring.hv1 K3 (Ends P Post) (fun _ _ _ _ h=>Ends.step h) pd0 _ live T gs w sl q rfl hg C
theorem Fin.own {g:Goroutine} (K3:g.status= .running) (hs:∀τ d,∃g' u',I6 P (h==0) g (V2 u τ d) g' u'/\Fin P Post X h g' u'):Fin P Post X h g u:=by
 refine Fin.dk0 K3 fun live T gs w sl d sl' q hg S2 C=>?_;obtain⟨g',u',hF,hK⟩:=hs (w.at d).tape (w.at d).drawn;obtain⟨w',es,hgo,C',B5⟩:=C.own hg hF;exact Ends.step (S2.trans (runT_crowd_go (sl:=sl') hg hgo)) (hK _ _ _ _ _ _ B5 C')
theorem Fin.Ui0 {g:Goroutine} {X':Gh} {u':World} (hw:∀live T gs w q,Ring P X h u live T gs w q->Ring P X' h u' live T gs w q) (hF:Fin P Post X' h g u'):Fin P Post X h g u :=
 fun live T gs w sl q hg C=>hF live T gs w sl q hg (hw live T gs w q C)
end
def X2 (u:World) (b:Nat) (o:Obj):World:={u with heap:=u.heap.setIfInBounds b o}
theorem nk0 (u:World) (b:Nat) (o:Obj) (k:Nat):(X2 u b o).heap[k]? =if b=k then(if b<u.heap.size then some o else none) else u.heap[k]?:=by
 simp only[X2,Array.getElem?_setIfInBounds]
theorem z7 (u:World) {b k:Nat} (o:Obj) (h:b≠k):(X2 u b o).heap[k]? =u.heap[k]?:=by rw[nk0,if_neg h]
theorem v8 (u:World) {b:Nat} {o x:Obj} (h:u.heap[b]? =some x):(X2 u b o).heap[b]? =some o:=by
 rw[nk0,if_pos rfl,if_pos (Array.getElem?_eq_some_iff.1 h).1]
theorem w8 {u u':World} {a:Addr} (h:u'.heap[a.block]? =u.heap[a.block]?):u'.cell? a=u.cell? a/\u'.frozen? a=u.frozen? a:=by
 unfold World.cell? World.frozen?;rw[h];exact⟨rfl,rfl⟩
theorem X6.replace {ρ:Nat->C7} {u w:World} {b:Nat} {x x' y:Obj} {p:C7} (hs:X6 ρ (V2 u w.tape w.drawn) w) (hb:u.heap[b]? =some x) (hv:Q4 x'=false) (hy:w.heap[b]? =some y) (hl:fr0 p x' y):∃ρ',X6 ρ' (V2 (X2 u b x') w.tape w.drawn) w/\∀k,k≠b->ρ' k=ρ k:=by
 have J1:=(Array.getElem?_eq_some_iff.1 hb).1;refine⟨fun k=>if k=b then p else ρ k,⟨hs.os,hs.output,rfl,rfl,by have:=hs.size;simpa [X2,V2]using this,fun k z hz=>?_,fun k hk=>?_,fun k z hz=>?_⟩,fun k hk=>if_neg hk⟩
 ·have hz':(X2 u b x').heap[k]? =some z:=hz;by_cases e:k=b
  ·subst e;rw[v8 u hb]at hz';obtain rfl:=Option.some.inj hz';exact⟨y,hy,by rw[if_pos rfl];exact hl⟩
  ·rw[z7 u x' (Ne.symm e)]at hz';obtain⟨y',h1,h2⟩:=hs.obj k z hz';exact⟨y',h1,by rw[if_neg e];exact h2⟩
 ·have hk':u.heap.size <=k:=by simpa [X2,V2]using hk
  rw[if_neg (by omega)];exact hs.new k hk'
 ·have hz':(X2 u b x').heap[k]? =some z:=hz;by_cases e:k=b
  ·subst e;rw[v8 u hb]at hz';obtain rfl:=Option.some.inj hz';exact hv
  ·rw[z7 u x' (Ne.symm e)]at hz';exact hs.G8 k z hz'
structure md0 (X:Gh) (b:Nat):Prop where
 stay:∀i p,p∈X.stay i->p.1.block≠b
 y5:X.y5 b=none
 chs:¬X.chs b
 J4:∀G,(X.J4=some G\/G∈X.old)->G.blk≠b
structure Gh.ev0 (X:Gh) (n:Nat):Prop where
 stay:∀i p,p∈X.stay i->p.1.block<n
 y5:∀b o,X.y5 b=some o->b<n
 chs:∀b,X.chs b->b<n
 J4:∀G,(X.J4=some G\/G∈X.old)->G.blk<n
 low:∀b,X.low b->b<n
theorem Gh.ev0.mono {X:Gh} {n m:Nat} (h:X.ev0 n) (hm:n <=m):X.ev0 m :=
 ⟨fun i p hp=>Nat.lt_of_lt_of_le (h.stay i p hp) hm,fun b o e=>Nat.lt_of_lt_of_le (h.y5 b o e) hm,fun b e=>Nat.lt_of_lt_of_le (h.chs b e) hm,fun G e=>Nat.lt_of_lt_of_le (h.J4 G e) hm,fun b e=>Nat.lt_of_lt_of_le (h.low b e) hm⟩
theorem Gh.ev0.ju0 {X:Gh} {n b:Nat} (h:X.ev0 n) (hb:n <=b):md0 X b :=
 ⟨fun i p hp=>by have:=h.stay i p hp;omega,by
  cases e:X.y5 b with
  |none=>rfl
  |some o=>have:=h.y5 b o e;omega,fun e=>by have:=h.chs b e;omega,fun G hG=>by have:=h.J4 G hG;omega⟩
def Gh.lower (X:Gh) (b:Nat):Gh:={X with low:=fun k=>X.low k\/k=b}
theorem Ring.swap {P:Program} {X:Gh} {h:Nat} {u:World} {live:Nat->Bool} {T:Trace} {gs:Array Goroutine} {w:World} {q:Nat->Nat} (C:Ring P X h u live T gs w q) {b:Nat} {x x':Obj} (hl:md0 X b) (hb:u.heap[b]? =some x) (hv:Q4 x'=false)
  (hlk:∀p y,fr0 p x y->∃p',fr0 p' x' y):Ring P (X.lower b) h (X2 u b x') live T gs w q:=by
 obtain⟨ρ,hs,hlw⟩:=C.sim;obtain⟨y,hy,hl0⟩:=hs.obj b x hb;obtain⟨p',hp'⟩:=hlk _ _ hl0;have Jj0:∀G,(X.J4=some G\/G∈X.old)->Cut u G->Cut (X2 u b x') G:=fun G hG ⟨c,T,f,hc,hcs⟩=>⟨c,T,f,by rw[z7 u x' (Ne.symm (hl.J4 G hG))];exact hc,hcs⟩
 have be0:∀k,k≠b->ji0 u k->ji0 (X2 u b x') k:=fun k hk ⟨T,f,hc⟩=>⟨T,f,by rw[z7 u x' (Ne.symm hk)];exact hc⟩
 refine⟨?_,C.idle,C.free,C.size,C.num,fun i p hp=>?_,fun c hc=>⟨be0 c (fun e=>hl.chs (e▸hc)) (C.chans c hc).1,(C.chans c hc).2⟩,C.L4,C.inj,fun k o e=>?_,fun G e=>.inl (C.eu0 G e),⟨fun c e=>.inl (C.bd0.1 c e),C.bd0.2⟩,fun G e=>⟨Jj0 G (.inl e) (C.J4 G e).1,(C.J4 G e).2⟩,fun G e=>Jj0 G (.inr e) (C.old G e),C.above,C.few,C.ho0,C.ef0,C.dfn,C.past⟩
 ·obtain⟨ρ',h1,h2⟩:=X6.replace hs hb hv hy hp';exact⟨ρ',h1,fun k hk=>by
   have hkb:k≠b:=fun e=>hk (.inr e);rw[h2 k hkb];exact hlw k fun e=>hk (.inl e)⟩
 ·have:=w8 (u:=u) (u':=X2 u b x') (a:=p.1) (z7 u x' (Ne.symm (hl.stay i p hp)));rw[this.1,this.2];exact C.stays i p hp
 ·have hk:k≠b:=fun z=>by subst z;have e2:X.y5 k=some o:=e;rw[hl.y5]at e2;cases e2
  exact⟨be0 k hk (C.y5 k o e).1,(C.y5 k o e).2⟩
section
variable {P:Program}{Post:Value->World->Prop}{X:Gh}{h:Nat}{u:World}{g:Goroutine}{b:Nat}
theorem Fin.freeze {c:Array Value} {T:TypeId} {f f':Nat×Nat} (hl:md0 X b) (hb:u.heap[b]? =some (.cells c T f)) (hf:∀i,inR f i->inR f' i) (hF:Fin P Post (X.lower b) h g (X2 u b (.cells c T f'))):Fin P Post X h g u:=by
 refine Fin.Ui0 (fun live Tr gs w q C=>C.swap hl hb rfl fun p y hp=>?_) hF;cases hp with
 |same=>exact⟨.cut #[] f,by have:=fr0.cut c #[] T f f' hf;simpa using this⟩
 |cut _ rest _ f0 _ h0=>exact⟨.cut rest f0,.cut c rest T f0 f' fun i hi=>hf i (h0 i hi)⟩
 |gone=>exact⟨.gone y,.gone _ _ _⟩
def nothing:Obj:=.cells #[] 0 (0,0)
theorem Fin.chan (hl:md0 X b) (hw:¬X.low b) (hpl:X.w7 b= .all) {k:Nat} (hb:u.heap[b]? =some (.chan 0 #[] false k k false)) (hF:Fin P Post {X.lower b with chs:=fun c=>X.chs c\/c=b} h g (X2 u b nothing)):Fin P Post X h g u:=by
 refine Fin.Ui0 (fun live Tr gs w q C=>?_) hF;have C':=C.swap (x':=nothing) hl hb rfl fun p y hp=>⟨.gone y,.gone _ _ _⟩
 obtain⟨ρ,hs,hlw⟩:=C.sim;obtain⟨y,hy,hl0⟩:=hs.obj b _ hb;rw[hlw b hw,hpl]at hl0;have hyb:y= .chan 0 #[] false k k false:=by cases hl0;rfl
 subst hyb;refine⟨C'.sim,C'.idle,C'.free,C'.size,C'.num,C'.stays,fun c hc=>?_,fun i s e=>.inl (C'.L4 i s e),C'.inj,C'.y5,C'.eu0,⟨fun c e=>e.elim (C'.bd0.1 c) fun e=>.inr e,fun G hG=>⟨fun e=>e.elim (C'.bd0.2 G hG).1 (hl.J4 G hG),(C'.bd0.2 G hG).2⟩⟩,C'.J4,C'.old,C'.above,C'.few,C'.ho0,C'.ef0,C'.dfn,C'.past⟩;rcases hc with hc|rfl
 ·exact C'.chans c hc
 ·exact⟨⟨0,(0,0),v8 u hb⟩,hl.y5,k,hy⟩
theorem Fin.stay {l:ig0} (hl:∀p∈l,u.cell? p.1=some p.2/\u.frozen? p.1=true) (hF:Fin P Post {X with stay:=upd X.stay h l} h g u):Fin P Post X h g u:=by
 refine Fin.Ui0 (fun live Tr gs w q C=>?_) hF;have Uj0:∀i,i≠h->upd X.stay h l i=X.stay i:=fun i hi=>upd_ne _ _ hi;refine⟨C.sim,fun i y hi hy=>?_,C.free,C.size,C.num,fun i p hp=>?_,C.chans,C.L4,C.inj,C.y5,C.eu0,C.bd0,C.J4,C.old,fun j hj=>?_,C.few,C.ho0,C.ef0,C.dfn,?_⟩
 ·have:=C.idle i y hi hy;unfold Idle at this⊢;show(match X.W1 i with|some s=>Way P (i==0) (upd X.stay h l i) s (q i) y|none=>_);rw[Uj0 i hi];exact this
 ·have hp':p∈upd X.stay h l i:=hp;by_cases e:i=h
  ·subst e;rw[upd_same]at hp';exact hl p hp'
  ·rw[Uj0 i e]at hp';exact C.stays i p hp'
 ·have:=C.above j hj;refine⟨this.1,this.2.1,this.2.2.1,?_⟩;show upd X.stay h l j=[];rw[Uj0 j (by have:=C.size;omega)];exact this.2.2.2
 ·refine PastH.still C.past (fun z=>z.1 rfl) (fun i hi l'=>?_) (fun l' J7=>?_) (fun i hi=>.inl hi) (fun hi=>C.past.hears h hi)
  ·show(∃p∈upd X.stay h l i,_)↔_;rw[Uj0 i hi];exact Iff.rfl
  ·obtain⟨p,hp,rfl⟩:=(J7:∃p∈upd X.stay h l h,l'= .cell p.1)
   have hp:p∈l:=by have hp':p∈upd X.stay h l h:=hp;rwa [upd_same]at hp'
   refine⟨rfl,?_⟩;rintro⟨a',G,hG,ha,hb,ho⟩;simp only[Loc.cell.injEq]at ha;subst ha;have hc:Cut u G:=hG.elim (fun e=>(C.J4 G e).1) (C.old G);obtain⟨c,T,f,hc,hs⟩:=hc;obtain⟨c',T',f',H8,_,hv'⟩:=X5 (hl p hp).1;rw[hb,hc]at H8;cases H8;have:=(Array.getElem?_eq_some_iff.1 hv').1;omega
end
end
section
attribute [local irreducible] KK
theorem count_le {live:Nat->Bool} {i:Nat}:∀{n:Nat},i<n->live i=true->0<count live n:=by
 intro n hn hl;have:=Go.ConcN.le_sumTo (f:=fun i=>if live i then 1 else 0) hn;simp only[hl,if_true]at this;exact this
theorem GAt.of_block {G:K7} {st sm:Int} {w w':World} (h:GAt G st sm w) (e:w'.heap[G.blk]? =w.heap[G.blk]?):GAt G st sm w':=by
 obtain⟨c,T,hb,hc⟩:=h;exact⟨c,T,e.trans hb,hc⟩
section
variable {P:Program}{Post:Value->World->Prop}{X:Gh}{u:World}{g:Goroutine}
theorem Fin.bi1 {f':Nat×Nat} {b:Nat} {c:Array Value} {T:TypeId} (yu0:X.cap=0) (hl:md0 X b) (hw:¬X.low b) (hpl:X.w7 b= .all) (hb:u.heap[b]? =some (.cells (c ++ #[.int .u64 0,.int .u32 0]) T (0,0))) (_h0:0 <=c.size)
  (hF:Fin P Post {X.lower b with J4:=some ⟨b,c.size⟩,old:=X.J4.toList++X.old} 0 g (X2 u b (.cells c T f'))):Fin P Post X 0 g u:=by
 refine Fin.Ui0 (fun live Tr gs w q C=>?_) hF;have C':=C.swap (x':=.cells c T f') hl hb rfl fun p y hp=>by
  generalize hq:(Obj.cells (c ++ #[.int .u64 0,.int .u32 0]) T (0,0))=z at hp;cases hp with
  |same=>subst hq;exact⟨_,.cut c _ T (0,0) f' fun _ h=>by unfold inR at h;omega⟩
  |cut c' rest T' f f2 hf=>
   obtain⟨rfl,rfl,rfl⟩:=Obj.cells.inj hq;exact⟨.cut (#[.int .u64 0,.int .u32 0]++rest) f,by rw[Array.append_assoc];exact .cut c _ _ f f' fun i hi=>by have:=hf i hi;unfold inR at this;omega⟩
  |gone T' f o=>
   obtain⟨h1,_,_⟩:=Obj.cells.inj hq;have:=congrArg Array.size h1;simp at this
 obtain⟨ρ,hs,hlw⟩:=C.sim;obtain⟨y,hy,hl0⟩:=hs.obj b _ hb;rw[hlw b hw,hpl]at hl0;have hyb:y= .cells (c ++ #[.int .u64 0,.int .u32 0]) T (0,0):=by cases hl0;rfl
 subst hyb;have hz:count live gs.size+X.pend=0:=by have:=C.few;omega
 have Ba0:∀i,live i=false:=fun i=>by
  rcases Nat.lt_or_ge i gs.size with hi|hi
  ·cases e:live i with
   |false=>rfl
   |true=>have:=count_le hi e;omega
  ·exact(C.above i hi).2.2.1
 refine⟨C'.sim,fun i y hi hy=>?_,C'.free,C'.size,C'.num,C'.stays,C'.chans,C'.L4,C'.inj,C'.y5,fun G e=>?_,⟨C'.bd0.1,fun G hG=>?_⟩,fun G e=>?_,fun G e=>?_,C'.above,C'.few,fun i e=>absurd e (by rw[Ba0 i];simp),C'.ef0,C'.dfn,?_⟩
 ·have:=C'.idle i y hi hy;unfold Idle at this⊢;simp only[Ba0,Bool.false_eq_true,if_false]at this⊢;exact this
 ·cases e;exact .inr rfl
 ·rcases hG with hG|hG
  ·cases hG;exact⟨hl.chs,hl.y5⟩
  ·have hG':G∈X.J4.toList++X.old:=hG;exact C.bd0.2 G ((List.mem_append.1 hG').imp (fun z=>by simpa using z) id)
 ·cases e;refine⟨⟨c,T,f',v8 u hb,rfl⟩,c,T,?_,rfl⟩;rw[hy];have:(((count live gs.size+X.pend)*KK:Nat):Int)=0:=by rw[hz,Nat.zero_mul];rfl
  show _=some (Obj.cells (c ++ #[.int .u64 (((count live gs.size+X.pend)*KK:Nat):Int),.int .u32 0]) T (0,0));rw[this]
 ·have e':G∈X.J4.toList++X.old:=e;rcases List.mem_append.1 e' with e'|e'
  ·exact(C'.J4 G (show X.J4=some G by simpa using e')).1
  ·exact C'.old G e'
 ·refine PastH.Ly0 C'.past (fun l J7=>?_) (fun i l hi hS=>?_) (fun l J7=>by obtain⟨a,G,_,rfl,_⟩:=J7;rfl) (fun i hi=>hi.elim id fun z=>by rw[Ba0 i]at z;cases z)
  ·obtain⟨a,G,hG,ha,p7,ho⟩:=J7;refine⟨a,G,.inr ?_,ha,p7,ho⟩;show G∈X.J4.toList++X.old;rcases hG with hG|hG
   ·exact List.mem_append_left _ (by have hG:X.J4=some G:=hG;simpa using hG)
   ·exact List.mem_append_right _ hG
  ·rintro⟨a,G,hG,ha,p7,ho⟩;obtain⟨p,hp,rfl⟩:=hS;simp only[Loc.cell.injEq]at ha;subst ha;have hp0:p∈X.stay i:=hp;rcases hG with hG|hG
   ·cases hG;exact hl.stay i p hp0 p7
   ·have hG':G∈X.J4.toList++X.old:=hG;have hc:Cut u G:=(List.mem_append.1 hG').elim (fun z=>(C.J4 G (by simpa using z)).1) (C.old G);obtain⟨c1,T1,f1,hc,hs1⟩:=hc;obtain⟨c',T',f',H8,_,hv'⟩:=X5 (C.stays i p hp0).1;rw[p7,hc]at H8;cases H8;have:=(Array.getElem?_eq_some_iff.1 hv').1;omega
end
def Gh.pass (X:Gh) (h j:Nat) (sh:Option S6):Gh:={X with W1:=upd (upd X.W1 j none) h sh}
section
variable {P:Program}{X:Gh}{h:Nat}{u:World}{live:Nat->Bool}{T:Trace}{gs:Array Goroutine}{w:World}{q:Nat->Nat}
theorem Ring.pass (C:Ring P X h u live T gs w q) {j k:Nat} {s:S6} (hj:X.W1 j=some s) (hjh:j≠h) (kt0:X.dn=0) (hk:w.heap[s.ch]? =some (.chan 0 #[] false k k false)) {L8:Array Goroutine} {T':Trace} {H':Goroutine} (N2:L8.size=gs.size)
  (rz0:∀x,x≠h->x≠j->L8[x]? =gs[x]?) (hH:L8[h]? =some H') (Yv0:∀x,Deaf T' x=Deaf T x) {sh:Option S6} (hsh:∀s',sh=some s'->X.chs s'.ch/\∀i s2,i≠j->X.W1 i=some s2->s2.ch≠s'.ch) {nh:Nat} (bj1:Idle P (X.pass h j sh) live T' h nh H')
  (Hg0:PastH X.Sh (Us live) X.St (X.Mem h) (fun g=>X.Lo h g/\g≠j) j T'):Ring P (X.pass h j sh) j u live T' L8 (w.setChan s.ch 0 #[] false (k+1) (k+1) false) (upd q h nh):=by
 obtain⟨ρ,hs,hlw⟩:=C.sim;obtain⟨be0,Mb0,_⟩:=C.chans s.ch (C.L4 j s hj);have N3:∀b,b≠s.ch->(w.setChan s.ch 0 #[] false (k+1) (k+1) false).heap[b]? =w.heap[b]?:=fun b hb=>heap_setChan_ne w _ _ _ _ _ _ (Ne.symm hb);have B5:(w.setChan s.ch 0 #[] false (k+1) (k+1) false).heap[s.ch]? =some (.chan 0 #[] false (k+1) (k+1) false):=heap_setChan_self w hk _ _ _ _ _ _;have S7:∀i,i≠h->i≠j->(X.pass h j sh).W1 i=X.W1 i:=fun i h1 h2=>by
  show upd (upd X.W1 j none) h sh i=_;rw[upd_ne _ _ h1,upd_ne _ _ h2]
 have bk1:(X.pass h j sh).W1 h=sh:=upd_same _ _ _;have Mc0:(X.pass h j sh).W1 j=none:=by
  show upd (upd X.W1 j none) h sh j=_;rw[upd_ne _ _ hjh,upd_same]
 have sb0:j<gs.size:=by
  rcases Nat.lt_or_ge j gs.size with z|z
  ·exact z
  ·have:=(C.above j z).2.1;rw[hj]at this;cases this
 have hgb:∀G,X.J4=some G->G.blk≠s.ch:=fun G hG e=>(C.bd0.2 G (.inl hG)).1 (e▸C.L4 j s hj);have hold:∀i s2,(X.pass h j sh).W1 i=some s2->(i≠h/\i≠j/\X.W1 i=some s2)\/(i=h/\sh=some s2):=fun i s2 e=>by
  by_cases e1:i=h
  ·subst e1;rw[bk1]at e;exact .inr ⟨rfl,e⟩
  ·by_cases e2:i=j
   ·subst e2;rw[Mc0]at e;cases e
   ·rw[S7 i e1 e2]at e;exact .inl ⟨e1,e2,e⟩
 refine⟨⟨fun b=>if b=s.ch then .gone (.chan 0 #[] false (k+1) (k+1) false) else ρ b,⟨hs.os,hs.output,rfl,rfl,by have:=hs.size;simpa [World.setChan,V2]using this,fun b x hx=>?_,fun b hb=>?_,hs.G8⟩,fun b hb=>?_⟩,
  fun x y hx hy=>?_,Mc0,by rw[N2];exact sb0,by rw[N2];exact C.num,C.stays,fun c hc=>⟨(C.chans c hc).1,(C.chans c hc).2.1,?_⟩,fun i s2 e=>?_,fun i i' s1 s2 e1 e2 hc=>?_,fun b o e=>?_,C.eu0,C.bd0,fun G e=>⟨(C.J4 G e).1,?_⟩,C.old,fun i hi=>?_,by rw[N2];exact C.few,C.ho0,fun i hi hor=>?_,(Hg0.hears j (.inr (by rw[hj];simp))).trans kt0.symm,?_⟩
 ·by_cases e:b=s.ch
  ·subst e;obtain⟨T0,f0,hg⟩:=be0;have V5:u.heap[s.ch]? =some x:=hx;rw[hg]at V5;obtain rfl:=Option.some.inj V5;exact⟨_,B5,by rw[if_pos rfl];exact .gone _ _ _⟩
  ·obtain⟨y,h1,h2⟩:=hs.obj b x hx;exact⟨y,(N3 b e).trans h1,by rw[if_neg e];exact h2⟩
 ·obtain⟨T0,f0,hg⟩:=be0;have h1:s.ch<u.heap.size:=(Array.getElem?_eq_some_iff.1 hg).1;have h2:u.heap.size <=b:=hb;rw[if_neg (by omega)];exact hs.new b hb
 ·have:b≠s.ch:=fun e=>hb (e▸C.bd0.1 s.ch (C.L4 j s hj));show(if b=s.ch then _ else ρ b)=_;rw[if_neg this];exact hlw b hb
 ·by_cases e:x=h
  ·subst e;rw[hH]at hy;obtain rfl:=Option.some.inj hy;rw[upd_same];exact bj1
  ·rw[rz0 x e hx]at hy;have y5:=C.idle x y e hy;unfold Idle at y5⊢;rw[S7 x e hx,Yv0,upd_ne q nh e];exact y5
 ·by_cases e:c=s.ch
  ·subst e;exact⟨k+1,B5⟩
  ·obtain⟨k',hk'⟩:=(C.chans c hc).2.2;exact⟨k',(N3 c e).trans hk'⟩
 ·rcases hold i s2 e with⟨_,_,e⟩|⟨_,e⟩
  ·exact C.L4 i s2 e
  ·exact(hsh s2 e).1
 ·rcases hold i s1 e1 with⟨_,a2,f1⟩|⟨f0,f1⟩ <;> rcases hold i' s2 e2 with⟨_,b2,f2⟩|⟨f3,f2⟩
  ·exact C.inj i i' s1 s2 f1 f2 hc
  ·exact absurd hc ((hsh s2 f2).2 i s1 a2 f1)
  ·exact absurd hc.symm ((hsh s1 f1).2 i' s2 b2 f2)
  ·rw[f0,f3]
 ·obtain⟨h1,h2,p,y,h3,h4⟩:=C.y5 b o e;have:b≠s.ch:=fun e2=>by subst e2;have e':X.y5 s.ch=some o:=e;rw[Mb0]at e';cases e'
  exact⟨h1,h2,p,y,(N3 b this).trans h3,h4⟩
 ·rw[N2];exact(C.J4 G e).2.of_block (N3 _ (hgb G e))
 ·rw[N2]at hi;have:=C.above i hi;refine⟨by rw[Yv0];exact this.1,?_,this.2.2⟩;rw[S7 i (by have:=C.size;omega) (by omega)];exact this.2.1
 ·rcases hor with hor|rfl
  ·cases e:(X.pass h j sh).W1 i with
   |none=>exact absurd e hor
   |some s2=>
    rcases hold i s2 e with⟨_,_,e⟩|⟨rfl,_⟩
    ·exact C.ef0 i hi (.inl (by rw[e];simp))
    ·exact C.ef0 i hi (.inr rfl)
  ·exact C.ef0 i hi (.inl (by rw[hj];simp))
 ·refine(Hg0.fewer (Mem':=(X.pass h j sh).Mem j) fun x hx=>?_).loosen fun x hx=>?_
  ·rcases hx with⟨rfl,_⟩|hx
   ·exact .inr (by rw[hj];simp)
   ·cases e:(X.pass h j sh).W1 x with
    |none=>exact absurd e hx
    |some s2=>
     rcases hold x s2 e with⟨_,_,e⟩|⟨rfl,_⟩
     ·exact .inr (by rw[e];simp)
     ·exact .inl ⟨rfl,kt0⟩
  ·exact⟨hx.2,by rw[S7 x hx.1.1 hx.2];exact hx.1.2⟩
end
section
variable {P:Program}{Post:Value->World->Prop}{X:Gh}{h:Nat}{u:World}
def yv0 (P:Program) (X:Gh) (h:Nat) (sh:Option S6) (n:Nat) (g:Goroutine):Prop:=match sh with
 |some s'=>Way P (h==0) (X.stay h) s' n g
 |none=>0<h/\∃G,X.J4=some G/\Lt P G n 0 g
theorem Fin.give {g a₂:Goroutine} {s:S6} {j nh:Nat} {v z':Value} (K3:g.status= .running) (hj:X.W1 j=some s) (hjh:j≠h) (kt0:X.dn=0) (hsend:∀w,stepG P (h==0) g w= .comm a₂ #[scase s.ch v z'] true .send w #[])
  (sh:Option S6) (hsh:∀s',sh=some s'->X.chs s'.ch/\∀i s2,i≠j->X.W1 i=some s2->s2.ch≠s'.ch) (bl1:yv0 P X h sh nh (Go.Conc.served a₂ undef)) (hF:Fin P Post (X.pass h j sh) j (Go.Conc.served s.me (recvd false v true)) u):Fin P Post X h g u:=by
 have bj1:∀{live:Nat->Bool} {T T':Trace} {gs:Array Goroutine} {w:World} {q:Nat->Nat},Ring P X h u live T gs w q->Deaf T' h=0->Idle P (X.pass h j sh) live T' h nh (Go.Conc.served a₂ undef):=by
  intro live T T' gs w q C hd;unfold Idle;have:(X.pass h j sh).W1 h=sh:=upd_same _ _ _;rw[this];unfold yv0 at bl1;cases sh with
  |some s'=>exact bl1
  |none=>
   obtain⟨h0,G,hG,hL⟩:=bl1;refine⟨h0,?_⟩;rw[C.ef0 h (by omega) (.inr rfl)];simp only[if_true];exact⟨G,hG,by rw[hd];exact hL⟩
 have fin:∀live T gs L8 w q k (g₁:Nat->Nat) (ops:Array MemOp) (fh fj:FuncId) (ph pj:String) sl,Ring P X h u live (T++ops) gs w q->w.heap[s.ch]? =some (.chan 0 #[] false k k false)->L8.size=gs.size->(∀x,x≠h->x≠j->L8[x]? =gs[x]?) ->
   L8[h]? =some (Go.Conc.served a₂ undef)->L8[j]? =some (Go.Conc.served s.me (recvd false v true))->Ends P Post (crowd L8 (w.setChan s.ch 0 #[] false (k+1) (k+1) false) sl) (T++(ops++met h j fh ph fj pj s.ch k 0)):=by
  intro live T gs L8 w q k g₁ ops fh fj ph pj sl C hk N2 rz0 hH hJ;have hMh:X.Mem h h:=.inl ⟨rfl,kt0⟩;have hMj:X.Mem h j:=.inr (by rw[hj];simp);have p2:=PastH.give C.past hMh hMj fh ph fj pj s.ch k 0;have hD:∀x,Deaf ((T++ops)++met h j fh ph fj pj s.ch k 0) x=Deaf (T++ops) x:=fun x=>Deaf_quiet (met_quiet _ _ _ _ _ _ _ _ _ x);have:=Ring.pass C hj hjh kt0 hk N2 rz0 hH hD hsh (bj1 C (by rw[hD];exact C.past.hears h hMh)) p2;rw[<- Array.append_assoc];exact hF _ _ _ _ _ _ hJ this
 have await:∀(μ:Nat) live T gs w sl q,sumTo gs.size q=μ->gs[h]? =some (parked a₂ #[scase s.ch v z'] .send)->0<q j->Ring P X h u live T gs w q->Ends P Post (crowd gs w sl) T:=by
  intro μ
  induction μ using Nat.strongRecOn with
  |_ μ ih=>
   intro live T gs w sl q hμ hg hqj C;have sb0:j<gs.size:=by
    rcases Nat.lt_or_ge j gs.size with z|z
    ·exact z
    ·have:=(C.above j z).2.1;rw[hj]at this;cases this
   have Bb0:Way P (j==0) (X.stay j) s (q j) gs[j]:=by
    have:=C.idle j gs[j] hjh (Array.getElem?_eq_getElem sb0);unfold Idle at this;rw[hj]at this;exact this
   have hx1:gs[j].status= .running:=Bb0.status.elim (·.1) fun z=>by omega
   obtain⟨i,gi,d,sl',hi,hgi,S2⟩:=crowd_pick (P:=P) (w:=w) (sl:=sl) (C.awake hg (.inr rfl)) ⟨j,gs[j],Array.getElem?_eq_getElem sb0,hx1⟩;have Cd:=C.at d;obtain⟨k,hk⟩:=(Cd.chans s.ch (Cd.L4 j s hj)).2.2;have hih:i≠h:=by rintro rfl;rw[hg]at hi;obtain rfl:=Option.some.inj hi;cases hgi
   by_cases ej:i=j/\mb0 P (i==0) s gi
   ·obtain⟨rfl,X7⟩:=ej;have hp:partners (gs.setIfInBounds i ph) s.ch true=[(h,0)]:=by
     rw[partners_one (stand_get (Ne.symm hih) hg) fun x y hxh hy=>by
      rcases getElem?_stand gs i x y hy with⟨_,rfl⟩|⟨_,hy'⟩
      ·exact offersAt_ph _ _
      ·exact(C.idle x y hxh hy').noSend _]
     simp[offersAt_parked_send]
    have hrt:=crowd_recv_meets (sl:=sl') hi (X7.2.2.2.2 (w.at d)) hk (Ne.symm hih) hg hp;refine Ends.step (S2.trans hrt) ?_;rw[show(MemOp.ofEvents i gi.frame.fn gi.frame.place #[]:Array MemOp)=#[] from rfl];refine fin live T gs _ (w.at d) q k (fun _=>0) #[] _ _ _ _ sl' (by simpa using Cd) hk (by simp) (fun x hx hxj=>by rw[Array.getElem?_setIfInBounds_ne (fun z=>hxj z.symm),Array.getElem?_setIfInBounds_ne (fun z=>hx z.symm)]) ?_ ?_
    ·rw[Array.getElem?_setIfInBounds_ne hih,Array.getElem?_setIfInBounds_self_of_lt C.size,finishComm_send]
    ·rw[Array.getElem?_setIfInBounds_self_of_lt (by simpa using sb0),finishComm_recv]
   ·obtain⟨L8,ops,q',w',dj0,hrt,N2,hgh,hqo,hq0,C',J1,_⟩:=Cd.by_step (sl:=sl') hi hih hgi hg (fun w' hS=>again_send_open (by rw[hS.2.2 s.ch (Cd.L4 j s hj)];exact hk))
     (fun s' hs' X7=>by
      rw[offersAt_parked_send,if_neg];intro ec;have hij:=C.inj i j s' s hs' hj ec.symm;subst hij;rw[hj]at hs';obtain rfl:=Option.some.inj hs';exact ej ⟨rfl,X7⟩)
    refine Ends.step (S2.trans hrt) (ih _ (by rw[N2,<- hμ];exact J1) dj0 _ L8 w' sl' q' rfl hgh ?_ C');by_cases hij:j=i
    ·subst hij;rcases Nat.eq_zero_or_pos (q' j)with h0|h0
     ·exact absurd ⟨rfl,hq0 s hj h0⟩ ej
     ·exact h0
    ·rw[hqo j hij];exact hqj
 refine Fin.dk0 K3 fun live T gs w sl d sl' q hg S2 C=>?_;have sb0:j<gs.size:=by
  rcases Nat.lt_or_ge j gs.size with z|z
  ·exact z
  ·have:=(C.above j z).2.1;rw[hj]at this;cases this
 have Bb0:Way P (j==0) (X.stay j) s (q j) gs[j]:=by
  have:=C.idle j gs[j] hjh (Array.getElem?_eq_getElem sb0);unfold Idle at this;rw[hj]at this;exact this
 obtain⟨k,hk⟩:=(C.chans s.ch (C.L4 j s hj)).2.2;have Uk0:∀(x:Nat) (y:Goroutine),x≠j->(gs.setIfInBounds h ph)[x]? =some y->offersAt y s.ch false=[]:=by
  intro x y hxj hy;rcases getElem?_stand gs h x y hy with⟨_,rfl⟩|⟨hx,hy'⟩
  ·exact offersAt_ph _ _
  ·exact(C.idle x y hx hy').bh1 fun s' hs' H8=>hxj (C.inj x j s' s hs' hj H8)
 rcases Bb0.status with⟨hjr,hqj⟩|⟨_,hq0⟩
 ·have hp:partners (gs.setIfInBounds h ph) s.ch false=[]:=partners_nil fun x y hy=>by
   by_cases hxj:x=j
   ·subst hxj;rw[stand_get hjh (Array.getElem?_eq_getElem sb0)]at hy;obtain rfl:=Option.some.inj hy;exact offersAt_of_not_blocked (by rw[hjr];simp) _ _
   ·exact Uk0 x y hxj hy
  have hw:∀cc∈#[scase s.ch v z'],NoWays (w.at d) (gs.setIfInBounds h ph) cc:=by
   intro cc hcc;simp only[List.mem_toArray,List.mem_cons,List.not_mem_nil,or_false]at hcc;subst hcc;exact ways_send_none hk (Nat.le_refl _) hp
  have hrt:=crowd_waits (sl:=sl') hg (hsend (w.at d)) hw;refine Ends.step (S2.trans hrt) ?_;rw[show(MemOp.ofEvents h g.frame.fn g.frame.place #[]:Array MemOp)=#[] from rfl,Array.append_empty];refine await _ live T _ (w.at d) sl' q rfl (Array.getElem?_setIfInBounds_self_of_lt C.size) hqj ?_;exact⟨C.sim,fun x y hx hy=>C.idle x y hx (by rwa [Array.getElem?_setIfInBounds_ne (fun e=>hx e.symm)]at hy),C.free,by simpa using C.size,by simpa using C.num,C.stays,C.chans,C.L4,C.inj,C.y5,C.eu0,C.bd0,by simpa using C.J4,C.old,fun x hx=>C.above x (by simpa using hx),by simpa using C.few,C.ho0,C.ef0,C.dfn,C.past⟩
 ·have hpk:gs[j]=parked s.me #[rcase s.ch s.z] (.recv false):=by rw[hq0]at Bb0;exact Bb0.1
  have hgj:gs[j]? =some (parked s.me #[rcase s.ch s.z] (.recv false)):=by rw[<- hpk];exact Array.getElem?_eq_getElem sb0
  have hp:partners (gs.setIfInBounds h ph) s.ch false=[(j,0)]:=by
   rw[partners_one (stand_get hjh hgj) fun x y hxj hy=>Uk0 x y hxj hy,offersAt_parked_recv,if_pos rfl];rfl
  have hrt:=crowd_send_meets (sl:=sl') hg (hsend (w.at d)) hk hjh hgj hp;refine Ends.step (S2.trans hrt) ?_;rw[show(MemOp.ofEvents h g.frame.fn g.frame.place #[]:Array MemOp)=#[] from rfl];refine fin live T gs _ (w.at d) q k (fun _=>0) #[] _ _ _ _ sl' (by simpa using C) hk (by simp) (fun x hx hxj=>by rw[Array.getElem?_setIfInBounds_ne (fun z=>hx z.symm),Array.getElem?_setIfInBounds_ne (fun z=>hxj z.symm)]) ?_ ?_
  ·rw[Array.getElem?_setIfInBounds_self_of_lt (by simpa using C.size),finishComm_send]
  ·rw[Array.getElem?_setIfInBounds_ne (Ne.symm hjh),Array.getElem?_setIfInBounds_self_of_lt sb0,finishComm_recv]
end
end
section
attribute [local irreducible] KK
section
variable {P:Program}{Post:Value->World->Prop}{X:Gh}{u:World}
def Gh.hire (X:Gh) (s:S6):Gh:={X with W1:=upd X.W1 0 (some s),pend:=0,n:=X.n+1}
theorem Fin.spawn {g g' child:Goroutine} {s:S6} {nh:Nat} {G:K7} (K3:g.status= .running) (kt0:X.dn=0) (Hh0:X.pend=1) (hG:X.J4=some G) (hgo:∀w,stepG P true g w= .spawn g' child w #[])
  (hch:X.chs s.ch) (hno:∀i s2,X.W1 i=some s2->s2.ch≠s.ch) (yt0:Way P true (X.stay 0) s nh g') (hF:Fin P Post (X.hire s) X.n child u):Fin P Post X 0 g u:=by
 refine Fin.dk0 K3 fun live T gs w sl d sl' q hg S2 C=>?_;have hrt:=runT_crowd_spawn (P:=P) (sl:=sl') (i:=0) hg (hgo (w.at d));have ib1:(((MemOp.ofEvents 0 g.frame.fn g.frame.place #[]:Array MemOp).push {g:=0,fn:=g.frame.fn,pos:=g.frame.place,act:=.go gs.size}).push {g:=gs.size,fn:=child.frame.fn,pos:=g.frame.place,act:=.start})=
   #[{g:=0,fn:=g.frame.fn,pos:=g.frame.place,act:=.go gs.size},{g:=gs.size,fn:=child.frame.fn,pos:=g.frame.place,act:=.start}]:=rfl
 rw[ib1]at hrt;refine Ends.step (S2.trans hrt) ?_;have h0:=C.size;have Md0:=C.above gs.size (Nat.le_refl _);have hc0:gs.size≠0:=by omega
 have hD:∀x,Deaf (T ++ #[{g:=0,fn:=g.frame.fn,pos:=g.frame.place,act:=.go gs.size},{g:=gs.size,fn:=child.frame.fn,pos:=g.frame.place,act:=.start}]) x=Deaf T x:=fun x=>Deaf_quiet (fun op hop d=>by
  simp only[List.mem_toArray,List.mem_cons,List.not_mem_nil,or_false]at hop;rcases hop with rfl|rfl <;> rfl)
 have p:=PastH.born (c:=gs.size) C.past (.inl ⟨rfl,kt0⟩) Md0.1 (fun l ⟨p,hp,_⟩=>by rw[Md0.2.2.2]at hp;cases hp) (.inl rfl) g.frame.fn g.frame.place child.frame.fn;have S7:∀i,i≠0->(X.hire s).W1 i=X.W1 i:=fun i hi=>upd_ne X.W1 _ hi;have yw0:(X.hire s).W1 0=some s:=upd_same X.W1 0 (some s);have kp0:count (upd live gs.size true) (gs.size+1)=count live gs.size+1:=by
  show sumTo gs.size _+_=_;rw[show sumTo gs.size (fun i=>if upd live gs.size true i=true then 1 else 0)=count live gs.size from Jh0 true (Nat.le_refl _)];show _+(if upd live gs.size true gs.size=true then 1 else 0)=_;rw[upd_same];rfl
 have N2:((gs.setIfInBounds 0 g').push child).size=gs.size+1:=by simp
 refine hF (upd live gs.size true) _ _ _ sl' (upd q 0 nh) (by rw[<- C.num,Array.getElem?_push,if_pos (by simp)]) ?_;rw[<- C.num];refine⟨C.sim,fun x y hx hy=>?_,by rw[S7 _ hc0];exact Md0.2.1,by rw[N2];omega,by rw[N2,C.num];rfl,C.stays,C.chans,fun i s2 e=>?_,fun i i' s1 s2 e1 e2 hc=>?_,C.y5,C.eu0,C.bd0,fun G' e=>⟨(C.J4 G' e).1,?_⟩,C.old,fun x hx=>?_,?_,fun i hi=>?_,fun i hi hor=>?_,((hD _).trans Md0.1).trans kt0.symm,?_⟩
 ·have hxl:x<gs.size:=by
   have:=(Array.getElem?_eq_some_iff.1 hy).1;rw[N2]at this;omega
  rw[Array.getElem?_push,if_neg (by simp;omega)]at hy;unfold Idle;by_cases e:x=0
  ·subst e;rw[Array.getElem?_setIfInBounds_self_of_lt h0]at hy;obtain rfl:=Option.some.inj hy;rw[yw0,upd_same];exact yt0
  ·rw[Array.getElem?_setIfInBounds_ne (fun z=>e z.symm)]at hy;rw[S7 x e,hD,upd_ne q nh e,upd_ne live true (show x≠gs.size by omega)];have:=C.idle x y e hy;unfold Idle at this;exact this
 ·by_cases e0:i=0
  ·subst e0;rw[yw0]at e;obtain rfl:=Option.some.inj e;exact hch
  ·rw[S7 i e0]at e;exact C.L4 i s2 e
 ·by_cases a:i=0 <;> by_cases b:i'=0
  ·rw[a,b]
  ·subst a;rw[yw0]at e1;rw[S7 i' b]at e2;obtain rfl:=Option.some.inj e1;exact absurd hc.symm (hno i' s2 e2)
  ·subst b;rw[yw0]at e2;rw[S7 i a]at e1;obtain rfl:=Option.some.inj e2;exact absurd hc (hno i s1 e1)
  ·rw[S7 i a]at e1;rw[S7 i' b]at e2;exact C.inj i i' s1 s2 e1 e2 hc
 ·have:=(C.J4 G' e).2;rw[Hh0]at this;rw[N2,kp0];exact this
 ·rw[N2]at hx;have:=C.above x (by omega);exact⟨by rw[hD];exact this.1,by rw[S7 x (by omega)];exact this.2.1,by rw[upd_ne live true (by omega)];exact this.2.2.1,this.2.2.2⟩
 ·rw[N2,kp0];have:=C.few;rw[Hh0]at this;exact this
 ·by_cases e:i=gs.size
  ·subst e;exact⟨hc0,by show X.J4≠none;rw[hG];simp⟩
  ·rw[upd_ne live true e]at hi;exact C.ho0 i hi
 ·by_cases e:i=gs.size
  ·subst e;exact upd_same _ _ _
  ·rw[upd_ne live true e];rw[S7 i hi]at hor;exact C.ef0 i hi (.inl (hor.resolve_right e))
 ·refine((p.leave (Us':=Us (upd live gs.size true)) fun x hx=>?_).fewer (Mem':=(X.hire s).Mem gs.size) fun x hx=>?_).loosen fun x hx=>?_
  ·rcases hx with hx|hx
   ·exact .inl (.inl hx)
   ·by_cases e:x=gs.size
    ·exact .inr e
    ·rw[upd_ne live true e]at hx;exact .inl (.inr hx)
  ·rcases hx with⟨e,_⟩|hx
   ·exact .inr e
   ·by_cases e:x=0
    ·exact .inl (.inl ⟨e,kt0⟩)
    ·rw[S7 x e]at hx;exact .inl (.inr hx)
  ·refine⟨fun e=>?_,?_⟩
   ·subst e;exact hx.2 Md0.2.1
   ·rw[S7 x hx.1];exact hx.2
end
end
section
attribute [local irreducible] KK
structure Base (X:Gh) (u:World) (use:Nat->Bool) (T:Trace) (n:Nat) (w:World):Prop where
 sim:∃ρ,X6 ρ (V2 u w.tape w.drawn) w/\∀b,¬X.low b->ρ b=X.w7 b
 free:X.W1 0=none
 size:0<n
 num:n=X.n
 stays:∀i p,p∈X.stay i->u.cell? p.1=some p.2/\u.frozen? p.1=true
 chans:∀c,X.chs c->ji0 u c/\X.y5 c=none/\∃k,w.heap[c]? =some (.chan 0 #[] false k k false)
 L4:∀i s,X.W1 i=some s->X.chs s.ch
 inj:∀i j s s',X.W1 i=some s->X.W1 j=some s'->s.ch=s'.ch->i=j
 y5:∀b o,X.y5 b=some o->ji0 u b/\Q4 o=false/\∃p y,w.heap[b]? =some y/\fr0 p o y
 eu0:∀G,X.J4=some G->X.low G.blk
 bd0:(∀c,X.chs c->X.low c)/\X.Sep
 cut:∀G,X.J4=some G->Cut u G
 old:∀G∈X.old,Cut u G
 above:∀j,n <=j->Deaf T j=0/\X.W1 j=none/\use j=false/\X.stay j=[]
 ho0:∀i,use i=true->i≠0/\X.J4≠none
 ef0:∀i,X.W1 i≠none->i≠0->use i=true
 dfn:Deaf T 0=X.dn
 past:PastH X.Sh (Us use) X.St (X.Mem 0) (X.Lo 0) 0 T
section
variable {P:Program}{X:Gh}{u:World}{live use use':Nat->Bool}{T:Trace}{gs:Array Goroutine}{w w':World}{q:Nat->Nat}{n:Nat}
theorem Ring.base (C:Ring P X 0 u live T gs w q):Base X u live T gs.size w :=
 ⟨C.sim,C.free,C.size,C.num,C.stays,C.chans,C.L4,C.inj,C.y5,C.eu0,C.bd0,fun G e=>(C.J4 G e).1,C.old,C.above,C.ho0,fun i h hi=>C.ef0 i hi (.inl h),C.dfn,C.past⟩
theorem Base.ring (B:Base X u live T gs.size w) (hi:∀i g,i≠0->gs[i]? =some g->Idle P X live T i (q i) g) (hg:∀G,X.J4=some G->GAt G (((count live gs.size+X.pend)*KK:Nat):Int) 0 w) (hf:count live gs.size+X.pend <=X.cap/\X.cap <=65536):Ring P X 0 u live T gs w q :=
 ⟨B.sim,hi,B.free,B.size,B.num,B.stays,B.chans,B.L4,B.inj,B.y5,B.eu0,B.bd0,fun G e=>⟨B.cut G e,hg G e⟩,B.old,B.above,hf,B.ho0,fun i hi h=>h.elim (fun z=>B.ef0 i z hi) fun z=>absurd z hi,B.dfn,B.past⟩
theorem Base.Yw0 (B:Base X u use T n w) {i:Nat} {l:Loc} (hl:X.St i l):l.isMemory=true/\¬X.Sh l:=by
 obtain⟨p,hp,rfl⟩:=hl;refine⟨rfl,?_⟩;rintro⟨a',G,hG,ha,hb,ho⟩;simp only[Loc.cell.injEq]at ha;subst ha;have hc:Cut u G:=hG.elim (B.cut G) (B.old G);obtain⟨c,T1,f,hc,hs⟩:=hc;obtain⟨c',T',f',H8,_,hv'⟩:=X5 (B.stays i p hp).1;rw[hb,hc]at H8;cases H8;have:=(Array.getElem?_eq_some_iff.1 hv').1;omega
def GEv (G:K7) (x:Nat) (e:Event):Prop:=(∀b,(MemAct.ofEvent e).touch? =some b->(∃a,b.loc= .cell a/\a.block=G.blk/\G.off <=a.off)/\b.kind≠.plain/\(x≠0->b.kind= .atomic))/\∀a,e.loc≠.mark (.release a)
theorem pe0 {G:K7} {x:Nat} {e:Event} (h:Ek0 e=true):GEv G x e:=⟨fun b hb=>(by rw[fs0 h]at hb;cases hb),fun a ha=>by unfold Ek0 at h;rw[ha]at h;cases h⟩
theorem Me0 {G:K7} {x:Nat} {e:Event} (h:Event.mute e=true):GEv G x e:=⟨fun b hb=>(by rw[touch_mute h]at hb;cases hb),fun a ha=>by
 obtain⟨l,w,s⟩:=e;cases ha;cases h⟩
theorem Base.step (B:Base X u use T n w) {x:Nat} {fn:FuncId} {pos:String} {es:Array Event} {G:K7} (hG:X.J4=some G) (hx:x<n) (hsx:X.W1 x=none) (hes:∀e∈es,GEv G x e) (hu:(∀e∈es,(MemAct.ofEvent e).touch? =none)\/(x=0\/use x=true/\∀k,k<es.size->deafBehind (Deaf T x) (es.extract 0 k)≠0))
  (hus:∀i,use' i=true->use i=true) (hls:∀i,X.W1 i≠none->i≠0->use' i=true) {pend cap dn:Nat} (hdn:dn=if x=0 then deafBehind X.dn es else X.dn) (mc0:∃ρ,X6 ρ (V2 u w'.tape w'.drawn) w'/\∀b,¬X.low b->ρ b=X.w7 b) (be0:∀b,b≠G.blk->w'.heap[b]? =w.heap[b]?) :
  Base {X with pend:=pend,cap:=cap,dn:=dn} u use' (T++MemOp.ofEvents x fn pos es) n w':=by
 have hgn:∀b,(X.chs b\/X.y5 b≠none)->w'.heap[b]? =w.heap[b]?:=fun b hb=>be0 b (fun e=>by
  subst e;have:=B.bd0.2 G (.inl hG);exact hb.elim this.1 fun z=>z this.2)
 have jj0:∀op∈MemOp.ofEvents x fn pos es,op.g=x:=Q3;have hd0:Deaf (T++MemOp.ofEvents x fn pos es) 0=dn:=by
  by_cases e:x=0
  ·subst e;rw[Deaf_own,B.dfn,hdn,if_pos rfl]
  ·rw[Deaf_other T e _ jj0,B.dfn,hdn,if_neg e]
 refine⟨mc0,B.free,B.size,B.num,B.stays,fun c hc=>⟨(B.chans c hc).1,(B.chans c hc).2.1,?_⟩,B.L4,B.inj,fun b o e=>?_,B.eu0,B.bd0,B.cut,B.old,fun j hj=>?_,fun i hi=>B.ho0 i (hus i hi),hls,hd0,?_⟩
 ·obtain⟨k,hk⟩:=(B.chans c hc).2.2;exact⟨k,(hgn c (.inl hc)).trans hk⟩
 ·obtain⟨h1,h2,p,y,h3,h4⟩:=B.y5 b o e;exact⟨h1,h2,p,y,(hgn b (.inr (by have e':X.y5 b=some o:=e;rw[e'];simp))).trans h3,h4⟩
 ·have:=B.above j hj;refine⟨by rw[Deaf_other T (g':=x) (by omega) _ jj0];exact this.1,this.2.1,?_,this.2.2.2⟩;cases e:use' j with
  |false=>rfl
  |true=>have:=hus j e;rw[this]at *;simp_all
 ·have H0:Past X.Sh (Us use) X.St (fun g=>X.W1 g≠none) (X.Lo 0) (Knows T 0) T:=B.past.fewer fun g hg=>.inr hg;have hh:∀g',X.W1 g'≠none->Deaf (T++MemOp.ofEvents x fn pos es) g'=0:=fun g' hg'=>by
   rw[Deaf_other T (show x≠g' from fun e=>hg' (by rw[<- e];exact hsx)) _ jj0];exact H0.hears g' hg'
  have p1:Past X.Sh (Us use) X.St (fun g=>X.W1 g≠none) (X.Lo 0) (Knows (T++MemOp.ofEvents x fn pos es) 0) (T++MemOp.ofEvents x fn pos es):=by
   rcases hu with hu|hu
   ·exact H0.appMute (g:=x) (fun i=>Knows.app _) (fun op hop=>by obtain⟨e,he,rfl⟩:=Go.Conc.mem_ofEvents hop;exact hu e he) hh
   ·refine H0.Yu0 (g:=x) (hu.elim (fun e=>.inl e) fun e=>.inr e.1) (fun g l hl=>(B.Yw0 hl).2) (fun i=>Knows.app _) jj0 (fun op hop b hb=>?_) (fun N3 i hi1 hi2=>?_) hh
    ·obtain⟨e,he,rfl⟩:=Go.Conc.mem_ofEvents hop;obtain⟨⟨a,h1,h2,h3⟩,h4⟩:=(hes e he).1 b hb;exact⟨⟨a,G,.inl hG,h1,h2,h3⟩,h4⟩
    ·obtain⟨m,rfl⟩:∃m,i=T.size+m:=⟨i-T.size,by omega⟩
     have hm:m<es.size:=by
      have N2:(MemOp.ofEvents x fn pos es).size=es.size:=by rw[ofEvents_eq];simp
      omega
     rw[Go.Conc.deaf_inside T x fn pos es m (Nat.le_of_lt hm)];exact(hu.resolve_left N3).2 m hm
  refine PastH.still (p1.leave (Us':=Us use') fun g hg=>hg.imp id (hus g)) (fun z=>z.1 rfl) (fun _ _ _=>Iff.rfl) (fun l hl=>B.Yw0 hl) (fun g hg=>?_) (fun hg=>?_)
  ·rcases hg with⟨e,_⟩|hg
   ·exact .inr e
   ·exact .inl hg
  ·rcases hg with⟨_,e⟩|hg
   ·exact hd0.trans e
   ·exact absurd B.free hg
end
end
section
attribute [local irreducible] KK
def vs0 (P:Program) (G:K7) (g g':Goroutine) (es:Array Event):Prop :=
 g.status= .running/\g'.status= .running/\(∀e∈es,GEv G 0 e)/\∀w st sm,GAt G st sm w->stepG P true g w= .go g' w es
def Ul0 (P:Program) (G:K7) (K:Goroutine->Prop):Nat->Nat->Goroutine->Prop
 |0,d,g=>d=0/\K g
 |n+1,d,g=>(d=0/\K g)\/∃g' es,vs0 P G g g' es/\Ul0 P G K n (deafBehind d es) g'
def Mf0 (P:Program) (G:K7) (K:Goroutine->Prop):Nat->Nat->Goroutine->Prop
 |0,_,_=>False
 |n+1,d,g=>(∃g' es,vs0 P G g g' es/\Mf0 P G K n (deafBehind d es) g')\/(g.status= .running/\∀v:Nat,v<2147483647->∃g',g'.status= .running /\
   (∀w,GAt G ((v*KK:Nat):Int) 0 w->stepG P true g w= .go g' (w.setCell (stA G) (.int .u64 (((v+1)*KK:Nat):Int))) #[rdA (stA G),wrA (stA G)])/\Ul0 P G K n d g')
section
variable {P:Program}{Post:Value->World->Prop}{X:Gh}{u:World}{live:Nat->Bool}{T:Trace}{gs:Array Goroutine}{w w':World}{q:Nat->Nat}
theorem Ring.main (C:Ring P X 0 u live T gs w q) {G:K7} (hG:X.J4=some G) {g g':Goroutine} {es:Array Event} (hes:∀e∈es,GEv G 0 e) {pend cap:Nat} (mc0:∃ρ,X6 ρ (V2 u w'.tape w'.drawn) w'/\∀b,¬X.low b->ρ b=X.w7 b) (be0:∀b,b≠G.blk->w'.heap[b]? =w.heap[b]?)
  (X7:GAt G (((count live gs.size+pend)*KK:Nat):Int) 0 w') (hf:count live gs.size+pend <=cap/\cap <=65536) :
  Ring P {X with pend:=pend,cap:=cap,dn:=deafBehind X.dn es} 0 u live (T++MemOp.ofEvents 0 g.frame.fn g.frame.place es) ((gs.map (woken P g g' w')).setIfInBounds 0 g') w' q/\((gs.map (woken P g g' w')).setIfInBounds 0 g')[0]? =some g':=by
 have N2:((gs.map (woken P g g' w')).setIfInBounds 0 g').size=gs.size:=by simp
 refine⟨?_,Array.getElem?_setIfInBounds_self_of_lt (by simpa using C.size)⟩;have B:=C.base.step (fn:=g.frame.fn) (pos:=g.frame.place) (use':=live) (pend:=pend) (cap:=cap) hG C.size C.free hes (.inr (.inl rfl)) (fun _ h=>h) (fun i h hi=>C.ef0 i hi (.inl h)) (dn:=deafBehind X.dn es) (by rw[if_pos rfl]) mc0 be0;rw[<- N2]at B;refine B.ring (fun i y hi hy=>?_) (fun G' e=>?_) (by rw[N2];exact hf)
 ·rw[Array.getElem?_setIfInBounds_ne (fun e=>hi e.symm),Array.getElem?_map]at hy;obtain⟨y₀,hy₀,rfl⟩:=Option.map_eq_some_iff.1 hy;have y5:=C.idle i y₀ hi hy₀;rw[woken_of_again (y5.again (w:=w') fun s e=>?_)]
  ·exact y5.other (fun z=>hi z.symm) Q3
  ·obtain⟨k,hk⟩:=(C.chans _ (C.L4 i s e)).2.2;exact⟨k,(be0 _ fun e2=>(C.bd0.2 G (.inl hG)).1 (e2▸C.L4 i s e)).trans hk⟩
 ·have e':X.J4=some G':=e;rw[hG]at e';obtain rfl:=Option.some.inj e';rw[N2];exact X7
theorem Fin.id1 {G:K7} {g g':Goroutine} {es:Array Event} (hG:X.J4=some G) (hh:vs0 P G g g' es) (hF:Fin P Post {X with dn:=deafBehind X.dn es} 0 g' u):Fin P Post X 0 g u:=by
 obtain⟨hr,_,hes,S2⟩:=hh;refine Fin.dk0 hr fun live T gs w sl d sl' q hg y7 C=>?_;have X7:=(C.J4 G hG).2;obtain⟨C',B5⟩:=C.main hG (g:=g) (g':=g') hes (w':=w.at d) C.sim (fun _ _=>rfl) X7 C.few;exact Ends.step (y7.trans (runT_crowd_go (sl:=sl') (i:=0) hg (S2 _ _ _ X7))) (hF _ _ _ _ _ _ B5 C')
theorem Fin.ie1 {G:K7} (hG:X.J4=some G) {K:Goroutine->Prop} (hK:∀g,K g->Fin P Post {X with dn:=0} 0 g u):∀(n d:Nat) (g:Goroutine),Ul0 P G K n d g->Fin P Post {X with dn:=d} 0 g u
 |0,d,g,h=>by obtain⟨rfl,h⟩:=h;exact hK g h
 |n+1,d,g,h=>by
  rcases h with⟨rfl,h⟩|⟨g',es,hh,h⟩
  ·exact hK g h
  ·exact Fin.id1 (X:={X with dn:=d}) hG hh (Fin.ie1 hG hK n _ g' h)
theorem ih0 {G:K7} {x:Nat}:∀e∈#[rdA (stA G),wrA (stA G)],GEv G x e:=by
 intro e he;simp only[List.mem_toArray,List.mem_cons,List.not_mem_nil,or_false]at he;refine⟨fun b hb=>?_,by rcases he with rfl|rfl <;> simp[rdA,wrA]⟩;rcases he with rfl|rfl <;> simp[rdA,wrA,MemAct.ofEvent,MemAct.touch?]at hb <;> subst hb <;> exact⟨⟨stA G,rfl,rfl,Nat.le_refl _⟩,by simp,fun _=>rfl⟩
theorem vt0 {G:K7} (d:Nat):deafBehind d #[rdA (stA G),wrA (stA G)]=d:=rfl
theorem Fin.Um0 {G:K7} (hG:X.J4=some G) (hp:X.pend=0) (hc:X.cap<65536) {K:Goroutine->Prop} (hK:∀g,K g->Fin P Post {X with pend:=1,cap:=X.cap+1,dn:=0} 0 g u):∀(n d:Nat) (g:Goroutine),Mf0 P G K n d g->Fin P Post {X with dn:=d} 0 g u
 |0,d,g,h=>h.elim
 |n+1,d,g,h=>by
  unfold Mf0 at h;rcases h with⟨g',es,hh,h⟩|⟨hr,Ay0⟩
  ·exact Fin.id1 (X:={X with dn:=d}) hG hh (Fin.Um0 hG hp hc hK n _ g' h)
  ·refine Fin.dk0 hr fun live T gs w sl dd sl' q hg y7 C=>?_;have X7:=(C.J4 G hG).2;have ry0:=C.few;have hp':({X with dn:=d}:Gh).pend=0:=hp;rw[hp',Nat.add_zero]at X7 ry0;have tx1:count live gs.size <=X.cap:=ry0.1;obtain⟨g',hr',S2,hB⟩:=Ay0 (count live gs.size) (by omega);obtain⟨ρ,hs,hlw⟩:=C.sim;have Jj0:=(C.J4 G hG).1;obtain⟨ρ',h1,h2⟩:=X6.setSt hs Jj0 X7 (((count live gs.size+1)*KK:Nat):Int);obtain⟨C',B5⟩:=C.main hG (g:=g) (g':=g') (pend:=1) (cap:=X.cap+1) ih0 (w':=(w.at dd).setCell (stA G) (.int .u64 (((count live gs.size+1)*KK:Nat):Int)))
    ⟨ρ',h1,fun b hb=>(h2 b fun e=>hb (e▸C.eu0 G hG)).trans (hlw b hb)⟩ (fun b hb=>X3 _ _ hb) (X7.setSt _) ⟨by omega,by omega⟩
   refine Ends.step (y7.trans (runT_crowd_go (sl:=sl') (i:=0) hg (S2 _ X7))) ?_;rw[vt0]at C';exact Fin.ie1 (X:={X with pend:=1,cap:=X.cap+1}) hG hK n d g' hB _ _ _ _ _ _ B5 C'
theorem Fin.ends {g:Goroutine} {v:Value} (hr:g.status= .running) (hno:∀i,X.W1 i=none) (yu0:X.cap=0) (S2:∀w,stepG P true g w= .ended (.done v) w #[])
  (if1:∀ρ w,X6 ρ (V2 u w.tape w.drawn) w->(∀b,¬X.low b->ρ b=X.w7 b)->Post v w):Fin P Post X 0 g u:=by
 refine Fin.dk0 hr fun live T gs w sl d sl' q hg y7 C=>?_;have hz:count live gs.size+X.pend=0:=by have:=C.few;omega
 have Ba0:∀i,live i=false:=fun i=>by
  rcases Nat.lt_or_ge i gs.size with hi|hi
  ·cases e:live i with
   |false=>rfl
   |true=>have:=count_le hi e;omega
  ·exact(C.above i hi).2.2.1
 have hq:∀i g,i≠0->gs[i]? =some g->QuitsD P (q i) (Deaf T i) g:=fun i g hi hg=>by
  have:=C.idle i g hi hg;unfold Idle at this;rw[hno i]at this;simp only[Ba0,Bool.false_eq_true,if_false]at this;exact this.2
 have hrt:=runT_many_ended (P:=P) (sl:=sl') (i:=0) hg (S2 (w.at d));rw[show(MemOp.ofEvents 0 g.frame.fn g.frame.place #[]:Array MemOp)=#[] from rfl]at hrt;have pc0:=y7.trans hrt;obtain⟨ρ,hs,hlw⟩:=C.sim;refine⟨0,crowd gs w sl,_,_,T,by simp only[runNT,pc0];simp,rfl,by unfold step;rw[pc0],v,rfl,if1 ρ (w.at d) hs hlw,C.past.clean,C.past.over (.inl rfl) (fun x hx=>hx.2 (hno x)),⟨fun x hx=>?_,rfl⟩,fun j x hx hj=>?_⟩
 ·obtain⟨j,hj⟩:=List.mem_iff_getElem?.1 hx;rw[List.getElem?_drop]at hj;exact⟨_,(hq (1+j) x (by omega) (by simpa [crowd]using hj)).leaves⟩
 ·exact⟨q j,(hq j x hj hx).hears _⟩
end
end
section
attribute [local irreducible] KK
section
variable (P:Program)(G:K7)(K:Goroutine->Prop)(E:Nat->Nat->Goroutine->Prop)
def WE:Nat->Nat->Goroutine->Prop
 |0,d,g=>d=0/\K g
 |n+1,d,g=>(d=0/\K g)\/∃g' es,g.status= .running/\(∀e∈es,GEv G 0 e)/\(∀w,GAt G 0 0 w->stepG P true g w= .go g' w es)/\WE n (deafBehind d es) g'
def Yx0 (n d:Nat) (g:Goroutine):Prop :=
 g.status= .running/\g.offers=none/\(∀w st,GAt G st 0 w->stepG P true g w= .go {g with status:=.blocked} w #[])/\∃g',(∀w,GAt G 0 1 w->stepG P true g w= .go g' (w.setCell (smA G) (.int .u32 0)) (semEvents (smA G)))/\E n d g'
def WS:Nat->Nat->Goroutine->Prop
 |0,_,_=>False
 |n+1,d,g=>(∃g' es,vs0 P G g g' es/\WS n (deafBehind d es) g')\/(0<d/\Yx0 P G E n d g)
def WH:Nat->Option Nat->Nat->Nat->Goroutine->Prop
 |0,_,_,_,_=>False
 |n+1,o,V,d,g=>(∃g' es,vs0 P G g g' es/\WH n o V (deafBehind d es) g')\/(g.status= .running/\match o with
  |none=>∀v:Nat,v <=V->∃g',(∀w,GAt G ((v*KK:Nat):Int) 0 w->stepG P true g w= .go g' w #[rdA (stA G)])/\(v=0->E n d g')/\(v≠0->WH n (some v) V d g')
  |some vs=>(∃g',(∀w,GAt G ((vs*KK:Nat):Int) 0 w->stepG P true g w= .go g' (w.setCell (stA G) (.int .u64 ((vs*KK+1:Nat):Int))) #[rdA (stA G),wrA (stA G)])/\WS P G E n d g') /\
    ∀v:Nat,v<vs->∃g',(∀w,GAt G ((v*KK:Nat):Int) 0 w->stepG P true g w= .go g' w #[rdA (stA G)])/\WH n none v d g')
end
inductive Md where
 |free
 |wait
 |last (i s:Nat)
 |done
def Jk0 (m:Md) (c:Nat):Int×Int:=match m with
 | .free=>(((c*KK:Nat):Int),0)
 | .wait=>(((c*KK+1:Nat):Int),0)
 | .last _ 0=>(0,0)
 | .last _ (_+1)=>(1,0)
 | .done=>(0,1)
def al0 (lv:Nat->Bool) (m:Md) (i:Nat):Bool:=lv i ||(match m with| .last j _=>i==j|_=>false)
def j8 (P:Program) (G:K7) (lv:Nat->Bool) (m:Md) (T:Trace) (i n:Nat) (g:Goroutine):Prop :=
 if lv i then Lt P G n (Deaf T i) g else match m with
  | .last j s=>if i=j then Lst P G n s (Deaf T i) g else QuitsD P n (Deaf T i) g
  |_=>QuitsD P n (Deaf T i) g
def posOf (m:Md) (lv:Nat->Bool) (n:Nat):Prop:=match m with
 | .free=>True
 | .wait=>0<count lv n
 | .last i s=>count lv n=0/\i≠0/\i<n/\lv i=false/\s <=2
 | .done=>count lv n=0
structure Wr (P:Program) (X:Gh) (G:K7) (u:World) (lv:Nat->Bool) (m:Md) (d:Nat) (T:Trace) (gs:Array Goroutine) (w:World) (q:Nat->Nat):Prop where
 base:Base {X with pend:=0,cap:=0,dn:=d} u (al0 lv m) T gs.size w
 J4:X.J4=some G
 empty:∀i,X.W1 i=none
 idle:∀i g,i≠0->gs[i]? =some g->j8 P G lv m T i (q i) g
 gat:GAt G (Jk0 m (count lv gs.size)).1 (Jk0 m (count lv gs.size)).2 w
 pos:posOf m lv gs.size
 few:count lv gs.size <=65536
theorem j8.status {P:Program} {G:K7} {lv:Nat->Bool} {m:Md} {T:Trace} {i n:Nat} {g:Goroutine} (h:j8 P G lv m T i n g):g.status= .running\/g.status= .finished:=by
 unfold j8 at h;split at h
 ·exact .inl h.running
 ·split at h
  ·split at h
   ·exact .inl h.running
   ·exact h.status
  ·exact h.status
theorem j8.other {P:Program} {G:K7} {lv lv':Nat->Bool} {m m':Md} {T:Trace} {i n x:Nat} {g:Goroutine} (h:j8 P G lv m T i n g) (hx:x≠i) {ops:Trace} (jj0:∀op∈ops,op.g=x) (hl:lv' i=lv i) (hm:m'=m\/((∀s,m≠.last i s)/\∀s,m'≠.last i s)):j8 P G lv' m' (T++ops) i n g:=by
 unfold j8 at h⊢;rw[Deaf_other T hx ops jj0,hl];rcases hm with rfl|⟨h1,h2⟩
 ·exact h
 ·cases hlv:lv i with
  |true=>rw[hlv]at h;exact h
  |false=>
   rw[hlv]at h;simp only[Bool.false_eq_true,if_false]at h⊢;have h3:QuitsD P n (Deaf T i) g:=by
    cases m with
    |last j s=>simp only at h;rw[if_neg (fun e=>h1 s (by rw[e]))]at h;exact h
    |_=>exact h
   cases m' with
   |last j s=>simp only;rw[if_neg (fun e=>h2 s (by rw[e]))];exact h3
   |_=>exact h3
section
variable {P:Program}{X:Gh}{G:K7}{u:World}{lv:Nat->Bool}{m:Md}{d:Nat}{T:Trace}{gs:Array Goroutine}{w:World}{q:Nat->Nat}
theorem Wr.move (C:Wr P X G u lv m d T gs w q) {i n:Nat} {g g':Goroutine} {es:Array Event} {w':World} {lv':Nat->Bool} {m':Md} {sl:Option (Nat×Nat)} (hi:gs[i]? =some g) (N3:i≠0) (S2:stepG P false g w= .go g' w' es) (hes:∀e∈es,GEv G i e)
  (hu:(∀e∈es,(MemAct.ofEvent e).touch? =none)\/(al0 lv m i=true/\∀k,k<es.size->deafBehind (Deaf T i) (es.extract 0 k)≠0)) (hus:∀j,al0 lv' m' j=true->al0 lv m j=true) (mc0:∃ρ,X6 ρ (V2 u w'.tape w'.drawn) w'/\∀b,¬X.low b->ρ b=X.w7 b) (be0:∀b,b≠G.blk->w'.heap[b]? =w.heap[b]?)
  (hq:q i=n+1) (Ma0:j8 P G lv' m' (T++MemOp.ofEvents i g.frame.fn g.frame.place es) i n g') (hl:∀j,j≠i->lv' j=lv j) (hm:m'=m\/((∀j,j≠i->∀s,m≠.last j s)/\∀j,j≠i->∀s,m'≠.last j s)) (Ax0:GAt G (Jk0 m' (count lv' gs.size)).1 (Jk0 m' (count lv' gs.size)).2 w')
  (jt0:posOf m' lv' gs.size) (kp0:count lv' gs.size <=count lv gs.size) :
  ∃L8 ops q',runT P (crowd gs w sl) i=(.next (crowd L8 w' sl),ops)/\L8.size=gs.size/\(∀g0,gs[0]? =some g0->L8[0]? =some (woken P g g' w' g0))/\Wr P X G u lv' m' d (T++ops) L8 w' q'/\sumTo L8.size q'<sumTo gs.size q:=by
 have J1:i<gs.size:=(Array.getElem?_eq_some_iff.1 hi).1;have hi0:(i==0)=false:=by simpa using N3
 have N2:((gs.map (woken P g g' w')).setIfInBounds i g').size=gs.size:=by simp
 refine⟨_,_,upd q i n,runT_crowd_go (sl:=sl) hi (by rw[hi0];exact S2),N2,fun g0 h0=>?_,⟨?_,C.J4,C.empty,fun x y hx hy=>?_,by rw[N2];exact Ax0,by rw[N2];exact jt0,by rw[N2];exact Nat.le_trans kp0 C.few⟩,?_⟩
 ·rw[Array.getElem?_setIfInBounds_ne N3,Array.getElem?_map,h0];rfl
 ·rw[N2];exact C.base.step (fn:=g.frame.fn) (pos:=g.frame.place) (G:=G) C.J4 J1 (C.empty i) hes (hu.imp id .inr) hus (fun j hj=>absurd (C.empty j) hj) (by rw[if_neg N3]) mc0 be0
 ·by_cases e:x=i
  ·subst e;rw[Array.getElem?_setIfInBounds_self_of_lt (by simpa using J1)]at hy;obtain rfl:=Option.some.inj hy;rw[upd_same];exact Ma0
  ·rw[Array.getElem?_setIfInBounds_ne (fun z=>e z.symm),Array.getElem?_map]at hy;obtain⟨y₀,hy₀,rfl⟩:=Option.map_eq_some_iff.1 hy;have h1:=C.idle x y₀ hx hy₀;rw[woken_of_again (again_of_running h1.status w'),upd_ne q n e];exact h1.other (fun z=>e z.symm) Q3 (hl x e) (hm.imp id fun z=>⟨z.1 x e,z.2 x e⟩)
 ·rw[N2];have h2:sumTo gs.size (upd q i n)+(n+1)=sumTo gs.size q+n:=by
   have:=sumTo_upd q n id J1;simpa [hq]using this
  omega
end
end
section
attribute [local irreducible] KK
theorem Hi0 {G:K7} {x:Nat}:∀e∈semEvents (smA G),GEv G x e:=by
 intro e he;simp only[semEvents,List.mem_toArray,List.mem_cons,List.not_mem_nil,or_false]at he;refine⟨fun b hb=>?_,by rcases he with rfl|rfl|rfl|rfl <;> simp⟩;rcases he with rfl|rfl|rfl|rfl <;> simp[MemAct.ofEvent,MemAct.touch?]at hb <;> subst hb <;> exact⟨⟨smA G,rfl,rfl,Nat.le_succ _⟩,by simp,fun _=>rfl⟩
theorem Bc0 {G:K7} (d:Nat):deafBehind d (semEvents (smA G))=d:=by
 simp[deafBehind,semEvents]
theorem Bd0 {G:K7} {d:Nat} (hd:0<d):∀k,k<(semEvents (smA G)).size->deafBehind d ((semEvents (smA G)).extract 0 k)≠0:=by
 intro k hk;have hk:k<4:=hk;rcases k with _|_|_|_|k <;> first|omega|(simp[semEvents,deafBehind];try omega)
theorem jv0 {d:Nat} {es:Array Event} (h:∀e∈es,e.loc≠.mark .disable/\e.loc≠.mark .enable) (k:Nat):deafBehind d (es.extract 0 k)=d :=
 deafBehind_still (fun e he=>h e (by
  obtain⟨j,hj,rfl⟩:=Array.mem_iff_getElem.1 he;simp only[Array.getElem_extract];exact Array.getElem_mem _)) d
theorem El0 {G:K7} {x:Nat}:∀e∈#[rdA (stA G)],GEv G x e:=by
 intro e he;simp only[List.mem_toArray,List.mem_cons,List.not_mem_nil,or_false]at he;subst he;refine⟨fun b hb=>?_,by simp[rdA]⟩;simp[rdA,MemAct.ofEvent,MemAct.touch?]at hb;subst hb;exact⟨⟨stA G,rfl,rfl,Nat.le_refl _⟩,by simp,fun _=>rfl⟩
theorem bm1 {G:K7} {x:Nat}:∀e∈#[wrA (stA G)],GEv G x e:=by
 intro e he;simp only[List.mem_toArray,List.mem_cons,List.not_mem_nil,or_false]at he;subst he;refine⟨fun b hb=>?_,by simp[wrA]⟩;simp[wrA,MemAct.ofEvent,MemAct.touch?]at hb;subst hb;exact⟨⟨stA G,rfl,rfl,Nat.le_refl _⟩,by simp,fun _=>rfl⟩
theorem Hj0 {a:Addr}:∀e∈#[rdA a,wrA a],e.loc≠.mark .disable/\e.loc≠.mark .enable:=by
 intro e he;simp only[List.mem_toArray,List.mem_cons,List.not_mem_nil,or_false]at he;rcases he with rfl|rfl <;> exact⟨by simp[rdA,wrA],by simp[rdA,wrA]⟩
theorem ku0 {a:Addr}:∀e∈#[rdA a],e.loc≠.mark .disable/\e.loc≠.mark .enable:=by
 intro e he;simp only[List.mem_toArray,List.mem_cons,List.not_mem_nil,or_false]at he;subst he;exact⟨by simp[rdA],by simp[rdA]⟩
theorem Be0 {a:Addr}:∀e∈#[wrA a],e.loc≠.mark .disable/\e.loc≠.mark .enable:=by
 intro e he;simp only[List.mem_toArray,List.mem_cons,List.not_mem_nil,or_false]at he;subst he;exact⟨by simp[wrA],by simp[wrA]⟩
section
variable {P:Program}{X:Gh}{G:K7}{u:World}{lv:Nat->Bool}{m:Md}{d:Nat}{T:Trace}{gs:Array Goroutine}{w:World}{q:Nat->Nat}
theorem Mg0 (P:Program) (g g':Goroutine) (w':World) (g0:Goroutine):woken P g g' w' g0=g0\/woken P g g' w' g0=g0.again w':=by
 unfold woken;split
 ·exact .inr rfl
 ·exact .inl rfl
theorem Wr.pf0 (C:Wr P X G u lv m d T gs w q) (v:Int):∃ρ,X6 ρ (V2 u (w.setCell (stA G) (.int .u64 v)).tape (w.setCell (stA G) (.int .u64 v)).drawn) (w.setCell (stA G) (.int .u64 v))/\∀b,¬X.low b->ρ b=X.w7 b:=by
 obtain⟨ρ,hs,hlw⟩:=C.base.sim;obtain⟨ρ',h1,h2⟩:=X6.setSt hs (C.base.cut G C.J4) C.gat v;exact⟨ρ',h1,fun b hb=>(h2 b fun e=>hb (e▸C.base.eu0 G C.J4)).trans (hlw b hb)⟩
theorem Wr.Mh0 (C:Wr P X G u lv m d T gs w q) (v:Int):∃ρ,X6 ρ (V2 u (w.setCell (smA G) (.int .u32 v)).tape (w.setCell (smA G) (.int .u32 v)).drawn) (w.setCell (smA G) (.int .u32 v))/\∀b,¬X.low b->ρ b=X.w7 b:=by
 obtain⟨ρ,hs,hlw⟩:=C.base.sim;obtain⟨ρ',h1,h2⟩:=X6.setSm hs (C.base.cut G C.J4) C.gat v;exact⟨ρ',h1,fun b hb=>(h2 b fun e=>hb (e▸C.base.eu0 G C.J4)).trans (hlw b hb)⟩
def Mi0 (P:Program) (X:Gh) (G:K7) (u:World) (lv:Nat->Bool) (m:Md) (d:Nat) (T:Trace) (gs:Array Goroutine) (w:World) (q:Nat->Nat) (i:Nat) (sl:Option (Nat×Nat)):Prop :=
 ∃L8 ops q' w' lv' m',runT P (crowd gs w sl) i=(.next (crowd L8 w' sl),ops)/\L8.size=gs.size/\(∀g0,gs[0]? =some g0->L8[0]? =some g0\/L8[0]? =some (g0.again w'))/\Wr P X G u lv' m' d (T++ops) L8 w' q'/\sumTo L8.size q'<sumTo gs.size q /\
   count lv' L8.size <=count lv gs.size/\(m= .free↔m'= .free)/\(m'= .done->m= .done\/∀g0,gs[0]? =some g0->L8[0]? =some (g0.again w'))
theorem Wr.by (C:Wr P X G u lv m d T gs w q) {i:Nat} {g:Goroutine} {sl:Option (Nat×Nat)} (hi:gs[i]? =some g) (N3:i≠0) (K3:g.status= .running) :
  Mi0 P X G u lv m d T gs w q i sl:=by
 have J1:i<gs.size:=(Array.getElem?_eq_some_iff.1 hi).1;have y5:=C.idle i g N3 hi;have pack:∀{g':Goroutine} {w':World} {lv':Nat->Bool} {m':Md} {es:Array Event},(∃L8 ops q',runT P (crowd gs w sl) i=(.next (crowd L8 w' sl),ops)/\L8.size=gs.size/\(∀g0,gs[0]? =some g0->L8[0]? =some (woken P g g' w' g0))/\Wr P X G u lv' m' d (T++ops) L8 w' q'/\sumTo L8.size q'<sumTo gs.size q) ->
   count lv' gs.size <=count lv gs.size->(m= .free↔m'= .free)->(m'= .done->m= .done\/∀g0,woken P g g' w' g0=g0.again w')->Mi0 P X G u lv m d T gs w q i sl:=by
  rintro g' w' lv' m' es ⟨L8,ops,q',h1,h2,h3,h4,h5⟩ hc hf hd;refine⟨L8,ops,q',w',lv',m',h1,h2,fun g0 h0=>?_,h4,h5,by rw[h2];exact hc,hf,fun e=>(hd e).imp id fun z g0 h0=>?_⟩
  ·rw[h3 g0 h0];rcases Mg0 P g g' w' g0 with e|e <;> rw[e]
   ·exact .inl rfl
   ·exact .inr rfl
  ·rw[h3 g0 h0,z g0]
 unfold j8 at y5;cases hl:lv i with
 |true=>
  rw[hl]at y5;simp only[if_true]at y5;have jt0:=count_le J1 hl;cases hq:q i with
  |zero=>rw[hq]at y5;exact y5.elim
  |succ k=>
   rw[hq]at y5;unfold Lt at y5;rcases y5 with⟨g',es,⟨_,hsy,y7⟩,hL⟩|⟨_,hd0,Ay0⟩
   ·refine pack (es:=es) (C.move (sl:=sl) hi N3 (y7 w _ _ C.gat) (fun e he=>pe0 (hsy e he)) (.inl fun e he=>fs0 (hsy e he)) (fun _ h=>h) C.base.sim (fun _ _=>rfl) hq ?_ (fun _ _=>rfl) (.inl rfl) C.gat C.pos (Nat.le_refl _)) (Nat.le_refl _) Iff.rfl fun e=>.inl e;unfold j8;rw[hl,if_pos rfl,Deaf_own];exact hL
   ·have kp0:=vl0 hl J1;generalize hv:count (upd lv i false) gs.size=v at kp0;have hvb:v<2147483647:=by have:=C.few;omega
    have hdf:al0 lv m i=true/\∀j,j < #[rdA (stA G),wrA (stA G)].size->deafBehind (Deaf T i) (#[rdA (stA G),wrA (stA G)].extract 0 j)≠0:=⟨by unfold al0;rw[hl];rfl,fun j _=>by rw[jv0 Hj0];omega⟩
    have hdd:Deaf (T++MemOp.ofEvents i g.frame.fn g.frame.place #[rdA (stA G),wrA (stA G)]) i=Deaf T i:=by rw[Deaf_own];exact deafBehind_still Hj0 _
    have hus:∀(m':Md),(∀j s,m'= .last j s->j=i)->(∀j s,m≠.last j s)->∀j,al0 (upd lv i false) m' j=true->al0 lv m j=true:=fun m' hm1 hm2 j hj=>by
     unfold al0 at hj⊢;by_cases e:j=i
     ·subst e;rw[hl];rfl
     ·rw[upd_ne lv false e]at hj;cases h2:lv j with
      |true=>rfl
      |false=>
       rw[h2]at hj;cases m' with
       |last j' s'=>have:=hm1 j' s' rfl;subst this;simp[e]at hj
       |_=>simp at hj
    cases m with
    |free=>
     obtain⟨g',y7,Az0,_⟩:=Ay0 v 0 (by omega) hvb;have hg:GAt G (((v+1)*KK+0:Nat):Int) 0 w:=by have:=C.gat;rw[kp0]at this;exact this
     have S2:=y7 w hg;rw[Nat.add_zero]at S2;refine pack (es:=#[rdA (stA G),wrA (stA G)]) (C.move (sl:=sl) (m':=.free) (lv':=upd lv i false) hi N3 S2 ih0 (.inr hdf) (hus .free (fun _ _ e=>by cases e) (fun _ _ e=>by cases e)) (C.pf0 _) (fun b hb=>X3 _ _ hb) hq ?_ (fun j hj=>upd_ne lv false hj) (.inl rfl) ?_ trivial (by omega)) (by omega) Iff.rfl fun e=>.inl e
     ·unfold j8;rw[upd_same,if_neg (by simp),hdd];exact Az0 (by omega)
     ·have:=C.gat.setSt ((v*KK:Nat):Int);rw[hv];exact this
    |wait=>
     obtain⟨g',y7,Az0,ig1⟩:=Ay0 v 1 (by omega) hvb;have hg:GAt G (((v+1)*KK+1:Nat):Int) 0 w:=by have:=C.gat;rw[kp0]at this;exact this
     have S2:=y7 w hg;by_cases hv0:v=0
     ·subst hv0;refine pack (es:=#[rdA (stA G),wrA (stA G)]) (C.move (sl:=sl) (m':=.last i 2) (lv':=upd lv i false) hi N3 S2 ih0 (.inr hdf) (hus (.last i 2) (fun j s e=>by cases e;rfl) (fun _ _ e=>by cases e)) (C.pf0 _) (fun b hb=>X3 _ _ hb) hq ?_ (fun j hj=>upd_ne lv false hj)
       (.inr ⟨fun j _ s e=>(by cases e),fun j hj s e=>(by cases e;exact hj rfl)⟩) ?_ ⟨hv,N3,J1,upd_same _ _ _,Nat.le_refl _⟩ (by omega)) (by omega) ⟨fun e=>(by cases e),fun e=>(by cases e)⟩ fun e=>by cases e
      ·unfold j8;rw[upd_same,if_neg (by simp)];simp only[if_true];rw[hdd];exact ig1 ⟨rfl,rfl⟩
      ·have:=C.gat.setSt ((0*KK+1:Nat):Int);have e1:((0*KK+1:Nat):Int)=1:=by rw[Nat.zero_mul];rfl
       rw[e1]at this⊢;exact this
     ·refine pack (es:=#[rdA (stA G),wrA (stA G)]) (C.move (sl:=sl) (m':=.wait) (lv':=upd lv i false) hi N3 S2 ih0 (.inr hdf) (hus .wait (fun _ _ e=>by cases e) (fun _ _ e=>by cases e)) (C.pf0 _) (fun b hb=>X3 _ _ hb) hq ?_ (fun j hj=>upd_ne lv false hj) (.inl rfl) ?_ (by show 0<count _ _;omega) (by omega)) (by omega) Iff.rfl fun e=>.inl e
      ·unfold j8;rw[upd_same,if_neg (by simp),hdd];exact Az0 (by omega)
      ·have:=C.gat.setSt ((v*KK+1:Nat):Int);rw[hv];exact this
    |last j s=>have:=C.pos.1;omega
    |done=>have:count lv gs.size=0:=C.pos;omega
 |false=>
  rw[hl]at y5;simp only[Bool.false_eq_true,if_false]at y5;have quit:QuitsD P (q i) (Deaf T i) g->(∀s,m≠.last i s)->Mi0 P X G u lv m d T gs w q i sl:=fun hQ hml=>by
   cases hq:q i with
   |zero=>rw[hq]at hQ;rw[hQ.1]at K3;cases K3
   |succ k=>
    rw[hq]at hQ;rcases hQ with⟨hf,_⟩|⟨_,g',es,hm,y7,hQ⟩
    ·rw[hf]at K3;cases K3
    ·refine pack (es:=es) (C.move (sl:=sl) hi N3 (y7 w) (fun e he=>Me0 (hm e he)) (.inl fun e he=>touch_mute (hm e he)) (fun _ h=>h) C.base.sim (fun _ _=>rfl) hq ?_ (fun _ _=>rfl) (.inl rfl) C.gat C.pos (Nat.le_refl _)) (Nat.le_refl _) Iff.rfl fun e=>.inl e;unfold j8;rw[hl,if_neg (by simp),Deaf_own];cases m with
     |last j s=>simp only;rw[if_neg (fun e=>hml s (by rw[e]))];exact hQ
     |_=>exact hQ
  cases m with
  |last j s=>
   simp only at y5;by_cases hij:i=j
   ·subst hij;rw[if_pos rfl]at y5;obtain⟨hc0,_,_,_,hs2⟩:=C.pos;have bn1:al0 lv (.last i s) i=true:=by unfold al0;simp
    cases hq:q i with
    |zero=>rw[hq]at y5;exact y5.elim
    |succ k=>
     rw[hq]at y5;unfold Lst at y5;obtain⟨hd0,y5⟩:=y5;rcases y5 with⟨g',es,⟨_,hsy,y7⟩,hnm,hL⟩|⟨_,y5⟩
     ·refine pack (es:=es) (C.move (sl:=sl) hi N3 (y7 w _ _ C.gat) (fun e he=>pe0 (hsy e he)) (.inl fun e he=>fs0 (hsy e he)) (fun _ h=>h) C.base.sim (fun _ _=>rfl) hq ?_ (fun _ _=>rfl) (.inl rfl) C.gat C.pos (Nat.le_refl _)) (Nat.le_refl _) Iff.rfl fun e=>.inl e;unfold j8;rw[hl,if_neg (by simp)];simp only[if_true];rw[Deaf_own,deafBehind_still hnm];exact hL
     ·rcases s with _|_|_|s
      ·
       simp only at y5;obtain⟨hwk,g',y7,hQ⟩:=y5;have S2:=y7 w C.gat;refine pack (es:=semEvents (smA G)) (C.move (sl:=sl) (m':=.done) (lv':=lv) hi N3 S2 Hi0 (.inr ⟨bn1,Bd0 hd0⟩) (fun j hj=>by unfold al0 at hj⊢;simp at hj;rw[hj];rfl) (C.Mh0 _) (fun b hb=>X3 _ _ hb) hq ?_ (fun _ _=>rfl) (.inr ⟨fun j hj s e=>(by cases e;exact hj rfl),fun j _ s e=>(by cases e)⟩) (C.gat.setSm _) hc0 (Nat.le_refl _)) (Nat.le_refl _) ⟨fun e=>(by cases e),fun e=>(by cases e)⟩ fun _=>.inr fun g0=>?_
       ·unfold j8;rw[hl,if_neg (by simp),Deaf_own,Bc0];exact hQ
       ·unfold woken;rw[if_pos];rw[hwk];rcases hQ.status with e|e <;> rw[e] <;> rfl
      ·simp only at y5;obtain⟨g',y7,hL⟩:=y5;have S2:=y7 w C.gat;refine pack (es:=#[wrA (stA G)]) (C.move (sl:=sl) (m':=.last i 0) (lv':=lv) hi N3 S2 bm1 (.inr ⟨bn1,fun j _=>by rw[jv0 Be0];omega⟩) (fun j hj=>hj) (C.pf0 _) (fun b hb=>X3 _ _ hb) hq ?_ (fun _ _=>rfl) (.inr ⟨fun j hj s e=>(by cases e;exact hj rfl),fun j hj s e=>(by cases e;exact hj rfl)⟩) (C.gat.setSt _) ⟨hc0,N3,J1,hl,by omega⟩ (Nat.le_refl _)) (Nat.le_refl _) ⟨fun e=>(by cases e),fun e=>(by cases e)⟩ fun e=>by cases e
       unfold j8;rw[hl,if_neg (by simp)];simp only[if_true];rw[Deaf_own,deafBehind_still Be0];exact hL
      ·simp only at y5;obtain⟨g',y7,hL⟩:=y5;have S2:=y7 w C.gat;refine pack (es:=#[rdA (stA G)]) (C.move (sl:=sl) (m':=.last i 1) (lv':=lv) hi N3 S2 El0 (.inr ⟨bn1,fun j _=>by rw[jv0 ku0];omega⟩) (fun j hj=>hj) C.base.sim (fun b hb=>rfl) hq ?_ (fun _ _=>rfl) (.inr ⟨fun j hj s e=>(by cases e;exact hj rfl),fun j hj s e=>(by cases e;exact hj rfl)⟩) C.gat ⟨hc0,N3,J1,hl,by omega⟩ (Nat.le_refl _)) (Nat.le_refl _) ⟨fun e=>(by cases e),fun e=>(by cases e)⟩ fun e=>by cases e
       unfold j8;rw[hl,if_neg (by simp)];simp only[if_true];rw[Deaf_own,deafBehind_still ku0];exact hL
      ·omega
   ·rw[if_neg hij]at y5;exact quit y5 fun s' e=>by cases e;exact hij rfl
  |free=>exact quit y5 fun s e=>by cases e
  |wait=>exact quit y5 fun s e=>by cases e
  |done=>exact quit y5 fun s e=>by cases e
end
end
section
attribute [local irreducible] KK
theorem pg0 {lv:Nat->Bool}:∀{n:Nat},0<count lv n->∃i,i<n/\lv i=true
 |0,h=>by simp[count,sumTo]at h
 |n+1,h=>by
  cases e:lv n with
  |true=>exact⟨n,by omega,e⟩
  |false=>
   have:count lv (n+1)=count lv n:=by
    show sumTo n _+(if lv n then 1 else 0)=_;rw[e];rfl
   obtain⟨i,h1,h2⟩:=pg0 (n:=n) (by rw[<- this];exact h);exact⟨i,by omega,h2⟩
theorem ph0 (lv:Nat->Bool):al0 lv .free=lv:=funext fun i=>by unfold al0;simp
section
variable {P:Program}{Post:Value->World->Prop}{X:Gh}{G:K7}{u:World}{lv:Nat->Bool}{m:Md}{d:Nat}{T:Trace}{gs:Array Goroutine}{w:World}{q:Nat->Nat}{K:Goroutine->Prop}
theorem Fin.we (hG:X.J4=some G) (hK:∀g,K g->Fin P Post {X with pend:=0,cap:=0,dn:=0} 0 g u):∀(n d:Nat) (g:Goroutine),WE P G K n d g->Fin P Post {X with pend:=0,cap:=0,dn:=d} 0 g u
 |0,d,g,h=>by obtain⟨rfl,h⟩:=h;exact hK g h
 |n+1,d,g,h=>by
  rcases h with⟨rfl,h⟩|⟨g',es,hr,hes,S2,h⟩
  ·exact hK g h
  ·refine Fin.dk0 hr fun live T gs w sl dd sl' q hg y7 C=>?_;have X7:=(C.J4 G hG).2;have ry0:=C.few;have hc:count live gs.size=0:=by have h1:count live gs.size+0 <=0:=ry0.1;omega
   have hz:(((count live gs.size+0)*KK:Nat):Int)=0:=by rw[hc,Nat.zero_add,Nat.zero_mul];rfl
   have ps1:GAt G 0 0 (w.at dd):=by have h2:GAt G (((count live gs.size+0)*KK:Nat):Int) 0 (w.at dd):=X7;rw[hz]at h2;exact h2
   obtain⟨C',B5⟩:=C.main hG (g:=g) (g':=g') (pend:=0) (cap:=0) hes (w':=w.at dd) C.sim (fun _ _=>rfl) X7 ry0;exact Ends.step (y7.trans (runT_crowd_go (sl:=sl') (i:=0) hg (S2 _ ps1))) (Fin.we hG hK n _ g' h _ _ _ _ _ _ B5 C')
theorem Wr.toRing (C:Wr P X G u lv .free d T gs w q) (hc:count lv gs.size=0):Ring P {X with pend:=0,cap:=0,dn:=d} 0 u lv T gs w q:=by
 have B:=C.base;rw[ph0]at B;refine B.ring (fun i g hi hg=>?_) (fun G' e=>?_) ⟨?_,by show(0:Nat) <=65536;omega⟩
 ·have:=C.idle i g hi hg;have J1:i<gs.size:=(Array.getElem?_eq_some_iff.1 hg).1;have hl:lv i=false:=by
   cases e:lv i with
   |false=>rfl
   |true=>have:=count_le J1 e;omega
  unfold j8 at this;unfold Idle;rw[show({X with pend:=0,cap:=0,dn:=d}:Gh).W1 i=none from C.empty i];rw[hl]at this⊢;simp only[Bool.false_eq_true,if_false]at this⊢;exact⟨by omega,this⟩
 ·have e':X.J4=some G':=e;rw[C.J4]at e';obtain rfl:=Option.some.inj e';have:=C.gat;exact this
 ·show count lv gs.size+0 <=0;omega
theorem Wr.at (C:Wr P X G u lv m d T gs w q) (k:Nat):Wr P X G u lv m d T gs (w.at k) q :=
 ⟨⟨let⟨ρ,hs,hl⟩:=C.base.sim;⟨ρ,X6.at hs k,hl⟩,C.base.free,C.base.size,C.base.num,C.base.stays,C.base.chans,C.base.L4,C.base.inj,C.base.y5,C.base.eu0,C.base.bd0,C.base.cut,C.base.old,C.base.above,C.base.ho0,C.base.ef0,C.base.dfn,C.base.past⟩,C.J4,C.empty,C.idle,C.gat,C.pos,C.few⟩
theorem Wr.awake (C:Wr P X G u lv m d T gs w q) {a:Goroutine} (ha:gs[0]? =some a) (hs:a.status= .running\/a.status= .blocked):∀g∈gs,awake g:=by
 intro g hg;obtain⟨i,hi,rfl⟩:=Array.mem_iff_getElem.1 hg;by_cases e:i=0
 ·subst e;have:gs[0]=a:=by simpa [Array.getElem?_eq_getElem hi]using ha
  rw[this];exact awake_of (hs.elim .inl fun x=>.inr (.inl x))
 ·exact awake_of ((C.idle i _ e (Array.getElem?_eq_getElem hi)).status.elim .inl fun x=>.inr (.inr x))
theorem Wr.main (C:Wr P X G u lv m d T gs w q) {g g':Goroutine} {es:Array Event} {w':World} {m':Md} (hes:∀e∈es,GEv G 0 e) (mc0:∃ρ,X6 ρ (V2 u w'.tape w'.drawn) w'/\∀b,¬X.low b->ρ b=X.w7 b) (be0:∀b,b≠G.blk->w'.heap[b]? =w.heap[b]?)
  (hm:m'=m\/((∀j s,m≠.last j s)/\∀j s,m'≠.last j s)) (Ax0:GAt G (Jk0 m' (count lv gs.size)).1 (Jk0 m' (count lv gs.size)).2 w') (jt0:posOf m' lv gs.size) :
  Wr P X G u lv m' (deafBehind d es) (T++MemOp.ofEvents 0 g.frame.fn g.frame.place es) ((gs.map (woken P g g' w')).setIfInBounds 0 g') w' q/\((gs.map (woken P g g' w')).setIfInBounds 0 g')[0]? =some g':=by
 have N2:((gs.map (woken P g g' w')).setIfInBounds 0 g').size=gs.size:=by simp
 have hus:∀j,al0 lv m' j=true->al0 lv m j=true:=fun j hj=>by
  rcases hm with rfl|⟨h1,h2⟩
  ·exact hj
  ·unfold al0 at hj⊢;cases m' with
   |last j s=>exact absurd rfl (h2 j s)
   |_=>simp at hj;rw[hj];rfl
 refine⟨⟨?_,C.J4,C.empty,fun x y hx hy=>?_,by rw[N2];exact Ax0,by rw[N2];exact jt0,by rw[N2];exact C.few⟩,Array.getElem?_setIfInBounds_self_of_lt (by simpa using C.base.size)⟩
 ·rw[N2];exact C.base.step (fn:=g.frame.fn) (pos:=g.frame.place) (G:=G) C.J4 C.base.size (C.empty 0) hes (.inr (.inl rfl)) hus (fun j hj=>absurd (C.empty j) hj) (by rw[if_pos rfl]) mc0 be0
 ·rw[Array.getElem?_setIfInBounds_ne (fun z=>hx z.symm),Array.getElem?_map]at hy;obtain⟨y₀,hy₀,rfl⟩:=Option.map_eq_some_iff.1 hy;have h1:=C.idle x y₀ hx hy₀;rw[woken_of_again (again_of_running h1.status w')];exact h1.other (fun z=>hx z.symm) Q3 rfl (hm.imp id fun z=>⟨z.1 x,z.2 x⟩)
theorem again_blocked {g:Goroutine} (hr:g.status= .running) (ho:g.offers=none) (w:World):({g with status:=.blocked}:Goroutine).again w=g:=by
 cases g;simp only at hr ho;subst hr;subst ho;rfl
theorem Fin.sem (hG:X.J4=some G) (hK:∀g,K g->Fin P Post {X with pend:=0,cap:=0,dn:=0} 0 g u):∀(μ n d:Nat) (g:Goroutine) (b:Bool) lv m T gs w sl q,μ=3*sumTo gs.size q+3*n+(if b then 1 else 0)->Wr P X G u lv m d T gs w q->m≠.free ->
  (if b then gs[0]? =some g/\WS P G (WE P G K) n d g else m≠.done/\gs[0]? =some {g with status:=.blocked}/\∃k,n=k+1/\0<d/\Yx0 P G (WE P G K) k d g)->Ends P Post (crowd gs w sl) T:=by
 intro μ
 induction μ using Nat.strongRecOn with
 |_ μ ih=>
  intro n d g b lv m T gs w sl q hμ C hmf hb;have Yy0:(∃(i:Nat) (g:Goroutine),gs[i]? =some g/\g.status= .running)/\∀g∈gs,awake g:=by
   cases b with
   |true=>
    obtain⟨h0,hW⟩:=hb;have hr:g.status= .running:=by
     cases n with
     |zero=>exact hW.elim
     |succ n=>
      rcases hW with⟨_,_,hh,_⟩|⟨_,hh⟩
      ·exact hh.1
      ·exact hh.1
    exact⟨⟨0,g,h0,hr⟩,C.awake h0 (.inl hr)⟩
   |false=>
    obtain⟨hmd,h0,k,_,_,_⟩:=hb;refine⟨?_,C.awake h0 (.inr rfl)⟩;cases m with
    |free=>exact absurd rfl hmf
    |done=>exact absurd rfl hmd
    |wait=>
     obtain⟨i,hi,hl⟩:=pg0 (show 0<count lv gs.size from C.pos);have hi0:i≠0:=(C.base.ho0 i (by unfold al0;rw[hl];rfl)).1;have:=C.idle i gs[i] hi0 (Array.getElem?_eq_getElem hi);unfold j8 at this;rw[hl,if_pos rfl]at this;exact⟨i,gs[i],Array.getElem?_eq_getElem hi,this.running⟩
    |last i s=>
     obtain⟨_,hi0,hi,hl,_⟩:=C.pos;have:=C.idle i gs[i] hi0 (Array.getElem?_eq_getElem hi);unfold j8 at this;rw[hl,if_neg (by simp)]at this;simp only[if_true]at this;exact⟨i,gs[i],Array.getElem?_eq_getElem hi,this.running⟩
  obtain⟨i,gi,dd,sl',hi,hgi,S2⟩:=crowd_pick (P:=P) (w:=w) (sl:=sl) Yy0.2 Yy0.1;have Cd:=C.at dd;by_cases e:i=0
  ·subst e;cases b with
   |false=>obtain⟨_,h0,_⟩:=hb;rw[h0]at hi;obtain rfl:=Option.some.inj hi;cases hgi
   |true=>
    obtain⟨h0,hW⟩:=hb;rw[h0]at hi;obtain rfl:=Option.some.inj hi;cases n with
    |zero=>exact hW.elim
    |succ n=>
     rcases hW with⟨g',es,⟨_,_,hes,y7⟩,hW⟩|⟨hd0,hr,ho,Jl0,g',ii1,hE⟩
     ·obtain⟨C',B5⟩:=Cd.main (g:=g) (g':=g') (m':=m) hes Cd.base.sim (fun _ _=>rfl) (.inl rfl) Cd.gat Cd.pos;exact Ends.step (S2.trans (runT_crowd_go (sl:=sl') (i:=0) h0 (y7 _ _ _ Cd.gat))) (ih _ (by simp only[Array.size_setIfInBounds,Array.size_map];rw[hμ];simp only[if_true];omega) n _ g' true lv m _ _ _ sl' q rfl C' hmf ⟨B5,hW⟩)
     ·have blk:m≠.done->(∃st,GAt G st 0 (w.at dd))->Ends P Post (crowd gs w sl) T:=fun hmd ⟨st,X7⟩=>by
       have hgo:=Jl0 _ _ X7;have hrt:=runT_crowd_go (P:=P) (sl:=sl') (i:=0) h0 hgo;rw[show(MemOp.ofEvents 0 g.frame.fn g.frame.place #[]:Array MemOp)=#[] from rfl]at hrt;obtain⟨C',B5⟩:=Cd.main (g:=g) (g':={g with status:=.blocked}) (es:=#[]) (m':=m) (fun e he=>by simp at he) Cd.base.sim (fun _ _=>rfl) (.inl rfl) Cd.gat Cd.pos;rw[show(MemOp.ofEvents 0 g.frame.fn g.frame.place #[]:Array MemOp)=#[] from rfl]at C';exact Ends.step (S2.trans hrt) (ih _ (by simp only[Array.size_setIfInBounds,Array.size_map];rw[hμ];simp) (n+1) d g false lv m _ _ _ sl' q rfl C' hmf ⟨hmd,B5,n,rfl,hd0,hr,ho,Jl0,g',ii1,hE⟩)
      cases m with
      |free=>exact absurd rfl hmf
      |wait=>exact blk (fun e=>by cases e) ⟨_,Cd.gat⟩
      |last i s=>exact blk (fun e=>by cases e) (by
        have:=Cd.gat;cases s with
        |zero=>exact⟨_,this⟩
        |succ s=>exact⟨_,this⟩)
      |done=>
       obtain⟨C',B5⟩:=Cd.main (g:=g) (g':=g') (es:=semEvents (smA G)) (m':=.free) (w':=(w.at dd).setCell (smA G) (.int .u32 0)) Hi0 (Cd.Mh0 0) (fun b hb=>X3 _ _ hb) (.inr ⟨fun j s e=>(by cases e),fun j s e=>(by cases e)⟩)
        (by
         have h1:count lv gs.size=0:=Cd.pos;have h2:GAt G 0 0 _:=Cd.gat.setSm 0;have h3:(((count lv gs.size)*KK:Nat):Int)=0:=by rw[h1,Nat.zero_mul];rfl
         show GAt G (((count lv gs.size)*KK:Nat):Int) 0 _;rw[h3];exact h2) trivial
       rw[Bc0]at C';have R:=C'.toRing (by simp only[Array.size_setIfInBounds,Array.size_map];exact Cd.pos);exact Ends.step (S2.trans (runT_crowd_go (sl:=sl') (i:=0) h0 (ii1 _ Cd.gat))) (Fin.we hG hK n d g' hE _ _ _ _ sl' _ B5 R)
  ·obtain⟨L8,ops,q',w',lv',m',hrt,N2,h0',C',J1,_,Mj0,ij1⟩:=Cd.by (sl:=sl') hi e hgi
   have bo1:m'≠.free:=fun e=>hmf (Mj0.2 e);refine Ends.step (S2.trans hrt) ?_;cases b with
   |true=>
    obtain⟨h0,hW⟩:=hb;have hr:g.status= .running:=by
     cases n with
     |zero=>exact hW.elim
     |succ n=>
      rcases hW with⟨_,_,hh,_⟩|⟨_,hh⟩
      ·exact hh.1
      ·exact hh.1
    refine ih _ (by rw[hμ];simp only[if_true];omega) n d g true lv' m' _ L8 w' sl' q' rfl C' bo1 ⟨?_,hW⟩;rcases h0' g h0 with z|z
    ·exact z
    ·rw[again_of_running (.inl hr)]at z;exact z
   |false=>
    obtain⟨hmd,h0,k,hk,hd0,Un0⟩:=hb;have hA:L8[0]? =some (({g with status:=.blocked}:Goroutine).again w')->Ends P Post (crowd L8 w' sl') (T++ops):=fun z=>by
     rw[again_blocked Un0.1 Un0.2.1]at z;exact ih _ (by rw[hμ];simp only[if_true];simp;omega) n d g true lv' m' _ L8 w' sl' q' rfl C' bo1 ⟨z,by rw[hk];exact .inr ⟨hd0,Un0⟩⟩
    by_cases hdn:m'= .done
    ·exact hA ((ij1 hdn).resolve_left hmd _ h0)
    ·rcases h0' _ h0 with z|z
     ·exact ih _ (by rw[hμ];simp;omega) n d g false lv' m' _ L8 w' sl' q' rfl C' bo1 ⟨hdn,z,k,hk,hd0,Un0⟩
     ·exact hA z
end
end
section
attribute [local irreducible] KK
section
variable {P:Program}{Post:Value->World->Prop}{X:Gh}{G:K7}{u:World}{K:Goroutine->Prop}
theorem Fin.head (hG:X.J4=some G) (hK:∀g,K g->Fin P Post {X with pend:=0,cap:=0,dn:=0} 0 g u):∀(μ n:Nat) (o:Option Nat) (V d:Nat) (g:Goroutine) lv T gs w sl q,μ=n+sumTo gs.size q->Wr P X G u lv .free d T gs w q->gs[0]? =some g->WH P G (WE P G K) n o V d g->0<d\/True ->
  (match o with|none=>count lv gs.size <=V|some vs=>0<vs/\count lv gs.size <=vs)->Ends P Post (crowd gs w sl) T:=by
 intro μ
 induction μ using Nat.strongRecOn with
 |_ μ ih=>
  intro n o V d g lv T gs w sl q hμ C h0 hW _ hV;cases n with
  |zero=>exact hW.elim
  |succ n=>
   have hr:g.status= .running:=by
    unfold WH at hW;rcases hW with⟨_,_,hh,_⟩|hh
    ·exact hh.1
    ·exact hh.1
   obtain⟨i,gi,dd,sl',hi,hgi,S2⟩:=crowd_pick (P:=P) (w:=w) (sl:=sl) (C.awake h0 (.inl hr)) ⟨0,g,h0,hr⟩;have Cd:=C.at dd;by_cases e:i=0
   ·subst e;rw[h0]at hi;obtain rfl:=Option.some.inj hi;have X7:GAt G ((count lv gs.size*KK:Nat):Int) 0 (w.at dd):=Cd.gat;unfold WH at hW;rcases hW with⟨g',es,⟨_,_,hes,y7⟩,hW⟩|⟨_,hW⟩
    ·obtain⟨C',B5⟩:=Cd.main (g:=g) (g':=g') (m':=.free) hes Cd.base.sim (fun _ _=>rfl) (.inl rfl) Cd.gat Cd.pos;exact Ends.step (S2.trans (runT_crowd_go (sl:=sl') (i:=0) h0 (y7 _ _ _ Cd.gat))) (ih _ (by simp only[Array.size_setIfInBounds,Array.size_map];omega) n o V _ g' lv _ _ _ sl' q rfl C' B5 hW (.inr trivial) (by simpa using hV))
    ·have Mk0:∀g',stepG P true g (w.at dd)= .go g' (w.at dd) #[rdA (stA G)]->(∀T' L8,Wr P X G u lv .free d T' L8 (w.at dd) q->L8.size=gs.size->L8[0]? =some g'->Ends P Post (crowd L8 (w.at dd) sl') T')->Ends P Post (crowd gs w sl) T:=fun g' hgo hk=>by
      obtain⟨C',B5⟩:=Cd.main (g:=g) (g':=g') (es:=#[rdA (stA G)]) (m':=.free) El0 Cd.base.sim (fun _ _=>rfl) (.inl rfl) Cd.gat Cd.pos;rw[deafBehind_still ku0]at C';exact Ends.step (S2.trans (runT_crowd_go (sl:=sl') (i:=0) h0 hgo)) (hk _ _ C' (by simp) B5)
     cases o with
     |none=>
      have hV':count lv gs.size <=V:=hV;obtain⟨g',y7,hz,hnz⟩:=hW (count lv gs.size) hV';refine Mk0 g' (y7 _ X7) fun T' L8 C' N2 B5=>?_;by_cases hc:count lv gs.size=0
      ·exact Fin.we hG hK n d g' (hz hc) _ _ _ _ sl' _ B5 (C'.toRing (by rw[N2];exact hc))
      ·exact ih _ (by rw[N2];omega) n (some (count lv gs.size)) V d g' lv T' L8 _ sl' q rfl C' B5 (hnz hc) (.inr trivial) ⟨by omega,by rw[N2];exact Nat.le_refl _⟩
     |some vs=>
      obtain⟨hvs,hle⟩:=hV;obtain⟨⟨g1,Uo0,hS⟩,ik1⟩:=hW;by_cases hc:count lv gs.size=vs
      ·subst hc;obtain⟨C',B5⟩:=Cd.main (g:=g) (g':=g1) (es:=#[rdA (stA G),wrA (stA G)]) (m':=.wait) ih0 (Cd.pf0 ((count lv gs.size*KK+1:Nat):Int)) (fun b hb=>X3 _ _ hb) (.inr ⟨fun j s e=>(by cases e),fun j s e=>(by cases e)⟩) (Cd.gat.setSt _) hvs;rw[vt0]at C';exact Ends.step (S2.trans (runT_crowd_go (sl:=sl') (i:=0) h0 (Uo0 _ X7))) (Fin.sem hG hK _ n d g1 true lv .wait _ _ _ sl' q rfl C' (fun e=>(by cases e)) ⟨B5,hS⟩)
      ·obtain⟨g',y7,hH⟩:=ik1 (count lv gs.size) (by omega);refine Mk0 g' (y7 _ X7) fun T' L8 C' N2 B5=>?_;exact ih _ (by rw[N2];omega) n none (count lv gs.size) d g' lv T' L8 _ sl' q rfl C' B5 hH (.inr trivial) (by rw[N2];exact Nat.le_refl _)
   ·obtain⟨L8,ops,q',w',lv',m',hrt,N2,h0',C',J1,r7,Mj0,_⟩:=Cd.by (sl:=sl') hi e hgi
    have hmf:m'= .free:=Mj0.1 rfl;subst hmf;refine Ends.step (S2.trans hrt) (ih _ (by omega) (n+1) o V d g lv' _ L8 w' sl' q' rfl C' ?_ hW (.inr trivial) ?_)
    ·rcases h0' g h0 with z|z
     ·exact z
     ·rw[again_of_running (.inl hr)]at z;exact z
    ·cases o with
     |none=>exact Nat.le_trans r7 hV
     |some vs=>exact⟨hV.1,Nat.le_trans r7 hV.2⟩
theorem Fin.wait {g:Goroutine} {n:Nat} (hG:X.J4=some G) (hno:∀i,X.W1 i=none) (hp:X.pend=0) (hd:X.dn=0) (hW:WH P G (WE P G K) n none X.cap 0 g) (hK:∀g,K g->Fin P Post {X with pend:=0,cap:=0,dn:=0} 0 g u):Fin P Post X 0 g u:=by
 intro live T gs w sl q hg C;have X7:=(C.J4 G hG).2;have ry0:=C.few;rw[hp,Nat.add_zero]at X7 ry0;have B:=C.base;refine Fin.head hG hK _ n none X.cap 0 g live T gs w sl q rfl ⟨?_,hG,hno,fun i y hi hy=>?_,X7,trivial,by omega⟩ hg hW (.inr trivial) ry0.1
 ·rw[ph0];exact⟨B.sim,B.free,B.size,B.num,B.stays,B.chans,B.L4,B.inj,B.y5,B.eu0,B.bd0,B.cut,B.old,B.above,B.ho0,B.ef0,B.dfn.trans hd,by
   have:=B.past;refine this.fewer fun x hx=>?_;rcases hx with⟨e,_⟩|hx
   ·exact .inl ⟨e,hd⟩
   ·exact .inr hx⟩
 ·have:=C.idle i y hi hy;unfold Idle at this;rw[hno i]at this;unfold j8;obtain⟨_,this⟩:=this;cases e:live i with
  |true=>
   rw[e]at this;simp only[if_true]at this⊢;obtain⟨G',hG',hL⟩:=this;rw[hG]at hG';obtain rfl:=Option.some.inj hG';exact hL
  |false=>
   rw[e]at this;simp only[Bool.false_eq_true,if_false]at this⊢;exact this
end
end
section
attribute [local irreducible] KK
def ht0 (w:World):World:={w with heap:=w.heap.map fun o=>if Q4 o then nothing else o}
def X0 (w:World):Gh where
 W1:=fun _=>none
 stay:=fun _=>[]
 J4:=none
 old:=[]
 y5:=fun _=>none
 chs:=fun _=>False
 low:=fun _=>False
 w7:=fun b=>match w.heap[b]? with
  |some o=>if Q4 o then .gone o else .all
  |none=>.all
 cap:=0
 pend:=0
 dn:=0
 n:=1
theorem Ml0 (w:World) (n:Nat):(X0 w).ev0 n :=
 ⟨fun _ _ h=>(by cases h),fun _ _ h=>(by cases h),fun _ h=>h.elim,fun _ h=>h.elim (fun z=>(by cases z)) fun z=>(by cases z),fun _ h=>h.elim⟩
theorem Hk0 {w:World} {b:Nat} (h:w.heap.size <=b):(X0 w).w7 b= .all:=by
 show(match w.heap[b]? with|some o=>if Q4 o then C7.gone o else .all|none=>.all)=_;rw[Array.getElem?_eq_none h]
theorem Mm0 {w:World} {b:Nat} {o:Obj} (h:w.heap[b]? =some o) (hv:Q4 o=false):(ht0 w).heap[b]? =some o:=by
 show(w.heap.map _)[b]? =_;rw[Array.getElem?_map,h];simp[hv]
theorem Mn0 (w:World):X6 (X0 w).w7 (V2 (ht0 w) w.tape w.drawn) w:=by
 refine⟨rfl,rfl,rfl,rfl,by simp[V2,ht0],fun b x hx=>?_,fun b hb=>Hk0 (by simpa [V2,ht0]using hb),fun b x hx=>?_⟩
 ·have V5:(w.heap.map fun o=>if Q4 o then nothing else o)[b]? =some x:=hx;rw[Array.getElem?_map]at V5;obtain⟨o,ho,rfl⟩:=Option.map_eq_some_iff.1 V5;refine⟨o,ho,?_⟩;show fr0 (match w.heap[b]? with|some o=>if Q4 o then C7.gone o else .all|none=>.all) _ _;rw[ho];cases hv:Q4 o
  ·simp only[hv,Bool.false_eq_true,if_false];exact .same o
  ·simp only[hv,if_true];exact .gone _ _ _
 ·have V5:(w.heap.map fun o=>if Q4 o then nothing else o)[b]? =some x:=hx;rw[Array.getElem?_map]at V5;obtain⟨o,ho,rfl⟩:=Option.map_eq_some_iff.1 V5;cases hv:Q4 o
  ·simp[hv]
  ·simp[nothing,Q4]
theorem Fin.start {P:Program} {Post:Value->World->Prop} {g:Goroutine} {w:World} (hF:Fin P Post (X0 w) 0 g (ht0 w)):Ends P Post (solo g w) #[]:=by
 rw[solo_eq_crowd];have hno:∀i a,touchAt (#[]:Trace) i=some a->False:=fun i a h=>by simp[touchAt,Trace.act?]at h
 refine hF (fun _=>false) #[] #[g] w none (fun _=>0) rfl ⟨⟨_,Mn0 w,fun _ _=>rfl⟩,fun i y hi hy=>?_,rfl,by simp,rfl,fun _ _ h=>(by cases h),fun _ h=>h.elim,fun _ _ h=>(by cases h),fun _ _ _ _ h=>(by cases h),fun _ _ h=>(by cases h),fun _ h=>(by cases h),⟨fun _ h=>h.elim,fun _ h=>h.elim (fun z=>(by cases z)) fun z=>(by cases z)⟩,fun _ h=>(by cases h),fun _ h=>(by cases h),
  fun j hj=>⟨rfl,rfl,rfl,rfl⟩,⟨Nat.le_refl _,by show(0:Nat) <=65536;omega⟩,fun _ h=>(by cases h),fun i hi h=>h.elim (fun z=>absurd rfl z) fun z=>absurd z hi,rfl,⟨fun said=>?_,fun i a h=>(hno i a h).elim,fun i a h=>(hno i a h).elim,fun g' hg'=>rfl,fun i a g' h=>(hno i a h).elim⟩⟩
 ·have:i=0:=by
   have:=(Array.getElem?_eq_some_iff.1 hy).1;simp at this;omega
  exact absurd this hi
 ·rintro⟨i,j,_,⟨a,b,ha,_⟩,_⟩;exact hno i a ha
end
end Go.Yc
end
section
namespace Go.Vy
open Go Go.Conc Go.Yc
inductive Out where
 |val (v:Value)
 |skip
 |enter (f:FuncId) (args:Array Value)
 |panic (v:Value)
def Out.res:Out->World->Result Next
 | .val v,w=>.ok (.value v) w
 | .skip,w=>.ok .skip w
 | .enter f args,w=>.ok (.enter f args) w
 | .panic v,w=>.halt (.panic v) w
def Bf0 (P:Program) (S:Sem Next) (u:World) (r:Out) (u':World):Prop :=
 ∀ρ x,X6 ρ u x->Evo u u'/\∃x' es,S.runT P x #[]=(r.res x',es)/\X6 ρ u' x'/\∀e∈es,kq0 u e
structure Does (P:Program) (S:Sem Next) (u:World) (r:Out) (u':World):Prop where
 tape:u'.tape=u.tape
 drawn:u'.drawn=u.drawn
 go:∀τ d,Bf0 P S (V2 u τ d) r (V2 u' τ d)
theorem Out.At0 (r:Out) (w:World):At0 (r.res w):=by cases r <;> trivial
theorem Up0 (r:Out) (w w':World):atW (r.res w) w'=r.res w':=by cases r <;> rfl
theorem Jn0 (r:Out) (w:World):kr0 (r.res w)=w:=by cases r <;> rfl
theorem jp0 {P:Program} {S:Sem Next} {u u':World} {r:Out} (ht:j1 P S) (hr:S.run P u=r.res u'):Bf0 P S u r u':=by
 intro ρ x hs;have h1:(S.runT P u #[]).1=r.res u':=by rw[Sem.runT_eq];exact hr
 have hf:Yc.At0 (S.runT P u #[]).1:=by rw[h1];exact r.At0 u'
 obtain⟨⟨x',h2,h3⟩,h4,h5⟩:=e8 ht hs hf;rw[h1,Jn0]at h3 h4;rw[h1,Up0]at h2;exact⟨h4,x',_,h2,h3,fun e he=>(h5 e he).resolve_left (by simp)⟩
theorem Does.Q0 {P:Program} {S:Sem Next} {u u':World} {r:Out} (ht:j1 P S) (h1:u'.tape=u.tape) (h2:u'.drawn=u.drawn) (hr:∀τ d,S.run P (V2 u τ d)=r.res (V2 u' τ d)):Does P S u r u':=⟨h1,h2,fun τ d=>jp0 ht (hr τ d)⟩
structure Cl (P:Program) (main:Bool) (Z:Goroutine->World->Prop):Prop where
 own:∀g u,g.status= .running->(∀τ d,∃g' u' d',I6 P main g (V2 u τ d) g' u'/\Z g' (V2 u' u.tape d'))->Z g u
class Ctx (P:Program) where
 main:Bool
 Zs:(Goroutine->World->Prop)->Prop
 cl:∀Z,Zs Z->Cl P main Z
theorem on0 {P:Program} {Post:Value->World->Prop} {X:Gh} {h:Nat} {g:Goroutine} {u:World} {τ:Tape} {d:Nat} (hF:Fin P Post X h g (V2 u τ d)):Fin P Post X h g u :=
 fun live T gs w sl q hg C=>hF live T gs w sl q hg ⟨C.sim,C.idle,C.free,C.size,C.num,C.stays,C.chans,C.L4,C.inj,C.y5,C.eu0,C.bd0,C.J4,C.old,C.above,C.few,C.ho0,C.ef0,C.dfn,C.past⟩
theorem ft0 (P:Program) (Post:Value->World->Prop) (X:Gh) (h:Nat):Cl P (h==0) (Fin P Post X h) :=
 ⟨fun _ _ hr hs=>Fin.own hr fun τ d=>by
  obtain⟨g',u',d',hF,hZ⟩:=hs τ d;exact⟨g',u',hF,on0 hZ⟩⟩
section
variable {P:Program}{main:Bool}{Z:Goroutine->World->Prop}
theorem Cl.ctl (hZ:Cl P main Z) {g g':Goroutine} {u:World} (hr:g.status= .running) (hr':g'.status= .running) (hs:∀w,stepG P main g w= .go g' w #[]) (h:Z g' u):Z g u :=
 hZ.own g u hr fun τ d=>⟨g',V2 u τ d,u.drawn,⟨hr',fun ρ w hw=>⟨Evo.refl _,w,#[],hs w,hw,fun e he=>by simp at he⟩⟩,h⟩
end
def Em0 (Z:Goroutine->World->Prop) (b:Frame) (k:List Item) (cs:List Frame):Exit->Act->World->Prop
 | .normal,a,w=>Z (G (b.at a k) cs) w
 | .exit id,a,w=>∃k',exitTo id k=some k'/\Z (G (b.at a k') cs) w
 | .goto l,a,w=>∃k',gotoIn l k=some k'/\Z (G (b.at a k') cs) w
 | .ret,a,w=>∀todo,Z (G {b.at a todo with mode:=.returning} cs) w
 | .panic ch,a,w=>∀todo,Z (G {b.at a todo with mode:=.panicking ch} cs) w
 | .outgrown,_,_=>False
theorem Em0.push {Z:Goroutine->World->Prop} {b:Frame} {x:Item} {k:List Item} {cs:List Frame} {e:Exit} {a:Act} {w:World} (hx:x.plain=true) (he:e≠.normal) (h:Em0 Z b k cs e a w):Em0 Z b (x::k) cs e a w:=by
 cases e with
 |normal=>exact absurd rfl he
 |exit id=>obtain⟨k',hk,h⟩:=h;exact⟨k',by cases x <;> simp_all [exitTo,Item.plain],h⟩
 |goto l=>obtain⟨k',hk,h⟩:=h;exact⟨k',by cases x <;> simp_all [gotoIn,Item.plain],h⟩
 |ret=>exact h
 |panic ch=>exact h
 |outgrown=>exact h
def aw0 (P:Program) (fn:Func) (tmps:Array Value) (w:World) (v:Value):Prop:=∀τ d ρ x,X6 ρ (V2 w τ d) x->∃x' es,(results fn tmps).runT P x #[]=(.ok v x',es)/\X6 ρ (V2 w τ d) x'/\∀e∈es,kq0 (V2 w τ d) e
def Leaves (P:Program) (fr:Frame) (w:World):Ending->Prop
 | .returned v=>fr.mode= .returning/\fr.defers=[]/\fr.kind= .normal/\∃fn,P.funcs[fr.fn]? =some fn/\aw0 P fn fr.tmps w v
 | .panicked chain=>fr.mode= .panicking chain/\fr.defers=[]/\fr.catches P=false
 | .outgrown=>False
def Calls (P:Program) [Ctx P] (f:FuncId) (args:Array Value) (w:World) (R:Ending->World->Prop):Prop :=
 ∀Z,Ctx.Zs P Z->∀cs,(∀e w' fr,R e w'->fr.fn=f->Leaves P fr w' e->Z (G fr cs) w')->Z (G (Frame.enter P f args .normal) cs) w
theorem Calls.mono {P:Program} [Ctx P] {f:FuncId} {args:Array Value} {w:World} {R R':Ending->World->Prop} (h:Calls P f args w R) (hr:∀e w',R e w'->R' e w'):Calls P f args w R' :=
 fun Z hZ cs hk=>h Z hZ cs fun e w' fr he hf hl=>hk e w' fr (hr e w' he) hf hl
theorem cm0 {P:Program} {main:Bool} {Z:Goroutine->World->Prop} (hZ:Cl P main Z) {fr c:Frame} {cs:List Frame} {w:World} {v:Value} (h:Leaves P fr w (.returned v)) (hk:Z (G (c.finish v) cs) w):Z (G fr (c::cs)) w:=by
 obtain⟨hm,hd,hn,fn,hf,hr⟩:=h;refine hZ.own _ _ rfl fun τ d=>⟨G (c.finish v) cs,V2 w τ d,w.drawn,⟨rfl,fun ρ x hx=>?_⟩,hk⟩
 obtain⟨x',es,K3,V5,hev⟩:=hr τ d ρ x hx;rw[Sem.runT_eq]at K3;obtain⟨h1,h2⟩:=Prod.mk.inj K3;refine⟨Evo.refl _,x',seen P fr.fn es ++ #[],?_,V5,fun e he=>?_⟩
 ·simp[G,stepG,unwind,doReturn,hm,hd,hn,hf,h1,h2,GStep.after]
 ·have x9:e∈seen P fr.fn es:=by simpa using he
  exact hev e (mem_seen x9)
theorem ii0 {P:Program} {main:Bool} {Z:Goroutine->World->Prop} (hZ:Cl P main Z) {fr c:Frame} {cs:List Frame} {w:World} {chain:List PanicEntry} (h:Leaves P fr w (.panicked chain)) (hk:Z (G (c.raise chain) cs) w):Z (G fr (c::cs)) w:=by
 obtain⟨hm,hd,hc⟩:=h;exact hZ.ctl rfl rfl (fun w=>by simp[G,stepG,unwind,hm,hd,hc]) hk
section
variable {P:Program}[Ctx P]
def il1 (P:Program) [Ctx P] (o:Oper) (a:Act) (next:Act->World->Prop) (Q:Exit->Act->World->Prop) (r:Out) (w:World):Prop:=match r with
 | .val v=>next (a.put o.dst v) w
 | .skip=>next (a.put o.dst undef) w
 | .enter f args=>Calls P f args w fun
  | .returned v,w''=>next (a.put o.dst v) w''
  | .panicked chain,w''=>Q (.panic chain) a w''
  | .outgrown,_=>False
 | .panic v=>Q (.panic [{v,recovered:=false}]) a w
def si0 (P:Program) [Ctx P] (o:Oper) (a:Act) (w:World) (next:Act->World->Prop) (Q:Exit->Act->World->Prop):Prop :=
 ∀τ d,∃r w',Bf0 P (execOp a.eval o) (V2 w τ d) r w'/\il1 P o a next Q r (V2 w' w.tape w.drawn)
def wpOps (P:Program) [Ctx P] (ops:Array Oper) (Q:Exit->Act->World->Prop):List Nat->Act->World->Prop
 | [],a,w=>Q .normal a w
 |i::rest,a,w=>match ops[i]? with
  |none=>False
  |some o=>if Region.wanted o (yielded ops a.tmps) then si0 P o a w (wpOps P ops Q rest) Q else wpOps P ops Q rest (a.put o.dst undef) w
def wpList (P:Program) [Ctx P] (ops:Array Oper) (Q:Exit->Act->World->Prop):List Oper->Act->World->Prop
 | [],a,w=>Q .normal a w
 |o::rest,a,w=>if Region.wanted o (yielded ops a.tmps) then si0 P o a w (wpList P ops Q rest) Q else wpList P ops Q rest (a.put o.dst undef) w
def cwp (P:Program) [Ctx P] (c:Code) (Q:Exit->Act->World->Prop) (a:Act) (w:World):Prop :=
 ∀Z,Ctx.Zs P Z->∀b k cs,b.kind≠.early->(∀e a' w',Q e a' w'->Em0 Z b k cs e a' w')->Z (G (b.at a (.code c::k)) cs) w
variable {Q Q':Exit->Act->World->Prop}{a:Act}{w:World}{ops:Array Oper}
theorem iv0 {o:Oper} {next next':Act->World->Prop} (hn:∀a w,next a w->next' a w) (hq:∀e a w,Q e a w->Q' e a w) (h:si0 P o a w next Q):si0 P o a w next' Q':=by
 intro τ d;obtain⟨r,w',h1,h2⟩:=h τ d;refine⟨r,w',h1,?_⟩;cases r with
 |val v=>exact hn _ _ h2
 |skip=>exact hn _ _ h2
 |enter f args=>exact Calls.mono h2 fun e w'' he=>by cases e <;> first|exact hn _ _ he|exact hq _ _ _ he|exact he
 |panic v=>exact hq _ _ _ h2
theorem ao0 {o:Oper} {next:Act->World->Prop} {r:Out} {w':World} (h:Does P (execOp a.eval o) w r w') (hk:il1 P o a next Q r w'):si0 P o a w next Q:=by
 intro τ d;refine⟨r,V2 w' τ d,h.go τ d,?_⟩;have:V2 (V2 w' τ d) w.tape w.drawn=w':=by rw[<- h.tape,<- h.drawn];rfl
 rw[this];exact hk
theorem wp_ops:∀(l:List Nat) (a:Act) (w:World),wpOps P ops Q l a w->∀Z,Ctx.Zs P Z->∀b k cs,b.kind≠.early->(∀e a' w',Q e a' w'->Em0 Z b k cs e a' w')->Z (G (b.at a (.inRegion ops l::k)) cs) w
 | [],a,w,h,Z,hZ,b,k,cs,hb,hk=>(Ctx.cl Z hZ).ctl rfl rfl (fun w=>stepG_region_end) (hk _ _ _ h)
 |i::rest,a,w,h,Z,hZ,b,k,cs,hb,hk=>by
  unfold wpOps at h;cases ho:ops[i]? with
  |none=>rw[ho]at h;exact h.elim
  |some o=>
   rw[ho]at h;simp only at h;cases hw:Region.wanted o (yielded ops a.tmps)with
   |false=>
    rw[hw]at h;exact(Ctx.cl Z hZ).ctl rfl rfl (fun w=>stepG_unwanted ho hw) (wp_ops rest _ _ h Z hZ b k cs hb hk)
   |true=>
    rw[hw,if_pos rfl]at h;have dd0:∀v,(b.at a (.inRegion ops (i::rest)::k)).finish v=b.at (a.put o.dst v) (.inRegion ops rest::k):=by
     intro v;rw[Frame.finish_at,ho];rfl
    have Mo0:(b.kind==CallKind.early)=false:=by simpa using hb
    refine(Ctx.cl Z hZ).own _ _ rfl fun τ d=>?_;obtain⟨r,w',hr,hK⟩:=h τ d;have fol:∀g',g'.status= .running->(∀x x' es,(execOp a.eval o).runT P x #[]=(r.res x',es)->stepG P (Ctx.main P) (G (b.at a (.inRegion ops (i::rest)::k)) cs) x= .go g' x' (seen P b.fn es))->I6 P (Ctx.main P) (G (b.at a (.inRegion ops (i::rest)::k)) cs) (V2 w τ d) g' w':=by
     intro g' hg' hs;refine⟨hg',fun ρ x hx=>?_⟩;obtain⟨h1,x',es,h2,h3,h4⟩:=hr ρ x hx;exact⟨h1,x',_,hs x x' es h2,h3,fun e he=>h4 e (mem_seen he)⟩
    have split:∀x x' es,(execOp a.eval o).runT P x #[]=(r.res x',es)->(execOp a.eval o).run P x=r.res x'/\(execOp a.eval o).events P x #[]=es:=fun x x' es h=>by
     rw[Sem.runT_eq]at h;exact Prod.mk.inj h
    cases r with
    |val v=>
     refine⟨G (b.at (a.put o.dst v) (.inRegion ops rest::k)) cs,w',w.drawn,fol _ rfl fun x x' es h=>?_,wp_ops rest _ _ hK Z hZ b k cs hb hk⟩;obtain⟨h1,h2⟩:=split x x' es h;rw[stepG_value ho hw hb h1,listed,h2]
    |skip=>
     refine⟨G (b.at (a.put o.dst undef) (.inRegion ops rest::k)) cs,w',w.drawn,fol _ rfl fun x x' es h=>?_,wp_ops rest _ _ hK Z hZ b k cs hb hk⟩;obtain⟨h1,h2⟩:=split x x' es h;rw[stepG_none ho hw hb h1,listed,h2]
    |enter f args=>
     refine⟨G (Frame.enter P f args .normal) (b.at a (.inRegion ops (i::rest)::k)::cs),w',w.drawn,fol _ rfl fun x x' es h=>?_,hK Z hZ _ fun e w'' fr he hf hl=>?_⟩
     ·obtain⟨h1,h2⟩:=split x x' es h;rw[stepG_enter ho hw hb h1,listed,h2]
     ·cases e with
      |returned v=>
       refine U524 ?_;exact wp_ops rest _ _ he Z hZ b k cs hb hk
      |panicked chain=>
       refine U510 ?_;exact hk _ _ _ he _
      |outgrown=>exact he.elim
    |panic v=>
     refine⟨G {b.at a (.inRegion ops (i::rest)::k)with mode:=.panicking [{v,recovered:=false}]} cs,w',w.drawn,fol _ rfl fun x x' es h=>?_,hk _ _ _ hK _⟩;obtain⟨h1,h2⟩:=split x x' es h;have h1':(execOp a.eval o).run P x= .halt (.panic v) x':=h1;rw[stepG_oper ho hw];simp[stepG.apply,h1',h2,G,Frame.at,Mo0,GStep.after,Frame.raise]
theorem wp_mono {c:Code} (h:cwp P c Q a w) (hq:∀e a w,Q e a w->Q' e a w):cwp P c Q' a w:=fun Z hZ b k cs hb hk=>h Z hZ b k cs hb fun e a' w' he=>hk e a' w' (hq e a' w' he)
theorem wp_skip (h:Q .normal a w):cwp P .skip Q a w:=fun Z hZ _b _k _cs _hb hk=>(Ctx.cl Z hZ).ctl rfl rfl (fun _=>stepG_skip) (hk _ _ _ h)
theorem wp_exit {id:Nat} (h:Q (.exit id) a w):cwp P (.exit id) Q a w:=fun Z hZ b k cs hb hk=>by
 obtain⟨k',h1,h2⟩:=hk _ _ _ h;exact(Ctx.cl Z hZ).ctl rfl rfl (fun _=>stepG_exit h1) h2
theorem wp_ret (h:Q .ret a w):cwp P .ret Q a w:=fun Z hZ _b _k _cs _hb hk=>(Ctx.cl Z hZ).ctl rfl rfl (fun _=>stepG_ret') (hk _ _ _ h _)
theorem wp_seq {x y:Code} (h:cwp P x (Exit.then (cwp P y Q) Q) a w):cwp P (.seq x y) Q a w:=by
 intro Z hZ b k cs hb hk;refine(Ctx.cl Z hZ).ctl rfl rfl (fun _=>stepG_seq) (h Z hZ b (.code y::k) cs hb fun e a' w' he=>?_);cases e with
 |normal=>exact he Z hZ b k cs hb hk
 |exit id=>exact(hk _ _ _ he).push rfl (by simp)
 |goto l=>exact(hk _ _ _ he).push rfl (by simp)
 |ret=>exact(hk _ _ _ he).push rfl (by simp)
 |panic ch=>exact(hk _ _ _ he).push rfl (by simp)
 |outgrown=>exact(hk _ _ _ he).push rfl (by simp)
theorem wp_cond {c:Operand} {x y:Code} {t:Bool} (hc:a.eval c= .bool t) (h:cwp P (if t then x else y) Q a w):cwp P (.cond c x y) Q a w :=
 fun Z hZ b k cs hb hk=>(Ctx.cl Z hZ).ctl rfl rfl (fun _=>stepG_cond hc) (h Z hZ b k cs hb hk)
theorem wp_cond_true {c:Operand} {x y:Code} (hc:a.eval c= .bool true) (h:cwp P x Q a w):cwp P (.cond c x y) Q a w:=wp_cond hc h
theorem wp_cond_false {c:Operand} {x y:Code} (hc:a.eval c= .bool false) (h:cwp P y Q a w):cwp P (.cond c x y) Q a w:=wp_cond hc h
theorem wp_block {id:Nat} {c:Code} (h:cwp P c (Exit.inBlock id Q) a w):cwp P (.block id c) Q a w:=by
 intro Z hZ b k cs hb hk;refine(Ctx.cl Z hZ).ctl rfl rfl (fun _=>stepG_block) (h Z hZ b (.inBlock id::k) cs hb fun e a' w' he=>?_);cases e with
 |normal=>exact(Ctx.cl Z hZ).ctl rfl rfl (fun _=>stepG_inBlock) (hk _ _ _ he)
 |exit id'=>
  by_cases y5:id'=id
  ·simp only[Exit.inBlock,y5,if_true]at he;exact⟨k,by simp[exitTo,y5],hk _ _ _ he⟩
  ·simp only[Exit.inBlock,y5,if_false]at he;obtain⟨k',h1,h2⟩:=hk _ _ _ he;have:(id==id')=false:=by simp;exact fun h=>y5 h.symm
   exact⟨k',by simp[exitTo,this,h1],h2⟩
 |goto l=>
  obtain⟨k',h1,h2⟩:=hk _ _ _ he;exact⟨k',by simp[gotoIn,h1],h2⟩
 |ret=>exact hk _ _ _ he
 |panic ch=>exact hk _ _ _ he
 |outgrown=>exact hk _ _ _ he
theorem wp_loop_ghost {c:Code} (I:Nat->Act->World->Prop) (k₀:Nat) (h₀:I k₀ a w) (round:∀n a w,I n a w->cwp P c (Exit.then (fun a' w'=>∃n',n'<n/\I n' a' w') Q) a w):cwp P (.loop c) Q a w:=by
 intro Z hZ b k cs hb hk;have key:∀n a w,I n a w->Z (G (b.at a (.code c :: .inLoop c::k)) cs) w:=by
  intro n
  induction n using Nat.strongRecOn with
  |_ n ih=>
   intro a w hI;refine round n a w hI Z hZ b (.inLoop c::k) cs hb fun e a' w' he=>?_;cases e with
   |normal=>
    obtain⟨n',hn,hI'⟩:=he;exact(Ctx.cl Z hZ).ctl rfl rfl (fun _=>stepG_inLoop) (ih n' hn a' w' hI')
   |exit id=>exact(hk _ _ _ he).push rfl (by simp)
   |goto l=>exact(hk _ _ _ he).push rfl (by simp)
   |ret=>exact(hk _ _ _ he).push rfl (by simp)
   |panic ch=>exact(hk _ _ _ he).push rfl (by simp)
   |outgrown=>exact(hk _ _ _ he).push rfl (by simp)
 exact(Ctx.cl Z hZ).ctl rfl rfl (fun _=>stepG_loop) (key k₀ a w h₀)
theorem pi0 (pre:List Oper):∀(l:List Oper) (a:Act) (w:World),wpList P (pre++l).toArray Q l a w->wpOps P (pre++l).toArray Q ((List.range l.length).map (pre.length + ·)) a w
 | [],_,_,h=>h
 |o::l,a,w,h=>by
  have h0:(pre++o::l).toArray[pre.length]? =some o:=by simp
  have e:(List.range (o::l).length).map (pre.length + ·)=pre.length::(List.range l.length).map ((pre ++ [o]).length + ·):=by
   simp[List.range_succ_eq_map,List.map_map];intro x _;omega
  rw[e];unfold wpOps;rw[h0];simp only;unfold wpList at h;have key:∀a w,wpList P (pre++o::l).toArray Q l a w->wpOps P (pre++o::l).toArray Q ((List.range l.length).map ((pre ++ [o]).length + ·)) a w:=fun a w hh=>by
   have:=pi0 (pre ++ [o]) l a w;rw[List.append_assoc]at this;exact this hh
  split
  ·rename_i hw;rw[if_pos hw]at h;exact iv0 key (fun _ _ _ z=>z) h
  ·rename_i hw;rw[if_neg hw]at h;exact key _ _ h
theorem wp_region_lit {id:Nat} {l:List Oper} (h:wpList P l.toArray Q l a w):cwp P (.region id l.toArray false) Q a w:=by
 intro Z hZ b k cs hb hk;refine(Ctx.cl Z hZ).ctl rfl rfl (fun _=>stepG_region) (wp_ops _ _ _ ?_ Z hZ b k cs hb hk);have:=pi0 (P:=P) (Q:=Q) [] l a w;simp only[List.nil_append,List.length_nil,Nat.zero_add,List.map_id']at this;simpa using this h
theorem wp_region_draw {id:Nat} (h:∀t,wpOps P ops Q (Region.schedule (P.follows .mixedOrders) ops t) a {w with drawn:=w.drawn+1}):cwp P (.region id ops true) Q a w:=by
 intro Z hZ b k cs hb hk;refine(Ctx.cl Z hZ).own _ _ rfl fun τ d=>?_;refine⟨G (b.at a (.inRegion ops (Region.schedule (P.follows .mixedOrders) ops (τ d (.order b.fn id)))::k)) cs,{V2 w τ d with drawn:=d+1},w.drawn+1,⟨rfl,fun ρ x hx=>⟨⟨Nat.le_refl _,fun _ o ho=>⟨o,ho,I4.refl o⟩⟩,{x with drawn:=x.drawn+1},#[],?_,?_,fun e he=>by simp at he⟩⟩,wp_ops _ _ _ (h _) Z hZ b k cs hb hk⟩
 ·rw[stepG_region_draw,hx.tape,hx.drawn];rfl
 ·exact⟨hx.os,hx.output,hx.tape,by show x.drawn+1=d+1;rw[hx.drawn];rfl,hx.size,hx.obj,hx.new,hx.G8⟩
def bodyPost (P:Program) [Ctx P] (fn:Func) (R:Ending->World->Prop):Exit->Act->World->Prop
 | .normal,a,w| .ret,a,w=>a.defers=[]/\∃v,aw0 P fn a.tmps w v/\R (.returned v) w
 | .panic chain,a,w=>a.defers=[]/\R (.panicked chain) w
 |_,_,_=>False
theorem calls_of_wp {f:FuncId} {fn:Func} {c:Code} {args:Array Value} {R:Ending->World->Prop} (hf:P.funcs[f]? =some fn) (hb:fn.body=some c)
  (h:cwp P c (bodyPost P fn R) {tmps:=args++Array.replicate (fn.ntmps-args.size) undef,defers:=[]} w):Calls P f args w R:=by
 intro Z hZ cs hk;rw[enter_at args hf hb];refine h Z hZ (base f) [] cs (by simp[base]) fun e a' w' he=>?_;have bw0:∀a' w' todo,(a'.defers=[]/\∃v,aw0 P fn a'.tmps w' v/\R (.returned v) w')->Z (G {(base f).at a' todo with mode:=.returning} cs) w':=fun a' w' todo ⟨hd,v,hr,hR⟩=>
  hk _ _ _ hR rfl ⟨rfl,hd,rfl,fn,hf,hr⟩
 cases e with
 |normal=>exact(Ctx.cl Z hZ).ctl rfl rfl (fun _=>stepG_end) (bw0 a' w' [] he)
 |ret=>exact fun todo=>bw0 a' w' todo he
 |panic chain=>exact fun todo=>hk _ _ _ he.2 rfl ⟨rfl,he.1,by simp[Frame.catches,Frame.at,base,hf]⟩
 |exit id=>exact he.elim
 |goto l=>exact he.elim
 |outgrown=>exact he.elim
end
end Go.Vy
end
section
namespace Go.Yc
open Go
section
theorem B1 {α:Type} {P:Program} (a:α):j1 P (pure a:Sem α):=trivial
theorem C1 {α β:Type} {P:Program} {s:Sem α} {f:α->Sem β} (h:j1 P s) (hf:∀a,j1 P (f a)):j1 P (s >>=f):=I7 hf h
theorem Yz0 {α β:Type} {P:Program} {s:Sem α} {f:α->β} (h:j1 P s):j1 P (f <$> s):=I7 (f:=fun a=>pure (f a)) (fun _=>trivial) h
theorem I3 {α:Type} {P:Program} (h:Halt):j1 P (.halt h:Sem α):=trivial
theorem cn0 {P:Program} (a:Addr) (m:Mode):j1 P (load a m):=fun _=>trivial
theorem N9 {P:Program} (a:Addr) (v:Value) (m:Mode):j1 P (store a v m):=trivial
theorem ij0 {P:Program} {o:Obj} (h:Q4 o=false):j1 P (newObj o):=⟨h,fun _=>trivial⟩
theorem Z6 {P:Program} (q:Question):j1 P (choose q):=fun _=>trivial
theorem F6 {P:Program}:j1 P program:=trivial
theorem O8 {P:Program} (r:Nat):j1 P (getObj r):=fun _=>trivial
theorem T7 {α:Type} {P:Program} (s:String):j1 P (stuck s:Sem α):=trivial
theorem Y3 {α:Type} {P:Program} (s:Unsupported):j1 P (unsupported s:Sem α):=trivial
theorem x8 {α:Type} {P:Program} (v:Value):j1 P (goPanic v:Sem α):=trivial
theorem e7 {P:Program} (n:Nat):j1 P (askRoom n):=by
 unfold askRoom;split
 ·show(if Eh0 Mark.noRoom=true then j1 P (Sem.pure ()) else dead P (Sem.pure ()));exact trivial
 ·trivial
theorem Mp0 {α β:Type} {P:Program} {f:α->Sem β} (hf:∀a,j1 P (f a)):∀(l:List α),j1 P (l.mapM f)
 | []=>by rw[List.mapM_nil];trivial
 |x::l=>by
  rw[List.mapM_cons];exact C1 (hf x) fun _=>C1 (Mp0 hf l) fun _=>trivial
theorem P1 {α β:Type} {P:Program} {f:α->Sem β} (hf:∀a,j1 P (f a)) (l:Array α):j1 P (l.mapM f):=by
 rw[Array.mapM_eq_mapM_toList];exact Yz0 (Mp0 hf _)
attribute [local irreducible] j1 dead
theorem Y4 {P:Program} (t:TypeId):j1 P (typeInfo t):=by
 unfold typeInfo
 repeat' (first|exact B1 _|exact I3 _|exact F6|(refine C1 ?_ (fun _=>?_))|(refine P1 (fun _=>?_) _)|split|(dsimp only))
theorem V1 {P:Program} (t:TypeId):j1 P (underlying t):=by
 unfold underlying
 repeat' (first|exact B1 _|exact I3 _|exact F6|(refine C1 ?_ (fun _=>?_))|(refine P1 (fun _=>?_) _)|split|(dsimp only))
theorem y9 {P:Program} (t:TypeId):j1 P (typeStr t):=by
 unfold typeStr
 repeat' (first|exact B1 _|exact I3 _|exact V1 _|exact Y4 _|exact e7 _|exact x8 _|exact Y3 _|exact T7 _|exact O8 _|exact F6|exact Z6 _|exact ij0 rfl|exact N9 _ _ _|exact cn0 _ _|(refine C1 ?_ (fun _=>?_))|(refine P1 (fun _=>?_) _)|split|(dsimp only))
theorem G4 {P:Program} (t:TypeId):j1 P (zeroValue t):=by
 unfold zeroValue
 repeat' (first|exact B1 _|exact I3 _|exact Y4 _|(refine C1 ?_ (fun _=>?_))|(refine P1 (fun _=>?_) _)|split|(dsimp only))
theorem Z4 {P:Program} (t:TypeId):j1 P (sizeOf t):=by
 unfold sizeOf
 repeat' (first|exact B1 _|exact Y4 _|(refine C1 ?_ (fun _=>?_))|(refine P1 (fun _=>?_) _)|split|(dsimp only))
theorem ax0 {P:Program} (t:TypeId):j1 P (isAgg t):=by
 unfold isAgg
 repeat' (first|exact B1 _|exact V1 _|(refine C1 ?_ (fun _=>?_))|(refine P1 (fun _=>?_) _)|split|(dsimp only))
theorem Z3 {P:Program} (a:Addr):∀(n i:Nat) (acc:Array Value),j1 P (loadCellsFrom a i n acc)
 |0,_,_=>by unfold loadCellsFrom;exact B1 _
 |n+1,i,acc=>by
  unfold loadCellsFrom;exact C1 (cn0 _ _) fun _=>Z3 a n _ _
theorem G5 {P:Program} (a:Addr) (n:Nat):j1 P (loadCells a n):=by
 unfold loadCells
 repeat' (first|exact Z3 _ _ _ _|(refine C1 ?_ (fun _=>?_))|(refine P1 (fun _=>?_) _)|split|(dsimp only))
theorem o4 {P:Program} (a:Addr):∀(vs:List Value) (i:Nat),j1 P (storeCells a vs i)
 | [],_=>by unfold storeCells;exact B1 _
 |v::vs,i=>by
  unfold storeCells;exact C1 (N9 _ _ _) fun _=>o4 a vs _
theorem L7 {P:Program} (t:TypeId) (a:Addr):j1 P (loadVar t a):=by
 unfold loadVar
 repeat' (first|exact B1 _|exact G5 _ _|exact ax0 _|exact Z4 _|exact cn0 _ _|(refine C1 ?_ (fun _=>?_))|(refine P1 (fun _=>?_) _)|split|(dsimp only))
theorem Q6 {P:Program} (t:TypeId) (a:Addr) (v:Value):j1 P (storeVar t a v):=by
 unfold storeVar
 repeat' (first|exact I3 _|exact o4 _ _ _|exact Z4 _|(refine C1 ?_ (fun _=>?_))|(refine P1 (fun _=>?_) _)|split|(dsimp only))
theorem D7 {P:Program} (t:TypeId) (c:Array Value):j1 P (newRow t c):=by
 unfold newRow
 repeat' (first|exact B1 _|exact ij0 rfl|(refine C1 ?_ (fun _=>?_))|(refine P1 (fun _=>?_) _)|split|(dsimp only))
theorem k8 {P:Program} (t:TypeId) (v:Value):j1 P (newVar t v):=by
 unfold newVar
 repeat' (first|exact D7 _ _|(refine C1 ?_ (fun _=>?_))|(refine P1 (fun _=>?_) _)|split|(dsimp only))
theorem O9 {P:Program} (t:TypeId):j1 P (elemOf t):=by
 unfold elemOf
 repeat' (first|exact B1 _|exact I3 _|exact V1 _|(refine C1 ?_ (fun _=>?_))|(refine P1 (fun _=>?_) _)|split|(dsimp only))
theorem fu0 {P:Program} (t:TypeId) (c:Array Value) (o:Nat):j1 P (part t c o):=by
 unfold part
 repeat' (first|exact B1 _|exact I3 _|exact ax0 _|exact Z4 _|(refine C1 ?_ (fun _=>?_))|(refine P1 (fun _=>?_) _)|split|(dsimp only))
theorem H2 {α:Type} {P:Program} (e:RuntimeError):j1 P (runtimePanic e:Sem α):=by
 unfold runtimePanic
 repeat' (first|exact I3 _|exact O9 _|exact k8 _ _|exact F6|(refine C1 ?_ (fun _=>?_))|(refine P1 (fun _=>?_) _)|split|(dsimp only))
theorem X4 {α:Type} {P:Program} (k:IntKind) (x y:Int) (c:BoundsCode):j1 P (boundsPanic k x y c:Sem α):=by
 unfold boundsPanic
 repeat' (first|exact B1 _|exact Yz0 (Z6 _)|exact H2 _|exact Z6 _|(refine C1 ?_ (fun _=>?_))|(refine P1 (fun _=>?_) _)|split|(dsimp only))
theorem j7 {P:Program} (v:Value):j1 P (asIntOf v):=by
 unfold asIntOf
 repeat' (first|exact B1 _|exact I3 _|(refine C1 ?_ (fun _=>?_))|(refine P1 (fun _=>?_) _)|split|(dsimp only))
theorem P9 {P:Program} (v:Value):j1 P (asInt v):=by
 unfold asInt
 repeat' (first|exact B1 _|exact j7 _|(refine C1 ?_ (fun _=>?_))|(refine P1 (fun _=>?_) _)|split|(dsimp only))
theorem Q9 {P:Program} (v:Value):j1 P (asBool v):=by
 unfold asBool
 repeat' (first|exact B1 _|exact I3 _|(refine C1 ?_ (fun _=>?_))|(refine P1 (fun _=>?_) _)|split|(dsimp only))
theorem l9 {P:Program} (v:Value):j1 P (asString v):=by
 unfold asString
 repeat' (first|exact B1 _|exact I3 _|exact Q9 _|exact P9 _|exact j7 _|exact X4 _ _ _ _|exact H2 _|exact fu0 _ _ _|exact O9 _|exact k8 _ _|exact D7 _ _|exact Q6 _ _ _|exact L7 _ _|exact o4 _ _ _|exact G5 _ _|exact Z3 _ _ _ _|exact ax0 _|exact Z4 _|exact G4 _|exact y9 _|exact V1 _|exact Y4 _|exact e7 _|exact x8 _|exact Y3 _|exact T7 _|exact O8 _|exact F6|exact Z6 _|exact ij0 rfl|exact N9 _ _ _|exact cn0 _ _|(refine C1 ?_ (fun _=>?_))|(refine P1 (fun _=>?_) _)|split|(dsimp only))
theorem dl0 {P:Program} (v:Value):j1 P (asAgg v):=by
 unfold asAgg
 repeat' (first|exact B1 _|exact I3 _|(refine C1 ?_ (fun _=>?_))|(refine P1 (fun _=>?_) _)|split|(dsimp only))
theorem P8 {P:Program} (v:Value):j1 P (asAddr v):=by
 unfold asAddr
 repeat' (first|exact B1 _|exact I3 _|exact H2 _|(refine C1 ?_ (fun _=>?_))|(refine P1 (fun _=>?_) _)|split|(dsimp only))
theorem dm0 {P:Program} (t:TypeId) (h:Bool) (o:Value):j1 P (Instr.alloc t h o):=by
 unfold Instr.alloc
 repeat' (first|exact B1 _|exact k8 _ _|exact Q6 _ _ _|exact G4 _|(refine C1 ?_ (fun _=>?_))|(refine P1 (fun _=>?_) _)|split|(dsimp only))
theorem nl0 {P:Program} (t:TypeId) (v:Value):j1 P (Instr.box t v):=by
 unfold Instr.box
 repeat' (first|exact B1 _|exact k8 _ _|(refine C1 ?_ (fun _=>?_))|(refine P1 (fun _=>?_) _)|split|(dsimp only))
theorem dn0 {P:Program} (t:TypeId) (p:Array (Nat×Value)):j1 P (Instr.build t p):=by
 unfold Instr.build
 repeat' (first|exact B1 _|exact I3 _|exact Z4 _|exact G4 _|exact V1 _|(refine C1 ?_ (fun _=>?_))|(refine P1 (fun _=>?_) _)|split|(dsimp only))
theorem J6 {P:Program} (t:TypeId) (n:Nat) (p:Array (Nat×Value)):j1 P (Instr.buildSlice t n p):=by
 unfold Instr.buildSlice
 repeat' (first|exact B1 _|exact I3 _|exact D7 _ _|exact Z4 _|exact G4 _|exact V1 _|(refine C1 ?_ (fun _=>?_))|(refine P1 (fun _=>?_) _)|split|(dsimp only))
theorem P5 {P:Program} (v:Value):j1 P (Instr.sureAddr v):=by
 unfold Instr.sureAddr
 repeat' (first|exact B1 _|exact I3 _|(refine C1 ?_ (fun _=>?_))|(refine P1 (fun _=>?_) _)|split|(dsimp only))
theorem bf0 {P:Program} (t:TypeId) (v:Value):j1 P (Instr.loadAt t v):=by
 unfold Instr.loadAt
 repeat' (first|exact P5 _|exact L7 _ _|(refine C1 ?_ (fun _=>?_))|(refine P1 (fun _=>?_) _)|split|(dsimp only))
theorem z9 {P:Program} (t:TypeId) (v x:Value):j1 P (Instr.storeAt t v x):=by
 unfold Instr.storeAt
 repeat' (first|exact P5 _|exact Q6 _ _ _|(refine C1 ?_ (fun _=>?_))|(refine P1 (fun _=>?_) _)|split|(dsimp only))
theorem A9 {P:Program} (t:TypeId) (v x:Value):j1 P (Instr.indexAt t v x):=by
 unfold Instr.indexAt
 repeat' (first|exact B1 _|exact I3 _|exact P5 _|exact j7 _|exact X4 _ _ _ _|exact Z4 _|exact V1 _|(refine C1 ?_ (fun _=>?_))|(refine P1 (fun _=>?_) _)|split|(dsimp only))
theorem B9 {P:Program} (v:Value) (n:Nat):j1 P (Instr.extract v n):=by
 unfold Instr.extract
 repeat' (first|exact B1 _|exact I3 _|(refine C1 ?_ (fun _=>?_))|(refine P1 (fun _=>?_) _)|split|(dsimp only))
theorem do0 {P:Program} (t:TypeId) (v:Value) (n:Nat):j1 P (Instr.field t v n):=by
 unfold Instr.field
 repeat' (first|exact I3 _|exact dl0 _|exact fu0 _ _ _|exact V1 _|(refine C1 ?_ (fun _=>?_))|(refine P1 (fun _=>?_) _)|split|(dsimp only))
theorem p5 {P:Program} (t:TypeId) (v:Value):j1 P (Instr.makeInterface t v):=by
 unfold Instr.makeInterface
 repeat' (first|exact B1 _|exact I3 _|exact V1 _|(refine C1 ?_ (fun _=>?_))|(refine P1 (fun _=>?_) _)|split|(dsimp only))
theorem u7 {P:Program} (t:TypeId) (a b:Value):j1 P (Instr.makeSlice t a b):=by
 unfold Instr.makeSlice
 repeat' (first|exact B1 _|exact I3 _|exact P9 _|exact H2 _|exact D7 _ _|exact Z4 _|exact G4 _|exact V1 _|exact Y4 _|exact e7 _|exact Z6 _|(refine C1 ?_ (fun _=>?_))|(refine P1 (fun _=>?_) _)|split|(dsimp only))
theorem l8 {P:Program} (t:TypeId) (a:Value):j1 P (Instr.makeChan t a):=by
 unfold Instr.makeChan
 repeat' (first|exact B1 _|exact I3 _|exact P9 _|exact H2 _|exact V1 _|exact Y4 _|exact ij0 rfl|(refine C1 ?_ (fun _=>?_))|(refine P1 (fun _=>?_) _)|split|(dsimp only))
theorem K6 {P:Program} (x:Value) (y:Nat) (c:BoundsCode):j1 P (Instr.sliceBound x y c):=by
 unfold Instr.sliceBound
 repeat' (first|exact B1 _|exact j7 _|exact X4 _ _ _ _|(refine C1 ?_ (fun _=>?_))|(refine P1 (fun _=>?_) _)|split|(dsimp only))
theorem C5 {P:Program} (b:Bool) (l c:Nat) (x y z:Option Value):j1 P (Instr.sliceBounds b l c x y z):=by
 unfold Instr.sliceBounds
 repeat' (first|exact B1 _|exact I3 _|exact K6 _ _ _|(refine C1 ?_ (fun _=>?_))|(refine P1 (fun _=>?_) _)|split|(dsimp only))
theorem dp0 {P:Program} (t:TypeId) (v:Value) (x y z:Option Value):j1 P (Instr.slice t v x y z):=by
 unfold Instr.slice
 repeat' (first|exact B1 _|exact I3 _|exact C5 _ _ _ _ _ _|exact P8 _|exact Z4 _|exact V1 _|(refine C1 ?_ (fun _=>?_))|(refine P1 (fun _=>?_) _)|split|(dsimp only))
theorem C9 {P:Program} (t:TypeId) (v:Value) (x y z:Option Value):j1 P (Instr.sliceAt t v x y z):=by
 unfold Instr.sliceAt
 repeat' (first|exact B1 _|exact dp0 _ _ _ _ _|exact C5 _ _ _ _ _ _|exact P5 _|exact Z4 _|exact V1 _|(refine C1 ?_ (fun _=>?_))|(refine P1 (fun _=>?_) _)|split|(dsimp only))
theorem ap0 {P:Program} (o:BinOp) (k:IntKind) (x y:Int):j1 P (Op.intArith o k x y):=by
 unfold Op.intArith
 repeat' (first|exact B1 _|exact I3 _|exact C9 _ _ _ _ _|exact dp0 _ _ _ _ _|exact C5 _ _ _ _ _ _|exact K6 _ _ _|exact l8 _ _|exact u7 _ _ _|exact p5 _ _|exact do0 _ _ _|exact B9 _ _|exact A9 _ _ _|exact z9 _ _ _|exact bf0 _ _|exact P5 _|exact J6 _ _ _|exact dn0 _ _|exact nl0 _ _|exact dm0 _ _ _|exact P8 _|exact dl0 _|exact l9 _|exact Q9 _|exact P9 _|exact j7 _|exact X4 _ _ _ _|exact H2 _|exact fu0 _ _ _|exact O9 _|exact k8 _ _|exact D7 _ _|exact Q6 _ _ _|exact L7 _ _|exact o4 _ _ _|exact G5 _ _|exact Z3 _ _ _ _|exact ax0 _|exact Z4 _|exact G4 _|exact y9 _|exact V1 _|exact Y4 _|exact e7 _|exact x8 _|exact Y3 _|exact T7 _|exact O8 _|exact F6|exact Z6 _|exact ij0 rfl|exact N9 _ _ _|exact cn0 _ _|(refine C1 ?_ (fun _=>?_))|(refine P1 (fun _=>?_) _)|split|(dsimp only))
theorem ik0 {P:Program} (o:BinOp) (k:IntKind) (x y:Int):j1 P (Op.intDiv o k x y):=by
 unfold Op.intDiv
 repeat' (first|exact B1 _|exact I3 _|exact ap0 _ _ _ _|exact C9 _ _ _ _ _|exact dp0 _ _ _ _ _|exact C5 _ _ _ _ _ _|exact K6 _ _ _|exact l8 _ _|exact u7 _ _ _|exact p5 _ _|exact do0 _ _ _|exact B9 _ _|exact A9 _ _ _|exact z9 _ _ _|exact bf0 _ _|exact P5 _|exact J6 _ _ _|exact dn0 _ _|exact nl0 _ _|exact dm0 _ _ _|exact P8 _|exact dl0 _|exact l9 _|exact Q9 _|exact P9 _|exact j7 _|exact X4 _ _ _ _|exact H2 _|exact fu0 _ _ _|exact O9 _|exact k8 _ _|exact D7 _ _|exact Q6 _ _ _|exact L7 _ _|exact o4 _ _ _|exact G5 _ _|exact Z3 _ _ _ _|exact ax0 _|exact Z4 _|exact G4 _|exact y9 _|exact V1 _|exact Y4 _|exact e7 _|exact x8 _|exact Y3 _|exact T7 _|exact O8 _|exact F6|exact Z6 _|exact ij0 rfl|exact N9 _ _ _|exact cn0 _ _|(refine C1 ?_ (fun _=>?_))|(refine P1 (fun _=>?_) _)|split|(dsimp only))
theorem iw0 {P:Program} (o:BinOp) (k:IntKind) (x y:Int):j1 P (Op.intBits o k x y):=by
 unfold Op.intBits
 repeat' (first|exact B1 _|exact I3 _|exact ik0 _ _ _ _|exact ap0 _ _ _ _|exact C9 _ _ _ _ _|exact dp0 _ _ _ _ _|exact C5 _ _ _ _ _ _|exact K6 _ _ _|exact l8 _ _|exact u7 _ _ _|exact p5 _ _|exact do0 _ _ _|exact B9 _ _|exact A9 _ _ _|exact z9 _ _ _|exact bf0 _ _|exact P5 _|exact J6 _ _ _|exact dn0 _ _|exact nl0 _ _|exact dm0 _ _ _|exact P8 _|exact dl0 _|exact l9 _|exact Q9 _|exact P9 _|exact j7 _|exact X4 _ _ _ _|exact H2 _|exact fu0 _ _ _|exact O9 _|exact k8 _ _|exact D7 _ _|exact Q6 _ _ _|exact L7 _ _|exact o4 _ _ _|exact G5 _ _|exact Z3 _ _ _ _|exact ax0 _|exact Z4 _|exact G4 _|exact y9 _|exact V1 _|exact Y4 _|exact e7 _|exact x8 _|exact Y3 _|exact T7 _|exact O8 _|exact F6|exact Z6 _|exact ij0 rfl|exact N9 _ _ _|exact cn0 _ _|(refine C1 ?_ (fun _=>?_))|(refine P1 (fun _=>?_) _)|split|(dsimp only))
theorem pj0 {P:Program} (o:BinOp) (x y:Int):j1 P (Op.intCmp o x y):=by
 unfold Op.intCmp
 repeat' (first|exact B1 _|exact I3 _|exact iw0 _ _ _ _|exact ik0 _ _ _ _|exact ap0 _ _ _ _|exact C9 _ _ _ _ _|exact dp0 _ _ _ _ _|exact C5 _ _ _ _ _ _|exact K6 _ _ _|exact l8 _ _|exact u7 _ _ _|exact p5 _ _|exact do0 _ _ _|exact B9 _ _|exact A9 _ _ _|exact z9 _ _ _|exact bf0 _ _|exact P5 _|exact J6 _ _ _|exact dn0 _ _|exact nl0 _ _|exact dm0 _ _ _|exact P8 _|exact dl0 _|exact l9 _|exact Q9 _|exact P9 _|exact j7 _|exact X4 _ _ _ _|exact H2 _|exact fu0 _ _ _|exact O9 _|exact k8 _ _|exact D7 _ _|exact Q6 _ _ _|exact L7 _ _|exact o4 _ _ _|exact G5 _ _|exact Z3 _ _ _ _|exact ax0 _|exact Z4 _|exact G4 _|exact y9 _|exact V1 _|exact Y4 _|exact e7 _|exact x8 _|exact Y3 _|exact T7 _|exact O8 _|exact F6|exact Z6 _|exact ij0 rfl|exact N9 _ _ _|exact cn0 _ _|(refine C1 ?_ (fun _=>?_))|(refine P1 (fun _=>?_) _)|split|(dsimp only))
theorem Hl0 {P:Program} (o:BinOp) (k:IntKind) (x:Int) (l:IntKind) (y:Int):j1 P (Op.shift o k x l y):=by
 unfold Op.shift
 repeat' (first|exact B1 _|exact I3 _|exact pj0 _ _ _|exact iw0 _ _ _ _|exact ik0 _ _ _ _|exact ap0 _ _ _ _|exact C9 _ _ _ _ _|exact dp0 _ _ _ _ _|exact C5 _ _ _ _ _ _|exact K6 _ _ _|exact l8 _ _|exact u7 _ _ _|exact p5 _ _|exact do0 _ _ _|exact B9 _ _|exact A9 _ _ _|exact z9 _ _ _|exact bf0 _ _|exact P5 _|exact J6 _ _ _|exact dn0 _ _|exact nl0 _ _|exact dm0 _ _ _|exact P8 _|exact dl0 _|exact l9 _|exact Q9 _|exact P9 _|exact j7 _|exact X4 _ _ _ _|exact H2 _|exact fu0 _ _ _|exact O9 _|exact k8 _ _|exact D7 _ _|exact Q6 _ _ _|exact L7 _ _|exact o4 _ _ _|exact G5 _ _|exact Z3 _ _ _ _|exact ax0 _|exact Z4 _|exact G4 _|exact y9 _|exact V1 _|exact Y4 _|exact e7 _|exact x8 _|exact Y3 _|exact T7 _|exact O8 _|exact F6|exact Z6 _|exact ij0 rfl|exact N9 _ _ _|exact cn0 _ _|(refine C1 ?_ (fun _=>?_))|(refine P1 (fun _=>?_) _)|split|(dsimp only))
theorem En0 {P:Program} (o:BinOp) (x y:ByteArray):j1 P (Op.stringOp o x y):=by
 unfold Op.stringOp
 repeat' (first|exact B1 _|exact I3 _|exact Hl0 _ _ _ _ _|exact pj0 _ _ _|exact iw0 _ _ _ _|exact ik0 _ _ _ _|exact ap0 _ _ _ _|exact C9 _ _ _ _ _|exact dp0 _ _ _ _ _|exact C5 _ _ _ _ _ _|exact K6 _ _ _|exact l8 _ _|exact u7 _ _ _|exact p5 _ _|exact do0 _ _ _|exact B9 _ _|exact A9 _ _ _|exact z9 _ _ _|exact bf0 _ _|exact P5 _|exact J6 _ _ _|exact dn0 _ _|exact nl0 _ _|exact dm0 _ _ _|exact P8 _|exact dl0 _|exact l9 _|exact Q9 _|exact P9 _|exact j7 _|exact X4 _ _ _ _|exact H2 _|exact fu0 _ _ _|exact O9 _|exact k8 _ _|exact D7 _ _|exact Q6 _ _ _|exact L7 _ _|exact o4 _ _ _|exact G5 _ _|exact Z3 _ _ _ _|exact ax0 _|exact Z4 _|exact G4 _|exact y9 _|exact V1 _|exact Y4 _|exact e7 _|exact x8 _|exact Y3 _|exact T7 _|exact O8 _|exact F6|exact Z6 _|exact ij0 rfl|exact N9 _ _ _|exact cn0 _ _|(refine C1 ?_ (fun _=>?_))|(refine P1 (fun _=>?_) _)|split|(dsimp only))
theorem Hm0 {P:Program} (o:UnOp) (x:Value):j1 P (Op.unary o x):=by
 unfold Op.unary
 repeat' (first|exact B1 _|exact I3 _|(refine C1 ?_ (fun _=>?_))|(refine P1 (fun _=>?_) _)|split|(dsimp only))
theorem yx0 {P:Program} (x:Value):j1 P (Builtin.lenOf x):=by
 unfold Builtin.lenOf
 repeat' (first|exact B1 _|exact I3 _|(refine C1 ?_ (fun _=>?_))|(refine P1 (fun _=>?_) _)|split|(dsimp only))
theorem fv0 {P:Program} (s n:Nat) (x:Value):j1 P (Builtin.firstCells s n x):=by
 unfold Builtin.firstCells
 repeat' (first|exact B1 _|exact I3 _|exact G5 _ _|(refine C1 ?_ (fun _=>?_))|(refine P1 (fun _=>?_) _)|split|(dsimp only))
theorem Hn0 {P:Program} (a:Array TypeId) (t:TypeId) (x:Array Value):j1 P (Builtin.len_ a t x):=by
 unfold Builtin.len_
 repeat' (first|exact B1 _|exact I3 _|exact fv0 _ _ _|exact yx0 _|exact Hm0 _ _|exact En0 _ _ _|exact Hl0 _ _ _ _ _|exact pj0 _ _ _|exact iw0 _ _ _ _|exact ik0 _ _ _ _|exact ap0 _ _ _ _|exact C9 _ _ _ _ _|exact dp0 _ _ _ _ _|exact C5 _ _ _ _ _ _|exact K6 _ _ _|exact l8 _ _|exact u7 _ _ _|exact p5 _ _|exact do0 _ _ _|exact B9 _ _|exact A9 _ _ _|exact z9 _ _ _|exact bf0 _ _|exact P5 _|exact J6 _ _ _|exact dn0 _ _|exact nl0 _ _|exact dm0 _ _ _|exact P8 _|exact dl0 _|exact l9 _|exact Q9 _|exact P9 _|exact j7 _|exact X4 _ _ _ _|exact H2 _|exact fu0 _ _ _|exact O9 _|exact k8 _ _|exact D7 _ _|exact Q6 _ _ _|exact L7 _ _|exact o4 _ _ _|exact G5 _ _|exact Z3 _ _ _ _|exact ax0 _|exact Z4 _|exact G4 _|exact y9 _|exact V1 _|exact Y4 _|exact e7 _|exact x8 _|exact Y3 _|exact T7 _|exact O8 _|exact F6|exact Z6 _|exact ij0 rfl|exact N9 _ _ _|exact cn0 _ _|(refine C1 ?_ (fun _=>?_))|(refine P1 (fun _=>?_) _)|split|(dsimp only))
theorem in1 {P:Program} (a:Array TypeId) (t:TypeId) (x:Array Value):j1 P (Builtin.cap_ a t x):=by
 unfold Builtin.cap_
 repeat' (first|exact B1 _|exact I3 _|exact V1 _|exact O8 _|(refine C1 ?_ (fun _=>?_))|(refine P1 (fun _=>?_) _)|split|(dsimp only))
theorem bp1 {P:Program} (a:Array TypeId) (t:TypeId) (x:Array Value):j1 P (Builtin.copy_ a t x):=by
 unfold Builtin.copy_
 repeat' (first|exact B1 _|exact I3 _|exact fv0 _ _ _|exact yx0 _|exact o4 _ _ _|exact Z4 _|exact V1 _|(refine C1 ?_ (fun _=>?_))|(refine P1 (fun _=>?_) _)|split|(dsimp only))
end
end Go.Yc
end
section
namespace Go.Vc
open Go
abbrev Env:=Nat->Value
def upd (e:Env) (d:Nat) (v:Value):Env:=fun t=>if t=d then v else e t
def R3 (e:Env) (d:Option Nat) (v:Value):Env:=match d with|some d=>upd e d v|none=>e
def ev (e:Env) (x:Operand):Value:=match x with
 | .tmp t=>e t
 | .const v=>v
 | .global g=>.pointer (some ⟨g,0,none⟩)
 | .func f=>.func (.func f) #[] #[]
theorem upd_same (e:Env) (d:Nat) (v:Value):upd e d v d=v:=if_pos rfl
theorem upd_ne (e:Env) {d t:Nat} (v:Value) (h:t≠d):upd e d v t=e t:=if_neg h
theorem P0 {e:Env} {t:Nat} {v:Value} (h:e t=v):e=upd e t v:=by
 funext s;unfold upd;split
 ·rename_i hs;rw[hs,h]
 ·rfl
class B4 where
 ds:List Deferred
instance Mq0:B4:=⟨[]⟩
structure Rep [B4] (n:Nat) (a:Act) (e:Env):Prop where
 size:a.tmps.size=n
 defers:a.defers=B4.ds
 get:∀t,a.tmps.getD t undef=e t
theorem Rep.eval [B4] {n:Nat} {a:Act} {e:Env} (h:Rep n a e):a.eval=ev e:=by
 funext x;cases x <;> simp[Act.eval,ev,h.get]
def u6 (n:Nat) (d:Option Nat):Bool:=match d with|some d=>Nat.blt d n|none=>true
theorem Rep.put [B4] {n:Nat} {a:Act} {e:Env} (h:Rep n a e) {d:Option Nat} (hd:u6 n d=true) (v:Value):Rep n (a.put d v) (R3 e d v):=by
 cases d with
 |none=>exact h
 |some d=>
  have L6:d<n:=by simpa [u6,Nat.blt_eq]using hd
  refine⟨by simp[Act.put,h.size],by simp[Act.put,h.defers],fun t=>?_⟩;have hg:=h.get t;simp only[Act.put,R3,upd,Array.getD_eq_getD_getElem?,Array.getElem?_setIfInBounds]at hg⊢;by_cases htd:t=d
  ·subst htd;simp[h.size,L6]
  ·simp only[htd,if_false,Ne.symm htd];exact hg
def lift [B4] (n:Nat) (Q:Exit->Env->World->Prop):Exit->Act->World->Prop:=fun x a w=>∃e,Rep n a e/\Q x e w
def dq0 (next:Env->World->Prop) (Q:Exit->Env->World->Prop):Exit->Env->World->Prop
 | .normal,e,w=>next e w
 |x,e,w=>Q x e w
def co0 (id:Nat) (Q:Exit->Env->World->Prop):Exit->Env->World->Prop
 | .exit id',e,w=>if id'=id then Q .normal e w else Q (.exit id') e w
 |x,e,w=>Q x e w
section
variable {n:Nat}{e:Env}{w:World}
def Uq0 (n:Nat) (l:List Oper):Bool:=l.all fun o=>u6 n o.dst
variable {ops:Array Oper}{o:Oper}{v:Value}
def G3 (ops:Array Oper) (e:Env) (j:Nat):Option Bool :=
 match(ops[j]?).bind (·.dst)with
 |some t=>match e t with| .bool b=>some b|_=>none
 |none=>none
theorem nn0 [B4] {a:Act} (ha:Rep n a e) (j:Nat):yielded ops a.tmps j=G3 ops e j:=by
 unfold yielded G3;cases h:(ops[j]?).bind (·.dst)with
 |none=>simp
 |some t=>
  have hg:=ha.get t;simp only[Option.bind_some,Array.getD_eq_getD_getElem?]at hg⊢;cases h2:a.tmps[t]? with
  |none=>rw[h2]at hg;simp only[Option.getD_none]at hg;rw[<- hg];rfl
  |some u=>rw[h2]at hg;simp only[Option.getD_some]at hg;rw[<- hg];cases u <;> rfl
theorem Q5 [B4] {a:Act} (ha:Rep n a e) (o:Oper):Region.wanted o (yielded ops a.tmps)=Region.wanted o (G3 ops e):=by
 have:yielded ops a.tmps=G3 ops e:=funext (nn0 ha);rw[this]
def Ret (R:Value->World->Prop):Ending->World->Prop
 | .returned v,w=>R v w
 |_,_=>False
end
section
end
def hav (G:List Nat) (f e:Env):Env:=fun t=>if G.contains t then f t else e t
def L0 (G:List Nat) (e' e:Env):Prop:=∀t,G.contains t=false->e' t=e t
theorem L0.refl (G:List Nat) (e:Env):L0 G e e:=fun _ _=>rfl
theorem L0.upd {G:List Nat} {e' e:Env} {d:Nat} {v:Value} (hd:G.contains d=true) (h:L0 G e' e):L0 G (upd e' d v) e:=fun t ht=>by
 have:t≠d:=fun h=>by subst h;rw[hd]at ht;cases ht
 rw[upd_ne _ _ this];exact h t ht
theorem L0.out {G:List Nat} {e' e:Env} (h:L0 G e' e):∃f,e'=hav G f e:=⟨e',by
 funext t;unfold hav;split
 ·rfl
 ·rename_i ht;exact h t (by simpa using ht)⟩
section
end
end Go.Vc
end
