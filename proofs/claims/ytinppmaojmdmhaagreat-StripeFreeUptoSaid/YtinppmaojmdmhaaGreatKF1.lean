/- What the claim leans on, part 1. Laws. -/
import Derived.Conc.TokenTrace
import GoSem.Claim
import Derived.Below
import Derived.Conc.Token
import Derived.Conc.Listed
import Derived.Orders
import Derived.Deep.LoopGhost
import Derived.Conc.CompanyDraw
import GoSem.Dispatch
import Derived.WalkKit
set_option linter.unusedVariables false
set_option maxHeartbeats 4000000
namespace Go
theorem Ud{P:Prop}(h:P:=by decide):P:=h
theorem Uo{P:Prop}(h:P:=by omega):P:=h
theorem Uk{P:Prop}(h:P:=by kernel_rfl):P:=h
theorem Uz{P:Prop}(h:P:=by intro z;cases z):P:=h
theorem Uy{P:Prop}(h:P:=by intro e z;cases z):P:=h
structure B(Q:Prop):Prop where
  v:Q
section
variable{P Q:Prop}
theorem U188(h:P:=by refine AtR.leaveD (G0 _) rfl Tryz.func62 rfl hcm ?_;exact QuitsD.mono hT Uo):P:=h
theorem U56(h:P:=by refine U15 ?_;exact⟨rfl,hb⟩):P:=h
theorem U392(h:P:=by exact ends.cell (cs:=#[.slice (pt b33) (2*n) (2*n),.i ((kc:Int)+1),.i (IntKind.i64.wrap (md+1))]) (.inr rfl) rfl rfl underlying97 rfl C9 L1<|⟨_,_,_,_,rfl,hW.bk Ke0 Pn0 (Wr0 Uo),hb⟩):P:=h
theorem U398(h:P:=by exact ends.cell (cs:=#[.slice (pt b14) n n,.i ((kc:Int)+1),.i (IntKind.i64.wrap (md+1))]) (.inr rfl) rfl rfl underlying97 rfl C9 L1<|⟨_,_,_,_,rfl,hW.bk Ke0 Pn0 (Wr0 Uo),hb⟩):P:=h
theorem U399(h:P:=by rw[hm.hit j p t hp hd (at0 j hj)];exact(Cu0 e0 ops.toList vals t j p (by rw[hlz];exact hp) hd (fun i' p' hp' R6=>h.one i' j p' p t (by rw[<- hlz];exact hp') hp R6 hd) _ hj).symm):P:=h
theorem U33(h:P:=by refine U15 ?_;exact⟨rfl,rfl⟩):P:=h
theorem U403(h:P:=by refine U27 ?_;exact⟨_,by omega,⟨i+1,a2,q+1,cp2,rfl,rfl,rfl,rfl,rfl,rfl,rfl,Uo,(by rw[hrl,List.length_append,hq];rfl),(by rw[hrl,List.map_append];simpa [Ug0,hc]using hO2),hb⟩⟩):P:=h
theorem U193(h:P:=by refine U97 ?_;exact⟨rfl,u0,F',h',r',⟨hK,hg0⟩,hC0,hCn,j3,ht⟩):P:=h
theorem U416(h:P:=by refine U27 ?_;exact⟨_,by omega,⟨v+1,(P3 ja (slot (2*n) (ky b)) a69),(P3 jc (slot (2*n) (ky b)) c69),rfl,rfl,rfl,rfl,rfl,rfl,rfl,rfl,rfl,hlv,hb,L1,K2,hK,hW⟩⟩):P:=h
theorem U417(h:P:=by refine U133 ?_;refine U30 ?_;exact⟨_,by omega,⟨j+1,_,_,_,_,_,rfl,rfl,rfl,rfl,rfl,rfl,hE1⟩⟩):P:=h
theorem U429(h:P:=by refine U27 ?_;exact⟨_,by omega,⟨v+1,(P3 ja (slot n (ky b)) a69),(P3 jc (slot n (ky b)) c69),rfl,rfl,rfl,rfl,rfl,rfl,rfl,rfl,rfl,hlv,hb,L1,K2,hK,hW⟩⟩):P:=h
theorem U42(h:P:=by refine U388 ?_;exact U417):P:=h
theorem U207(h:P:=by refine U378 ?_;exact⟨m5,_,r5,hN,rfl,_,rfl⟩):P:=h
theorem U443(h:P:=by refine U27 ?_;exact⟨_,by omega,⟨i+1,a,q,cp,rfl,rfl,rfl,rfl,rfl,rfl,rfl,Uo,(by rw[hrl];exact hq),(by rw[hrl];exact hO),hb⟩⟩):P:=h
theorem U210(h:P:=by refine W.ret<|U253 ?_;exact⟨rfl,hH,hb⟩):P:=h
theorem U109(h:P:=by refine U97 ?_;exact⟨rfl,db0⟩):P:=h
theorem U463(h:P:=by exact ZA.done hZ<|ZA.leaves (fn:=Tryz.f126) (f:=126) rfl func126 rfl (fun fr h8 h9=>hK _ fr h2 h8 h9)):P:=h
theorem U496(h:P:=by have hZ':Ctx.Zs prog (Fin prog Post {X' with pend:=0,cap:=0,dn:=0} 0):=J6;exact ZA.back (im0 prog Post {X' with pend:=0,cap:=0,dn:=0} 0) (i:=1) rfl rfl ha h9<|bl1 hE hT hJ' (by rw[<- hrb];rfl) rfl):P:=h
theorem U226(h:P:=by refine U144 ?_;exact⟨rfl,hC,j3⟩):P:=h
theorem U505(h:P:=by rw[<- hv];exact next w (hl (fun j=>listed.getD j false) w K9 hVD P5 hJ)):P:=h
theorem U521(h:P:=by rw[hM9,h9.1,h9.2.1,h9.2.2.1,h9.2.2.2.1];exact⟨rfl,rfl,rfl,rfl⟩):P:=h
theorem U525(h:P:=by exact ends.none (.inr rfl) rfl<|⟨m1,_,r1,hN,rfl,_,rfl⟩):P:=h
theorem U528(h:P:=by refine AtR.Te0 Y0 rfl Tryz.func60 rfl ?_;exact Tf0 hK):P:=h
theorem U536(h:P:=by refine AtR.Te0 R2 rfl Tryz.func64 rfl ?_;exact jf1 hK):P:=h
theorem U156(h:P:=by refine U8 ?_;exact U56):P:=h
theorem U542(h:P:=by refine U1 ?_;exact U210):P:=h
theorem U242(h:P:=by have hb:=ar0 hb (.inr h4) (arr 16 (fun x=>if 0 <=x/\x<0+16 then ints f (x-(0)) else ints (fun _=>0) x)) 225;have hH:=(hH).A3 hn4 (arr 16 (fun x=>if 0 <=x/\x<0+16 then ints f (x-(0)) else ints (fun _=>0) x)) 225;have L1:=(T2 _ (arr 16 (fun x=>if 0 <=x/\x<0+16 then ints f (x-(0)) else ints (fun _=>0) x)) 225 L1).H8 (fun x hx=>og0 (fun _=>0) f hx);exact U542):P:=h
theorem U243(h:P:=by refine U161 ?_;refine U27 ?_;exact⟨_,by omega,⟨u+1,ja,jc,rfl,rfl,rfl,rfl,rfl,rfl,O1,hb,L1,K2,hK,(WB.round hW Uo)⟩⟩):P:=h
variable(k:Q)
include k
theorem U0(h:Q->P:=by intro O;exact W.seq<|W.region rfl O):P:=h k
theorem U1(h:Q->P:=by intro O;refine L.nil ?_;show W _ _ _ _ _ _;exact O):P:=h k
theorem U45(h:Q->P:=by intro O;refine W.ret ?_;(repeat(first|refine T.ret ?_|refine B.ret ?_|refine N.ret ?_));exact O):P:=h k
theorem U30(h:Q->P:=by intro O;exact L.nil<|T.nrm O):P:=h k
theorem U160(h:Q->P:=by intro O;exact ZA.W hZ hb<|W.region rfl O):P:=h k
theorem U3(h:Q->P:=by intro O;refine U30 ?_;show ZA _ _ _ _ _ _ _;exact O):P:=h k
theorem U93(h:Q->P:=by intro O;(repeat(first|refine T.nrm ?_|refine B.nrm ?_|refine N.nrm ?_));exact ends.none (.inl rfl) rfl O):P:=h k
theorem U2(h:Q->P:=by intro O;have hb:Below w0.heap.size w0 w0:=Below.refl _ _;refine U0 ?_;revert hb;exact O):P:=h k
theorem U11(h:Q->P:=by intro O;exact L.va (D3 rfl)<|L.va (j1 rfl) O):P:=h k
theorem U7(h:Q->P:=by intro O;exact L.va (fd0 rfl)<|U1 O):P:=h k
theorem U15(h:Q->P:=by intro O;refine U45 ?_;exact ends.one (.inr rfl) rfl O):P:=h k
theorem U4(h:Q->P:=by intro O;exact ZA.seq hZ<|U160 O):P:=h k
theorem U161(h:Q->P:=by intro O;(repeat(first|refine T.exit ?_|refine N.exit ?_|refine B.Rz0 Ud ?_));exact B.Ry0 O):P:=h k
theorem U46(h:Q->P:=by intro O;exact D.va (fun w' W0=>(q0 rfl underlying123 rfl ((hA.j0 W0).E0 0 (v:=.p c.cb) rfl)))<|D.va (fun w' W0=>(j1 rfl)) O):P:=h k
theorem U123(h:Q->P:=by intro O;refine L.pu 0 [.slice (some ⟨va m2 lb.j (s2.st lb.j).R3,0,none⟩) ((s2.st lb.j).V0) (vc m2 lb.j (s2.st lb.j).R3),.i ((s2.st lb.j).l.length:Nat),.i ((s2.st lb.j).made:Nat)] #[.slice (some ⟨va m2 lb.j (s2.st lb.j).R3,0,none⟩) ((s2.st lb.j).V0) (vc m2 lb.j (s2.st lb.j).R3),.i ((s2.st lb.j).l.length:Nat),.i ((s2.st lb.j).made:Nat)] C9 Y8 (fun w G1 hg H2=>?_);have hN:=hN.H6 hg Eh0 lt9;revert w G1 hg H2 hN;exact O):P:=h k
theorem U354(h:B Q->P:=by intro O;exact L.va (ry0 rfl rfl Uo)<|L.va (N3 rfl) O.1):P:=h ⟨k⟩
theorem U162(h:Q->P:=by intro O;show W _ _ _ _ _ _;exact W.region rfl O):P:=h k
theorem U5(h:Q->P:=by intro O;refine U1 ?_;exact W.seq O):P:=h k
theorem U252(h:Q->P:=by intro O;refine Q0.off (G0 _) rfl rfl ?_;exact Q0.off (G0 _) rfl rfl O):P:=h k
theorem U163(h:Q->P:=by intro O;exact L.va (A2 (cs:=[.i obj,.i num]) rfl underlying162 rfl Fx0 rfl (hC.R7 rfl))<|L.va (D3 rfl) O):P:=h k
theorem U253(h:Q->P:=by intro O;(repeat(first|refine T.ret ?_|refine B.ret ?_));exact ends.Lz0 (.inr rfl) rfl rfl underlying225 rfl (by rw[I4];exact Z4) L1 O):P:=h k
theorem U69(h:Q->P:=by intro O;refine W.skip ?_;show W _ _ _ _ _ _;exact O):P:=h k
theorem U164(h:Q->P:=by intro O;refine At.seq (G0 _) ?_;exact At.region (G0 _) O):P:=h k
theorem U31(h:Q->P:=by intro O;exact F.va rfl rfl (fun w' W0=>(D3 rfl))<|F.va rfl rfl (fun w' W0=>(j1 rfl)) O):P:=h k
theorem U47(h:Q->P:=by intro O;exact L.off rfl<|L.off rfl O):P:=h k
theorem U8(h:Q->P:=by intro O;exact L.va (jm0 rfl)<|U1 O):P:=h k
theorem U254(h:Q->P:=by intro O;refine W.fl 10 [5] [0,1,2,3,4,5,6,7,8,9] (fun w'=>I0 w' b9 #[.slice (some ⟨va m2 lb.j (s2.st lb.j).R3,0,none⟩) ((s2.st lb.j).V0) (vc m2 lb.j (s2.st lb.j).R3),.i ((s2.st lb.j).l.length:Nat),.i ((s2.st lb.j).made:Nat)] 97/\I0 w' (eb m e) #[.string lb.q,.i nm2,.p lm2,.pointer (some (⟨cnG m e,0,none⟩))] 127) Uk Uk Uk Uk Uk (⟨Y8.j0 (Below.refl w.heap.size w).drew,S7.j0 (Below.refl w.heap.size w).drew⟩) ?_;have G4:Below w.heap.size w w.drew:=(Below.refl w.heap.size w).drew;revert G4;exact O):P:=h k
theorem U165(h:Q->P:=by intro O;exact L.va (N3 rfl)<|L.va (p7 (i:=plc o) (n:=4) rfl rfl underlying166 no0 (je0 o)) O):P:=h k
theorem U255(h:Q->P:=by intro O;exact F.va rfl rfl (fun w' W0=>(A0 rfl underlying97 rfl tc0 Ud))<|F.va rfl rfl (fun w' W0=>(q0 rfl underlying95 rfl (W0.E0 0 (v:=.slice a n c) rfl))) O):P:=h k
theorem U36(h:Q->P:=by intro O;exact L.va (n8 rfl)<|L.on rfl O):P:=h k
theorem U256(h:Q->P:=by intro O;refine U252 ?_;exact Q0.val (G0 _) (J1 _) rfl (v:=.bool false) (gt0 rfl rfl) O):P:=h k
theorem U48(h:Q->P:=by intro O;exact D.va (fun w' W0=>j1 rfl)<|D.va (fun w' W0=>(A0 rfl underlying230 rfl Z4 Ud)) O):P:=h k
theorem U355(h:Q->P:=by intro O;exact F.va rfl rfl (fun w' W0=>(A0 rfl underlying97 rfl sz3 Ud))<|F.va rfl rfl (fun w' W0=>(q0 rfl underlying3 rfl (W0.E0 2 (v:=.i md) rfl))) O):P:=h k
theorem U20(h:Q->P:=by intro O;refine U0 ?_;exact L.va (N3 rfl) O):P:=h k
theorem U23(h:Q->P:=by intro O;refine U0 ?_;exact L.va (dx0 rfl) O):P:=h k
theorem U356(h:Q->P:=by intro O;exact W.block<|W.loop (fun k e w=>∃(v:Nat),∃(ja:Nat->Option Addr),∃(jc:Nat->Nat),k=(qs sl n en u).length-v/\e 4= .p b4/\e 5= .p b5/\e 41= .slice a41 (n+1) c41/\e 42= .i ((n+1:Nat):Int)/\e 43= .i (u:Nat)/\e 47= .slice (P3 ia n (pt b39) u) ((qs sl n en u).length) (P3 ic n 1 u)/\e 48= .i ((qs sl n en u).length:Nat)/\e 49= .i (v:Nat)/\v <=(qs sl n en u).length/\Below w0.heap.size w0 w/\I0 w b4 #[.slice none 0 0,.i 0,.i 0] 97/\I0 w b5 #[.slice (pt b33) (2*n) (2*n),.i ((kc:Int)+1),.i (IntKind.i64.wrap (md+1))] 97/\Kg w1 w b33/\WB w w1.heap.size (2*n) b33 (at_ ky (2*n) (flv (qs sl n en) u v)) ja jc) _ ⟨0,ja,jc,rfl,rfl,rfl,rfl,rfl,rfl,rfl,rfl,rfl,Nat.zero_le _,hb,L1,K2,hK,(by rw[Gu0];exact hW)⟩ O):P:=h k
theorem U124(h:Q->P:=by intro O;exact B.nrm<|U162 O):P:=h k
theorem U18(h:Q->P:=by intro O;exact L.va (D3 rfl)<|L.va (N3 rfl) O):P:=h k
theorem U257(h:Q->P:=by intro O;exact L.va (q0 rfl underlying157 rfl (hM.E0 0 (v:=(.iface 242 (.p sb))) rfl))<|L.va (D3 rfl) O):P:=h k
theorem U357(h:Q->P:=by intro O;exact W.block<|W.loop (fun k e w=>∃(v:Nat),∃(ja:Nat->Option Addr),∃(jc:Nat->Nat),k=(qs sl n en u).length-v/\e 4= .p b4/\e 5= .p b5/\e 41= .slice a41 (n+1) c41/\e 42= .i ((n+1:Nat):Int)/\e 43= .i (u:Nat)/\e 47= .slice (P3 ia n (pt b39) u) ((qs sl n en u).length) (P3 ic n 1 u)/\e 48= .i ((qs sl n en u).length:Nat)/\e 49= .i (v:Nat)/\v <=(qs sl n en u).length/\Below w0.heap.size w0 w/\I0 w b4 #[.slice none 0 0,.i 0,.i 0] 97/\I0 w b5 #[.slice (pt b14) n n,.i ((kc:Int)+1),.i (IntKind.i64.wrap (md+1))] 97/\Kg w1 w b14/\WB w w1.heap.size n b14 (at_ ky n (flv (qs sl n en) u v)) ja jc) _ ⟨0,ja,jc,rfl,rfl,rfl,rfl,rfl,rfl,rfl,rfl,rfl,Nat.zero_le _,hb,L1,K2,hK,(by rw[Gu0];exact hW)⟩ O):P:=h k
theorem U358(h:Q->P:=by intro O;refine Q0.nil (G0 _) ?_;exact At.X6 (G0 _) rfl O):P:=h k
theorem U49(h:Q->P:=by intro O;exact D.va (fun w' W0=>(D3 rfl))<|D.va (fun w' W0=>(j1 rfl)) O):P:=h k
theorem U9(h:Q->P:=by intro O;refine F.nil ?_;show L _ _ _ _ _ _ _;exact O):P:=h k
theorem U10(h:Q->P:=by intro O;refine L.nil ?_;show ZA _ _ _ _ _ _ _;exact O):P:=h k
theorem U258(h:Q->P:=by intro O;exact L.va (K6 rfl rfl)<|L.va (K6 rfl rfl) O):P:=h k
theorem U125(h:Q->P:=by intro O;exact L.va (D3 rfl)<|L.on rfl O):P:=h k
theorem U126(h:Q->P:=by intro O;exact L.va (q0 rfl underlying27 rfl (hC.E0 2 (v:=.p wb) rfl))<|L.call (N2 rfl func69 rfl rf1 rfl) (Gj0 wb w hW) O):P:=h k
theorem U24(h:Q->P:=by intro O;have G4:Below w.heap.size w w.drew:=(Below.refl w.heap.size w).drew;have hb:=B0 hb G4;revert G4 hb;exact O):P:=h k
theorem U127(h:Q->P:=by intro O;refine Q0.val (G0 _) (J1 _) rfl (v:=.bool false) (aw0 (r:=false) rfl rfl Ud) ?_;exact Q0.val (G0 _) (J1 _) rfl (v:=.bool false) (P0 rfl) O):P:=h k
theorem U128(h:Q->P:=by intro O;exact L.va (A0 rfl underlying97 rfl tc0 Ud)<|L.va (q0 rfl underlying95 rfl (Y1.E0 0 (v:=.slice a n c) rfl)) O):P:=h k
theorem U359(h:B Q->P:=by intro O;refine L.va (cb0 (i:=(slot (2*n) (ky b))) rfl rfl underlying95 gx0 hi)<|L.put (b:=b33) (o:=0+(slot (2*n) (ky b))*1) (vs:=[.slice a69 ((at_ ky (2*n) (flv (qs sl n en) u v) (slot (2*n) (ky b))).length+1) c69]) (arr (2*n) fun j=>.slice (P3 ja (slot (2*n) (ky b)) a69 j) (P3 (at_ ky (2*n) (flv (qs sl n en) u v)) (slot (2*n) (ky b)) ((at_ ky (2*n) (flv (qs sl n en) u v) (slot (2*n) (ky b))) ++ [b]) j).length (P3 jc (slot (2*n) (ky b)) c69 j)) rfl rfl rfl gx0 rfl rfl hoc (by rw[I4];omega) (nx0 hi (by rw[I1,I1,I1,List.length_append];rfl) (fun j hj=>by rw[B1 hj,B1 hj,B1 hj])) (fun w G1 hg H2=>?_);revert w G1 hg H2;exact O.1):P:=h ⟨k⟩
theorem U70(h:Q->P:=by intro O;refine U0 ?_;exact L.va (q0 rfl underlying89 rfl (Y1.E0 0 (v:=.p cb) rfl)) O):P:=h k
theorem U71(h:Q->P:=by intro O;exact L.va (A0 rfl underlying67 rfl qp0 Ud)<|L.va (A0 rfl underlying65 rfl sz3 Ud) O):P:=h k
theorem U94(h:Q->P:=by intro O;exact F.va rfl rfl (fun w' W0=>(N3 rfl))<|F.va rfl rfl (fun w' W0=>(A0 rfl underlying97 rfl tc0 Ud)) O):P:=h k
theorem U360(h:Q->P:=by intro O;exact W.seq<|W.block O):P:=h k
theorem U16(h:Q->P:=by intro O;refine U0 ?_;exact L.va (D3 rfl) O):P:=h k
theorem U259(h:Q->P:=by intro O;refine At.seq Y0 ?_;exact At.region Y0 O):P:=h k
theorem U166(h:Q->P:=by intro O;exact D.va (fun w' W0=>(H3 rfl underlying225 rfl Z4 (o5.j0 W0) Ud (fun k _=>k4 (f:=fun k=>(f) (0+k)) (by rw[Nat.zero_add]))))<|D.va (fun w' W0=>(D3 rfl)) O):P:=h k
theorem U361(h:Q->P:=by intro O;refine Q0.val Z2 (J1 _) rfl (v:=.pointer (some ⟨gr.blk,gr.off,none⟩)) (P0 rfl) ?_;exact Q0.val Z2 (J1 _) rfl (v:=.pointer (some ⟨gr.blk,gr.off,none⟩)) (T5 rfl) O):P:=h k
theorem U260(h:Q->P:=by intro O;exact F.va rfl rfl (fun w' W0=>(A2 (cs:=[.slice (some ⟨va m2 lb.j (s2.st lb.j).R3,0,none⟩) ((s2.st lb.j).V0) (vc m2 lb.j (s2.st lb.j).R3),.i ((s2.st lb.j).l.length:Nat),.i ((s2.st lb.j).made:Nat)]) rfl underlying97 rfl C9 rfl (W0.1.R7 rfl)))<|U31 O):P:=h k
theorem U261(h:Q->P:=by intro O;refine U1 ?_;exact W.X6 rfl O):P:=h k
theorem U167(h:Q->P:=by intro O;exact L.va (H3 rfl underlying225 rfl Z4 o5 Ud (fun k _=>k4 (f:=fun k=>(f) (0+k)) (by rw[Nat.zero_add])))<|L.st (L4 rfl rfl Z4 (fun k=>rfl) L1 Ud) O):P:=h k
theorem U362(h:B Q->P:=by intro O;refine L.va (cb0 (i:=(slot n (ky b))) rfl rfl underlying95 gx0 hi)<|L.put (b:=b14) (o:=0+(slot n (ky b))*1) (vs:=[.slice a69 ((at_ ky n (flv (qs sl n en) u v) (slot n (ky b))).length+1) c69]) (arr n fun j=>.slice (P3 ja (slot n (ky b)) a69 j) (P3 (at_ ky n (flv (qs sl n en) u v)) (slot n (ky b)) ((at_ ky n (flv (qs sl n en) u v) (slot n (ky b))) ++ [b]) j).length (P3 jc (slot n (ky b)) c69 j)) rfl rfl rfl gx0 rfl rfl hoc (by rw[I4];omega) (nx0 hi (by rw[I1,I1,I1,List.length_append];rfl) (fun j hj=>by rw[B1 hj,B1 hj,B1 hj])) (fun w G1 hg H2=>?_);revert w G1 hg H2;exact O.1):P:=h ⟨k⟩
theorem U72(h:Q->P:=by intro O;exact F.va rfl rfl (fun w' W0=>(D3 rfl))<|F.va rfl rfl (fun w' W0=>(N3 rfl)) O):P:=h k
theorem U168(h:Q->P:=by intro O;refine At.seq (Z0 _ gr 2) ?_;exact At.region (Z0 _ gr 2) O):P:=h k
theorem U169(h:Q->P:=by intro O;refine Q0.off Y0 rfl rfl ?_;exact Q0.off Y0 rfl rfl O):P:=h k
theorem U363(h:Q->P:=by intro O;exact L.va (N3 rfl)<|U1 O):P:=h k
theorem U73(h:Q->P:=by intro O;exact L.va (Z9 rfl)<|U1 O):P:=h k
theorem U37(h:Q->P:=by intro O;refine L.alloc (cs:=#[.slice none 0 0,.i 0,.i 0]) jq1 rfl (fun w b5 F5=>?_);have lt5:=F5.lq hb.size;revert w b5 F5 lt5;exact O):P:=h k
theorem U262(h:Q->P:=by intro O;refine U5 ?_;exact W.px0 5 (fun w'=>Below w.heap.size w w') Uk Uk Uk Uk ((Below.refl w.heap.size w).drew) O):P:=h k
theorem U13(h:Q->P:=by intro O;refine U3 ?_;exact ZA.seq hZ O):P:=h k
theorem U263(h:Q->P:=by intro O;exact L.va (A0 rfl underlying39 rfl qc1 Ud)<|L.va (q0 rfl underlying36 rfl (V8.E0 2 (v:=.slice ba m bc) rfl)) O):P:=h k
theorem U170(h:Q->P:=by intro O;exact D.va (fun w' W0=>(A0 rfl underlying127 rfl sz9 Ud))<|D.va (fun w' W0=>(q0 rfl underlying9 rfl ((S7.j0 W0).E0 0 (v:=.string (ky b)) rfl))) O):P:=h k
theorem U50(h:Q->P:=by intro O;refine At.seq (G0 _) ?_;exact U164 O):P:=h k
theorem U171(h:Q->P:=by intro O;exact F.va rfl rfl (fun w' W0=>(A0 rfl underlying97 rfl sz3 Ud))<|F.va rfl rfl (fun w' W0=>(q0 rfl underlying3 rfl (W0.E0 1 (v:=.i (kc:Int)) rfl))) O):P:=h k
theorem U14(h:Q->P:=by intro O;refine U4 ?_;exact L.va (D3 rfl) O):P:=h k
theorem U172(h:Q->P:=by intro O;refine U165 ?_;exact L.va (q0 (v:=.pointer (some (⟨eb m e,0,none⟩))) rfl underlying71 rfl (by have h9:=I0.Gt0 hE.hA (je0 o);rw[lp0]at h9;exact h9)) O):P:=h k
theorem U38(h:Q->P:=by intro O;exact ZA.code hZ hb<|W.region rfl O):P:=h k
theorem U173(h:Q->P:=by intro O;refine L.pu 0 [.slice (pt b14) n n,.i ((kc:Int)+1),.i (IntKind.i64.wrap (md+1))] #[.slice (pt b14) n n,.i ((kc:Int)+1),.i (IntKind.i64.wrap (md+1))] C9 K2 (fun w G1 hg H2=>?_);have o6:=y5.gk0 K2 hg;revert w G1 hg H2 o6;exact O):P:=h k
theorem U364(h:Q->P:=by intro O;have o5:=o5.j0 F4.below;have L1:I0 w b4 (Array.replicate 16 (Value.i 0)) 225:=F4.blk;revert o5 L1;exact O):P:=h k
theorem U264(h:Q->P:=by intro O;exact ZA.X6 hZ rfl<|ZA.skip hZ O):P:=h k
theorem U95(h:Q->P:=by intro O;exact L.va (j1 rfl)<|L.va (A0 rfl underlying173 rfl nn0 Ud) O):P:=h k
theorem U74(h:Q->P:=by intro O;refine U11 ?_;exact L.va (A0 rfl underlying248 rfl sz4 Ud) O):P:=h k
theorem U365(h:B Q->P:=by intro O;exact L.va (N3 rfl)<|L.va (ry0 rfl rfl Uo)<|L.va (fd0 rfl) O.1):P:=h ⟨k⟩
theorem U32(h:Q->P:=by intro O;exact L.va (k7 rfl)<|L.nil O):P:=h k
theorem U19(h:Q->P:=by intro O;exact L.va (H7 rfl)<|L.nil O):P:=h k
theorem U265(h:Q->P:=by intro O;refine Q0.val Y0 (J1 _) rfl (v:=.bool false) (aw0 (r:=false) rfl rfl Ud) ?_;exact Q0.val Y0 (J1 _) rfl (v:=.bool false) (P0 rfl) O):P:=h k
theorem U21(h:Q->P:=by intro O;have lt2:=F2.lq hb.size;have hb:=B0 hb F2.below;revert lt2 hb;exact O):P:=h k
theorem U366(h:Q->P:=by intro O;exact F.va rfl rfl (fun w' W0=>(K6 rfl rfl))<|F.va rfl rfl (fun w' W0=>(K6 rfl rfl)) O):P:=h k
theorem U174(h:Q->P:=by intro O;refine U165 ?_;exact L.va (q0 (v:=.pointer none) rfl underlying71 rfl (by have h9:=I0.Gt0 hE.hA (je0 o);rw[lp0]at h9;exact h9)) O):P:=h k
theorem U75(h:Q->P:=by intro O;(repeat(first|refine T.exit ?_|refine B.Rz0 Ud ?_));exact B.Ry0 O):P:=h k
theorem U367(h:Q->P:=by intro O;refine W.ret ?_;(repeat(first|refine T.ret ?_|refine B.ret ?_));exact O):P:=h k
theorem U175(h:Q->P:=by intro O;exact L.va (A0 rfl underlying97 rfl tc0 Ud)<|L.va (q0 rfl underlying95 rfl (K2.E0 0 (v:=.slice (pt b14) n n) rfl)) O):P:=h k
theorem U368(h:Q->P:=by intro O;exact L.va (q0 rfl underlying242 rfl (hB0.E0 0 (v:=.p sb) rfl))<|L.va (j1 rfl) O):P:=h k
theorem U176(h:Q->P:=by intro O;exact L.va (A0 rfl underlying97 rfl sz3 Ud)<|L.va (q0 rfl underlying3 rfl (K2.E0 1 (v:=.i ((kc:Int)+1)) rfl)) O):P:=h k
theorem U369(h:Q->P:=by intro O;have hX1:=lr1 (e:=en) (Bl:=Bl) (hB0.j0 hb).inn jc0 (Nat.le_trans hBl cp1);have hE1:bv0 w1 ky (fl (qs sl n en) (n+1)):=(ic0 sl n en).symm▸(hE0.j0 hb);revert hX1 hE1;exact O):P:=h k
theorem U266(h:Q->P:=by intro O;refine U358 ?_;exact At.skip (G0 _) O):P:=h k
theorem U96(h:Q->P:=by intro O;refine U169 ?_;exact Q0.val Y0 (J1 _) rfl (v:=.bool false) (gt0 rfl rfl) O):P:=h k
theorem U370(h:Q->P:=by intro O;exact W.v8 rfl<|W.region rfl O):P:=h k
theorem U25(h:Q->P:=by intro O;exact L.va (kg0 rfl)<|U1 O):P:=h k
theorem U267(h:Q->P:=by intro O;exact D.va (fun w' W0=>(A0 rfl underlying248 rfl Fy0 Ud))<|D.va (fun w' W0=>(q0 rfl underlying169 rfl (((hg.m.blk i _ (J7 hc)).j0 W0).E0 1 (v:=.p R.rb) rfl))) O):P:=h k
theorem U268(h:Q->P:=by intro O;exact D.va (fun w' W0=>(A0 rfl underlying248 rfl sz3 Ud))<|D.va (fun w' W0=>(q0 rfl underlying3 rfl (((hg.m.blk i _ (J7 hc)).j0 W0).E0 0 (v:=.i (i:Int)) rfl))) O):P:=h k
theorem U371(h:B Q->P:=by intro O;have hi:=nv0 (n:=(2*n)) Uo (ky b);refine W.fl 11 [9,10] [0,1,2,3,4,5,6,7,8,9,10] (fun w'=>I0 w' b5 #[.slice (pt b33) (2*n) (2*n),.i ((kc:Int)+1),.i (IntKind.i64.wrap (md+1))] 97/\I0 w' b33 (arr (2*n) fun j=>.slice (ja j) (at_ ky (2*n) (flv (qs sl n en) u v) j).length (jc j)) 195) Uk Uk Uk Uk Uk (⟨K2.j0 (Below.refl w.heap.size w).drew,hoc.j0 (Below.refl w.heap.size w).drew⟩) ?_;revert hi;exact O.1):P:=h ⟨k⟩
theorem U26(h:Q->P:=by intro O;exact L.va (N3 rfl)<|L.on rfl O):P:=h k
theorem U129(h:Q->P:=by intro O;refine L.alloc (cs:=#[.slice none 0 0,.i 0,.i 0]) jq1 rfl (fun w b9 F9=>?_);(have Eh0:=hN.at_.fresh (Nat.le_of_eq F9.here.symm));revert w b9 F9 Eh0;exact O):P:=h k
theorem U51(h:Q->P:=by intro O;refine At.seq R2 ?_;exact At.region R2 O):P:=h k
theorem U97(h:Q->P:=by intro O;exact L.nil<|U93 O):P:=h k
theorem U269(h:Q->P:=by intro O;exact D.va (fun w' W0=>(A0 rfl underlying45 rfl Ji0 Ud))<|D.va (fun w' W0=>(q0 rfl underlying37 rfl ((hR.j0 W0).E0 3 (v:=.slice (pt R.eb) R.m R.m) rfl))) O):P:=h k
theorem U6(h:Q->P:=by intro O;refine U1 ?_;exact U0 O):P:=h k
theorem U372(h:Q->P:=by intro O;exact W.seq<|W.fl 11 [8,10] [0,1,2,3,4,5,6,7,9,8,10] (fun w'=>I0 w' b5 #[.slice a9 n c9,.i (IntKind.i64.wrap (ct-1)),.i md] 97/\I0 w' b2 #[.slice a n c,.i ct,.i md] 97/\Bk w' Bl n a c sl ia ic) Uk Uk Uk Uk Uk (⟨K2.j0 (Below.refl w.heap.size w).drew,Y1.j0 (Below.refl w.heap.size w).drew,hB.j0 (Below.refl w.heap.size w).drew⟩) O):P:=h k
theorem U373(h:B Q->P:=by intro O;refine U354 ?_;exact U30 O.1):P:=h ⟨k⟩
theorem U374(h:B Q->P:=by intro O;have hi:=nv0 (n:=n) Uo (ky b);refine W.fl 11 [9,10] [0,1,2,3,4,5,6,7,8,9,10] (fun w'=>I0 w' b5 #[.slice (pt b14) n n,.i ((kc:Int)+1),.i (IntKind.i64.wrap (md+1))] 97/\I0 w' b14 (arr n fun j=>.slice (ja j) (at_ ky n (flv (qs sl n en) u v) j).length (jc j)) 195) Uk Uk Uk Uk Uk (⟨K2.j0 (Below.refl w.heap.size w).drew,hoc.j0 (Below.refl w.heap.size w).drew⟩) ?_;revert hi;exact O.1):P:=h ⟨k⟩
theorem U270(h:Q->P:=by intro O;exact L.va (j1 rfl)<|L.on rfl O):P:=h k
theorem U98(h:Q->P:=by intro O;exact F.va rfl rfl (fun w' W0=>(D3 rfl))<|F.doo rfl rfl O):P:=h k
theorem U76(h:Q->P:=by intro O;exact L.va (jm0 rfl)<|U3 O):P:=h k
theorem U271(h:Q->P:=by intro O;exact D.va (fun w' W0=>(q0 rfl underlying3 rfl ((hC.j0 W0).E0 0 (v:=.i (i:Int)) rfl)))<|D.va (fun w' W0=>cb0 (i:=i) rfl rfl underlying37 sz3 hi) O):P:=h k
theorem U52(h:Q->P:=by intro O;show W _ _ _ _ _ _;exact U0 O):P:=h k
theorem U27(h:B Q->P:=by intro O;refine U124 ?_;exact U373 O.1):P:=h ⟨k⟩
theorem U375(h:Q->P:=by intro O;exact F.va rfl rfl (fun w' W0=>(cb0 (i:=(slot (2*n) (ky b))) rfl rfl underlying95 gx0 hi))<|F.va rfl rfl (fun w' W0=>(q0 (v:=.slice (ja (slot (2*n) (ky b))) (at_ ky (2*n) (flv (qs sl n en) u v) (slot (2*n) (ky b))).length (jc (slot (2*n) (ky b)))) rfl underlying195 rfl (I0.Gt0 W0.2 hi))) O):P:=h k
theorem U272(h:Q->P:=by intro O;exact D.va (fun w' W0=>(A0 rfl underlying248 rfl Fy0 Ud))<|D.va (fun w' W0=>(q0 rfl underlying169 rfl ((hC.j0 W0).E0 1 (v:=.p R.rb) rfl))) O):P:=h k
theorem U177(h:Q->P:=by intro O;refine Q0.val (Z0 _ gr 2) (J1 _) rfl (v:=.bool false) (gt0 rfl rfl) ?_;exact Q0.nil (Z0 _ gr 2) O):P:=h k
theorem U130(h:Q->P:=by intro O;refine At.seq (Y3 _ gr) ?_;exact At.region (Y3 _ gr) O):P:=h k
theorem U53(h:Q->P:=by intro O;refine At.seq Z2 ?_;exact At.region Z2 O):P:=h k
theorem U17(h:Q->P:=by intro O;refine U7 ?_;exact W.seq O):P:=h k
theorem U178(h:Q->P:=by intro O;exact L.va (j1 rfl)<|L.va (A0 rfl underlying92 rfl qi1 Ud) O):P:=h k
theorem U376(h:Q->P:=by intro O;refine L.va (A2 (cs:=[.slice (pt b33) (2*n) (2*n),.i ((kc:Int)+1),.i (IntKind.i64.wrap (md+1))]) rfl underlying97 rfl C9 rfl (K2.R7 rfl))<|L.pu 0 [.slice (pt b33) (2*n) (2*n),.i ((kc:Int)+1),.i (IntKind.i64.wrap (md+1))] #[.slice (pt b33) (2*n) (2*n),.i ((kc:Int)+1),.i (IntKind.i64.wrap (md+1))] C9 L1 (fun w G1 hg H2=>?_);revert w G1 hg H2;exact O):P:=h k
theorem U273(h:Q->P:=by intro O;refine Q0.off (Z0 _ gr 2) rfl rfl ?_;exact Q0.off (Z0 _ gr 2) rfl rfl O):P:=h k
theorem U377(h:Q->P:=by intro O;exact F.va rfl rfl (fun w' W0=>(cb0 (i:=(slot n (ky b))) rfl rfl underlying95 gx0 hi))<|F.va rfl rfl (fun w' W0=>(q0 (v:=.slice (ja (slot n (ky b))) (at_ ky n (flv (qs sl n en) u v) (slot n (ky b))).length (jc (slot n (ky b)))) rfl underlying195 rfl (I0.Gt0 W0.2 hi))) O):P:=h k
theorem U77(h:Q->P:=by intro O;refine U261 ?_;exact U69 O):P:=h k
theorem U274(h:Q->P:=by intro O;refine Q0.val hY hb rfl (sz0 rfl underlying173 rfl fo1 Ud) ?_;exact Q0.stay (v:=.chan (some R.yb)) hb rfl (by simp) rfl underlying170 rfl O):P:=h k
theorem U78(h:Q->P:=by intro O;refine U4 ?_;exact L.va (n8 rfl) O):P:=h k
theorem U54(h:Q->P:=by intro O;exact L.va Q5<|U1 O):P:=h k
theorem U22(h:Q->P:=by intro O;refine U363 ?_;exact W.block O):P:=h k
theorem U99(h:Q->P:=by intro O;exact L.va (q0 rfl underlying123 rfl (hA.E0 0 (v:=.p c.cb) rfl))<|L.va (j1 rfl)<|L.va (A0 rfl underlying248 rfl sz4 Ud) O):P:=h k
theorem U378(h:Q->P:=by intro O;exact ZR.leave rfl func28 W5<|ends.none (.inr rfl) rfl O):P:=h k
theorem U79(h:Q->P:=by intro O;refine U1 ?_;exact W.region rfl O):P:=h k
theorem U379(h:Q->P:=by intro O;exact F.va rfl rfl (fun w' W0=>(Q7 (i:=slot n (ky e)) rfl rfl underlying95 gx0 zv1 hj))<|F.va rfl rfl (fun w' W0=>(q0 (v:=.slice (ia (slot n (ky e))) (sl (slot n (ky e))).length (ic (slot n (ky e)))) rfl underlying195 rfl (Own.at1 (Bk.out W0.2.2) hj))) O):P:=h k
theorem U80(h:Q->P:=by intro O;exact L.va (zn0 rfl)<|U258 O):P:=h k
theorem U179(h:Q->P:=by intro O;refine L.cx0 (cs:=#[.slice (pt b39) 1 1]) rfl rfl underlying95 gx0 rfl ⟨_,qp1⟩ Ud (fun w b40 F40=>?_);have Kc0:=F40.lq hb.size;revert w b40 F40 Kc0;exact O):P:=h k
theorem U180(h:Q->P:=by intro O;refine L.va (Q7 (i:=v) rfl rfl underlying195 no0 (hX1 u O1).sl hlv) ?_;have hO9:=hK.own (hX1 u O1) (Pm0 u O1);revert hO9;exact O):P:=h k
theorem U12(h:Q->P:=by intro O;refine U0 ?_;exact L.va (jo0 rfl rfl)<|U5 O):P:=h k
theorem U39(h:Q->P:=by intro O;refine U69 ?_;exact U360 O):P:=h k
theorem U380(h:Q->P:=by intro O;refine L.va (A2 (cs:=[.slice (pt b14) n n,.i ((kc:Int)+1),.i (IntKind.i64.wrap (md+1))]) rfl underlying97 rfl C9 rfl (K2.R7 rfl))<|L.pu 0 [.slice (pt b14) n n,.i ((kc:Int)+1),.i (IntKind.i64.wrap (md+1))] #[.slice (pt b14) n n,.i ((kc:Int)+1),.i (IntKind.i64.wrap (md+1))] C9 L1 (fun w G1 hg H2=>?_);revert w G1 hg H2;exact O):P:=h k
theorem U381(h:Q->P:=by intro O;exact L.va (A2 (cs:=[.slice (some ⟨va m2 lb.j (s2.st lb.j).R3,0,none⟩) ((s2.st lb.j).V0) (vc m2 lb.j (s2.st lb.j).R3),.i ((s2.st lb.j).l.length:Nat),.i ((s2.st lb.j).made:Nat)]) rfl underlying97 rfl C9 rfl (Y8.R7 rfl))<|L.va G5 O):P:=h k
theorem U275(h:B Q->P:=by intro O;exact L.va (Q7 rfl rfl underlying41 wj0 hE.sl Uo)<|L.va (A2 rfl underlying67 rfl wj0 rfl (wa1 hb (hE.all Uo))) O.1):P:=h ⟨k⟩
theorem U382(h:B Q->P:=by intro O;exact L.va (q0 (v:=.pointer (some (⟨cl i,0,none⟩))) rfl underlying89 rfl (jd0 (o:=67+i*1) hT Uo (Kk0 O1)))<|L.call (B2 rfl rfl func39 rfl ba1 rfl) (ul1 (cl i) wb Xe0 i (sa i) (sn i) (sc i) (ct i:Nat) (md i) _ (hC.all i O1) hW) O.1):P:=h ⟨k⟩
theorem U181(h:B Q->P:=by intro O;refine F.doo rfl rfl<|L.make (m:=n) rfl rfl underlying95 qb0 (z0:=.slice none 0 0) rfl Ud Uo Uo (fun w b14 F14=>?_);revert w b14 F14;exact O.1):P:=h ⟨k⟩
theorem U383(h:B Q->P:=by intro O;refine L.put (b:=b4) (o:=0+plc o*1) (vs:=[.pointer none]) (arr 4 fun x=>Ek0 m (P3 has (plc o) none x)) rfl rfl rfl no0 rfl rfl hE.hA (by rw[I4];have:=je0 o;omega) (nx0 (je0 o) (by rw[I1];rfl) (fun j hj=>by rw[B1 hj])) (fun w hA2 hg H2=>?_);(have y8:=hE.at_.H6 hg (by rw[P8];exact hE.nf));revert w hA2 hg H2 y8;exact O.1):P:=h ⟨k⟩
theorem U384(h:B Q->P:=by intro O;exact L.va (A7 rfl underlying95 rfl)<|L.va (uv1 (n:=n) Uo▸zo0 rfl rfl) O.1):P:=h ⟨k⟩
theorem U131(h:Q->P:=by intro O;refine At.X6 (Z0 _ gr 2) rfl ?_;exact At.skip (Z0 _ gr 2) O):P:=h k
theorem U81(h:Q->P:=by intro O;refine At.seq C3 ?_;exact At.region C3 O):P:=h k
theorem U55(h:Q->P:=by intro O;exact ZA.Y4 hZ<|ZA.seq hZ O):P:=h k
theorem U182(h:Q->P:=by intro O;refine L.va (D3 rfl)<|L.cx0 (cs:=#[.p en]) rfl rfl underlying195 no0 rfl ⟨_,jn1⟩ Ud (fun w b39 F39=>?_);revert w b39 F39;exact O):P:=h k
theorem U276(h:Q->P:=by intro O;exact F.va rfl rfl (fun w' W0=>(j1 rfl))<|F.va rfl rfl (fun w' W0=>(A0 rfl underlying92 rfl qi1 Ud)) O):P:=h k
theorem U385(h:B Q->P:=by intro O;refine Q0.val (G0 _) (J1 _) rfl (v:=.int .i32 (((v:Nat):Int))) (M4 (r:=((v:Nat):Int)) rfl Tryz.underlying140 Tryz.underlying21 (gu0 v Uo)) ?_;exact Q0.val (G0 _) (J1 _) rfl (v:=.int .i32 (((v:Nat):Int))) (E1 rfl) O.1):P:=h ⟨k⟩
theorem U386(h:Q->P:=by intro O;exact D.va (fun w' W0=>(H3 rfl underlying225 rfl Z4 (hH.j0 W0) Ud (fun k hk=>wc1 u s d hk)))<|D.call (fun w' W0=>(B2 rfl rfl func143 rfl Fz0 rfl)) (fun w' W0=>(mm0 f u w').mono (fun v w'' h=>⟨h.1,B0 W0 h.2⟩)) O):P:=h k
theorem U387(h:Q->P:=by intro O;exact D.va (fun w' W0=>(H3 rfl underlying225 rfl Z4 (hH.j0 W0) Ud (fun k hk=>Ax1 u s d hk)))<|D.call (fun w' W0=>(B2 rfl rfl func143 rfl Fz0 rfl)) (fun w' W0=>(mm0 f d w').mono (fun v w'' h=>⟨h.1,B0 W0 h.2⟩)) O):P:=h k
theorem U132(h:Q->P:=by intro O;refine At.seq Y0 ?_;exact U259 O):P:=h k
theorem U183(h:Q->P:=by intro O;refine AtR.leave0 (G0 _) l7 rfl Tryz.func60 rfl ?_;exact Q0.nil (G0 _) O):P:=h k
theorem U277(h:Q->P:=by intro O;refine U23 ?_;exact L.va (A7 rfl underlying195 rfl) O):P:=h k
theorem U388(h:Q->P:=by intro O;exact L.nil<|B.nrm O):P:=h k
theorem U278(h:Q->P:=by intro O;exact L.va (A0 rfl underlying162 rfl sz3 Ud)<|L.va (q0 rfl underlying3 rfl (K2.E0 0 (v:=.i o) rfl)) O):P:=h k
theorem U279(h:Q->P:=by intro O;exact L.va (A0 rfl underlying162 rfl sz3 Ud)<|L.va (q0 rfl underlying3 rfl (K2.E0 1 (v:=.i n) rfl)) O):P:=h k
theorem U184(h:Q->P:=by intro O;exact L.va (j1 rfl)<|L.va (A0 rfl underlying164 rfl Fx0 Ud) O):P:=h k
theorem U280(h:Q->P:=by intro O;have neA:=P1.ne hA (hg.m.blk i c hc) Ud;refine L.stC (i:=i) (o:=9) (vs:=[.bool false]) hg {c with wt:=false} hc rfl rfl rfl rfl sz4 rfl rfl Ud rfl (fun w hg j3=>?_);revert neA w hg j3;exact O):P:=h k
theorem U185(h:Q->P:=by intro O;exact L.va (j1 rfl)<|L.va (A0 rfl underlying164 rfl jk1 Ud) O):P:=h k
theorem U186(h:Q->P:=by intro O;refine L.cx0 (cs:=#[.p b]) rfl rfl underlying195 no0 rfl ⟨_,jn1⟩ Ud (fun w b68 F68=>?_);have Wv0:=F68.lq hb.size;revert w b68 F68 Wv0;exact O):P:=h k
theorem U133(h:B Q->P:=by intro O;refine U124 ?_;exact U365 O.1):P:=h ⟨k⟩
theorem U187(h:Q->P:=by intro O;refine U163 ?_;exact L.va (p6 (l:=[.tmp 2,.tmp 5]) (vs:=[.p b2,.p b5]) rfl) O):P:=h k
theorem U100(h:Q->P:=by intro O;exact L.va (Z9 rfl)<|L.va (jm0 rfl) O):P:=h k
theorem U281(h:Q->P:=by intro O;refine U168 ?_;exact Q0.val (Z0 _ gr 2) (J1 _) rfl (v:=.int .u64 (((0*4294967296+1:Nat):Int))) (P0 rfl) O):P:=h k
theorem U189(h:Q->P:=by intro O;rw[L0 s4,L0 s5,L0 s41,L0 s42,L0 s43];exact O):P:=h k
theorem U282(h:Q->P:=by intro O;refine U3 ?_;exact ZA.px0 hZ hb 11 (fun w'=>Below w.heap.size w w') Uk Uk Uk Uk (Below.refl w.heap.size w).drew O):P:=h k
theorem U389(h:Q->P:=by intro O;refine L.va (A2 (cs:=[.slice a9 n c9,.i (IntKind.i64.wrap (ct-1)),.i md]) rfl underlying97 rfl C9 rfl (K2.R7 rfl))<|L.pu 0 [.slice a9 n c9,.i (IntKind.i64.wrap (ct-1)),.i md] #[.slice a9 n c9,.i (IntKind.i64.wrap (ct-1)),.i md] C9 L1 (fun w G1 hg H2=>?_);revert w G1 hg H2;exact O):P:=h k
theorem U283(h:Q->P:=by intro O;exact D.va (fun w' W0=>(j1 rfl))<|D.va (fun w' W0=>(A0 rfl underlying173 rfl nn0 Ud)) O):P:=h k
theorem U28(h:Q->P:=by intro O;refine U5 ?_;exact U0 O):P:=h k
theorem U40(h:Q->P:=by intro O;refine U36 ?_;exact U125 O):P:=h k
theorem U390(h:Q->P:=by intro O;refine Q0.val (Z0 _ gr 2) (J1 _) rfl (v:=.pointer (some ⟨gr.blk,gr.off,none⟩)) (P0 rfl) ?_;exact Q0.val (Z0 _ gr 2) (J1 _) rfl (v:=.pointer (some ⟨gr.blk,gr.off,none⟩)) (T5 rfl) O):P:=h k
theorem U391(h:Q->P:=by intro O;refine Q0.val (Z0 _ gr 1) (J1 _) rfl (v:=.pointer (some ⟨gr.blk,gr.off,none⟩)) (P0 rfl) ?_;exact Q0.val (Z0 _ gr 1) (J1 _) rfl (v:=.pointer (some ⟨gr.blk,gr.off,none⟩)) (T5 rfl) O):P:=h k
theorem U190(h:Q->P:=by intro O;refine U255 ?_;exact F.va rfl rfl (fun w' W0=>(A7 rfl underlying95 rfl)) O):P:=h k
theorem U57(h:Q->P:=by intro O;refine U3 ?_;exact ZA.v8 hZ rfl O):P:=h k
theorem U284(h:Q->P:=by intro O;exact W.px0 13 (fun w'=>Below w.heap.size w w') Uk Uk Uk Uk ((Below.refl w.heap.size w).drew)<|U46 O):P:=h k
theorem U82(h:Q->P:=by intro O;refine U47 ?_;exact L.off rfl O):P:=h k
theorem U285(h:Q->P:=by intro O;refine U5 ?_;exact W.last 6 (fun w'=>Below w.heap.size w w') Uk Uk Uk rfl ((Below.refl w.heap.size w).drew) O):P:=h k
theorem U393(h:Q->P:=by intro O;refine Q0.val (Y3 _ gr) (J1 _) rfl (v:=.pointer (some ⟨gr.blk,gr.off,none⟩)) (P0 rfl) ?_;exact Q0.val (Y3 _ gr) (J1 _) rfl (v:=.pointer (some ⟨gr.blk,gr.off,none⟩)) (T5 rfl) O):P:=h k
theorem U394(h:Q->P:=by intro O;refine Q0.val (G0 _) (J1 _) rfl (v:=.int .u32 0) (E1 rfl) ?_;exact Q0.nil (G0 _) O):P:=h k
theorem U395(h:Q->P:=by intro O;refine Q0.toUnsafe px1 (J1 _) rfl rfl (.inl rfl) Tryz.underlying203 Tryz.underlying205 gh1 ?_;exact Q0.Df0 R2 (J1 _) .acquire (by simp) (.inl rfl) rfl Tryz.func120 ru1 rfl rfl sx1 rfl O):P:=h k
theorem U396(h:Q->P:=by intro O;exact F.va rfl rfl (fun w' W0=>(A0 rfl underlying97 rfl tc0 Ud))<|F.va rfl rfl (fun w' W0=>(q0 rfl underlying95 rfl (W0.1.E0 0 (v:=.slice (pt b33) (2*n) (2*n)) rfl))) O):P:=h k
theorem U286(h:Q->P:=by intro O;have h5:=(Goes.be0 hg K2 (Nat.zero_lt_succ _) hF5).2;have hgn:Gn K w0 m F K4 u F':=Gn.H6 ⟨hK,Goes.down hbL hg⟩ j3 ⟨lt5,h5⟩;revert h5 hgn;exact O):P:=h k
theorem U101(h:Q->P:=by intro O;refine U2 ?_;intro hb;refine L.box (cs:=#[.p sb]) rfl rfl (fun w b2 F2=>?_);revert hb w b2 F2;exact O):P:=h k
theorem U83(h:Q->P:=by intro O;have o6:=y5.gk0 L1 hg;have hb:=W3 hb hb.size hg lt4;revert o6 hb;exact O):P:=h k
theorem U287(h:Q->P:=by intro O;exact F.va rfl rfl (fun w' W0=>(p6 (l:=[.tmp 3]) (vs:=[.p b3]) rfl))<|F.doo rfl rfl O):P:=h k
theorem U397(h:Q->P:=by intro O;exact D.va (fun w' W0=>(A2 (cs:=[.slice (pt b33) (2*n) (2*n),.i ((kc:Int)+1),.i (IntKind.i64.wrap (md+1))]) rfl underlying97 rfl C9 rfl ((K2.j0 W0).R7 rfl)))<|U49 O):P:=h k
theorem U288(h:Q->P:=by intro O;exact L.va (q0 rfl underlying4 rfl ((hg.m.blk i c hc).E0 10 (v:=.bool c.st) rfl))<|U76 O):P:=h k
theorem U400(h:Q->P:=by intro O;refine Q0.val C3 (J1 _) rfl (v:=.pointer (some ⟨gr.blk,gr.off,none⟩)) (P0 rfl) ?_;exact Q0.val C3 (J1 _) rfl (v:=.pointer (some ⟨gr.blk,gr.off,none⟩)) (T5 rfl) O):P:=h k
theorem U401(h:Q->P:=by intro O;refine Q0.val R2 (J1 _) rfl (v:=.pointer (some ⟨gr.blk,gr.off,none⟩)) (P0 rfl) ?_;exact Q0.val R2 (J1 _) rfl (v:=.pointer (some ⟨gr.blk,gr.off,none⟩)) (T5 rfl) O):P:=h k
theorem U289(h:Q->P:=by intro O;exact F.va rfl rfl (fun w' W0=>(jn0 rfl rfl))<|F.va rfl rfl (fun w' W0=>(N3 rfl)) O):P:=h k
theorem U134(h:Q->P:=by intro O;refine U23 ?_;exact L.va (A7 rfl underlying41 rfl) O):P:=h k
theorem U402(h:Q->P:=by intro O;exact F.va rfl rfl (fun w' W0=>(A0 rfl underlying45 rfl Tg0 Ud))<|F.va rfl rfl (fun w' W0=>(q0 rfl underlying41 rfl (W0.1.E0 1 (v:=.slice R.ea R.evs.length R.ec) rfl))) O):P:=h k
theorem U290(h:Q->P:=by intro O;refine Q0.val hY hb rfl (v:=.p R.rb) (P0 rfl) ?_;exact Q0.val hY hb rfl (T5 rfl) O):P:=h k
theorem U191(h:Q->P:=by intro O;exact L.va (D3 rfl)<|L.va (D3 rfl) O):P:=h k
theorem U404(h:Q->P:=by intro O;exact F.va rfl rfl (fun w' W0=>(A0 rfl underlying92 rfl jk1 Ud))<|F.va rfl rfl (fun w' W0=>(q0 (v:=.p p.wb) rfl underlying27 rfl (jd0 (o:=0) (Tn.tb W0) Ud rfl))) O):P:=h k
theorem U405(h:Q->P:=by intro O;exact F.va rfl rfl (fun w' W0=>(A0 rfl underlying92 rfl sz3 Ud))<|F.va rfl rfl (fun w' W0=>(q0 (v:=.i p.obj) rfl underlying3 rfl (jd0 (o:=1) (Tn.tb W0) Ud rfl))) O):P:=h k
theorem U406(h:Q->P:=by intro O;exact F.va rfl rfl (fun w' W0=>(A0 rfl underlying97 rfl tc0 Ud))<|F.va rfl rfl (fun w' W0=>(q0 rfl underlying95 rfl (W0.1.E0 0 (v:=.slice (pt b14) n n) rfl))) O):P:=h k
theorem U192(h:Q->P:=by intro O;exact L.va (dx0 rfl)<|L.va (A7 rfl underlying101 rfl) O):P:=h k
theorem U407(h:Q->P:=by intro O;refine Q0.val Y0 (J1 _) rfl (v:=.int .u32 0) (M4 (r:=0) rfl Tryz.underlying140 Tryz.underlying143 Ud) ?_;exact Q0.val Y0 (J1 _) rfl (v:=.int .u32 0) (E1 rfl) O):P:=h k
theorem U291(h:Q->P:=by intro O;exact L.va (dx0 rfl)<|L.va (N3 rfl) O):P:=h k
theorem U408(h:Q->P:=by intro O;exact D.va (fun w' W0=>(A2 (cs:=[.slice (pt b14) n n,.i ((kc:Int)+1),.i (IntKind.i64.wrap (md+1))]) rfl underlying97 rfl C9 rfl ((K2.j0 W0).R7 rfl)))<|U49 O):P:=h k
theorem U292(h:Q->P:=by intro O;exact L.va (kg0 rfl)<|U7 O):P:=h k
theorem U409(h:Q->P:=by intro O;refine Q0.fw0 Y0 (J1 _) rfl rfl (v:=.i 1) (P0 rfl) ?_;exact Q0.fw0 Y0 (J1 _) rfl rfl (v:=.int .i32 1) (M4 (r:=1) rfl Tryz.underlying3 Tryz.underlying21 Ud) O):P:=h k
theorem U135(h:Q->P:=by intro O;exact L.va (Z9 rfl)<|U3 O):P:=h k
theorem U410(h:Q->P:=by intro O;exact F.va rfl rfl (fun w' W0=>(P2 (parts:=[(0,.tmp 14),(1,.tmp 17),(2,.tmp 20)]) rfl (Ws0 (pt b14) n n ((kc:Int)+1) (IntKind.i64.wrap (md+1)))))<|F.doo rfl rfl O):P:=h k
theorem U293(h:Q->P:=by intro O;exact L.va (pt0 rfl)<|L.va (A2 rfl underlying152 rfl Fw0 rfl di0.all) O):P:=h k
theorem U41(h:Q->P:=by intro O;have lt5:=F5.lq hb.size;have hb:=B0 hb F5.below;revert lt5 hb;exact O):P:=h k
theorem U411(h:B Q->P:=by intro O;exact F.doo rfl rfl<|L.call (B2 rfl rfl func99 rfl yt1 rfl) (uu1 N c8 b3 e a8 (sl (slot n (ky e))) (by have:=hsl _ hj;omega) he ky w hD (hE0.j0 hb) o5 hk3 hN8) O.1):P:=h ⟨k⟩
theorem U84(h:Q->P:=by intro O;refine U23 ?_;exact L.va (N3 rfl) O):P:=h k
theorem U412(h:B Q->P:=by intro O;refine Q0.val (G0 _) (J1 _) rfl (v:=.bool true) (iz0 (r:=true) rfl rfl (decide_eq_true Uo)) ?_;exact Q0.val (G0 _) (J1 _) rfl (v:=.bool true) (P0 rfl) O.1):P:=h ⟨k⟩
theorem U413(h:Q->P:=by intro O;exact F.va rfl rfl (fun w' W0=>(A0 rfl underlying97 rfl tc0 Ud))<|F.va rfl rfl (fun w' W0=>(q0 rfl underlying95 rfl (W0.1.E0 0 (v:=.slice a9 n c9) rfl))) O):P:=h k
theorem U414(h:Q->P:=by intro O;refine Q0.fw0 (Z0 _ gr 2) (J1 _) rfl rfl (v:=.bool false) (iz0 (r:=false) rfl rfl Ud) ?_;exact Q0.val (Z0 _ gr 2) (J1 _) rfl (v:=.bool false) (co0 rfl rfl) O):P:=h k
theorem U102(h:Q->P:=by intro O;exact ZA.seq hZ<|ZA.W hZ hb O):P:=h k
theorem U194(h:Q->P:=by intro O;refine U11 ?_;exact L.va (A0 rfl underlying173 rfl To0 Ud) O):P:=h k
theorem U294(h:Q->P:=by intro O;refine Q0.val R2 (J1 _) rfl (v:=.int .u64 0) (E1 rfl) ?_;exact Q0.nil R2 O):P:=h k
theorem U415(h:Q->P:=by intro O;exact F.va rfl rfl (fun w' W0=>(q0 rfl underlying95 rfl (W0.1.E0 0 (v:=.slice (pt b33) (2*n) (2*n)) rfl)))<|F.va rfl rfl (fun w' W0=>(N3 rfl)) O):P:=h k
theorem U103(h:Q->P:=by intro O;refine Q0.nil Y0 ?_;refine At.X6 Y0 rfl ?_;exact At.skip Y0 O):P:=h k
theorem U418(h:Q->P:=by intro O;exact F.va rfl rfl (fun w' W0=>(A0 rfl underlying248 rfl sz3 Ud))<|F.va rfl rfl (fun w' W0=>(q0 rfl underlying3 rfl (W0.2.E0 0 (v:=.i (i:Int)) rfl))) O):P:=h k
theorem U419(h:Q->P:=by intro O;exact D.va (fun w' W0=>(A0 rfl underlying127 rfl sz9 Ud))<|D.va (fun w' W0=>(q0 rfl underlying9 rfl ((S7.j0 W0).E0 0 (v:=.string (ky e)) rfl))) O):P:=h k
theorem U195(h:Q->P:=by intro O;exact F.va rfl rfl (fun w' W0=>(zn0 rfl))<|U366 O):P:=h k
theorem U420(h:Q->P:=by intro O;exact F.va rfl rfl (fun w' W0=>(P2 (parts:=[(0,.tmp 14),(1,.tmp 17),(2,.tmp 20)]) rfl (Ws0 (pt b14) n n ((kc:Int)+1) (IntKind.i64.wrap (md+1)))))<|U9 O):P:=h k
theorem U421(h:Q->P:=by intro O;exact L.va (jo0 rfl rfl)<|U13 O):P:=h k
theorem U196(h:B Q->P:=by intro O;refine F.va rfl rfl (fun w' W0=>(fs0 rfl rfl Uo))<|U355 ?_;exact F.va rfl rfl (fun w' W0=>(jn0 rfl rfl)) O.1):P:=h ⟨k⟩
theorem U136(h:Q->P:=by intro O;exact W.region rfl<|L.va (N3 rfl) O):P:=h k
theorem U295(h:Q->P:=by intro O;have hB:=hB.mod o6 rfl;have Y1:=Y1.other hg pa0;revert hB Y1;exact O):P:=h k
theorem U197(h:Q->P:=by intro O;refine U368 ?_;exact L.va (A0 rfl underlying244 rfl sz4 Ud) O):P:=h k
theorem U422(h:Q->P:=by intro O;exact F.va rfl rfl (fun w' W0=>(A0 rfl underlying97 rfl sz3 Ud))<|F.va rfl rfl (fun w' W0=>(q0 rfl underlying3 rfl (W0.E0 1 (v:=.i ct) rfl))) O):P:=h k
theorem U198(h:Q->P:=by intro O;exact F.va rfl rfl (fun w' W0=>(Z9 rfl))<|U9 O):P:=h k
theorem U423(h:B Q->P:=by intro O;refine Q0.val Y0 (J1 _) rfl (v:=.bool true) (iz0 (r:=true) rfl rfl (decide_eq_true Uo)) ?_;exact Q0.val Y0 (J1 _) rfl (v:=.bool true) (P0 rfl) O.1):P:=h ⟨k⟩
theorem U424(h:Q->P:=by intro O;exact L.va (A0 rfl underlying127 rfl fk1 Ud)<|L.va (q0 (v:=.pointer (some ⟨cnG m2 e,0,none⟩)) rfl underlying125 rfl (hE.hE.E0 3 rfl)) O):P:=h k
theorem U199(h:Q->P:=by intro O;rw[L0 s0,L0 s7,L0 s8,L0 s9];exact O):P:=h k
theorem U200(h:B Q->P:=by intro O;exact L.va (fs0 rfl rfl Uo)<|L.va (N3 rfl) O.1):P:=h ⟨k⟩
theorem U296(h:Q->P:=by intro O;refine Q0.val (Z0 _ gr 2) (J1 _) rfl (v:=.bool false) (P0 rfl) ?_;exact U273 O):P:=h k
theorem U425(h:Q->P:=by intro O;exact L.va (n8 rfl)<|U47 O):P:=h k
theorem U426(h:Q->P:=by intro O;exact F.va rfl rfl (fun w' W0=>(q0 rfl underlying95 rfl (W0.1.E0 0 (v:=.slice (pt b14) n n) rfl)))<|F.va rfl rfl (fun w' W0=>(N3 rfl)) O):P:=h k
theorem U201(h:Q->P:=by intro O;have hmA:=ib0 (hWo.inn _ hi) hga hNo (TS:=[71]) rfl;have hb:=lg0 hb hmA Pn0;revert hmA hb;exact O):P:=h k
theorem U427(h:Q->P:=by intro O;refine U361 ?_;exact Q0.val Z2 (J1 _) rfl (v:=.pointer (some ⟨gr.blk,gr.off,none⟩)) (H5 (s:=1) gr.off gr.off rfl Tryz.underlying142 rfl Aq0 Ud rfl) O):P:=h k
theorem U428(h:Q->P:=by intro O;refine U361 ?_;exact Q0.val Z2 (J1 _) rfl (v:=.pointer (some ⟨gr.blk,gr.off,none⟩)) (H5 (s:=1) gr.off gr.off rfl Tryz.underlying145 rfl Ar0 Ud rfl) O):P:=h k
theorem U137(h:Q->P:=by intro O;refine U3 ?_;exact U264 O):P:=h k
theorem U297(h:Q->P:=by intro O;refine U50 ?_;exact Q0.val (G0 _) (J1 _) rfl (v:=.int .u32 0) (P0 rfl) O):P:=h k
theorem U202(h:Q->P:=by intro O;have Pm0:=fun j hj=>Own.kq0 (hX1 j hj) (S3 ub0) Ud;have Wu0:=Nat.le_trans hBl Ke0;revert Pm0 Wu0;exact O):P:=h k
theorem U138(h:Q->P:=by intro O;show L _ _ _ _ _ _ _;exact L.va (D3 rfl) O):P:=h k
theorem U298(h:Q->P:=by intro O;have L1:=L1.j0 L2;have K2:=K2.j0 L2;revert L1 K2;exact O):P:=h k
theorem U430(h:B Q->P:=by intro O;exact L.call (B2 rfl rfl func93 rfl bb1 rfl) (cl1 (pt b33) (2*n) (2*n) ((kc:Int)+1) (IntKind.i64.wrap (md+1)) (ky b) hkz Uo Uo _) O.1):P:=h ⟨k⟩
theorem U431(h:Q->P:=by intro O;exact L.va (A0 rfl underlying127 rfl qj1 Ud)<|L.va (q0 rfl underlying124 rfl (S7.E0 2 (v:=.pointer (some (⟨lmG m e,0,none⟩))) rfl)) O):P:=h k
theorem U58(h:Q->P:=by intro O;refine U39 ?_;exact U0 O):P:=h k
theorem U104(h:Q->P:=by intro O;have o6:=y5.gk0 K2 hg;have hb:=W3 hb hb.size hg lt5;revert o6 hb;exact O):P:=h k
theorem U59(h:Q->P:=by intro O;have L1:=L1.mod hmA rfl;have K2:=K2.mod hmA rfl;revert L1 K2;exact O):P:=h k
theorem U203(h:Q->P:=by intro O;refine U16 ?_;exact L.va (v5 rfl rfl underlying71) O):P:=h k
theorem U432(h:Q->P:=by intro O;exact F.va rfl rfl (fun w' W0=>(q0 rfl underlying95 rfl (W0.2.1.E0 0 (v:=.slice a n c) rfl)))<|F.va rfl rfl (fun w' W0=>(N3 rfl)) O):P:=h k
theorem U139(h:Q->P:=by intro O;exact W.region rfl<|L.va G5 O):P:=h k
theorem U433(h:B Q->P:=by intro O;exact D.va (fun w' W0=>(Q7 rfl rfl underlying146 Z4 ((SL.mk _ _ _)) Uo))<|D.va (fun w' W0=>(G8 rfl rfl underlying225 sz3 Uo Uo)) O.1):P:=h ⟨k⟩
theorem U60(h:Q->P:=by intro O;refine D.nil (fun w L2=>?_);have hb:=B0 hb L2;revert w L2 hb;exact O):P:=h k
theorem U434(h:Q->P:=by intro O;refine Q0.val (Z0 _ gr 2) (J1 _) rfl (v:=.bool true) (P0 rfl) ?_;exact Q0.fw0 (Z0 _ gr 2) (J1 _) rfl rfl (v:=.i (-1)) (P0 rfl) O):P:=h k
theorem U43(h:Q->P:=by intro O;have n9:=F5.ne L1;have hb:=B0 hb F5.below;revert n9 hb;exact O):P:=h k
theorem U435(h:Q->P:=by intro O;refine L.va (Q7 (i:=slot n (ky e)) rfl rfl underlying95 gx0 hC.sl hj)<|L.Ft0 (i:=slot n (ky e)) (v:=.slice a8 (wo (sl (slot n (ky e))) e).length c8) rfl rfl gx0 rfl hC hj (fun w1 hC2 hmd=>?_);revert w1 hC2 hmd;exact O):P:=h k
theorem U299(h:Q->P:=by intro O;exact D.va (fun w' W0=>(N3 rfl))<|D.va (fun w' W0=>(N3 rfl)) O):P:=h k
theorem U105(h:Q->P:=by intro O;exact L.va (kg0 rfl)<|U5 O):P:=h k
theorem U436(h:B Q->P:=by intro O;exact L.call (B2 rfl rfl func93 rfl bb1 rfl) (cl1 (pt b14) n n ((kc:Int)+1) (IntKind.i64.wrap (md+1)) (ky b) hkz Uo Uo _) O.1):P:=h ⟨k⟩
theorem U85(h:Q->P:=by intro O;refine U0 ?_;exact L.va G5 O):P:=h k
theorem U437(h:Q->P:=by intro O;refine L.va (A0 rfl underlying97 rfl tc0 Ud)<|L.pu 0 [.slice (pt b33) (2*n) (2*n)] #[.slice (pt b33) (2*n) (2*n),.i ((kc:Int)+1),.i (IntKind.i64.wrap (md+1))] tc0 K2 (fun w G1 hg H2=>?_);revert w G1 hg H2;exact O):P:=h k
theorem U438(h:Q->P:=by intro O;exact L.va G5<|L.call (B2 rfl rfl func51 rfl ra1 rfl) (Gw0 p.tb p.wb p.obj p.n p.rw p.cl p.n p.n lb.q hqs hn0 Pw0 _ hN.tb) O):P:=h k
theorem U204(h:Q->P:=by intro O;refine At.seq (Z0 _ gr 2) ?_;exact U168 O):P:=h k
theorem U205(h:Q->P:=by intro O;exact D.va (fun w' W0=>(j1 rfl))<|D.va (fun w' W0=>(A0 rfl underlying173 rfl fo1 Ud))<|D.va (fun w' W0=>(q0 rfl underlying170 rfl ((hg.m.run.j0 W0).E0 7 (v:=.chan (some R.yb)) rfl))) O):P:=h k
theorem U106(h:Q->P:=by intro O;refine T.nrm ?_;show ZA _ _ _ _ _ _ _;exact O):P:=h k
theorem U300(h:Q->P:=by intro O;refine U291 ?_;exact L.va (Q7 (i:=i) rfl rfl underlying195 no0 hO.sl O1) O):P:=h k
theorem U206(h:Q->P:=by intro O;exact L.va (A7 rfl underlying95 rfl)<|U22 O):P:=h k
theorem U86(h:Q->P:=by intro O;have Y1:=Y1.j0 F5.below;have L1:=L1.j0 F5.below;revert Y1 L1;exact O):P:=h k
theorem U439(h:Q->P:=by intro O;refine L.va (A2 (cs:=[.slice sa sn sc,.i ct,.i md]) rfl underlying97 rfl C9 rfl (K2.R7 rfl))<|L.pu 0 [.slice sa sn sc,.i ct,.i md] #[.slice sa sn sc,.i ct,.i md] C9 L1 (fun w G1 hg H2=>?_);revert w G1 hg H2;exact O):P:=h k
theorem U301(h:Q->P:=by intro O;refine U46 ?_;exact D.va (fun w' W0=>(A0 rfl underlying248 rfl sz3 Ud)) O):P:=h k
theorem U440(h:Q->P:=by intro O;exact L.va (Q7 (i:=i) rfl rfl underlying171 Fv0 hM.cls.sl O1)<|L.va (q0 (v:=.p c.cb) rfl underlying123 rfl (Uf0 hM hc)) O):P:=h k
theorem U61(h:Q->P:=by intro O;have hN:=hN.j0 A1;have Y8:=Y8.j0 A1;revert hN Y8;exact O):P:=h k
theorem U441(h:Q->P:=by intro O;exact L.va (q0 rfl underlying171 rfl (hM.run.E0 0 (v:=.slice R.ca R.cl.length R.cc) rfl))<|L.va (A7 rfl underlying171 rfl) O):P:=h k
theorem U302(h:Q->P:=by intro O;exact L.va (A0 rfl underlying248 rfl jj1 Ud)<|L.on rfl O):P:=h k
theorem U87(h:Q->P:=by intro O;refine U137 ?_;exact ZA.seq hZ O):P:=h k
theorem U107(h:Q->P:=by intro O;refine U1 ?_;exact U370 O):P:=h k
theorem U442(h:Q->P:=by intro O;refine Q0.val (G0 _) (J1 _) rfl (v:=.int .u64 (((0*4294967296+0:Nat):Int))) (E1 rfl) ?_;exact Q0.nil (G0 _) O):P:=h k
theorem U444(h:Q->P:=by intro O;refine Q0.val (G0 _) (J1 _) rfl (v:=.int .u32 0) (M4 (r:=0) rfl Tryz.underlying140 Tryz.underlying143 Ud) ?_;exact U394 O):P:=h k
theorem U445(h:Q->P:=by intro O;exact L.va (q0 rfl underlying22 rfl (((hM.j0 hb).blk i _ hc).E0 6 (v:=.func (.func f) #[] caps) rfl))<|L.on rfl O):P:=h k
theorem U446(h:Q->P:=by intro O;exact W.last 9 (fun w'=>Below w.heap.size w w') Uk Uk Uk rfl ((Below.refl w.heap.size w).drew)<|D.va (fun w' W0=>(D3 rfl)) O):P:=h k
theorem U447(h:Q->P:=by intro O;refine U45 ?_;exact ends.cell (cs:=#[.slice a9 n c9,.i (IntKind.i64.wrap (ct-1)),.i md]) (.inr rfl) rfl rfl underlying97 rfl C9 L1 O):P:=h k
theorem U448(h:Q->P:=by intro O;exact L.va (A0 rfl underlying67 rfl sz3 Ud)<|L.va (q0 rfl underlying3 rfl (l8.cell (v:=.i (E j).c) rfl)) O):P:=h k
theorem U208(h:Q->P:=by intro O;refine U256 ?_;exact U266 O):P:=h k
theorem U303(h:B Q->P:=by intro O;exact ZA.X6 hZ (rb (decide_eq_false Uo))<|ZA.exit hZ rfl O.1):P:=h ⟨k⟩
theorem U449(h:Q->P:=by intro O;refine Q0.val Y0 (J1 _) rfl (v:=.bool true) (P0 rfl) ?_;exact Q0.fw0 Y0 (J1 _) rfl rfl (v:=.i 1) (P0 rfl) O):P:=h k
theorem U450(h:Q->P:=by intro O;have Wp0:=hb.size;refine L.call (N2 rfl func98 rfl Tr0 rfl) (kr0 Bl n c a (lst (fun j=>.slice (ia j) (sl j).length (ic j)) n) hn w hB.out (fun u hu=>nw0 hu)) ?_;revert Wp0;exact O):P:=h k
theorem U304(h:Q->P:=by intro O;have bw0:=hso.uf0 hok;have hsl:=hso.sl lb.j;revert bw0 hsl;exact O):P:=h k
theorem U209(h:Q->P:=by intro O;refine At.seq r6 ?_;exact At.region r6 O):P:=h k
theorem U305(h:B Q->P:=by intro O;(have hF5:¬F b5:=fun z=>by have:=hK.tlt hT z;omega);(have hF2:¬F b2:=fun z=>by have:=hK.tlt hT z;omega);revert hF5 hF2;exact O.1):P:=h ⟨k⟩
theorem U88(h:Q->P:=by intro O;refine U77 ?_;exact W.seq O):P:=h k
theorem U306(h:Q->P:=by intro O;refine Q0.nil (G0 _) ?_;exact At.v8 (G0 _) rfl O):P:=h k
theorem U451(h:Q->P:=by intro O;exact L.va (q0 rfl underlying86 rfl (hOb.E0 0 (v:=.slice oa ((p.bo i).length) oc) rfl))<|L.va (N3 rfl) O):P:=h k
theorem U108(h:Q->P:=by intro O;exact ZA.block hZ<|U4 O):P:=h k
theorem U307(h:B Q->P:=by intro O;exact ZA.v8 hZ (rb (decide_eq_true Uo))<|ZA.skip hZ O.1):P:=h ⟨k⟩
theorem U452(h:B Q->P:=by intro O;refine Q0.val (G0 _) (J1 _) rfl (v:=.bool false) (lc0 (r:=false) rfl rfl (decide_eq_false Uo)) ?_;exact U266 O.1):P:=h ⟨k⟩
theorem U44(h:Q->P:=by intro O;refine U161 ?_;exact U52 O):P:=h k
theorem U34(h:Q->P:=by intro O;refine U77 ?_;exact U0 O):P:=h k
theorem U35(h:Q->P:=by intro O;rw[hw9];exact O):P:=h k
theorem U110(h:Q->P:=by intro O;refine U1 ?_;exact W.v8 rfl O):P:=h k
theorem U211(h:Q->P:=by intro O;refine Q0.nil R2 ?_;exact At.seq R2 O):P:=h k
theorem U453(h:Q->P:=by intro O;refine At.region R2 ?_;exact Q0.val R2 (J1 _) rfl (v:=.pointer (some ⟨gr.blk,gr.off,none⟩)) (P0 rfl) O):P:=h k
theorem U308(h:Q->P:=by intro O;refine U11 ?_;exact L.va (A0 rfl underlying173 rfl nn0 Ud) O):P:=h k
theorem U454(h:Q->P:=by intro O;refine U48 ?_;exact D.va (fun w' W0=>(H3 rfl underlying225 rfl Z4 (hH.j0 W0) Ud (fun k hk=>Aw1 u s d hk))) O):P:=h k
theorem U140(h:Q->P:=by intro O;refine Q0.nil Y0 ?_;exact U132 O):P:=h k
theorem U141(h:Q->P:=by intro O;have hC:=hC.j0 F2.below;have Y1:=F2.blk;revert hC Y1;exact O):P:=h k
theorem U455(h:Q->P:=by intro O;refine U164 ?_;exact Q0.val (G0 _) (J1 _) rfl (v:=.int .u64 (((v*4294967296+0:Nat):Int))) (P0 rfl) O):P:=h k
theorem U456(h:Q->P:=by intro O;refine U164 ?_;exact Q0.val (G0 _) (J1 _) rfl (v:=.int .u64 (((v*4294967296+1:Nat):Int))) (P0 rfl) O):P:=h k
theorem U62(h:Q->P:=by intro O;refine U298 ?_;intro L1 K2;have hK:=hK.j0 L2;have hW:=hW.j0 L2;have hoc:=hoc.j0 L2;revert L1 K2 hK hW hoc;exact O):P:=h k
theorem U111(h:Q->P:=by intro O;exact U1 O):P:=h k
theorem U457(h:Q->P:=by intro O;refine U164 ?_;exact Q0.val (G0 _) (J1 _) rfl (v:=.int .u64 (((0*4294967296+0:Nat):Int))) (P0 rfl) O):P:=h k
theorem U212(h:Q->P:=by intro O;refine U45 ?_;exact ends.two (.inr rfl) rfl O):P:=h k
theorem U458(h:Q->P:=by intro O;refine U259 ?_;exact Q0.val Y0 (J1 _) rfl (v:=.int .u64 ((((v+1)*4294967296+0:Nat):Int))) (P0 rfl) O):P:=h k
theorem U459(h:Q->P:=by intro O;refine U259 ?_;exact Q0.val Y0 (J1 _) rfl (v:=.int .u64 ((((0+1)*4294967296+0:Nat):Int))) (P0 rfl) O):P:=h k
theorem U460(h:Q->P:=by intro O;exact L.va (Q7 (i:=j) rfl rfl underlying86 jo1 hsl O1)<|L.va (A0 rfl underlying85 rfl sz3 Ud) O):P:=h k
theorem U461(h:Q->P:=by intro O;refine U74 ?_;exact L.va (q0 rfl underlying4 rfl (((hM.j0 hb).blk i _ hc).E0 9 (v:=.bool true) rfl)) O):P:=h k
theorem U63(h:Q->P:=by intro O;have hb:=aq0 hb F4.below;have hH:=hH.j0 F4.below;refine U364 ?_;intro o5 L1;revert hb hH o5 L1;exact O):P:=h k
theorem U462(h:B Q->P:=by intro O;refine Q0.val Y0 (J1 _) rfl (v:=.bool false) (lc0 (r:=false) rfl rfl (decide_eq_false Uo)) ?_;exact U103 O.1):P:=h ⟨k⟩
theorem U309(h:Q->P:=by intro O;have G4:Below w.heap.size w w.drew:=(Below.refl w.heap.size w).drew;have hN:=hN.j0 G4;revert G4 hN;exact O):P:=h k
theorem U310(h:Q->P:=by intro O;refine ZA.region hZ<|ZA.recover hZ (i:=0) (rest:=[]) rfl rfl rfl rfl hmd (fun c45 v hsv=>?_);revert c45 v hsv;exact O):P:=h k
theorem U464(h:Q->P:=by intro O;exact L.va (A0 rfl underlying230 rfl Z4 Ud)<|L.st (L4 rfl rfl Z4 (fun k=>rfl) hH Ud) O):P:=h k
theorem U311(h:B Q->P:=by intro O;have hb:=W3 hb hb.size hg h17;have hLb:=hLb.grown hg (by simpa using Ne.symm hnl);revert hb hLb;exact O.1):P:=h ⟨k⟩
theorem U213(h:Q->P:=by intro O;exact L.nil O):P:=h k
theorem U465(h:B Q->P:=by intro O;have hN:=hN.grown hg (by have:=hN.ne dl0 Ud;simpa using this);have hH:=hH.other dl0 Ud (fun k hk X2=>hg.block k hk (by simpa using X2)) hg.size;revert hN hH;exact O.1):P:=h ⟨k⟩
theorem U466(h:Q->P:=by intro O;refine U45 ?_;exact ends.cell (cs:=#[.slice sa sn sc,.i ct,.i md]) (.inr rfl) rfl rfl underlying97 rfl C9 L1 O):P:=h k
theorem U64(h:Q->P:=by intro O;refine U73 ?_;exact U0 O):P:=h k
theorem U467(h:Q->P:=by intro O;exact L.va (Rv0 rfl rfl)<|U32 O):P:=h k
theorem U468(h:Q->P:=by intro O;refine U51 ?_;exact Q0.Md0 R2 (J1 _) .enable (by simp) (.inl rfl) rfl Tryz.func109 td0 rfl rfl tf0 O):P:=h k
theorem U469(h:Q->P:=by intro O;exact D.va (fun w' W0=>(j1 rfl))<|D.va (fun w' W0=>(A0 rfl underlying191 rfl sz2 Ud)) O):P:=h k
theorem U470(h:Q->P:=by intro O;exact D.va (fun w' W0=>(j1 rfl))<|D.va (fun w' W0=>(A0 rfl underlying244 rfl sz3 Ud)) O):P:=h k
theorem U471(h:Q->P:=by intro O;exact L.va (N3 rfl)<|L.call (D6 rfl rfl rfl func68 rfl yj1 rfl) (Po0 wb obj num _ hW) O):P:=h k
theorem U312(h:Q->P:=by intro O;refine U3 ?_;exact df1 hZ hb rfl (i:=2) rfl rfl rfl O):P:=h k
theorem U214(h:Q->P:=by intro O;refine U2 ?_;intro hb;refine L.box (cs:=#[.p cb]) rfl rfl (fun w b2 F2=>?_);revert hb w b2 F2;exact O):P:=h k
theorem U472(h:Q->P:=by intro O;refine U53 ?_;exact Q0.val Z2 (J1 _) rfl (v:=.int .u64 (((v*4294967296+0:Nat):Int))) (P0 rfl) O):P:=h k
theorem U473(h:Q->P:=by intro O;refine Q0.val r6 (J1 _) rfl (v:=.pointer (some ⟨gr.blk,gr.off,none⟩)) (P0 rfl) ?_;refine Q0.val r6 (J1 _) rfl (v:=.pointer (some ⟨gr.blk,gr.off,none⟩)) (T5 rfl) ?_;exact Q0.val r6 (J1 _) rfl (v:=.pointer (some ⟨gr.blk,gr.off+1,none⟩)) (H5 (s:=1) gr.off (gr.off+1) rfl Tryz.underlying145 rfl Tn0 Ud rfl) O):P:=h k
theorem U313(h:Q->P:=by intro O;refine U295 ?_;intro hB Y1;have L1:=L1.other hg n9;revert hB Y1 L1;exact O):P:=h k
theorem U112(h:Q->P:=by intro O;have hW:=hW.j0 F5.below;have hC:=hC.j0 F5.below;revert hW hC;exact O):P:=h k
theorem U314(h:Q->P:=by intro O;refine U70 ?_;exact L.va (v5 rfl rfl underlying89) O):P:=h k
theorem U315(h:Q->P:=by intro O;refine U16 ?_;exact L.va (v5 rfl rfl underlying23) O):P:=h k
theorem U215(h:Q->P:=by intro O;exact L.va G5<|L.va G5 O):P:=h k
theorem U65(h:Q->P:=by intro O;refine U8 ?_;exact U0 O):P:=h k
theorem U474(h:Q->P:=by intro O;exact L.va (q0 rfl underlying125 rfl (Y1.E0 0 (v:=.p cb) rfl))<|L.va (j1 rfl) O):P:=h k
theorem U475(h:Q->P:=by intro O;exact L.va (q0 rfl underlying125 rfl (o5.E0 0 (v:=.p cb) rfl))<|L.va (j1 rfl) O):P:=h k
theorem U316(h:Q->P:=by intro O;exact L.va (Hi0 rfl)<|L.va Q5 O):P:=h k
theorem U216(h:Q->P:=by intro O;exact L.va (jo0 rfl rfl)<|U1 O):P:=h k
theorem U217(h:Q->P:=by intro O;exact L.va (Z9 rfl)<|U262 O):P:=h k
theorem U66(h:Q->P:=by intro O;have hB:=hB.j0 G4;have Y1:=Y1.j0 G4;revert hB Y1;exact O):P:=h k
theorem U476(h:Q->P:=by intro O;refine ZA.done hZ ?_;(have L3:=Nj0 (b:={lb with ph:=.cr0 e,bs:=s2.st lb.j,bk:=T7 s2 lb.j}) hN.at_ rfl rfl (.inr ⟨e,rfl⟩));revert L3;exact O):P:=h k
theorem U317(h:Q->P:=by intro O;exact L.va (dx0 rfl)<|L.va (D3 rfl) O):P:=h k
theorem U477(h:Q->P:=by intro O;exact L.call (B2 rfl rfl func93 rfl bb1 rfl) (cl1 a n c ct md (ky e) hkz h0 hn _) O):P:=h k
theorem U478(h:B Q->P:=by intro O;refine L.va (uw1 (n:=n) Uo▸zo0 rfl rfl)<|L.make (m:=(2*n)) rfl rfl underlying95 qb0 (z0:=.slice none 0 0) rfl Ud Uo Uo (fun w b33 F33=>?_);revert w b33 F33;exact O.1):P:=h ⟨k⟩
theorem U479(h:Q->P:=by intro O;exact L.va (pt0 rfl)<|L.va (A2 rfl underlying152 rfl Fw0 rfl es0.all) O):P:=h k
theorem U480(h:Q->P:=by intro O;refine U74 ?_;exact L.va (q0 rfl underlying4 rfl ((hM.blk i c hc).E0 9 (v:=.bool c.wt) rfl)) O):P:=h k
theorem U481(h:Q->P:=by intro O;refine U204 ?_;exact Q0.val (Z0 _ gr 2) (J1 _) rfl (v:=.int .i32 (((0:Nat):Int))) (P0 rfl) O):P:=h k
theorem U482(h:B Q->P:=by intro O;have hVD:=su0.1;(have hc:Cl w:=by have h9:=hJw;simp only[Ma0 D i Uo K9 hVD,ff1 D i Uo K9 hVD,Bool.false_eq_true,if_false]at h9;exact h9);revert hVD hc;exact O.1):P:=h ⟨k⟩
theorem U142(h:Q->P:=by intro O;show W _ _ _ _ _ _;exact U360 O):P:=h k
theorem U483(h:Q->P:=by intro O;refine U50 ?_;exact Q0.val (G0 _) (J1 _) rfl (v:=.int .i32 (((0:Nat):Int))) (P0 rfl) O):P:=h k
theorem U29(h:Q->P:=by intro O;rw[hw];exact O):P:=h k
theorem U484(h:Q->P:=by intro O;refine U132 ?_;exact Q0.val Y0 (J1 _) rfl (v:=.int .i32 ((((v+1):Nat):Int))) (P0 rfl) O):P:=h k
theorem U89(h:Q->P:=by intro O;refine U40 ?_;exact U270 O):P:=h k
theorem U485(h:Q->P:=by intro O;exact L.va (q0 rfl underlying4 rfl (hC.E0 2 (v:=.bool h) rfl))<|L.va (pv0 rfl) O):P:=h k
theorem U218(h:Q->P:=by intro O;have o6:=y5.gk0 hoc hg;have hb:=W3 hb hb.size hg Ke0;revert o6 hb;exact O):P:=h k
theorem U318(h:Q->P:=by intro O;refine U263 ?_;exact L.va (A7 rfl underlying36 rfl) O):P:=h k
theorem U90(h:Q->P:=by intro O;(have hso:=hN.at_.so);(have hM:=hN.at_.mem);have hfi:=hM.find hso (j:=lb.j) lb.q;revert hso hM hfi;exact O):P:=h k
theorem U486(h:B Q->P:=by intro O;exact L.va (O8 (r:=false) (decide_eq_false Uo) (lr0 rfl rfl))<|L.va (H7 rfl) O.1):P:=h ⟨k⟩
theorem U91(h:Q->P:=by intro O;have hj:=(h.K4 b hf).j;have hT:=h.ko0 hk hf;revert hj hT;exact O):P:=h k
theorem U487(h:Q->P:=by intro O;refine U9 ?_;refine L.pu 0 [.slice a9 n c9,.i (IntKind.i64.wrap (ct-1)),.i md] #[.slice a9 n c9,.i (IntKind.i64.wrap (ct-1)),.i md] C9 K2 (fun w G1 hg H2=>?_);revert w G1 hg H2;exact O):P:=h k
theorem U488(h:Q->P:=by intro O;exact L.va (q0 rfl underlying23 rfl (hTp.E0 0 (v:=.p p.tb) rfl))<|U191 O):P:=h k
theorem U113(h:Q->P:=by intro O;refine U304 ?_;intro bw0 hsl;have hll:=hso.ll lb.j;refine L.call (B2 rfl rfl func54 rfl rc1 rfl) (Mz0 r2.ky p.B (s2.st lb.j).V0 (vc m2 lb.j (s2.st lb.j).R3) (some ⟨va m2 lb.j (s2.st lb.j).R3,0,none⟩) _ _ (at_ r2.ky (s2.st lb.j).V0 ((s2.st lb.j).l.map (eb m2))) (iaG m2 lb.j (s2.st lb.j).R3) (icG m2 lb.j (s2.st lb.j).R3) lb.q hqs hsl.1 (Nat.le_trans hsl.2 (Nat.le_trans (Nat.succ_le_succ bw0) Ud)) (fun j _=>Nat.le_trans (qi0 ..) (by rw[List.length_map];exact Nat.le_trans hll (Nat.le_trans bw0 Ud))) _ (hM.bk lb.j hj) ((hM.Dw0 hso).sub fun b hb=>(List.mem_filter.1 hb).1)) ?_;revert bw0 hsl hll;exact O):P:=h k
theorem U319(h:Q->P:=by intro O;exact L.va Q5<|L.va (jm0 rfl) O):P:=h k
theorem U489(h:Q->P:=by intro O;refine L.Au1 (κ:=ac0) (a:=((E j).o,(E j).n)) (zv:=.slice none 0 0) underlying149 Eq0 qd1 (ckP _) rfl rfl hM (fun o t hMB=>?_);rw[hv];revert o t hMB;exact O):P:=h k
theorem U320(h:Q->P:=by intro O;refine U4 ?_;exact L.va (dx0 rfl) O):P:=h k
theorem U114(h:Q->P:=by intro O;refine L.alloc (cs:=#[.slice none 0 0,.i 0,.i 0]) jq1 rfl (fun w b4 F4=>?_);have lt4:=F4.lq hb.size;have hb:=B0 hb F4.below;revert w b4 F4 lt4 hb;exact O):P:=h k
theorem U219(h:Q->P:=by intro O;have hZ:Ctx.Zs prog (Fin prog Post X 0):=J6;have hb:=J1 80;revert hZ hb;exact O):P:=h k
theorem U321(h:Q->P:=by intro O;exact ZA.Y4 hZ<|ZA.inBlock hZ O):P:=h k
theorem U220(h:Q->P:=by intro O;have hZ:Ctx.Zs prog (Fin prog Post X 0):=J6;have hb:=J1 41;revert hZ hb;exact O):P:=h k
theorem U490(h:Q->P:=by intro O;rw[L0 s6,L0 s39,L0 s40,L0 s41,L0 s4,L0 s1];exact O):P:=h k
theorem U221(h:Q->P:=by intro O;exact L.va (fd0 rfl)<|U13 O):P:=h k
theorem U491(h:Q->P:=by intro O;exact L.va (N3 rfl)<|L.va (Q7 (i:=i) rfl rfl underlying36 qg1 hBo.sl O1) O):P:=h k
theorem U492(h:Q->P:=by intro O;exact L.va (O8 (r:=true) Ud (dy0 (m:=1) (k:=1) rfl rfl))<|L.va (k7 rfl) O):P:=h k
theorem U143(h:Q->P:=by intro O;refine U161 ?_;show W _ _ _ _ _ _;exact O):P:=h k
theorem U493(h:Q->P:=by intro O;refine U252 ?_;exact Q0.val (G0 _) (J1 _) rfl (v:=.bool true) (co0 rfl rfl) O):P:=h k
theorem U92(h:Q->P:=by intro O;refine U20 ?_;exact U7 O):P:=h k
theorem U322(h:Q->P:=by intro O;exact L.on rfl<|L.va (dy0 rfl rfl) O):P:=h k
theorem U494(h:Q->P:=by intro O;refine U3 ?_;refine ZA.call (i:=1) (rest:=[]) hZ hb (f:=80) (args:=#[.p R.rb]) rfl rfl (N2 rfl func80 rfl yp1 rfl) (fun a ha=>?_);revert a ha;exact O):P:=h k
theorem U323(h:Q->P:=by intro O;refine L.box (cs:=#[.slice a n c,.i ct,.i md]) rfl rfl (fun w b2 F2=>?_);refine U21 ?_;intro lt2 hb;revert w b2 F2 lt2 hb;exact O):P:=h k
theorem U495(h:Q->P:=by intro O;refine Jg0 (Q:=fun _ _ _=>False) hZ hb (fun _ _ _ hx=>hx.elim) ho ?_;show vq0 P _ a w _ _;exact O):P:=h k
theorem U324(h:Q->P:=by intro O;refine At.Y4 hY ?_;exact At.region hY O):P:=h k
theorem U67(h:B Q->P:=by intro O;have hb:=aq0 hb F3.below;have hH:=hH.j0 F3.below;have o5:I0 w b3 (arr 16 (ints f)) 225:=F3.blk;refine L.alloc Tp0 rfl (fun w b4 F4=>?_);(have hn4:h≠b4:=by have:=F4.here;have:=hH.lt;omega);(have ur0:b3≠b4:=by have:=F4.here;have:=o5.lt;omega);revert hb hH o5 w b4 F4 hn4 ur0;exact O.1):P:=h ⟨k⟩
theorem U325(h:Q->P:=by intro O;refine Q0.val (G0 _) (J1 _) rfl (v:=.bool false) (P0 rfl) ?_;refine U252 ?_;exact U208 O):P:=h k
theorem U222(h:B Q->P:=by intro O;have hbL:=hb;(have hF2:¬F b2:=fun z=>by have:=hK.tlt hT z;omega);revert hbL hF2;exact O.1):P:=h ⟨k⟩
theorem U326(h:Q->P:=by intro O;exact L.va (dx0 rfl)<|L.on rfl O):P:=h k
theorem U327(h:Q->P:=by intro O;refine U82 ?_;exact L.va (H7 rfl) O):P:=h k
theorem U144(h:Q->P:=by intro O;exact U97 O):P:=h k
theorem U497(h:Q->P:=by intro O;exact L.va (j1 rfl)<|L.va (A0 rfl underlying164 rfl C9 Ud) O):P:=h k
theorem U223(h:Q->P:=by intro O;have hb:=B0 hb F68.below;have L1:=L1.j0 F68.below;revert hb L1;exact O):P:=h k
theorem U498(h:Q->P:=by intro O;refine U0 ?_;exact L.va (q0 rfl underlying89 rfl (o5.E0 0 (v:=.p cb) rfl)) O):P:=h k
theorem U224(h:Q->P:=by intro O;refine U0 ?_;exact L.va Q5 O):P:=h k
theorem U499(h:B Q->P:=by intro O;refine U384 ?_;exact L.va (O8 (r:=false) (decide_eq_false Uo) (lr0 rfl rfl)) O.1):P:=h ⟨k⟩
theorem U500(h:B Q->P:=by intro O;exact L.va (O8 (r:=false) (decide_eq_false Uo) (jo0 rfl rfl))<|U36 O.1):P:=h ⟨k⟩
theorem U328(h:Q->P:=by intro O;refine Q0.nil (G0 _) ?_;exact U50 O):P:=h k
theorem U501(h:B Q->P:=by intro O;refine U384 ?_;exact L.va (O8 (r:=true) (decide_eq_true Uo) (lr0 rfl rfl)) O.1):P:=h ⟨k⟩
theorem U329(h:Q->P:=by intro O;exact L.va (kg0 rfl)<|L.nil O):P:=h k
theorem U330(h:Q->P:=by intro O;have neE:=P1.ne hE hg.m.ends Ud;refine L.stE (i:=i) hg hi rfl rfl sz3 (fun w hg j3=>?_);revert neE w hg j3;exact O):P:=h k
theorem U145(h:Q->P:=by intro O;have lt3:=F3.lq hb.size;have hb:=B0 hb F3.below;revert lt3 hb;exact O):P:=h k
theorem U502(h:Q->P:=by intro O;refine Q0.val Y0 (J1 _) rfl (v:=.bool false) (P0 rfl) ?_;exact U169 O):P:=h k
theorem U115(h:Q->P:=by intro O;refine U38 ?_;exact U18 O):P:=h k
theorem U503(h:Q->P:=by intro O;refine Q0.val Y0 (J1 _) rfl (v:=.int .u32 0) (P0 rfl) ?_;exact U265 O):P:=h k
theorem U225(h:B Q->P:=by intro O;exact L.va (j1 rfl)<|L.va (A0 rfl underlying92 rfl qh1 Ud)<|L.va (p7 (i:=lb.j) (n:=64) rfl rfl underlying88 jp1 Uo)<|L.va (q0 (v:=.pointer (some (⟨p.rw lb.j,0,none⟩))) rfl underlying87 rfl (jd0 (o:=3+lb.j*1) hN.tb Uo (mc1 hj Pw0))) O.1):P:=h ⟨k⟩
theorem U504(h:B Q->P:=by intro O;refine U178 ?_;exact L.va (p7 (i:=i) (n:=64) rfl rfl underlying90 Tk0 Uo) O.1):P:=h ⟨k⟩
theorem U506(h:Q->P:=by intro O;refine Q0.fw0 Y0 (J1 _) rfl rfl (v:=.bool true) (iz0 (r:=true) rfl rfl Ud) ?_;refine Q0.val Y0 (J1 _) rfl (v:=.bool true) (co0 rfl rfl) ?_;exact Q0.val Y0 (J1 _) rfl (v:=.bool true) (P0 rfl) O):P:=h k
theorem U331(h:Q->P:=by intro O;show L _ _ _ _ _ _ _;exact U11 O):P:=h k
theorem U332(h:Q->P:=by intro O;refine U367 ?_;exact ends.one (.inr rfl) rfl O):P:=h k
theorem U507(h:Q->P:=by intro O;refine U51 ?_;exact Q0.val R2 (J1 _) rfl (v:=.int .u64 0) (P0 rfl) O):P:=h k
theorem U146(h:Q->P:=by intro O;exact W.seq<|U20 O):P:=h k
theorem U227(h:Q->P:=by intro O;exact L.on rfl<|L.va (O8 (r:=true) Ud (dy0 (m:=0) (k:=0) rfl rfl))<|L.va (k7 rfl) O):P:=h k
theorem U228(h:Q->P:=by intro O;have hb:=B0 hb F39.below;have L1:=L1.j0 F39.below;revert hb L1;exact O):P:=h k
theorem U229(h:Q->P:=by intro O;have hb:=B0 hb F40.below;have L1:=L1.j0 F40.below;revert hb L1;exact O):P:=h k
theorem U508(h:Q->P:=by intro O;exact ZR.leave rfl func58 W5<|ends.two (.inr rfl) rfl O):P:=h k
theorem U509(h:Q->P:=by intro O;exact ZR.leave rfl func59 W5<|ends.one (.inr rfl) rfl O):P:=h k
theorem U116(h:Q->P:=by intro O;have hR:=hg.m.run;(have hC:=(hg.m.blk i c hc));revert hR hC;exact O):P:=h k
theorem U510(h:Q->P:=by intro O;exact L.va (D3 rfl)<|L.va (J8 rfl rfl underlying124) O):P:=h k
theorem U230(h:Q->P:=by intro O;have hb:=B0 hb F14.below;have hB:=hB.j0 F14.below;revert hb hB;exact O):P:=h k
theorem U231(h:Q->P:=by intro O;have K2:=K2.j0 F68.below;have hK:=hK.j0 F68.below;revert K2 hK;exact O):P:=h k
theorem U232(h:Q->P:=by intro O;have hW:=hW.j0 F68.below;have hoc:=hoc.j0 F68.below;revert hW hoc;exact O):P:=h k
theorem U511(h:Q->P:=by intro O;exact L.va (v5 rfl rfl underlying71)<|L.va (H7 rfl) O):P:=h k
theorem U333(h:Q->P:=by intro O;exact F.va rfl rfl (fun w' W0=>(A0 rfl underlying127 rfl sz9 Ud))<|F.va rfl rfl (fun w' W0=>(q0 rfl underlying9 rfl (W0.2.E0 0 (v:=.string lb.q) rfl)))<|F.doo rfl rfl O):P:=h k
theorem U334(h:Q->P:=by intro O;refine Q0.val Y0 (J1 _) rfl (v:=.bool true) (co0 rfl rfl) ?_;refine Q0.nil Y0 ?_;exact At.v8 Y0 rfl O):P:=h k
theorem U147(h:Q->P:=by intro O;refine U425 ?_;exact U47 O):P:=h k
theorem U512(h:Q->P:=by intro O;have hVD:=su0.1;(have hc:Cl w:=by have h9:=hJw;simp only[ao1 D K9 hVD,Bool.false_eq_true,if_false]at h9;exact h9);revert hVD hc;exact O):P:=h k
theorem U117(h:Q->P:=by intro O;refine U73 ?_;exact U15 O):P:=h k
theorem U118(h:Q->P:=by intro O;refine U17 ?_;exact U20 O):P:=h k
theorem U148(h:Q->P:=by intro O;refine U79 ?_;refine L.va (q0 rfl underlying242 rfl (Y1.E0 0 (v:=.p sb) rfl))<|L.va (j1 rfl)<|L.va (A0 rfl underlying244 rfl Fx0 Ud)<|U163 ?_;exact L.va (p6 (l:=[.tmp 2]) (vs:=[.p b2]) rfl) O):P:=h k
theorem U119(h:Q->P:=by intro O;refine L.va (D3 rfl)<|L.va (J8 rfl rfl underlying87)<|U107 ?_;refine U11 ?_;exact L.va (A0 rfl underlying160 rfl fn1 Ud)<|U257 O):P:=h k
theorem U335(h:Q->P:=by intro O;exact ZD.seq hZ<|ZD.region hZ O):P:=h k
theorem U336(h:Q->P:=by intro O;exact ZA.block hZ<|ZA.loop hZ O):P:=h k
theorem U513(h:Q->P:=by intro O;exact ZR.leave rfl func29 W5<|ends.one (.inr rfl) rfl O):P:=h k
theorem U337(h:Q->P:=by intro O;refine Q0.nil (Y3 _ gr) ?_;exact U130 O):P:=h k
theorem U338(h:Q->P:=by intro O;refine U292 ?_;refine U367 ?_;exact ends.two (.inr rfl) rfl O):P:=h k
theorem U120(h:Q->P:=by intro O;refine U21 ?_;intro lt2 hb;refine U141 ?_;intro hC Y1;revert lt2 hb hC Y1;exact O):P:=h k
theorem U149(h:B Q->P:=by intro O;refine U160 ?_;refine U354 ?_;refine U3 ?_;exact ZA.inLoop hZ O.1):P:=h ⟨k⟩
theorem U150(h:Q->P:=by intro O;refine U10 ?_;exact U4 O):P:=h k
theorem U339(h:Q->P:=by intro O;refine U2 ?_;intro hb;refine L.box (cs:=#[.i o,.i n]) rfl rfl (fun w b5 F5=>?_);revert hb w b5 F5;exact O):P:=h k
theorem U514(h:Q->P:=by intro O;exact L.va (A0 rfl underlying127 rfl fk1 Ud)<|L.on rfl<|L.va (q0 rfl underlying125 rfl (S7.E0 3 (v:=.pointer (some (⟨cnG m e,0,none⟩))) rfl)) O):P:=h k
theorem U515(h:Q->P:=by intro O;exact L.va (A0 rfl underlying67 rfl sz3 Ud)<|L.on rfl<|L.va (q0 rfl underlying3 rfl (hB8.cell (v:=.i (E i).c) rfl)) O):P:=h k
theorem U516(h:Q->P:=by intro O;refine U148 ?_;exact L.va (p6 (l:=[.tmp 2]) (vs:=[.p b2]) rfl) O):P:=h k
theorem U517(h:Q->P:=by intro O;refine ke0 (Ctx.cl Z hZ) hl ?_;rw[Frame.raise_at];exact O):P:=h k
theorem U518(h:B Q->P:=by intro O;(have oh0:some rk≠some b17:=by obtain⟨Lk,hMk,_⟩:=hK;simpa using hMk.ne dl0);have hK:=hK.grown hg oh0;revert oh0 hK;exact O.1):P:=h ⟨k⟩
theorem U340(h:B Q->P:=by intro O;exact L.va (p7 (i:=lb.j) (n:=64) rfl rfl underlying90 Tk0 Uo)<|L.va (q0 (v:=.pointer (some (⟨p.cl lb.j,0,none⟩))) rfl underlying89 rfl (jd0 (o:=67+lb.j*1) hN.tb Uo (Kk0 hj)))<|L.va (D3 rfl) O.1):P:=h ⟨k⟩
theorem U121(h:Q->P:=by intro O;exact U28 O):P:=h k
theorem U151(h:Q->P:=by intro O;refine U111 ?_;exact U45 O):P:=h k
theorem U519(h:Q->P:=by intro O;refine At.seq (Z0 _ gr 0) ?_;exact At.region (Z0 _ gr 0) O):P:=h k
theorem U520(h:Q->P:=by intro O;refine L.cx0 (cs:=#[.p cb]) rfl rfl underlying171 Fv0 rfl ⟨_,fj1⟩ Ud (fun w b35 F35=>?_);have hb:=B0 hb F35.below;revert w b35 F35 hb;exact O):P:=h k
theorem U122(h:Q->P:=by intro O;have Y1:=Y1.j0 L2;have o5:=o5.j0 L2;revert Y1 o5;exact O):P:=h k
theorem U233(h:Q->P:=by intro O;have Y1:=Y1.j0 F14.below;have L1:=L1.j0 F14.below;revert Y1 L1;exact O):P:=h k
theorem U234(h:Q->P:=by intro O;have h7:=h7.j0 F40.below;have jc0:=jc0.j0 F40.below;revert h7 jc0;exact O):P:=h k
theorem U522(h:Q->P:=by intro O;refine ZA.done hZ ?_;(have L3:=Nj0 (b:={lb with ph:=.cr0 e}) hN.at_ rfl rfl (.inr ⟨e,rfl⟩));revert L3;exact O):P:=h k
theorem U235(h:B Q->P:=by intro O;exact L.nil<|U27 O.1):P:=h ⟨k⟩
theorem U523(h:B Q->P:=by intro O;exact F.va rfl rfl (fun w' W0=>(p7 (i:=lb.j) (n:=64) rfl rfl underlying90 Tk0 Uo))<|F.va rfl rfl (fun w' W0=>(q0 (v:=.pointer (some (⟨p.cl lb.j,0,none⟩))) rfl underlying89 rfl (jd0 (o:=67+lb.j*1) (Tn.tb W0.1) Uo (Kk0 hj))))<|F.va rfl rfl (fun w' W0=>(D3 rfl)) O.1):P:=h ⟨k⟩
theorem U236(h:Q->P:=by intro O;have hb:=W3 hb hb.size hg lt5;refine U313 ?_;intro hB Y1 L1;revert hb hB Y1 L1;exact O):P:=h k
theorem U524(h:Q->P:=by intro O;have L1:=L1.other hg (I0.ne L1 fx0 Ud);have hch:=hch.grown hg (fun r e=>by cases e;exact⟨_,_,_,S3 fx0⟩);revert L1 hch;exact O):P:=h k
theorem U526(h:Q->P:=by intro O;exact L.va (A0 rfl underlying173 rfl fl1 Ud)<|U3 O):P:=h k
theorem U341(h:Q->P:=by intro O;exact L.va (fd0 rfl)<|U3 O):P:=h k
theorem U68(h:B Q->P:=by intro O;have hb:w0.grownBy w0 (some h):=ap0 _ _;have O1:=hH.lt;refine U0 ?_;refine L.box rfl rfl (fun w b3 F3=>?_);(have hn3:h≠b3:=by have:=F3.here;omega);revert hb O1 w b3 F3 hn3;exact O.1):P:=h ⟨k⟩
theorem U527(h:Q->P:=by intro O;refine U331 ?_;exact L.va (A0 rfl underlying248 rfl fq1 Ud) O):P:=h k
theorem U529(h:B Q->P:=by intro O;exact ZA.X6 hZ (rb (decide_eq_false Uo))<|ZA.skip hZ O.1):P:=h ⟨k⟩
theorem U237(h:Q->P:=by intro O;have hC:=hC.j0 F39.below;have h7:=h7.j0 F39.below;revert hC h7;exact O):P:=h k
theorem U342(h:Q->P:=by intro O;exact L.va (pv0 rfl)<|U1 O):P:=h k
theorem U343(h:B Q->P:=by intro O;refine U225 ?_;exact L.va (D3 rfl) O.1):P:=h ⟨k⟩
theorem U530(h:Q->P:=by intro O;refine U11 ?_;exact L.va (A0 rfl underlying187 rfl fn1 Ud) O):P:=h k
theorem U531(h:Q->P:=by intro O;refine U11 ?_;exact L.va (A0 rfl underlying127 rfl sz9 Ud) O):P:=h k
theorem U238(h:Q->P:=by intro O;refine U7 ?_;exact W.block O):P:=h k
theorem U152(h:Q->P:=by intro O;refine U7 ?_;exact U15 O):P:=h k
theorem U153(h:Q->P:=by intro O;refine U4 ?_;exact U421 O):P:=h k
theorem U532(h:B Q->P:=by intro O;have hσ:=Iy0 (V:=V) h (.cons hi0 hl) i Uo hs at0 (fun j hj=>hkf j hj) ep0 hV;rw[hσ];revert hσ;exact O.1):P:=h ⟨k⟩
theorem U344(h:Q->P:=by intro O;exact L.va (N3 rfl)<|U3 O):P:=h k
theorem U533(h:Q->P:=by intro O;exact F.va rfl rfl (fun w' W0=>(Fh0 rfl rfl))<|U355 O):P:=h k
theorem U345(h:Q->P:=by intro O;refine U20 ?_;exact L.va (N3 rfl) O):P:=h k
theorem U534(h:Q->P:=by intro O;exact L.va (A0 rfl underlying191 rfl jk1 Ud)<|U126 O):P:=h k
theorem U535(h:Q->P:=by intro O;refine U95 ?_;exact L.va (A0 rfl underlying45 rfl sz4 Ud) O):P:=h k
theorem U154(h:Q->P:=by intro O;refine U54 ?_;exact U15 O):P:=h k
theorem U537(h:B Q->P:=by intro O;have h1:=Int.emod_nonneg (R9 k/64) (b:=(n:Int)) Uo;have h2:=Int.emod_lt_of_pos (R9 k/64) (b:=(n:Int)) Uo;revert h1 h2;exact O.1):P:=h ⟨k⟩
theorem U155(h:Q->P:=by intro O;have hN:=hN.j0 F9.below;have Y8:=F9.blk;revert hN Y8;exact O):P:=h k
theorem U538(h:Q->P:=by intro O;refine L.Av1 (κ:=ac0) rfl rfl rfl Lk0 (fun o2 hM4=>?_);have hOf:=hOf.snoc rfl Qx0 hM hLk hS rv0 hg Lk0 hO2 hM4;revert o2 hM4 hOf;exact O):P:=h k
theorem U239(h:Q->P:=by intro O;refine U76 ?_;exact U78 O):P:=h k
theorem U539(h:Q->P:=by intro O;exact L.va (q0 rfl underlying125 rfl (hB0.E0 0 (v:=.p cb) rfl))<|L.va (j1 rfl)<|L.va (A0 rfl underlying191 rfl sz2 Ud) O):P:=h k
theorem U346(h:Q->P:=by intro O;exact W.region rfl<|U338 O):P:=h k
theorem U540(h:Q->P:=by intro O;refine U11 ?_;exact L.va (A0 rfl underlying92 rfl sz3 Ud) O):P:=h k
theorem U347(h:Q->P:=by intro O;have hex:=io0 (h.sel i o ho) hlk;have hwa:=ip0 hlk;revert hex hwa;exact O):P:=h k
theorem U240(h:Q->P:=by intro O;exact W.region rfl<|L.va (dy0 rfl rfl)<|U8 O):P:=h k
theorem U541(h:Q->P:=by intro O;rw[L0 s0,L0 s1,L0 s7,L0 s8];exact O):P:=h k
theorem U241(h:Q->P:=by intro O;have K2:=K2.mod o6 rfl;have hW:=WB.next hb9 hW2;revert K2 hW;exact O):P:=h k
theorem U543(h:Q->P:=by intro O;refine dv0 (Ctx.cl Z hZ) hl ?_;rw[eo0];exact O):P:=h k
theorem U157(h:Q->P:=by intro O;have L1:=L1.j0 A1;have K2:=K2.j0 A1;revert L1 K2;exact O):P:=h k
theorem U158(h:Q->P:=by intro O;have L1:=L1.j0 G4;have K2:=K2.j0 G4;revert L1 K2;exact O):P:=h k
theorem U544(h:Q->P:=by intro O;refine U16 ?_;exact L.va (J8 rfl rfl underlying71) O):P:=h k
theorem U545(h:Q->P:=by intro O;refine U16 ?_;exact L.va (v5 rfl rfl underlying123) O):P:=h k
theorem U546(h:Q->P:=by intro O;refine U14 ?_;exact L.va (v5 rfl rfl underlying123) O):P:=h k
theorem U547(h:Q->P:=by intro O;refine U14 ?_;exact L.va (J8 rfl rfl underlying71) O):P:=h k
theorem U348(h:Q->P:=by intro O;refine U135 ?_;exact ZA.ret hZ O):P:=h k
theorem U548(h:Q->P:=by intro O;exact L.va (v5 rfl rfl underlying125)<|U88 O):P:=h k
theorem U244(h:Q->P:=by intro O;refine U325 ?_;refine U50 ?_;exact Q0.val (G0 _) (J1 _) rfl (v:=.int .i32 (((v:Nat):Int))) (P0 rfl) O):P:=h k
theorem U159(h:Q->P:=by intro O;refine D.nil (fun w L2=>?_);have hg:=hg.j0 L2;revert w L2 hg;exact O):P:=h k
theorem U549(h:Q->P:=by intro O;exact L.va (dy0 rfl rfl)<|L.va (n8 rfl) O):P:=h k
theorem U349(h:Q->P:=by intro O;exact ZA.inBlock hZ<|U4 O):P:=h k
theorem U550(h:Q->P:=by intro O;exact F.va rfl rfl (fun w' W0=>(D3 rfl))<|U31 O):P:=h k
theorem U245(h:Q->P:=by intro O;refine Q0.val (G0 _) (J1 _) rfl (v:=.bool true) (P0 rfl) ?_;refine Q0.fw0 (G0 _) (J1 _) rfl rfl (v:=.i (-1)) (P0 rfl) ?_;refine Q0.fw0 (G0 _) (J1 _) rfl rfl (v:=.bool false) (iz0 (r:=false) rfl rfl Ud) ?_;exact Q0.val (G0 _) (J1 _) rfl (v:=.bool false) (co0 rfl rfl) O):P:=h k
theorem U246(h:Q->P:=by intro O;have hK:=hK.mod hmA rfl;have hoc:=hoc.mod hmA rfl;revert hK hoc;exact O):P:=h k
theorem U551(h:B Q->P:=by intro O;refine U369 ?_;intro hX1 hE1;(have Gv0:a41≠none->ab a41≠b14:=fun ha=>by obtain⟨cur,_,hle,_⟩:=hL1.row ha;omega);revert hX1 hE1 Gv0;exact O.1):P:=h ⟨k⟩
theorem U552(h:B Q->P:=by intro O;refine U369 ?_;intro hX1 hE1;(have Gv0:a41≠none->ab a41≠b33:=fun ha=>by obtain⟨cur,_,hle,_⟩:=hL1.row ha;omega);revert hX1 hE1 Gv0;exact O.1):P:=h ⟨k⟩
theorem U553(h:Q->P:=by intro O;exact D.va (fun w' W0=>(A2 (cs:=[.slice a n c,.i ct,.i md]) rfl underlying97 rfl C9 rfl ((Y1.j0 W0).R7 rfl)))<|D.va (fun w' W0=>(q0 rfl underlying71 rfl ((o5.j0 W0).E0 0 (v:=.p e) rfl)))<|D.va (fun w' W0=>(j1 rfl)) O):P:=h k
theorem U554(h:Q->P:=by intro O;refine U320 ?_;exact L.va (A7 rfl underlying171 rfl) O):P:=h k
theorem U350(h:Q->P:=by intro O;show L _ _ _ _ _ _ _;exact L.va G5<|L.va (D3 rfl) O):P:=h k
theorem U247(h:Q->P:=by intro O;have hb:=lg0 hb hmA h07;have hL:=lq1 (e:=en) hL;revert hb hL;exact O):P:=h k
theorem U351(h:Q->P:=by intro O;have hZ:Ctx.Zs prog (Fin prog Post X g):=J6;have hb:=bkd 151;revert hZ hb;exact O):P:=h k
theorem U352(h:Q->P:=by intro O;have hZ:Ctx.Zs prog (Fin prog Post X 0):=J6;have hb:=J1 76;revert hZ hb;exact O):P:=h k
theorem U248(h:Q->P:=by intro O;refine U47 ?_;exact U47 O):P:=h k
theorem U555(h:Q->P:=by intro O;refine U23 ?_;exact L.va (qw0 rfl rfl underlying195) O):P:=h k
theorem U249(h:Q->P:=by intro O;exact U80 O):P:=h k
theorem U556(h:Q->P:=by intro O;refine U23 ?_;exact L.va (qw0 rfl rfl underlying95) O):P:=h k
theorem U557(h:Q->P:=by intro O;refine U128 ?_;exact L.va (A7 rfl underlying95 rfl) O):P:=h k
theorem U250(h:Q->P:=by intro O;rw[L0 s4,L0 s5,L0 s41,L0 s42,L0 s43,L0 s47,L0 s48,L0 s49];exact U12 O):P:=h k
theorem U251(h:Q->P:=by intro O;refine U58 ?_;refine L.va (Q7 (i:=u) rfl rfl underlying95 gx0 hL1.sl O1)<|L.va (q0 (v:=.slice (P3 ia n (pt b39) u) (qs sl n en u).length (P3 ic n 1 u)) rfl underlying195 rfl (Own.at1 (hK.own hL1 Gv0) O1))<|U25 ?_;refine U277 ?_;exact U363 O):P:=h k
theorem U558(h:Q->P:=by intro O;refine Q0.nil C3 ?_;exact At.X6 C3 rfl O):P:=h k
theorem U559(h:Q->P:=by intro O;refine Q0.nil r6 ?_;exact At.v8 r6 rfl O):P:=h k
theorem U560(h:Q->P:=by intro O;refine L.va (N3 rfl)<|L.cx0 rfl rfl underlying37 sz3 rfl ⟨_,zr3⟩ Ud (fun w b95 F95=>?_);revert w b95 F95;exact O):P:=h k
theorem U353(h:Q->P:=by intro O;exact L.on rfl<|U467 O):P:=h k
end
abbrev Value.i(x:Int):Value:=.int .i64 x
abbrev Value.p(b:Nat):Value:=.pointer (some ⟨b,0,none⟩)
abbrev pt(b:Nat):Option Addr:=some ⟨b,0,none⟩
abbrev Ue(f:Func):Prop:=(f.name== "runtime.NumGoroutine")=false
theorem Un{f:Func}(h:(f.name== "runtime.NumGoroutine")=false:=by kernel_rfl):Ue f:=h
end Go
section
namespace Go.Yc
open Go Go.Conc
structure Past(Sh:Loc->Prop)(Us:Nat->Prop)(St:Nat->Loc->Prop)(Mem Lo:Nat->Prop)(K:Nat->Prop)(t:Trace):Prop where
 clean:∀said,¬Race said t
 known:∀i a,touchAt t i=some a->a.loc.isMemory=true->¬Sh a.loc->K i\/(a.write=false/\∃g,t.g? i=some g/\Lo g/\St g a.loc)
 wrote:∀i a,touchAt t i=some a->a.write=true->∀g,Mem g->St g a.loc->Knows t g i
 hears:∀g,Mem g->Deaf t g=0
 Cm0:∀i a g,touchAt t i=some a->Sh a.loc->t.g? i=some g->(∀g',Us g'->Knows t g' i)\/(a.kind≠.plain/\(g≠0->a.kind= .atomic/\¬t.heard i))
def PastH(Sh:Loc->Prop)(Us:Nat->Prop)(St:Nat->Loc->Prop)(Mem Lo:Nat->Prop)(h:Nat)(t:Trace):Prop:=Past Sh Us St Mem Lo (Knows t h) t
section
variable{Sh:Loc->Prop}{Us Us':Nat->Prop}{St St':Nat->Loc->Prop}{Mem Mem' Lo Lo':Nat->Prop}{h:Nat}{K K':Nat->Prop}{t u:Trace}
section
variable{i g:Nat}{a:Touch}{x:MemOp}
theorem Past.fewer(H:Past Sh Us St Mem Lo K t)(hM:∀g,Mem' g->Mem g):Past Sh Us St Mem' Lo K t:=
 ⟨H.clean,H.known,fun i a ha hw g hg hS=>H.wrote i a ha hw g (hM g hg) hS,fun g hg=>H.hears g (hM g hg),H.Cm0⟩
theorem Past.loosen(H:Past Sh Us St Mem Lo K t)(hL:∀g,Lo g->Lo' g):Past Sh Us St Mem Lo' K t:=
 ⟨H.clean,fun i a ha hm hs=>(H.known i a ha hm hs).imp id fun⟨x,g,hg,hl,hS⟩=>⟨x,g,hg,hL g hl,hS⟩,H.wrote,H.hears,H.Cm0⟩
theorem Past.old_known(H:Past Sh Us St Mem Lo K t)(hK:∀i,K i->K' i)(N5:t[i]? =some x)(j9:x.act.touch? =some a)(hm:a.loc.isMemory=true)(hs:¬Sh a.loc):K' i\/(a.write=false/\∃g,(t++u).g? i=some g/\Lo g/\St g a.loc):=
 (H.known i a (by rw[touchAt_of N5];exact j9) hm hs).imp (hK i) fun⟨p,g,hg,hl,hS⟩=>⟨p,g,by rw[g?_old (lt_size_of_getElem? N5)];exact hg,hl,hS⟩
theorem Past.old_hears(H:Past Sh Us St Mem Lo K t)(hu:∀op∈u,op.g=g)(hd:Mem g->Deaf (t++u) g=Deaf t g):∀g',Mem g'->Deaf (t++u) g'=0:=fun g' hg'=>by
 by_cases e:g'=g
 ·subst e;exact(hd hg').trans (H.hears g' hg')
 ·exact(Deaf_other t (fun x=>e x.symm) u hu).trans (H.hears g' hg')
theorem Past.ka0(H:Past Sh Us St Mem Lo K t)(N5:t[i]? =some x)(j9:x.act.touch? =some a)(hs:Sh a.loc)(hg:(t++u).g? i=some g):(∀g',Us g'->Knows (t++u) g' i)\/(a.kind≠.plain/\(g≠0->a.kind= .atomic/\¬(t++u).heard i)):=by
 have O1:=lt_size_of_getElem? N5;rw[g?_old O1]at hg;rcases H.Cm0 i a g (by rw[touchAt_of N5];exact j9) hs hg with this|this
 ·exact .inl fun g' hg'=>(this g' hg').app u
 ·exact .inr ⟨this.1,fun X2=>⟨(this.2 X2).1,fun hh=>(this.2 X2).2 ((heard_old O1).1 hh)⟩⟩
theorem Past.leave(H:Past Sh Us St Mem Lo K t)(hU:∀g,Us' g->Us g):Past Sh Us' St Mem Lo K t:=
 ⟨H.clean,H.known,H.wrote,H.hears,fun i a g ha hs hg=>(H.Cm0 i a g ha hs hg).imp (fun z g' hg'=>z g' (hU g' hg')) id⟩
theorem PastH.Ra0{Sh':Loc->Prop}(H:PastH Sh Us St Mem Lo h t)(hS:∀l,Sh l->Sh' l)(hLo:∀g l,Lo g->St g l->¬Sh' l)(hm:∀l,Sh' l->l.isMemory=true)(hU:∀g,Us g->g=h):PastH Sh' Us St Mem Lo h t:=
 ⟨H.clean,fun i a ha hm hs=>H.known i a ha hm fun z=>hs (hS _ z),H.wrote,H.hears,fun i a g ha hs hg=>by
  by_cases e:Sh a.loc
  ·exact H.Cm0 i a g ha e hg
  ·rcases H.known i a ha (hm _ hs) e with hk|⟨_,g',_,hl,hS'⟩
   ·exact .inl fun g'' ws1=>by rw[hU g'' ws1];exact hk
   ·exact absurd hs (hLo g' _ hl hS')⟩
theorem Past.appMute{g:Nat}(H:Past Sh Us St Mem Lo K t)(hK:∀i,K i->K' i)(hn:∀op∈u,op.act.touch? =none)(hh:∀g',Mem g'->Deaf (t++u) g'=0):Past Sh Us St Mem Lo K' (t++u):=by
 refine⟨fun said=>noRace_appendMute (H.clean said) hn,fun i a ha hm hs=>?_,fun i a ha hw g' hg' hS=>?_,hh,fun i a g' ha hs hg'=>?_⟩
 ·obtain⟨x,hx,j9⟩:=touch_of ha;rcases getElem?_append_cases hx with⟨_,N5⟩|⟨_,hxu⟩
  ·exact H.old_known hK N5 j9 hm hs
  ·rw[hn x hxu]at j9;cases j9
 ·obtain⟨x,hx,j9⟩:=touch_of ha;rcases getElem?_append_cases hx with⟨_,N5⟩|⟨_,hxu⟩
  ·exact(H.wrote i a (by rw[touchAt_of N5];exact j9) hw g' hg' hS).app u
  ·rw[hn x hxu]at j9;cases j9
 ·obtain⟨x,hx,j9⟩:=touch_of ha;rcases getElem?_append_cases hx with⟨_,N5⟩|⟨_,hxu⟩
  ·exact H.ka0 N5 j9 hs hg'
  ·rw[hn x hxu]at j9;cases j9
theorem Past.appRead(H:Past Sh Us St Mem Lo K t)(hK:∀i,K i->K' i)(hg:Mem g)(hL:Lo g)(hu:∀op∈u,op.g=g)(hr:∀op∈u,∀b,op.act.touch? =some b->b.write=false/\St g b.loc/\¬Sh b.loc)(hd:Deaf (t++u) g=Deaf t g):Past Sh Us St Mem Lo K' (t++u):=by
 refine⟨fun said=>noRace_append (H.clean said) hu fun i a ha op hop b hb hc=>?_,fun i a ha hm hs=>?_,fun i a ha hw g' hg' hS=>?_,H.old_hears hu (fun _=>hd),fun i a g' ha hs hg'=>?_⟩
 ·obtain⟨hb0,hbS,_⟩:=hr op hop b hb;rcases hc.2.2.1 with x|x
  ·exact H.wrote i a ha x g hg (hc.1▸hbS)
  ·rw[hb0]at x;cases x
 ·obtain⟨x,hx,j9⟩:=touch_of ha;rcases getElem?_append_cases hx with⟨_,N5⟩|⟨_,hxu⟩
  ·exact H.old_known hK N5 j9 hm hs
  ·exact .inr ⟨(hr x hxu a j9).1,g,by rw[g?_of hx,hu x hxu],hL,(hr x hxu a j9).2.1⟩
 ·obtain⟨x,hx,j9⟩:=touch_of ha;rcases getElem?_append_cases hx with⟨_,N5⟩|⟨_,hxu⟩
  ·exact(H.wrote i a (by rw[touchAt_of N5];exact j9) hw g' hg' hS).app u
  ·rw[(hr x hxu a j9).1]at hw;cases hw
 ·obtain⟨x,hx,j9⟩:=touch_of ha;rcases getElem?_append_cases hx with⟨_,N5⟩|⟨_,hxu⟩
  ·exact H.ka0 N5 j9 hs hg'
  ·exact absurd hs (hr x hxu a j9).2.2
end
def HOk(Sh:Loc->Prop)(St:Nat->Loc->Prop)(h:Nat)(op:MemOp):Prop:=∀b,op.act.touch? =some b->¬Sh b.loc/\(b.write=true->∀g,g≠h->¬St g b.loc)
theorem PastH.appH(H:PastH Sh Us St Mem Lo h t)(hLo:¬Lo h)(hu:∀op∈u,op.g=h)(hs:∀op∈u,HOk Sh St h op)(hd:Deaf (t++u) h=Deaf t h):PastH Sh Us St Mem Lo h (t++u):=by
 refine⟨fun said=>noRace_append (H.clean said) hu fun i a ha op hop b hb hc=>?_,fun i a ha hm hns=>?_,fun i a ha hw g hg hS=>?_,H.old_hears hu (fun _=>hd),fun i a g' ha R9 hg'=>?_⟩
 ·obtain⟨h1,h2⟩:=hs op hop b hb;rcases H.known i a ha hc.2.1 (hc.1▸h1)with hk|⟨hw,g,_,hl,hS⟩
  ·exact hk
  ·rcases hc.2.2.1 with x|x
   ·rw[hw]at x;cases x
   ·exact absurd (hc.1▸hS) (h2 x g fun e=>hLo (e▸hl))
 ·obtain⟨x,hx,j9⟩:=touch_of ha;rcases getElem?_append_cases hx with⟨_,N5⟩|⟨_,hxu⟩
  ·exact H.old_known (fun i=>Knows.app u) N5 j9 hm hns
  ·have:=knows_own hx;rw[hu x hxu]at this;exact .inl this
 ·obtain⟨x,hx,j9⟩:=touch_of ha;rcases getElem?_append_cases hx with⟨_,N5⟩|⟨_,hxu⟩
  ·exact(H.wrote i a (by rw[touchAt_of N5];exact j9) hw g hg hS).app u
  ·by_cases e:g=h
   ·have:=knows_own hx;rw[hu x hxu]at this;rw[e];exact this
   ·exact absurd hS ((hs x hxu a j9).2 hw g e)
 ·obtain⟨x,hx,j9⟩:=touch_of ha;rcases getElem?_append_cases hx with⟨_,N5⟩|⟨_,hxu⟩
  ·exact H.ka0 N5 j9 R9 hg'
  ·exact absurd R9 (hs x hxu a j9).1
def GOk(Sh:Loc->Prop)(g:Nat)(op:MemOp):Prop:=∀b,op.act.touch? =some b->Sh b.loc/\b.kind≠.plain/\(g≠0->b.kind= .atomic)
theorem Past.ev1{g:Nat}(H:Past Sh Us St Mem Lo K t)(hUs:Us g)(ok1:∀g l,St g l->¬Sh l)(hK:∀i,K i->K' i)(hu:∀op∈u,op.g=g)(hs:∀op∈u,GOk Sh g op)(hdf:g≠0->∀i,t.size <=i->i<t.size+u.size->(t++u).deaf g i≠0)
  (hh:∀g',Mem g'->Deaf (t++u) g'=0):Past Sh Us St Mem Lo K' (t++u):=by
 refine⟨fun said=>noRace_append (H.clean said) hu fun i a ha op hop b hb hc=>?_,fun i a ha hm hns=>?_,fun i a ha hw g' hg' hS=>?_,hh,fun i a g' ha R9 hg'=>?_⟩
 ·obtain⟨h1,h2,h3⟩:=hs op hop b hb;obtain⟨x,hx,j9⟩:=touch_of ha;rcases H.Cm0 i a x.g ha (hc.1▸h1) (g?_of hx)with hsx|hsx
  ·exact hsx g hUs
  rcases hc.2.2.2 with y|y|⟨_,y1,y2⟩
  ·exact absurd y hsx.1
  ·exact absurd y h2
  ·have e1:g=0:=Classical.byContradiction fun e=>by have:=h3 e;rw[y2]at this;cases this
   have e2:x.g=0:=Classical.byContradiction fun e=>by have:=(hsx.2 e).1;rw[y1]at this;cases this
   have:=knows_own hx;rw[e2]at this;rw[e1];exact this
 ·obtain⟨x,hx,j9⟩:=touch_of ha;rcases getElem?_append_cases hx with⟨_,N5⟩|⟨_,hxu⟩
  ·exact H.old_known hK N5 j9 hm hns
  ·exact absurd (hs x hxu a j9).1 hns
 ·obtain⟨x,hx,j9⟩:=touch_of ha;rcases getElem?_append_cases hx with⟨_,N5⟩|⟨_,hxu⟩
  ·exact(H.wrote i a (by rw[touchAt_of N5];exact j9) hw g' hg' hS).app u
  ·exact absurd (hs x hxu a j9).1 (ok1 _ _ hS)
 ·obtain⟨x,hx,j9⟩:=touch_of ha;rcases getElem?_append_cases hx with⟨_,N5⟩|⟨hi,hxu⟩
  ·exact H.ka0 N5 j9 R9 hg'
  ·obtain⟨h1,h2,h3⟩:=hs x hxu a j9;have hgx:g'=g:=by rw[g?_of hx]at hg';rw[<- hu x hxu];exact(Option.some.inj hg').symm
   subst hgx;refine .inr ⟨h2,fun X2=>⟨h3 X2,?_⟩⟩;rintro⟨g2,hg2,hd2⟩;rw[hg']at hg2;obtain rfl:=Option.some.inj hg2;exact hdf X2 i hi (by have:=lt_size_of_getElem? hx;simpa using this) hd2
theorem PastH.still(H:PastH Sh Us St Mem Lo h t)(hLo:¬Lo h)(hSt:∀g,g≠h->∀l,St' g l↔St g l)(hS:∀l,St' h l->l.isMemory=true/\¬Sh l)(hM:∀g,Mem' g->Mem g\/g=h)(hd:Mem' h->Deaf t h=0):PastH Sh Us St' Mem' Lo h t:=
 ⟨H.clean,fun i a ha hm hs=>(H.known i a ha hm hs).imp id fun⟨x,g,hg,hl,hS'⟩=>⟨x,g,hg,hl,(hSt g (fun e=>hLo (e▸hl)) _).2 hS'⟩,
  fun i a ha hw g hg hl=>by
   by_cases e:g=h
   ·subst e;obtain⟨h1,h2⟩:=hS _ hl;rcases H.known i a ha h1 h2 with hk|⟨W0,_⟩
    ·exact hk
    ·rw[hw]at W0;cases W0
   ·exact H.wrote i a ha hw g ((hM g hg).resolve_right e) ((hSt g e _).1 hl),
  fun g hg=>by
   by_cases e:g=h
   ·subst e;exact hd hg
   ·exact H.hears g ((hM g hg).resolve_right e),H.Cm0⟩
end
section
variable{Sh:Loc->Prop}{Us:Nat->Prop}{St:Nat->Loc->Prop}{Mem Lo:Nat->Prop}{h j:Nat}{t:Trace}
theorem PastH.give(H:PastH Sh Us St Mem Lo h t)(hh:Mem h)(hj:Mem j)(fh:FuncId)(ph:String)(fj:FuncId)(pj:String)(c k cap:Nat):PastH Sh Us St Mem (fun g=>Lo g/\g≠j) j (t++met h j fh ph fj pj c k cap):=by
 have hn:=met_mute h j fh ph fj pj c k cap;have hq:=fun g=>met_quiet h j fh ph fj pj c k cap g;have e0:(t++met h j fh ph fj pj c k cap)[t.size]? =some {g:=h,fn:=fh,pos:=ph,act:=.send c k}:=by simp[met]
 have e3:(t++met h j fh ph fj pj c k cap)[t.size+3]? =some {g:=j,fn:=fj,pos:=pj,act:=.recvDone c k}:=by simp[met]
 have Zw0:HappensBefore (t++met h j fh ph fj pj c k cap) t.size (t.size+3):=
  Relation.TransGen.single (.inr ⟨.handOver (act?_of e0) (act?_of e3),⟨h,g?_of e0,by rw[deaf_old (Nat.le_refl _)];exact H.hears h hh⟩,⟨j,g?_of e3,by rw[deaf_quiet (hq j) 3 (by simp[met])];exact H.hears j hj⟩⟩)
 refine⟨fun said=>noRace_appendMute (H.clean said) hn,fun i a ha hm hs=>?_,fun i a ha hw g hg hS=>?_,fun g hg=>(Deaf_quiet (hq g)).trans (H.hears g hg),fun i a g' ha R9 hg'=>?_⟩
 ·obtain⟨x,hx,j9⟩:=touch_of ha;rcases getElem?_append_cases hx with⟨hi,N5⟩|⟨_,hxu⟩
  ·rcases H.known i a (by rw[touchAt_of N5];exact j9) hm hs with hk|⟨p,g,hg,hl,hS⟩
   ·exact .inl ⟨t.size+3,_,e3,rfl,.inr ((hk.hb_new (Nat.le_refl _) e0 rfl).trans Zw0)⟩
   ·by_cases e:g=j
    ·subst e;have:=knows_own hx;rw[show x.g=g from by have:=g?_of N5;rw[hg]at this;exact(Option.some.inj this).symm]at this;exact .inl this
    ·exact .inr ⟨p,g,by rw[g?_old hi];exact hg,⟨hl,e⟩,hS⟩
  ·rw[hn x hxu]at j9;cases j9
 ·obtain⟨x,hx,j9⟩:=touch_of ha;rcases getElem?_append_cases hx with⟨_,N5⟩|⟨_,hxu⟩
  ·exact(H.wrote i a (by rw[touchAt_of N5];exact j9) hw g hg hS).app _
  ·rw[hn x hxu]at j9;cases j9
 ·obtain⟨x,hx,j9⟩:=touch_of ha;rcases getElem?_append_cases hx with⟨_,N5⟩|⟨_,hxu⟩
  ·exact H.ka0 N5 j9 R9 hg'
  ·rw[hn x hxu]at j9;cases j9
theorem PastH.born{c:Nat}(H:PastH Sh Us St Mem Lo h t)(hh:Mem h)(hc0:Deaf t c=0)(hSt:∀l,¬St c l)(hUs:Us h)(fh:FuncId)(ph:String)(fc:FuncId):PastH Sh (fun g=>Us g\/g=c) St (fun g=>Mem g\/g=c) Lo c (t ++ #[{g:=h,fn:=fh,pos:=ph,act:=.go c},{g:=c,fn:=fc,pos:=ph,act:=.start}]):=by
 generalize hu:(#[{g:=h,fn:=fh,pos:=ph,act:=.go c},{g:=c,fn:=fc,pos:=ph,act:=.start}]:Trace)=u;have hn:∀op∈u,op.act.touch? =none:=by
  intro op hop;subst hu;simp only[List.mem_toArray,List.mem_cons,List.not_mem_nil,or_false]at hop;rcases hop with rfl|rfl <;> rfl
 have hq:∀g,∀op∈u,∀d,deafStep g d op=d:=by
  intro g op hop d;subst hu;simp only[List.mem_toArray,List.mem_cons,List.not_mem_nil,or_false]at hop;rcases hop with rfl|rfl <;> rfl
 have e0:(t++u)[t.size]? =some {g:=h,fn:=fh,pos:=ph,act:=.go c}:=by subst hu;simp
 have e1:(t++u)[t.size+1]? =some {g:=c,fn:=fc,pos:=ph,act:=.start}:=by subst hu;simp
 have Zw0:HappensBefore (t++u) t.size (t.size+1):=
  Relation.TransGen.single (.inr ⟨.spawn (act?_of e0) (act?_of e1) (g?_of e1),⟨h,g?_of e0,by rw[deaf_old (Nat.le_refl _)];exact H.hears h hh⟩,⟨c,g?_of e1,by rw[deaf_quiet (hq c) 1 (by subst hu;simp)];exact hc0⟩⟩)
 refine⟨fun said=>noRace_appendMute (H.clean said) hn,fun i a ha hm hs=>?_,fun i a ha hw g hg hS=>?_,fun g hg=>(Deaf_quiet (hq g)).trans (hg.elim (H.hears g) fun e=>e▸hc0),fun i a g' ha R9 hg'=>?_⟩
 ·obtain⟨x,hx,j9⟩:=touch_of ha;rcases getElem?_append_cases hx with⟨hi,N5⟩|⟨_,hxu⟩
  ·rcases H.known i a (by rw[touchAt_of N5];exact j9) hm hs with hk|⟨p,g,hg,hl,hS⟩
   ·exact .inl ⟨t.size+1,_,e1,rfl,.inr ((hk.hb_new (Nat.le_refl _) e0 rfl).trans Zw0)⟩
   ·exact .inr ⟨p,g,by rw[g?_old hi];exact hg,hl,hS⟩
  ·rw[hn x hxu]at j9;cases j9
 ·obtain⟨x,hx,j9⟩:=touch_of ha;rcases getElem?_append_cases hx with⟨_,N5⟩|⟨_,hxu⟩
  ·rcases hg with hg|rfl
   ·exact(H.wrote i a (by rw[touchAt_of N5];exact j9) hw g hg hS).app u
   ·exact absurd hS (hSt _)
  ·rw[hn x hxu]at j9;cases j9
 ·obtain⟨x,hx,j9⟩:=touch_of ha;rcases getElem?_append_cases hx with⟨_,N5⟩|⟨_,hxu⟩
  ·have O1:=lt_size_of_getElem? N5;rcases H.Cm0 i a g' (by rw[touchAt_of N5];exact j9) R9 (by rw[<- g?_old (u:=u) O1];exact hg')with y|y
   ·refine .inl fun g2 hg2=>?_;rcases hg2 with hg2|rfl
    ·exact(y g2 hg2).app u
    ·exact⟨t.size+1,_,e1,rfl,.inr (((y h hUs).hb_new (Nat.le_refl _) e0 rfl).trans Zw0)⟩
   ·exact .inr ⟨y.1,fun X2=>⟨(y.2 X2).1,fun hh=>(y.2 X2).2 ((heard_old O1).1 hh)⟩⟩
  ·rw[hn x hxu]at j9;cases j9
theorem PastH.over(H:PastH Sh Us St Mem Lo 0 t)(hU:Us 0)(hL:∀g,¬Lo g):t.HandedOver:=by
 rintro i g hg X2 ⟨x,hx,hm,ms0⟩;by_cases hs:Sh x.loc
 ·rcases H.Cm0 i x g hx hs hg with hk|this
  ·obtain⟨q,z,hq,hz,hb⟩:=hk 0 hU;rcases hb with rfl|hb
   ·rw[g?_of hq,hz]at hg;exact absurd (Option.some.inj hg).symm X2
   ·exact⟨q,by rw[g?_of hq,hz],hb⟩
  ·exact(ms0.elim (fun z=>absurd (this.2 X2).1 z) fun z=>absurd z (this.2 X2).2)
 ·rcases H.known i x hx hm hs with⟨q,z,hq,hz,hb⟩|⟨_,g',_,hl,_⟩
  ·rcases hb with rfl|hb
   ·rw[g?_of hq,hz]at hg;exact absurd (Option.some.inj hg).symm X2
   ·exact⟨q,by rw[g?_of hq,hz],hb⟩
  ·exact absurd hl (hL g')
end
end Go.Yc
end
section
namespace Go.Yc
open Go
def Im0:Mark->Bool
 | .acquire _| .release _| .releaseMerge _| .disable| .enable| .read _| .write _=>false
 |_=>true
def S4:Obj->Bool
 | .view ..=>true
 |_=>false
def C7:Obj->Bool
 | .cells ..=>true
 |_=>false
def dead{α:Type}(P:Program):Sem α->Prop
 | .pure _=>False
 | .load _ _ k=>∀v,dead P (k v)
 | .store _ _ _ k=>dead P k
 | .new _ k=>∀r,dead P (k r)
 | .shape _ k=>∀s,dead P (k s)
 | .freeze _ _ k=>dead P k
 | .frozen _ k=>∀b,dead P (k b)
 | .getObj _ k=>∀o,dead P (k o)
 | .setObj _ _ k=>dead P k
 | .choose _ k=>∀n,dead P (k n)
 | .sys _ k=>∀r,dead P (k r)
 | .program k=>dead P (k P)
 | .mark _ k=>dead P k
 | .halt h=>∀v,h≠.panic v
def S0{α:Type}(P:Program):Sem α->Prop
 | .pure _=>True
 | .load _ _ k=>∀v,S0 P (k v)
 | .store _ _ _ k=>S0 P k
 | .new o k=>S4 o=false/\∀r,S0 P (k r)
 | .shape _ k=>∀s,dead P (k s)
 | .freeze _ _ k=>dead P k
 | .frozen _ k=>∀b,dead P (k b)
 | .getObj _ k=>∀o,S0 P (k o)
 | .setObj _ o k=>(S4 o=false/\C7 o=false)/\S0 P k
 | .choose _ k=>∀n,S0 P (k n)
 | .sys _ k=>∀r,dead P (k r)
 | .program k=>S0 P (k P)
 | .mark m k=>if Im0 m then S0 P k else dead P k
 | .halt _=>True
theorem V4{α β:Type}{P:Program}(f:α->Sem β):∀{s:Sem α},dead P s->dead P (s.bind f)
 | .pure _,h=>h.elim
 | .load _ _ k,h=>fun v=>V4 f (h v)
 | .store _ _ _ k,h=>V4 f (s:=k) h
 | .new _ k,h=>fun r=>V4 f (h r)
 | .shape _ k,h=>fun s=>V4 f (h s)
 | .freeze _ _ k,h=>V4 f (s:=k) h
 | .frozen _ k,h=>fun b=>V4 f (h b)
 | .getObj _ k,h=>fun o=>V4 f (h o)
 | .setObj _ _ k,h=>V4 f (s:=k) h
 | .choose _ k,h=>fun n=>V4 f (h n)
 | .sys _ k,h=>fun r=>V4 f (h r)
 | .program k,h=>V4 f (s:=k P) h
 | .mark _ k,h=>V4 f (s:=k) h
 | .halt _,h=>h
theorem V7{α β:Type}{P:Program}{f:α->Sem β}(hf:∀a,S0 P (f a)):∀{s:Sem α},S0 P s->S0 P (s.bind f)
 | .pure a,_=>hf a
 | .load _ _ k,h=>fun v=>V7 hf (h v)
 | .store _ _ _ k,h=>V7 hf (s:=k) h
 | .new _ k,h=>⟨h.1,fun r=>V7 hf (h.2 r)⟩
 | .shape _ k,h=>fun s=>V4 f (h s)
 | .freeze _ _ k,h=>V4 f (s:=k) h
 | .frozen _ k,h=>fun b=>V4 f (h b)
 | .getObj _ k,h=>fun o=>V7 hf (h o)
 | .setObj _ _ k,h=>⟨h.1,V7 hf (s:=k) h.2⟩
 | .choose _ k,h=>fun n=>V7 hf (h n)
 | .sys _ k,h=>fun r=>V4 f (h r)
 | .program k,h=>V7 hf (s:=k P) h
 | .mark m k,h=>by
  unfold S0 at h;show S0 P (Sem.mark m (k.bind f));unfold S0;split at h
  ·rename_i hm;rw[if_pos hm];exact V7 hf (s:=k) h
  ·rename_i hm;rw[if_neg hm];exact V4 f (s:=k) h
 | .halt _,_=>trivial
def inR(f:Nat×Nat)(i:Nat):Prop:=f.1 <=i/\i<f.2
inductive O7 where
 |all
 |cut (rest:Array Value) (f:Nat×Nat)
 |gone (o:Obj)
inductive ij0:O7->Obj->Obj->Prop
 |same (o:Obj):ij0 .all o o
 |cut (c rest:Array Value) (T:TypeId) (f f':Nat×Nat) (h:∀i,inR f i->inR f' i):ij0 (.cut rest f) (.cells c T f') (.cells (c++rest) T f)
 |gone (T:TypeId) (f:Nat×Nat) (o:Obj):ij0 (.gone o) (.cells #[] T f) o
structure j7(ρ:Nat->O7)(u w:World):Prop where
 os:w.os=u.os
 output:w.output=u.output
 tape:w.tape=u.tape
 drawn:w.drawn=u.drawn
 size:w.heap.size=u.heap.size
 obj:∀(b:Nat)(x:Obj),u.heap[b]? =some x->∃y,w.heap[b]? =some y/\ij0 (ρ b) x y
 new:∀b,u.heap.size <=b->ρ b= .all
 k9:∀(b:Nat)(x:Obj),u.heap[b]? =some x->S4 x=false
def P4(x y:Obj):Prop:=match x,y with
 | .cells c T f,.cells c' T' f'=>c'.size=c.size/\T'=T/\f'=f/\∀i,inR f i->c'[i]? =c[i]?
 | .cells ..,_=>False
 |_,y=>C7 y=false
structure Evo(u u':World):Prop where
 size:u.heap.size <=u'.heap.size
 obj:∀(b:Nat)(x:Obj),u.heap[b]? =some x->∃y,u'.heap[b]? =some y/\P4 x y
theorem P4.refl:∀x,P4 x x
 | .cells ..=>⟨rfl,rfl,rfl,fun _ _=>rfl⟩
 | .pending ..=>rfl
 | .view ..=>rfl
 | .number ..=>rfl
 | .map ..=>rfl
 | .chan ..=>rfl
 | .stringIter ..=>rfl
 | .mapIter ..=>rfl
 | .loop ..=>rfl
 | .deferred ..=>rfl
 | .coro ..=>rfl
 | .finalizers ..=>rfl
theorem P4.trans{x y z:Obj}(h:P4 x y)(h':P4 y z):P4 x z:=by
 cases x <;> cases y <;> first|exact h.elim|skip
 case cells.cells=>
  cases z <;> first|exact h'.elim|skip
  obtain⟨h1,rfl,rfl,h2⟩:=h;obtain⟨h3,rfl,rfl,h4⟩:=h';exact⟨h3.trans h1,rfl,rfl,fun i hi=>(h4 i hi).trans (h2 i hi)⟩
 all_goals (first|(cases z <;> simp_all [P4,C7]))
theorem Evo.refl(u:World):Evo u u:=⟨Nat.le_refl _,fun _ x h=>⟨x,h,P4.refl x⟩⟩
theorem Evo.trans{u v x:World}(h:Evo u v)(h':Evo v x):Evo u x:=
 ⟨Nat.le_trans h.size h'.size,fun b o ho=>by
  obtain⟨o',h1,h2⟩:=h.obj b o ho;obtain⟨o'',h3,h4⟩:=h'.obj b o' h1;exact⟨o'',h3,h2.trans h4⟩⟩
def mt0(u:World)(e:Event):Prop:=match e.loc with
 | .cell a=>a.block<u.heap.size->(∃v,u.cell? a=some v)/\(e.write=true->u.frozen? a=false)
 | .obj r=>r<u.heap.size->∃x,u.heap[r]? =some x/\C7 x=false
 | .mark m=>Im0 m=true
 |_=>False
theorem u6{u:World}{a:Addr}{v:Value}(h:u.cell? a=some v):∃c T f,u.heap[a.block]? =some (.cells c T f)/\a.spot=none/\c[a.off]? =some v:=by
 unfold World.cell? at h;split at h
 ·rename_i c T f hb;split at h
  ·cases h
  ·rename_i hs;exact⟨c,T,f,hb,by cases hh:a.spot <;> simp_all,h⟩
 ·cases h
section
variable{ρ:Nat->O7}{u w u':World}{a:Addr}{v:Value}
theorem j7.cell(h:j7 ρ u w)(hc:u.cell? a=some v):w.cell? a=some v:=by
 obtain⟨c,T,f,hb,hs,hv⟩:=u6 hc;obtain⟨y,hy,hl⟩:=h.obj _ _ hb;unfold World.cell?;generalize ρ a.block=p at hl;cases hl with
 |same=>rw[hy];simp[hs,hv]
 |cut _ rest _ f0 _ hf=>
  rw[hy];simp only[hs,Option.isSome_none,Bool.false_eq_true,if_false];rw[Array.getElem?_append_left (Array.getElem?_eq_some_iff.1 hv).1];exact hv
 |gone=>simp at hv
theorem j7.frozen(h:j7 ρ u w)(hc:u.cell? a=some v)(hf:u.frozen? a=false):w.frozen? a=false:=by
 obtain⟨c,T,f,hb,hs,hv⟩:=u6 hc;obtain⟨y,hy,hl⟩:=h.obj _ _ hb;unfold World.frozen? at hf⊢;rw[hb]at hf;generalize ρ a.block=p at hl;cases hl with
 |same=>rw[hy];exact hf
 |cut _ rest _ f0 _ hf0=>
  rw[hy];simp only[Bool.and_eq_false_imp,decide_eq_true_eq,decide_eq_false_iff_not]at hf⊢;intro h1 h2;exact hf (hf0 _ ⟨h1,h2⟩).1 (hf0 _ ⟨h1,h2⟩).2
 |gone=>simp at hv
theorem heap_setCell(u:World)(a:Addr)(v:Value)(b:Nat):(u.setCell a v).heap[b]? =(u.heap[b]?).map fun o=>if b=a.block then(match o with| .cells c T f=>.cells (if a.spot.isSome then c else c.setIfInBounds a.off v) T f|o=>o) else o:=by
 unfold World.setCell;simp only[Array.getElem?_modify];by_cases h:a.block=b
 ·subst h;simp only[if_true];cases u.heap[a.block]? with
  |none=>rfl
  |some o=>cases o <;> rfl
 ·simp[h,Ne.symm h]
theorem j7.setCell(h:j7 ρ u w)(hc:u.cell? a=some v)(x:Value):j7 ρ (u.setCell a x) (w.setCell a x):=by
 obtain⟨c,T,f,hb,hs,hv⟩:=u6 hc;have O1:=(Array.getElem?_eq_some_iff.1 hv).1;refine⟨h.os,h.output,h.tape,h.drawn,by simp[World.setCell,h.size],fun b o ho=>?_,fun b hb=>h.new b (by simpa [World.setCell]using hb),fun b o ho=>?_⟩
 ·rw[heap_setCell]at ho⊢;obtain⟨o1,h1,rfl⟩:=Option.map_eq_some_iff.1 ho;obtain⟨y,hy,hl⟩:=h.obj b o1 h1;refine⟨_,by rw[hy];rfl,?_⟩;by_cases hba:b=a.block
  ·subst hba;rw[hb]at h1;obtain rfl:=Option.some.inj h1;simp only[if_true,hs,Option.isSome_none,Bool.false_eq_true,if_false];generalize ρ a.block=p at hl⊢;cases hl with
   |same=>exact .same _
   |cut _ rest _ f0 _ hf0=>
    show ij0 _ _ (.cells ((c++rest).setIfInBounds a.off x) T f0);rw[show(c++rest).setIfInBounds a.off x=c.setIfInBounds a.off x++rest by
     rw[Array.setIfInBounds_append_left O1]]
    exact .cut _ _ _ _ _ hf0
   |gone=>simp at hv
  ·simp only[hba,if_false];exact hl
 ·rw[heap_setCell]at ho;obtain⟨o1,h1,rfl⟩:=Option.map_eq_some_iff.1 ho;have:=h.k9 b o1 h1;by_cases hba:b=a.block
  ·simp only[hba,if_true];cases o1 <;> simp_all [S4]
  ·simp only[hba,if_false];exact this
theorem Es0(u:World)(a:Addr)(x:Value)(hz:u.frozen? a=false):Evo u (u.setCell a x):=by
 refine⟨by simp[World.setCell],fun b o ho=>?_⟩;rw[heap_setCell,ho];refine⟨_,rfl,?_⟩;by_cases hba:b=a.block
 ·subst hba;unfold World.frozen? at hz;rw[ho]at hz;simp only[if_true];cases o <;> simp only[P4,C7]
  rename_i c T f;split
  ·simp
  ·refine⟨by simp,trivial,trivial,fun i hi=>?_⟩;rw[Array.getElem?_setIfInBounds_ne];rintro rfl;obtain⟨lo,hi'⟩:=f;simp only[Bool.and_eq_false_imp,decide_eq_true_eq,decide_eq_false_iff_not]at hz;exact hz hi.1 hi.2
 ·simp only[hba,if_false];exact P4.refl o
theorem Rb0(u:World)(o:Obj):Evo u {u with heap:=u.heap.push o}:=by
 refine⟨by simp,fun b x hx=>⟨x,?_,P4.refl x⟩⟩;have:=(Array.getElem?_eq_some_iff.1 hx).1;show(u.heap.push o)[b]? =some x;rw[Array.getElem?_push,if_neg Uo];exact hx
theorem j7.push(h:j7 ρ u w){o:Obj}(ho:S4 o=false):j7 ρ {u with heap:=u.heap.push o} {w with heap:=w.heap.push o}:=by
 refine⟨h.os,h.output,h.tape,h.drawn,by simp[h.size],fun b x hx=>?_,fun b hb=>h.new b (by simp at hb;omega),fun b x hx=>?_⟩
 ·have N5:(u.heap.push o)[b]? =some x:=hx;show ∃y,(w.heap.push o)[b]? =some y/\_;rw[Array.getElem?_push]at N5⊢;rw[h.size];split at N5
  ·rename_i hb;rw[if_pos hb];cases N5;exact⟨_,rfl,by rw[h.new b Uo];exact .same _⟩
  ·rename_i hb;rw[if_neg hb];exact h.obj b x N5
 ·have N5:(u.heap.push o)[b]? =some x:=hx;rw[Array.getElem?_push]at N5;split at N5
  ·cases N5;exact ho
  ·exact h.k9 b x N5
theorem In0{r:Nat}{x:Obj}(hr:u.heap[r]? =some x)(hx:C7 x=false){o:Obj}(ho:C7 o=false):Evo u {u with heap:=u.heap.setIfInBounds r o}:=by
 refine⟨by simp,fun b y hy=>?_⟩;show ∃z,(u.heap.setIfInBounds r o)[b]? =some z/\_;rw[Array.getElem?_setIfInBounds];by_cases h:r=b
 ·subst h;have O1:=(Array.getElem?_eq_some_iff.1 hr).1;rw[hr]at hy;obtain rfl:=Option.some.inj hy;refine⟨o,by simp[O1],?_⟩;cases x <;> simp_all [P4,C7]
 ·exact⟨y,by simp[h,hy],P4.refl y⟩
theorem j7.setObj(h:j7 ρ u w){r:Nat}{o x:Obj}(hr:u.heap[r]? =some x)(hx:C7 x=false)(ho:S4 o=false):j7 ρ {u with heap:=u.heap.setIfInBounds r o} {w with heap:=w.heap.setIfInBounds r o}:=by
 have hal:ρ r= .all:=by
  obtain⟨y,_,hl⟩:=h.obj r x hr;generalize ρ r=p at hl⊢;cases hl <;> first|rfl|cases hx
 refine⟨h.os,h.output,h.tape,h.drawn,by simp[h.size],fun b x hx=>?_,fun b hb=>h.new b (by simpa using hb),fun b x hx=>?_⟩
 ·have N5:(u.heap.setIfInBounds r o)[b]? =some x:=hx;show ∃y,(w.heap.setIfInBounds r o)[b]? =some y/\_;rw[Array.getElem?_setIfInBounds]at N5⊢;by_cases hrb:r=b
  ·subst hrb;simp only[if_true]at N5⊢;rw[h.size];split at N5
   ·rename_i hb;rw[if_pos hb];cases N5;exact⟨_,rfl,by rw[hal];exact .same _⟩
   ·cases N5
  ·simp only[hrb,if_false]at N5⊢;exact h.obj b x N5
 ·have N5:(u.heap.setIfInBounds r o)[b]? =some x:=hx;rw[Array.getElem?_setIfInBounds]at N5;by_cases hrb:r=b
  ·subst hrb;simp only[if_true]at N5;split at N5
   ·cases N5;exact ho
   ·cases N5
  ·simp only[hrb,if_false]at N5;exact h.k9 b x N5
theorem mt0.back(he:Evo u u'){e:Event}(h:mt0 u' e):mt0 u e:=by
 obtain⟨l,wr,sy⟩:=e;cases l with
 |cell a=>
  intro O1;obtain⟨⟨v,hv⟩,hw⟩:=h (Nat.lt_of_lt_of_le O1 he.size);have hx:u.heap[a.block]? =some u.heap[a.block]:=Array.getElem?_eq_getElem O1;obtain⟨y,hy,hk⟩:=he.obj _ _ hx;obtain⟨c,T,f,hb,hs,hc⟩:=u6 hv;rw[hb]at hy;obtain rfl:=Option.some.inj hy;generalize u.heap[a.block]=x at hx hk;cases x <;> simp only[P4,C7,Bool.true_eq_false]at hk
  rename_i c0 T0 f0;obtain⟨h1,rfl,rfl,_⟩:=hk;have Bi1:=(Array.getElem?_eq_some_iff.1 hc).1;refine⟨⟨c0[a.off]'(by omega),by unfold World.cell?;rw[hx];simp[hs,show a.off<c0.size by omega]⟩,fun hwr=>?_⟩;have:=hw hwr;unfold World.frozen? at this⊢;rw[hb]at this;rw[hx];exact this
 |obj r=>
  intro O1;obtain⟨x',N5,hc⟩:=h (Nat.lt_of_lt_of_le O1 he.size);have hx:u.heap[r]? =some u.heap[r]:=Array.getElem?_eq_getElem O1;obtain⟨y,hy,hk⟩:=he.obj _ _ hx;rw[N5]at hy;obtain rfl:=Option.some.inj hy;refine⟨_,hx,?_⟩;generalize u.heap[r]=x at hk;cases x <;> first|rfl|(cases x' <;> simp_all [P4,C7])
 |output=>exact h
 |goroutines=>exact h
 |mark m=>exact h
def Et0{α:Type}:Result α->Prop
 | .ok _ _=>True
 | .halt (.panic _) _=>True
 |_=>False
def atW{α:Type}:Result α->World->Result α
 | .ok a _,w=>.ok a w
 | .halt h _,w=>.halt h w
def mu0{α:Type}:Result α->World
 | .ok _ w=>w
 | .halt _ w=>w
def one:Value->Bool
 | .agg _=>false
 | .tuple _=>false
 |_=>true
section
variable{α:Type}{P:Program}{m:Mode}{k:Sem α}{b:Bool}{h:Halt}
theorem du0{a:Addr}{v:Value}(h:one v=true)(u:World)(es:Array Event):(Sem.store m a v k).runT P u es=match u.cell? a with
  |some _=>if u.frozen? a then(.halt (.unsupported (.unsafePointer "a write to bytes that a string shares")) u,es) else k.runT P (u.setCell a v) (es.push ⟨.cell a,true,m== .atomic⟩)
  |none=>match u.farStore P a v (m== .atomic)with
   | .ok (u,Zx0)=>k.runT P u (es++Zx0.toArray.map (⟨.cell ·,true,m== .atomic⟩))
   | .error h=>(.halt h u,es):=by
 cases v <;> first|rfl|cases h
theorem kb0{a:Addr}{v:Value}(h:one v=false)(u:World)(es:Array Event):(Sem.store m a v k).runT P u es=(.halt (.stuck "store: not the value of one cell") u,es):=by
 cases v <;> first|rfl|cases h
theorem pn0{u:World}{a:Addr}(he:u.farLoad P a b= .error h):∀v,h≠.panic v:=by
 unfold World.farLoad at he;split at he
 ·split at he
  ·cases he
  ·cases he;intro v;simp
 ·cases he;unfold World.noCell;split <;> intro v <;> simp
theorem mv0{u:World}{a:Addr}{x:Value}(he:u.farStore P a x b= .error h):∀v,h≠.panic v:=by
 unfold World.farStore at he;split at he
 ·split at he
  ·cases he
  ·cases he;intro v;simp
 ·cases he;unfold World.noCell;split <;> intro v <;> simp
theorem ge0{w:World}(hf:Et0 (α:=α) (.halt h w)):∃v,h= .panic v:=by
 cases h <;> first|exact⟨_,rfl⟩|exact hf.elim
theorem Z1{α:Type}{P:Program}:∀{s:Sem α},dead P s->∀(u:World)(es:Array Event),¬Et0 (s.runT P u es).1
 | .pure _,h,_,_=>h.elim
 | .load m a k,h,u,es=>by
  unfold Sem.runT;split
  ·exact Z1 (h _) _ _
  ·split
   ·exact Z1 (h _) _ _
   ·rename_i he;intro hf;obtain⟨v,hv⟩:=ge0 hf;exact pn0 he v hv
 | .store m a v k,h,u,es=>by
  cases ho:one v
  ·rw[kb0 ho];exact id
  ·rw[du0 ho];split
   ·split
    ·exact id
    ·exact Z1 (s:=k) h _ _
   ·split
    ·exact Z1 (s:=k) h _ _
    ·rename_i he;intro hf;obtain⟨v,hv⟩:=ge0 hf;exact mv0 he v hv
 | .new _ k,h,u,es=>Z1 (h _) _ _
 | .shape _ k,h,u,es=>Z1 (h _) _ _
 | .freeze _ _ k,h,u,es=>Z1 (s:=k) h _ _
 | .frozen _ k,h,u,es=>Z1 (h _) _ _
 | .getObj _ k,h,u,es=>by
  unfold Sem.runT;split
  ·exact id
  ·exact Z1 (h _) _ _
  ·exact id
 | .setObj _ _ k,h,u,es=>by
  unfold Sem.runT;split
  ·exact id
  ·exact Z1 (s:=k) h _ _
  ·exact id
 | .choose _ k,h,u,es=>by
  unfold Sem.runT;split
  ·exact Z1 (h _) _ _
  ·exact Z1 (h _) _ _
 | .sys _ k,h,u,es=>Z1 (h _) _ _
 | .program k,h,u,es=>Z1 (s:=k P) h _ _
 | .mark _ k,h,u,es=>Z1 (s:=k) h _ _
 | .halt hh,h,u,es=>by
  intro hf;obtain⟨v,hv⟩:=ge0 hf;exact h v hv
end
structure Eu0{α:Type}(P:Program)(ρ:Nat->O7)(s:Sem α)(u w:World)(es:Array Event):Prop where
 out:∃w',s.runT P w es=(atW (s.runT P u es).1 w',(s.runT P u es).2)/\j7 ρ (mu0 (s.runT P u es).1) w'
 evo:Evo u (mu0 (s.runT P u es).1)
 evs:∀e∈(s.runT P u es).2,e∈es\/mt0 u e
section
variable{α:Type}{P:Program}{s:Sem α}{w':World}{es es':Array Event}
theorem Eu0.of{β:Type}{ρ:Nat->O7}{t:Sem β}{u w u':World}{f:Result β->Result α}(h:Eu0 P ρ t u' w' es')(hu:s.runT P u es=(f (t.runT P u' es').1,(t.runT P u' es').2))(hw:s.runT P w es=(f (t.runT P w' es').1,(t.runT P w' es').2))
  (hf:∀r w,f (atW r w)=atW (f r) w) (hfw:∀r,mu0 (f r)=mu0 r) (he:Evo u u') (hes:∀e∈es',e∈es\/mt0 u e):Eu0 P ρ s u w es:=by
 obtain⟨⟨w2,h1,h2⟩,h3,h4⟩:=h;refine⟨⟨w2,?_,?_⟩,?_,?_⟩
 ·rw[hw,h1,hu];simp only[hf]
 ·rw[hu];simp only[hfw];exact h2
 ·rw[hu];simp only[hfw];exact he.trans h3
 ·rw[hu];intro e hee;rcases h4 e hee with h5|h5
  ·exact hes e h5
  ·exact .inr (h5.back he)
theorem Eu0.go{ρ:Nat->O7}{t:Sem α}{u w u':World}(h:Eu0 P ρ t u' w' es')(hu:s.runT P u es=t.runT P u' es')(hw:s.runT P w es=t.runT P w' es')(he:Evo u u')(hes:∀e∈es',e∈es\/mt0 u e):Eu0 P ρ s u w es:=
 Eu0.of (f:=id) h hu hw (fun _ _=>rfl) (fun _=>rfl) he hes
theorem Ew0{o:Obj}(h:C7 o=true):∃c T f,o= .cells c T f:=by
 cases o <;> first|exact⟨_,_,_,rfl⟩|cases h
theorem cf0{u:World}{x:Event}(hx:mt0 u x):∀e∈es.push x,e∈es\/mt0 u e:=by
 intro e he;rcases Array.mem_push.1 he with h|rfl
 ·exact .inl h
 ·exact .inr hx
theorem j7.ask{ρ:Nat->O7}{u w:World}(h:j7 ρ u w)(d:Nat):j7 ρ {u with drawn:=d} {w with drawn:=d}:=⟨h.os,h.output,h.tape,rfl,h.size,h.obj,h.new,h.k9⟩
theorem B8{α:Type}{P:Program}{ρ:Nat->O7}:∀{s:Sem α},S0 P s->∀{u w:World}{es:Array Event},j7 ρ u w->Et0 (s.runT P u es).1->Eu0 P ρ s u w es
 | .pure a,_,u,w,es,hs,_=>⟨⟨w,rfl,hs⟩,Evo.refl u,fun e he=>.inl he⟩
 | .halt hh,_,u,w,es,hs,_=>⟨⟨w,rfl,hs⟩,Evo.refl u,fun e he=>.inl he⟩
 | .load m a k,h,u,w,es,hs,hf=>by
  cases hc:u.cell? a with
  |some v=>
   have hu:(Sem.load m a k).runT P u es=(k v).runT P u (es.push ⟨.cell a,false,m== .atomic⟩):=by
    conv=>lhs;unfold Sem.runT
    rw[hc]
   have hw:(Sem.load m a k).runT P w es=(k v).runT P w (es.push ⟨.cell a,false,m== .atomic⟩):=by
    conv=>lhs;unfold Sem.runT
    rw[hs.cell hc]
   rw[hu]at hf;exact(B8 (h v) hs hf).go hu hw (Evo.refl u) (cf0 (fun _=>⟨⟨v,hc⟩,fun h9=>by cases h9⟩))
  |none=>
   exfalso;unfold Sem.runT at hf;rw[hc]at hf;have:∃hh,u.farLoad P a (m== .atomic)= .error hh:=by
    unfold World.farLoad;cases hb:u.heap[a.block]? with
    |none=>exact⟨_,rfl⟩
    |some o=>
     cases o
     case view at_ t=>exact absurd (hs.k9 _ _ hb) (by simp[S4])
     all_goals exact⟨_,rfl⟩
   obtain⟨hh,he⟩:=this;rw[he]at hf;obtain⟨v,hv⟩:=ge0 hf;exact pn0 he v hv
 | .store m a x k,h,u,w,es,hs,hf=>by
  cases ho:one x
  ·rw[kb0 ho]at hf;exact hf.elim
  ·cases hc:u.cell? a with
   |some v=>
    cases hz:u.frozen? a
    ·have hu:(Sem.store m a x k).runT P u es=k.runT P (u.setCell a x) (es.push ⟨.cell a,true,m== .atomic⟩):=by
      rw[du0 ho,hc,hz];rfl
     have hw:(Sem.store m a x k).runT P w es=k.runT P (w.setCell a x) (es.push ⟨.cell a,true,m== .atomic⟩):=by
      rw[du0 ho,hs.cell hc,hs.frozen hc hz];rfl
     rw[hu]at hf;exact(B8 (s:=k) h (hs.setCell hc x) hf).go hu hw (Es0 u a x hz) (cf0 (fun _=>⟨⟨v,hc⟩,fun _=>hz⟩))
    ·rw[du0 ho,hc,hz]at hf;exact hf.elim
   |none=>
    exfalso;rw[du0 ho,hc]at hf;have:∃hh,u.farStore P a x (m== .atomic)= .error hh:=by
     unfold World.farStore;cases hb:u.heap[a.block]? with
     |none=>exact⟨_,rfl⟩
     |some o=>
      cases o
      case view at_ t=>exact absurd (hs.k9 _ _ hb) (by simp[S4])
      all_goals exact⟨_,rfl⟩
    obtain⟨hh,he⟩:=this;rw[he]at hf;obtain⟨v,hv⟩:=ge0 hf;exact mv0 he v hv
 | .new o k,h,u,w,es,hs,hf=>by
  refine(B8 (h.2 u.heap.size) (hs.push h.1) hf).go rfl ?_ (Rb0 u o) (fun e he=>.inl he);show(k w.heap.size).runT P _ es=_;rw[hs.size]
 | .shape _ k,h,u,w,es,hs,hf=>absurd hf (Z1 (h _) _ _)
 | .freeze _ _ k,h,u,w,es,hs,hf=>absurd hf (Z1 (s:=k) h _ _)
 | .frozen _ k,h,u,w,es,hs,hf=>absurd hf (Z1 (h _) _ _)
 | .getObj r k,h,u,w,es,hs,hf=>by
  cases hb:u.heap[r]? with
  |none=>unfold Sem.runT at hf;rw[hb]at hf;exact hf.elim
  |some o=>
   cases hco:C7 o
   ·obtain⟨y,hy,hl⟩:=hs.obj r o hb;have hyo:y=o:=by generalize ρ r=p at hl;cases hl <;> first|rfl|cases hco
    subst hyo;have hu:(Sem.getObj r k).runT P u es=(k y).runT P u (es.push ⟨.obj r,false,y.isChan⟩):=by
     conv=>lhs;unfold Sem.runT
     rw[hb];cases y <;> first|rfl|cases hco
    have hw:(Sem.getObj r k).runT P w es=(k y).runT P w (es.push ⟨.obj r,false,y.isChan⟩):=by
     conv=>lhs;unfold Sem.runT
     rw[hy];cases y <;> first|rfl|cases hco
    rw[hu]at hf;exact(B8 (h y) hs hf).go hu hw (Evo.refl u) (cf0 (fun _=>⟨y,hb,hco⟩))
   ·obtain⟨c,T,f,rfl⟩:=Ew0 hco;unfold Sem.runT at hf;rw[hb]at hf;exact hf.elim
 | .setObj r o k,h,u,w,es,hs,hf=>by
  cases hb:u.heap[r]? with
  |none=>unfold Sem.runT at hf;rw[hb]at hf;exact hf.elim
  |some y=>
   cases hco:C7 y
   ·obtain⟨y',hy,hl⟩:=hs.obj r y hb;have hyo:y'=y:=by generalize ρ r=p at hl;cases hl <;> first|rfl|cases hco
    subst hyo;have hu:(Sem.setObj r o k).runT P u es=k.runT P {u with heap:=u.heap.setIfInBounds r o} (es.push ⟨.obj r,true,o.isChan⟩):=by
     conv=>lhs;unfold Sem.runT
     rw[hb];cases y' <;> first|rfl|cases hco
    have hw:(Sem.setObj r o k).runT P w es=k.runT P {w with heap:=w.heap.setIfInBounds r o} (es.push ⟨.obj r,true,o.isChan⟩):=by
     conv=>lhs;unfold Sem.runT
     rw[hy];cases y' <;> first|rfl|cases hco
    rw[hu]at hf;exact(B8 (s:=k) h.2 (hs.setObj hb hco h.1.1) hf).go hu hw (In0 hb hco h.1.2) (cf0 (fun _=>⟨y',hb,hco⟩))
   ·obtain⟨c,T,f,rfl⟩:=Ew0 hco;unfold Sem.runT at hf;rw[hb]at hf;exact hf.elim
 | .choose q k,h,u,w,es,hs,hf=>by
  cases hq:q.forced
  ·have hu:(Sem.choose q k).runT P u es=(k (q.cut (u.tape u.drawn q))).runT P {u with drawn:=u.drawn+1} es:=by
    conv=>lhs;unfold Sem.runT
    rw[hq];rfl
   have hw:(Sem.choose q k).runT P w es=(k (q.cut (u.tape u.drawn q))).runT P {w with drawn:=u.drawn+1} es:=by
    conv=>lhs;unfold Sem.runT
    rw[hq,hs.tape,hs.drawn];rfl
   rw[hu]at hf;exact(B8 (h _) (hs.ask _) hf).go hu hw ⟨Nat.le_refl _,fun _ x hx=>⟨x,hx,P4.refl x⟩⟩ (fun e he=>.inl he)
  ·have hu:(Sem.choose q k).runT P u es=(k 0).runT P u es:=by
    conv=>lhs;unfold Sem.runT
    rw[hq];rfl
   have hw:(Sem.choose q k).runT P w es=(k 0).runT P w es:=by
    conv=>lhs;unfold Sem.runT
    rw[hq];rfl
   rw[hu]at hf;exact(B8 (h 0) hs hf).go hu hw (Evo.refl u) (fun e he=>.inl he)
 | .sys _ k,h,u,w,es,hs,hf=>absurd hf (Z1 (h _) _ _)
 | .program k,h,u,w,es,hs,hf=>(B8 (s:=k P) h hs hf).go rfl rfl (Evo.refl u) (fun e he=>.inl he)
 | .mark m k,h,u,w,es,hs,hf=>by
  unfold S0 at h;split at h
  ·rename_i hm;exact(B8 (s:=k) h hs hf).go rfl rfl (Evo.refl u) (cf0 hm)
  ·exact absurd hf (Z1 (s:=k) h _ _)
end
end
end Go.Yc
end
section
namespace Go.Yc
open Go Go.Conc
open Go.ConcN (sumTo upd sumTo_upd upd_ne upd_same sumTo_congr)
section
def G2(u:World)(τ:Tape)(d:Nat):World:={u with tape:=τ,drawn:=d}
theorem ij0.uniq{p:O7}{x y y':Obj}(h:ij0 p x y)(h':ij0 p x y'):y=y':=by
 cases h <;> cases h' <;> rfl
theorem S9{c:Array Value}{T:TypeId}{f:Nat×Nat}{y:Obj}(hk:P4 (.cells c T f) y):∃c',y= .cells c' T f/\c'.size=c.size/\∀i,inR f i->c'[i]? =c[i]?:=by
 cases y <;> try(exact hk.elim)
 obtain⟨h1,rfl,rfl,h2⟩:=hk;exact⟨_,rfl,h1,h2⟩
def lk0(u:World)(b:Nat):Prop:=∃T f,u.heap[b]? =some (.cells #[] T f)
section
variable{u u':World}{b:Nat}
theorem lk0.evo(h:lk0 u b)(he:Evo u u'):lk0 u' b:=by
 obtain⟨T,f,hb⟩:=h;obtain⟨y,hy,hk⟩:=he.obj _ _ hb;obtain⟨c,rfl,h1,_⟩:=S9 hk;have:c=#[]:=by simpa using h1
 subst this;exact⟨_,_,hy⟩
theorem lk0.kept{ρ:Nat->O7}{w w':World}(h:lk0 u b)(he:Evo u u')(hs:j7 ρ u w)(hs':j7 ρ u' w'):w'.heap[b]? =w.heap[b]?:=by
 obtain⟨T,f,hb⟩:=h;obtain⟨y,hy,hk⟩:=he.obj _ _ hb;obtain⟨c,rfl,h1,_⟩:=S9 hk;have:c=#[]:=by simpa using h1
 subst this;obtain⟨z,hz,hl⟩:=hs.obj _ _ hb;obtain⟨z',hz',x8⟩:=hs'.obj _ _ hy;rw[hz,hz',hl.uniq x8]
theorem Io0{a:Addr}{v:Value}(hc:u.cell? a=some v)(hf:u.frozen? a=true)(he:Evo u u'):u'.cell? a=some v/\u'.frozen? a=true:=by
 obtain⟨c,T,f,hb,hs,hv⟩:=u6 hc;obtain⟨y,hy,hk⟩:=he.obj _ _ hb;obtain⟨c',rfl,h1,h2⟩:=S9 hk;unfold World.frozen? at hf⊢;unfold World.cell?;rw[hb]at hf;rw[hy];obtain⟨lo,hi⟩:=f;refine⟨?_,hf⟩;simp only[hs,Option.isSome_none,Bool.false_eq_true,if_false];simp only[Bool.and_eq_true,decide_eq_true_eq]at hf;rw[h2 _ hf];exact hv
end
structure W7 where
 blk:Nat
 off:Nat
def stA(G:W7):Addr:=⟨G.blk,G.off,none⟩
def smA(G:W7):Addr:=⟨G.blk,G.off+1,none⟩
def KK:Nat:=4294967296
attribute [local irreducible] KK
def GAt(G:W7)(st sm:Int)(w:World):Prop:=∃c T,w.heap[G.blk]? =some (.cells (c ++ #[.int .u64 st,.int .u32 sm]) T (0,0))/\c.size=G.off
def Cut(u:World)(G:W7):Prop:=∃c T f,u.heap[G.blk]? =some (.cells c T f)/\c.size=G.off
section
variable{u u' w:World}{G:W7}{st sm:Int}
theorem Cut.evo(h:Cut u G)(he:Evo u u'):Cut u' G:=by
 obtain⟨c,T,f,hb,hc⟩:=h;obtain⟨y,hy,hk⟩:=he.obj _ _ hb;obtain⟨c',rfl,h1,_⟩:=S9 hk;exact⟨_,_,_,hy,h1.trans hc⟩
theorem Cut.kept{ρ:Nat->O7}{w':World}(h:Cut u G)(he:Evo u u')(hs:j7 ρ u w)(hs':j7 ρ u' w')(hg:GAt G st sm w):GAt G st sm w':=by
 obtain⟨c,T,f,hb,hc⟩:=h;obtain⟨y,hy,hk⟩:=he.obj _ _ hb;obtain⟨c',rfl,h1,_⟩:=S9 hk;obtain⟨z,hz,hl⟩:=hs.obj _ _ hb;obtain⟨z',hz',x8⟩:=hs'.obj _ _ hy;obtain⟨c0,T0,hg,hc0⟩:=hg;rw[hz]at hg;obtain rfl:=Option.some.inj hg;generalize ρ G.blk=p at hl x8;generalize hz0:(Obj.cells (c0 ++ #[.int .u64 st,.int .u32 sm]) T0 (0,0))=z0 at hl;cases hl with
 |same=>
  obtain⟨rfl,_,_⟩:=Obj.cells.inj hz0;simp at hc;omega
 |cut _ rest _ f1 _ _=>
  obtain⟨h2,rfl,h3⟩:=Obj.cells.inj hz0;have H2:c.size=c0.size:=by omega
  have:rest=#[.int .u64 st,.int .u32 sm]:=(Array.append_inj_right h2 H2.symm).symm;subst this;cases x8 with
  |cut _ _ _ _ _ _=>exact⟨c',T0,by rw[hz',<- h3],h1.trans hc⟩
 |gone=>
  subst hz0;cases x8 with
  |gone=>exact⟨c0,T0,hz',hc0⟩
theorem GAt.cells(h:GAt G st sm w):w.cell? (stA G)=some (.int .u64 st)/\w.cell? (smA G)=some (.int .u32 sm)/\w.frozen? (stA G)=false/\w.frozen? (smA G)=false:=by
 obtain⟨c,T,hb,hc⟩:=h;refine⟨?_,?_,?_,?_⟩
 ·simp[World.cell?,stA,hb,<- hc]
 ·simp only[World.cell?,smA,hb,Option.isSome_none,Bool.false_eq_true,if_false];rw[Array.getElem?_append_right Uo];simp[<- hc]
 ·simp[World.frozen?,stA,hb]
 ·simp[World.frozen?,smA,hb]
end
def M6(P:Program)(main:Bool)(g:Goroutine)(u:World)(g':Goroutine)(u':World):Prop:=
 g'.status= .running/\∀ρ w,j7 ρ u w->Evo u u'/\∃w' es,stepG P main g w= .go g' w' es/\j7 ρ u' w'/\∀e∈es,mt0 u e
structure e7 where
 ch:Nat
 z:Value
 me:Goroutine
def oi0(P:Program)(main:Bool)(s:e7)(g:Goroutine):Prop:=
 g.status= .running/\g.frame=s.me.frame/\g.callers=s.me.callers/\g.dying=s.me.dying/\∀w,stepG P main g w= .comm s.me #[rcase s.ch s.z] true (.recv false) w #[]
abbrev kc0:=List (Addr×Value)
def Way(P:Program)(main:Bool)(l:kc0)(s:e7):Nat->Goroutine->Prop
 |0,g=>g=parked s.me #[rcase s.ch s.z] (.recv false)/\∃g₀,oi0 P main s g₀
 |n+1,g=>oi0 P main s g\/(0<n/\g.status= .running/\∃g' es,(∀e∈es,∃p∈l,e=⟨.cell p.1,false,false⟩)/\(∀w,(∀p∈l,w.cell? p.1=some p.2)->stepG P main g w= .go g' w es)/\Way P main l s n g')
theorem Way.status{P:Program}{main:Bool}{l:kc0}{s:e7}:∀{n:Nat}{g:Goroutine},Way P main l s n g->(g.status= .running/\0<n)\/(g.status= .blocked/\n=0)
 |0,_,h=>.inr ⟨by have:=h.1;subst this;rfl,rfl⟩
 |_+1,_,h=>.inl ⟨h.elim (fun x=>x.1) fun x=>x.2.1,by omega⟩
def Ip0(e:Event):Bool:=match e.loc with
 | .mark (.read _)| .mark (.write _)| .mark (.release _)=>false
 | .mark _=>true
 |_=>false
def rdA(a:Addr):Event:=⟨.cell a,false,true⟩
def wrA(a:Addr):Event:=⟨.cell a,true,true⟩
def ol1(P:Program)(G:W7)(g:Goroutine)(g':Goroutine)(es:Array Event):Prop:=
 g.status= .running/\(∀e∈es,Ip0 e=true)/\∀w st sm,GAt G st sm w->stepG P false g w= .go g' w es
def Lst(P:Program)(G:W7):Nat->Nat->Nat->Goroutine->Prop
 |0,_,_,_=>False
 |n+1,s,d,g=>0<d/\((∃g' es,ol1 P G g g' es/\(∀e∈es,e.loc≠.mark .disable/\e.loc≠.mark .enable)/\Lst P G n s d g')\/(g.status= .running/\match s with
  |2=>∃g',(∀w,GAt G 1 0 w->stepG P false g w= .go g' w #[rdA (stA G)])/\Lst P G n 1 d g'
  |1=>∃g',(∀w,GAt G 1 0 w->stepG P false g w= .go g' (w.setCell (stA G) (.int .u64 0)) #[wrA (stA G)])/\Lst P G n 0 d g'
  |_=>mayWake P g=true/\∃g',(∀w,GAt G 0 0 w->stepG P false g w= .go g' (w.setCell (smA G) (.int .u32 1)) (semEvents (smA G)))/\QuitsD P n d g'))
def Lt(P:Program)(G:W7):Nat->Nat->Goroutine->Prop
 |0,_,_=>False
 |n+1,d,g=>(∃g' es,ol1 P G g g' es/\Lt P G n (deafBehind d es) g')\/(g.status= .running/\0<d/\∀v wt:Nat,wt <=1->v<2147483647->∃g',
   (∀w,GAt G (((v+1)*KK+wt:Nat):Int) 0 w->stepG P false g w= .go g' (w.setCell (stA G) (.int .u64 ((v*KK+wt:Nat):Int))) #[rdA (stA G),wrA (stA G)])/\(¬(v=0/\wt=1)->QuitsD P n d g')/\(v=0/\wt=1->Lst P G n 2 d g'))
theorem Lt.running{P:Program}{G:W7}:∀{n d:Nat}{g:Goroutine},Lt P G n d g->g.status= .running:=by
 intro n d g h;cases n with
 |zero=>exact h.elim
 |succ n=>
  unfold Lt at h;rcases h with⟨_,_,x,_⟩|x
  ·exact x.1
  ·exact x.1
theorem Lst.running{P:Program}{G:W7}:∀{n s d:Nat}{g:Goroutine},Lst P G n s d g->g.status= .running:=by
 intro n s d g h;cases n with
 |zero=>exact h.elim
 |succ n=>
  unfold Lst at h;rcases h with⟨_,⟨_,_,x,_⟩|x⟩
  ·exact x.1
  ·exact x.1
end
section
attribute [local irreducible] KK
structure Gh where
 W1:Nat->Option e7
 stay:Nat->kc0
 T4:Option W7
 old:List W7
 D5:Nat->Option Obj
 chs:Nat->Prop
 low:Nat->Prop
 D7:Nat->O7
 cap:Nat
 pend:Nat
 dn:Nat
 n:Nat
def Gh.Sh(X:Gh)(l:Loc):Prop:=∃a G,(X.T4=some G\/G∈X.old)/\l= .cell a/\a.block=G.blk/\G.off <=a.off
def Us(live:Nat->Bool)(g:Nat):Prop:=g=0\/live g=true
def Gh.St(X:Gh)(i:Nat)(l:Loc):Prop:=∃p∈X.stay i,l= .cell p.1
def Gh.Mem(X:Gh)(h g:Nat):Prop:=(g=h/\X.dn=0)\/X.W1 g≠none
def Gh.Lo(X:Gh)(h g:Nat):Prop:=g≠h/\X.W1 g≠none
def count(live:Nat->Bool)(n:Nat):Nat:=sumTo n fun i=>if live i then 1 else 0
def Idle(P:Program)(X:Gh)(live:Nat->Bool)(T:Trace)(i n:Nat)(g:Goroutine):Prop:=match X.W1 i with
 |some s=>Way P (i==0) (X.stay i) s n g
 |none=>0<i/\if live i then ∃G,X.T4=some G/\Lt P G n (Deaf T i) g else QuitsD P n (Deaf T i) g
def Gh.Sep(X:Gh):Prop:=∀G,(X.T4=some G\/G∈X.old)->¬X.chs G.blk/\X.D5 G.blk=none
structure Ring(P:Program)(X:Gh)(h:Nat)(u:World)(live:Nat->Bool)(T:Trace)(gs:Array Goroutine)(w:World)(q:Nat->Nat):Prop where
 sim:∃ρ,j7 ρ (G2 u w.tape w.drawn) w/\∀b,¬X.low b->ρ b=X.D7 b
 idle:∀i g,i≠h->gs[i]? =some g->Idle P X live T i (q i) g
 free:X.W1 h=none
 size:h<gs.size
 num:gs.size=X.n
 stays:∀i p,p∈X.stay i->u.cell? p.1=some p.2/\u.frozen? p.1=true
 chans:∀c,X.chs c->lk0 u c/\X.D5 c=none/\∃k,w.heap[c]? =some (.chan 0 #[] false k k false)
 W4:∀i s,X.W1 i=some s->X.chs s.ch
 inj:∀i j s s',X.W1 i=some s->X.W1 j=some s'->s.ch=s'.ch->i=j
 D5:∀b o,X.D5 b=some o->lk0 u b/\S4 o=false/\∃p y,w.heap[b]? =some y/\ij0 p o y
 gg0:∀G,X.T4=some G->X.low G.blk
 cg0:(∀c,X.chs c->X.low c)/\X.Sep
 T4:∀G,X.T4=some G->Cut u G/\GAt G (((count live gs.size+X.pend)*KK:Nat):Int) 0 w
 old:∀G∈X.old,Cut u G
 above:∀j,gs.size <=j->Deaf T j=0/\X.W1 j=none/\live j=false/\X.stay j=[]
 few:count live gs.size+X.pend <=X.cap/\X.cap <=65536
 ju0:∀i,live i=true->i≠0/\X.T4≠none
 fq0:∀i,i≠0->(X.W1 i≠none\/i=h)->live i=true
 dfn:Deaf T h=X.dn
 past:PastH X.Sh (Us live) X.St (X.Mem h) (X.Lo h) h T
theorem om1{X:Gh}{u:World}{h:Nat}(O2:∀i p,p∈X.stay i->u.cell? p.1=some p.2/\u.frozen? p.1=true)(hg:∀G,(X.T4=some G\/G∈X.old)->Cut u G){e:Event}(he:mt0 u e)(fn:FuncId)(pos:String):HOk X.Sh X.St h {g:=h,fn,pos,act:=.ofEvent e}/\e.loc≠.mark .disable/\e.loc≠.mark .enable:=by
 obtain⟨l,wr,sy⟩:=e;cases l with
 |cell a=>
  refine⟨fun b hb=>?_,by simp,by simp⟩;simp only[ofEvent_cell0,MemAct.touch?,Option.some.injEq]at hb;subst hb;refine⟨?_,fun hwr g _=>?_⟩
  ·rintro⟨a',G,hG,ha,hb,ho⟩;simp only[Loc.cell.injEq]at ha;subst ha;obtain⟨c,T,f,hc,hs⟩:=hg G hG;obtain⟨⟨v,hv⟩,_⟩:=he (by rw[hb];exact(Array.getElem?_eq_some_iff.1 hc).1);obtain⟨c',T',f',hc',_,hv'⟩:=u6 hv;rw[hb,hc]at hc';cases hc';have:=(Array.getElem?_eq_some_iff.1 hv').1;omega
  ·rintro⟨p,hp,ha⟩;simp only[Loc.cell.injEq]at ha;subst ha;obtain⟨h1,h2⟩:=O2 g p hp;obtain⟨c',T',f',hc',_,_⟩:=u6 h1;have:=(he (Array.getElem?_eq_some_iff.1 hc').1).2 hwr;rw[h2]at this;cases this
 |obj r=>
  refine⟨fun b hb=>?_,by simp,by simp⟩;have:b.loc= .obj r:=by
   cases wr <;> cases sy <;> simp[MemAct.ofEvent,MemAct.touch?]at hb <;> (try(subst hb;rfl))
  refine⟨?_,fun _ g _=>?_⟩
  ·rintro⟨a',G,_,ha,_⟩;rw[this]at ha;cases ha
  ·rintro⟨p,_,ha⟩;rw[this]at ha;cases ha
 |output=>exact he.elim
 |goroutines=>exact he.elim
 |mark m=>
  have hm:Im0 m=true:=he;cases m <;> first|(cases hm;done)|exact⟨fun b hb=>by simp[MemAct.ofEvent,MemAct.touch?]at hb,by simp,by simp⟩
section
variable{P:Program}{X:Gh}{h:Nat}{u:World}{live:Nat->Bool}{T:Trace}{gs:Array Goroutine}{w:World}{q:Nat->Nat}
theorem Way.again{main:Bool}{l:kc0}{s:e7}{n:Nat}{g:Goroutine}(hw:Way P main l s n g)(hc:∃k,w.heap[s.ch]? =some (.chan 0 #[] false k k false)):g.again w=g:=by
 rcases hw.status with⟨h1,_⟩|⟨_,rfl⟩
 ·exact again_of_running (.inl h1) w
 ·obtain⟨rfl,_⟩:=hw;obtain⟨k,hk⟩:=hc;exact again_recv_open hk
theorem Idle.again{i n:Nat}{g:Goroutine}(hi:Idle P X live T i n g)(hc:∀s,X.W1 i=some s->∃k,w.heap[s.ch]? =some (.chan 0 #[] false k k false)):g.again w=g:=by
 unfold Idle at hi;cases e:X.W1 i with
 |some s=>rw[e]at hi;exact Way.again hi (hc s e)
 |none=>
  rw[e]at hi;obtain⟨_,hi⟩:=hi;split at hi
  ·obtain⟨G,_,hl⟩:=hi;exact again_of_running (.inl hl.running) w
  ·exact again_of_running hi.status w
theorem Idle.other{i n g':Nat}{g:Goroutine}(hi:Idle P X live T i n g)(X2:g'≠i){ops:Trace}(ll0:∀op∈ops,op.g=g'):Idle P X live (T++ops) i n g:=by
 unfold Idle at hi⊢;rw[Deaf_other T X2 ops ll0];exact hi
theorem Idle.awake{i n:Nat}{g:Goroutine}(hi:Idle P X live T i n g):awake g:=by
 unfold Idle at hi;cases e:X.W1 i with
 |some s=>rw[e]at hi;exact awake_of (hi.status.elim (fun x=>.inl x.1) fun x=>.inr (.inl x.1))
 |none=>
  rw[e]at hi;obtain⟨_,hi⟩:=hi;split at hi
  ·obtain⟨G,_,hl⟩:=hi;exact awake_of (.inl hl.running)
  ·exact awake_of (hi.status.elim .inl fun x=>.inr (.inr x))
theorem Ring.awake(C:Ring P X h u live T gs w q){a:Goroutine}(ha:gs[h]? =some a)(hs:a.status= .running\/a.status= .blocked):∀g∈gs,awake g:=by
 intro g hg;obtain⟨i,hi,rfl⟩:=Array.mem_iff_getElem.1 hg;by_cases e:i=h
 ·subst e;have:gs[i]=a:=by simpa [Array.getElem?_eq_getElem hi]using ha
  rw[this];exact awake_of (hs.elim .inl fun x=>.inr (.inl x))
 ·exact(C.idle i _ e (Array.getElem?_eq_getElem hi)).awake
theorem j7.at{ρ:Nat->O7}(hs:j7 ρ (G2 u w.tape w.drawn) w)(d:Nat):j7 ρ (G2 u (w.at d).tape (w.at d).drawn) (w.at d):=⟨hs.os,hs.output,rfl,rfl,hs.size,hs.obj,hs.new,hs.k9⟩
theorem Ring.at(C:Ring P X h u live T gs w q)(d:Nat):Ring P X h u live T gs (w.at d) q:=
 ⟨let⟨ρ,hs,hl⟩:=C.sim;⟨ρ,j7.at hs d,hl⟩,C.idle,C.free,C.size,C.num,C.stays,C.chans,C.W4,C.inj,C.D5,C.gg0,C.cg0,C.T4,C.old,C.above,C.few,C.ju0,C.fq0,C.dfn,C.past⟩
theorem Ring.own(C:Ring P X h u live T gs w q){g g':Goroutine}{u':World}(ha:gs[h]? =some g)(hF:M6 P (h==0) g (G2 u w.tape w.drawn) g' u'):∃w' es,stepG P (h==0) g w= .go g' w' es/\Ring P X h u' live (T++MemOp.ofEvents h g.frame.fn g.frame.place es) ((gs.map (woken P g g' w')).setIfInBounds h g') w' q/\((gs.map (woken P g g' w')).setIfInBounds h g')[h]? =some g':=by
 obtain⟨hr,hF⟩:=hF;obtain⟨ρ,hs,hlw⟩:=C.sim;obtain⟨hE,w',es,O2,hs',hev⟩:=hF ρ w hs;have hE:Evo u u':=⟨hE.size,hE.obj⟩
 have hs1:j7 ρ {u with tape:=w.tape,drawn:=w.drawn} w:=hs;have j3:∀G,(X.T4=some G\/G∈X.old)->Cut u G:=fun G hG=>hG.elim (fun e=>(C.T4 G e).1) (C.old G);have on1:=fun e he=>om1 (X:=X) (h:=h) C.stays j3 (hev e he);have ll0:∀op∈MemOp.ofEvents h g.frame.fn g.frame.place es,op.g=h:=fun op hop=>by obtain⟨e,_,rfl⟩:=Go.Conc.mem_ofEvents hop;rfl
 have hd:Deaf (T++MemOp.ofEvents h g.frame.fn g.frame.place es) h=Deaf T h:=by
  rw[Deaf_own];exact deafBehind_still (fun e he=>(on1 e he g.frame.fn g.frame.place).2) _
 have hch:∀c,X.chs c->∃k,w'.heap[c]? =some (.chan 0 #[] false k k false):=fun c e=>by
  obtain⟨hg,_,k,hk⟩:=C.chans c e;exact⟨k,by rw[lk0.kept (u:=G2 u w.tape w.drawn) hg ⟨hE.size,hE.obj⟩ hs hs'];exact hk⟩
 refine⟨w',es,O2,⟨⟨ρ,?_,hlw⟩,fun i y hi hy=>?_,C.free,by simpa using C.size,by simpa using C.num,fun i p hp=>Io0 (C.stays i p hp).1 (C.stays i p hp).2 hE,
  fun c e=>⟨(C.chans c e).1.evo hE,(C.chans c e).2.1,hch c e⟩,C.W4,C.inj,fun b o e=>?_,C.gg0,C.cg0,fun G e=>⟨(C.T4 G e).1.evo hE,?_⟩,fun G hG=>(C.old G hG).evo hE,fun j hj=>?_,by simpa using C.few,C.ju0,C.fq0,hd.trans C.dfn,?_⟩,Array.getElem?_setIfInBounds_self_of_lt (by simpa using C.size)⟩
 ·rw[hs'.tape,hs'.drawn];exact hs'
 ·rw[Array.getElem?_setIfInBounds_ne (fun e=>hi e.symm),Array.getElem?_map]at hy;obtain⟨y₀,hy₀,rfl⟩:=Option.map_eq_some_iff.1 hy;have D5:=C.idle i y₀ hi hy₀;rw[woken_of_again (D5.again fun s e=>hch _ (C.W4 i s e))];exact D5.other (fun z=>hi z.symm) ll0
 ·obtain⟨h1,h2,p,y,hy,hl⟩:=C.D5 b o e;exact⟨h1.evo hE,h2,p,y,by rw[lk0.kept (u:=G2 u w.tape w.drawn) h1 ⟨hE.size,hE.obj⟩ hs hs'];exact hy,hl⟩
 ·have:=Cut.kept (u:=G2 u w.tape w.drawn) (C.T4 G e).1 ⟨hE.size,hE.obj⟩ hs hs' (C.T4 G e).2;simpa using this
 ·simp only[Array.size_setIfInBounds,Array.size_map]at hj;rw[Deaf_other T (g':=h) (by have:=C.size;omega) _ ll0];exact C.above j hj
 ·exact PastH.appH C.past (fun z=>z.1 rfl) ll0 (fun op hop=>by obtain⟨e,he,rfl⟩:=Go.Conc.mem_ofEvents hop;exact(on1 e he _ _).1) hd
end
end
section
attribute [local irreducible] KK
section
variable{w:World}{G:W7}{st sm:Int}
theorem o4(w:World){a:Addr}(v:Value){b:Nat}(h:b≠a.block):(w.setCell a v).heap[b]? =w.heap[b]?:=by
 rw[heap_setCell];cases w.heap[b]? with
 |none=>rfl
 |some o=>simp[h]
theorem j7.T4{ρ:Nat->O7}{u:World}(hs:j7 ρ (G2 u w.tape w.drawn) w)(hc:Cut u G)(hg:GAt G st sm w)(st' sm':Int){w':World}(hw:w'.heap[G.blk]? =some (.cells ((let c:=w.heap[G.blk]?;match c with|some (.cells c _ _)=>c.extract 0 G.off|_=>#[]) ++ #[.int .u64 st',.int .u32 sm']) (match w.heap[G.blk]? with|some (.cells _ T _)=>T|_=>0) (0,0)))
  (ho:∀b,b≠G.blk->w'.heap[b]? =w.heap[b]?) (hz:w'.heap.size=w.heap.size) (h1:w'.os=w.os) (h2:w'.output=w.output):∃ρ',j7 ρ' (G2 u w'.tape w'.drawn) w'/\∀b,b≠G.blk->ρ' b=ρ b:=by
 obtain⟨c,T,f,hb,hcs⟩:=hc;obtain⟨c0,T0,hg,hc0⟩:=hg;obtain⟨z,hz0,hl⟩:=hs.obj _ _ (show(G2 u w.tape w.drawn).heap[G.blk]? =some _ from hb);rw[hz0]at hg;obtain rfl:=Option.some.inj hg;rw[hz0]at hw;simp only at hw;have ht:(c0 ++ #[Value.int .u64 st,Value.int .u32 sm]).extract 0 G.off=c0:=by rw[<- hc0];simp[Array.extract_append]
 rw[ht]at hw;obtain⟨p',hp'⟩:∃p',ij0 p' (.cells c T f) (.cells (c0 ++ #[.int .u64 st',.int .u32 sm']) T0 (0,0)):=by
  generalize ρ G.blk=p at hl;generalize hq:(Obj.cells (c0 ++ #[.int .u64 st,.int .u32 sm]) T0 (0,0))=z1 at hl;cases hl with
  |same=>
   obtain⟨rfl,_,_⟩:=Obj.cells.inj hq;simp at hcs;omega
  |cut _ rest _ f1 _ hf=>
   obtain⟨h3,rfl,h4⟩:=Obj.cells.inj hq;have H2:c.size=c0.size:=by omega
   have:c=c0:=(Array.append_inj_left h3 H2.symm).symm;subst this;rw[<- h4]at hf;exact⟨_,.cut _ _ _ _ _ hf⟩
  |gone=>exact⟨_,.gone _ _ _⟩
 refine⟨fun b=>if b=G.blk then p' else ρ b,⟨h1.trans hs.os,h2.trans hs.output,rfl,rfl,hz.trans hs.size,fun b x hx=>?_,fun b Z8=>?_,hs.k9⟩,fun b hb=>if_neg hb⟩
 ·by_cases e:b=G.blk
  ·subst e;have N5:u.heap[G.blk]? =some x:=hx;rw[hb]at N5;obtain rfl:=Option.some.inj N5;exact⟨_,hw,by rw[if_pos rfl];exact hp'⟩
  ·rw[ho b e,if_neg e];exact hs.obj b x hx
 ·have O1:G.blk<u.heap.size:=(Array.getElem?_eq_some_iff.1 hb).1;have hb2:u.heap.size <=b:=Z8;rw[if_neg Uo];exact hs.new b Z8
theorem GAt.setSt(h:GAt G st sm w)(v:Int):GAt G v sm (w.setCell (stA G) (.int .u64 v)):=by
 obtain⟨c,T,hb,hc⟩:=h;refine⟨c,T,?_,hc⟩;rw[heap_setCell];simp only[stA,hb,Option.map_some,if_true,Option.isSome_none,Bool.false_eq_true,if_false];congr 2;apply Array.ext_getElem?;intro i;rw[Array.getElem?_setIfInBounds];by_cases hi:G.off=i
 ·subst hi;simp[<- hc]
 ·rw[if_neg hi];rcases Nat.lt_or_ge i c.size with h1|h1
  ·rw[Array.getElem?_append_left h1,Array.getElem?_append_left h1]
  ·rw[Array.getElem?_append_right h1,Array.getElem?_append_right h1];obtain⟨k,hk⟩:∃k,i-c.size=k+1:=⟨i-c.size-1,by omega⟩
   rw[hk];cases k <;> rfl
theorem GAt.setSm(h:GAt G st sm w)(v:Int):GAt G st v (w.setCell (smA G) (.int .u32 v)):=by
 obtain⟨c,T,hb,hc⟩:=h;refine⟨c,T,?_,hc⟩;rw[heap_setCell];simp only[smA,hb,Option.map_some,if_true,Option.isSome_none,Bool.false_eq_true,if_false];congr 2;apply Array.ext_getElem?;intro i;rw[Array.getElem?_setIfInBounds];by_cases hi:G.off+1=i
 ·subst hi;rw[if_pos rfl,if_pos (by simp;omega),Array.getElem?_append_right Uo];simp[<- hc]
 ·rw[if_neg hi];rcases Nat.lt_or_ge i c.size with h1|h1
  ·rw[Array.getElem?_append_left h1,Array.getElem?_append_left h1]
  ·rw[Array.getElem?_append_right h1,Array.getElem?_append_right h1];rcases Nat.eq_zero_or_pos (i-c.size)with h2|h2
   ·rw[h2];rfl
   ·obtain⟨k,hk⟩:∃k,i-c.size=k+2:=⟨i-c.size-2,by omega⟩
    rw[hk];cases k <;> rfl
end
structure Ll0(G:W7)(w w':World):Prop where
 other:∀b,b≠G.blk->w'.heap[b]? =w.heap[b]?
 size:w'.heap.size=w.heap.size
 os:w'.os=w.os
 output:w'.output=w.output
theorem Ll0.setCell{G:W7}{w:World}{a:Addr}(ha:a.block=G.blk)(v:Value):Ll0 G w (w.setCell a v):=
 ⟨fun b hb=>o4 w v (by rw[ha];exact hb),by simp[World.setCell],rfl,rfl⟩
theorem GAt.extract{G:W7}{st sm:Int}{w:World}(h:GAt G st sm w):w.heap[G.blk]? =some (.cells ((let c:=w.heap[G.blk]?;match c with|some (.cells c _ _)=>c.extract 0 G.off|_=>#[]) ++ #[.int .u64 st,.int .u32 sm]) (match w.heap[G.blk]? with|some (.cells _ T _)=>T|_=>0) (0,0)):=by
 obtain⟨c,T,hb,hc⟩:=h;have ht:(c ++ #[Value.int .u64 st,Value.int .u32 sm]).extract 0 G.off=c:=by rw[<- hc];simp[Array.extract_append]
 rw[hb];simp only[ht]
theorem po0{G:W7}{st sm:Int}{w:World}(h:GAt G st sm w){a:Addr}(ha:a.block=G.blk)(hs:a.spot=none)(ho:G.off <=a.off)(v:Value) :
  (let c:=(w.setCell a v).heap[G.blk]?;match c with|some (.cells c _ _)=>c.extract 0 G.off|_=>#[])=(let c:=w.heap[G.blk]?;match c with|some (.cells c _ _)=>c.extract 0 G.off|_=>#[]) /\
  (match(w.setCell a v).heap[G.blk]? with|some (.cells _ T _)=>T|_=>0)=(match w.heap[G.blk]? with|some (.cells _ T _)=>T|_=>0):=by
 obtain⟨c,T,hb,hc⟩:=h;rw[heap_setCell,hb];simp only[Option.map_some,ha,if_true,hs,Option.isSome_none,Bool.false_eq_true,if_false,and_true];apply Array.ext_getElem?;intro i;simp only[Array.getElem?_extract,Array.getElem?_setIfInBounds,Nat.zero_add,Array.size_setIfInBounds];by_cases hi:i<G.off
 ·have:a.off≠i:=by omega
  simp[this]
 ·have:¬i<min G.off (c ++ #[Value.int .u64 st,Value.int .u32 sm]).size-0:=by omega
  rw[if_neg this,if_neg this]
theorem j7.setSt{ρ:Nat->O7}{u w:World}{G:W7}{st sm:Int}(hs:j7 ρ (G2 u w.tape w.drawn) w)(hc:Cut u G)(hg:GAt G st sm w)(v:Int):∃ρ',j7 ρ' (G2 u (w.setCell (stA G) (.int .u64 v)).tape (w.setCell (stA G) (.int .u64 v)).drawn) (w.setCell (stA G) (.int .u64 v))/\∀b,b≠G.blk->ρ' b=ρ b:=by
 have h1:=(hg.setSt v).extract;have h2:=po0 hg (a:=stA G) rfl rfl (Nat.le_refl _) (.int .u64 v);rw[h2.1,h2.2]at h1;have t:=Ll0.setCell (G:=G) (w:=w) (a:=stA G) rfl (.int .u64 v);exact j7.T4 hs hc hg v sm h1 t.other t.size rfl rfl
theorem j7.setSm{ρ:Nat->O7}{u w:World}{G:W7}{st sm:Int}(hs:j7 ρ (G2 u w.tape w.drawn) w)(hc:Cut u G)(hg:GAt G st sm w)(v:Int):∃ρ',j7 ρ' (G2 u (w.setCell (smA G) (.int .u32 v)).tape (w.setCell (smA G) (.int .u32 v)).drawn) (w.setCell (smA G) (.int .u32 v))/\∀b,b≠G.blk->ρ' b=ρ b:=by
 have h1:=(hg.setSm v).extract;have h2:=po0 hg (a:=smA G) rfl rfl (Nat.le_succ _) (.int .u32 v);rw[h2.1,h2.2]at h1;have t:=Ll0.setCell (G:=G) (w:=w) (a:=smA G) rfl (.int .u32 v);exact j7.T4 hs hc hg st v h1 t.other t.size rfl rfl
section
variable{P:Program}{X:Gh}{h:Nat}{u:World}{live:Nat->Bool}{T:Trace}{gs:Array Goroutine}{w:World}{q:Nat->Nat}
def fr0(X:Gh)(w w':World):Prop:=w'.tape=w.tape/\w'.drawn=w.drawn/\(∀c,X.chs c->w'.heap[c]? =w.heap[c]?)
theorem fr0.refl(w:World):fr0 X w w:=⟨rfl,rfl,fun _ _=>rfl⟩
theorem Ring.put(C:Ring P X h u live T gs w q){i n':Nat}{g':Goroutine}{ops:Array MemOp}{p9:Array Goroutine}{ew0:Nat->Bool}{w':World}(O1:i<gs.size)(hih:i≠h)(H2:p9.size=gs.size)(Cn0:∀x,x≠i->p9[x]? =gs[x]?)(J5:p9[i]? =some g')
  (ll0:∀op∈ops,op.g=i) (Rc0:Idle P X ew0 (T++ops) i n' g') (hl:∀x,x≠i->ew0 x=live x) (hli:ew0 i=true->live i=true) (hls:X.W1 i≠none->ew0 i=live i) (Lm0:PastH X.Sh (Us ew0) X.St (X.Mem h) (X.Lo h) h (T++ops))
  (oj0:∃ρ,j7 ρ (G2 u w'.tape w'.drawn) w'/\∀b,¬X.low b->ρ b=X.D7 b) (ch0:∀b,(X.chs b\/X.D5 b≠none)->w'.heap[b]? =w.heap[b]?) (Zy0:∀G,X.T4=some G->GAt G (((count ew0 p9.size+X.pend)*KK:Nat):Int) 0 w') (vh0:count ew0 gs.size <=count live gs.size):Ring P X h u ew0 (T++ops) p9 w' (upd q i n'):=by
 refine⟨oj0,fun x y hx hy=>?_,C.free,by rw[H2];exact C.size,by rw[H2];exact C.num,C.stays,fun c e=>⟨(C.chans c e).1,(C.chans c e).2.1,?_⟩,C.W4,C.inj,fun b o e=>?_,C.gg0,C.cg0,fun G e=>⟨(C.T4 G e).1,Zy0 G e⟩,C.old,fun j hj=>?_,⟨by rw[H2];exact Nat.le_trans (Nat.add_le_add_right vh0 _) C.few.1,C.few.2⟩,fun j hj=>?_,fun j hj hs=>?_,(Deaf_other T hih ops ll0).trans C.dfn,Lm0⟩
 ·by_cases e:x=i
  ·subst e;rw[J5]at hy;obtain rfl:=Option.some.inj hy;rw[upd_same];exact Rc0
  ·rw[Cn0 x e]at hy;rw[upd_ne q n' e];have:=(C.idle x y hx hy).other (fun z=>e z.symm) ll0;unfold Idle at this⊢;rw[hl x e];exact this
 ·obtain⟨k,hk⟩:=(C.chans c e).2.2;exact⟨k,by rw[ch0 _ (.inl e)];exact hk⟩
 ·obtain⟨h1,h2,p,y,hy,hk⟩:=C.D5 b o e;exact⟨h1,h2,p,y,by rw[ch0 b (.inr (by have e':X.D5 b=some o:=e;rw[e'];simp))];exact hy,hk⟩
 ·rw[H2]at hj;rw[Deaf_other T (g':=i) Uo ops ll0,hl j Uo];exact C.above j hj
 ·by_cases e:j=i
  ·subst e;exact C.ju0 j (hli hj)
  ·rw[hl j e]at hj;exact C.ju0 j hj
 ·by_cases e:j=i
  ·subst e;rcases hs with hs|hs
   ·rw[hls hs];exact C.fq0 j hj (.inl hs)
   ·exact absurd hs hih
  ·rw[hl j e];exact C.fq0 j hj hs
end
end
section
attribute [local irreducible] KK
section
variable{live:Nat->Bool}{i n:Nat}
theorem zd0(hi:live i=true)(hn:i<n):count live n=count (upd live i false) n+1:=by
 have:=sumTo_upd live false (fun b=>if b then 1 else 0) hn;simp only[hi,if_true,Bool.false_eq_true,if_false]at this;unfold count;omega
theorem Oa0(x:Bool)(hn:n <=i):count (upd live i x) n=count live n:=by
 unfold count;exact sumTo_congr fun j hj=>by rw[upd_ne live x Uo]
theorem T3{g:Nat}{fn:FuncId}{pos:String}{es:Array Event}:∀op∈MemOp.ofEvents g fn pos es,op.g=g:=fun op hop=>by obtain⟨e,_,rfl⟩:=Go.Conc.mem_ofEvents hop;rfl
theorem ik0{e:Event}(h:Ip0 e=true):(MemAct.ofEvent e).touch? =none:=by
 obtain⟨l,wr,sy⟩:=e;cases l with
 |mark m=>cases m <;> first|(cases h;done)|rfl
 |_=>cases h
end
section
variable{P:Program}{X:Gh}{h:Nat}{u:World}{live:Nat->Bool}{T:Trace}{gs:Array Goroutine}{w:World}{q:Nat->Nat}
section
variable{i n:Nat}{y:Goroutine}
theorem Idle.noSend(hi:Idle P X live T i n y)(c:Nat):offersAt y c true=[]:=by
 unfold Idle at hi;cases e:X.W1 i with
 |some s=>
  rw[e]at hi;rcases hi.status with⟨h1,_⟩|⟨_,rfl⟩
  ·exact offersAt_of_not_blocked (by rw[h1];simp) _ _
  ·obtain⟨rfl,_⟩:=hi;exact offersAt_parked_recv' _ _ _ _ _
 |none=>
  rw[e]at hi;obtain⟨_,hi⟩:=hi;split at hi
  ·obtain⟨G,_,hl⟩:=hi;exact offersAt_of_not_blocked (by rw[hl.running];simp) _ _
  ·exact offersAt_of_not_blocked (fun hb=>by rcases hi.status with z|z <;> rw[z]at hb <;> cases hb) _ _
theorem Idle.hu1(hi:Idle P X live T i n y){c:Nat}(hc:∀s,X.W1 i=some s->s.ch≠c):offersAt y c false=[]:=by
 unfold Idle at hi;cases e:X.W1 i with
 |some s=>
  rw[e]at hi;rcases hi.status with⟨h1,_⟩|⟨_,rfl⟩
  ·exact offersAt_of_not_blocked (by rw[h1];simp) _ _
  ·obtain⟨rfl,_⟩:=hi;rw[offersAt_parked_recv,if_neg (hc s e)]
 |none=>
  rw[e]at hi;obtain⟨_,hi⟩:=hi;split at hi
  ·obtain⟨G,_,hl⟩:=hi;exact offersAt_of_not_blocked (by rw[hl.running];simp) _ _
  ·exact offersAt_of_not_blocked (fun hb=>by rcases hi.status with z|z <;> rw[z]at hb <;> cases hb) _ _
theorem Ring.by_step(C:Ring P X h u live T gs w q){g gh:Goroutine}{sl:Option (Nat×Nat)}(hi:gs[i]? =some g)(X2:i≠h)(L3:g.status= .running)(hh:gs[h]? =some gh)
  (hA:∀w',fr0 X w w'->gh.again w'=gh) (hO:∀s,X.W1 i=some s->oi0 P (i==0) s g->offersAt gh s.ch true=[]) :
  ∃(p9:Array Goroutine) (ops:Array MemOp) (q':Nat->Nat) (w':World) (ew0:Nat->Bool),runT P (crowd gs w sl) i=(.next (crowd p9 w' sl),ops)/\p9.size=gs.size/\p9[h]? =some gh/\(∀x,x≠i->q' x=q x) /\
   (∀s,X.W1 i=some s->q' i=0->oi0 P (i==0) s g)/\Ring P X h u ew0 (T++ops) p9 w' q'/\sumTo gs.size q'<sumTo gs.size q/\fr0 X w w':=by
 have O1:i<gs.size:=(Array.getElem?_eq_some_iff.1 hi).1;have qo0:∀(w':World),fr0 X w w'->∀(a a':Goroutine)(x:Nat)(y:Goroutine),gs[x]? =some y->woken P a a' w' y=y:=fun w' hS a a' x y hy=>woken_of_again (by
  by_cases hx:x=h
  ·subst hx;rw[hh]at hy;obtain rfl:=Option.some.inj hy;exact hA w' hS
  ·exact(C.idle x y hx hy).again fun s e=>by obtain⟨k,hk⟩:=(C.chans _ (C.W4 x s e)).2.2;exact⟨k,by rw[hS.2.2 _ (C.W4 x s e)];exact hk⟩)
 have Ex0:∀(w':World),fr0 X w w'->∀(a' g':Goroutine)(x:Nat),x≠i->((gs.map (woken P g a' w')).setIfInBounds i g')[x]? =gs[x]?:=by
  intro w' hS a' g' x hx;rw[Array.getElem?_setIfInBounds_ne (fun e=>hx e.symm),Array.getElem?_map];cases e:gs[x]? with
  |none=>rfl
  |some y=>simp[qo0 w' hS g a' x y e]
 have J5:∀(w':World)(a' g':Goroutine),((gs.map (woken P g a' w')).setIfInBounds i g')[i]? =some g':=fun w' a' g'=>Array.getElem?_setIfInBounds_self_of_lt (by simpa using O1);have Ob0:∀k,q i=k+1->sumTo gs.size (upd q i k)<sumTo gs.size q:=by
  intro k hqi;have h2:sumTo gs.size (upd q i k)+(k+1)=sumTo gs.size q+k:=by
   have:=sumTo_upd q k id O1;simpa [hqi]using this
  omega
 have D5:=C.idle i g X2 hi;unfold Idle at D5;cases e:X.W1 i with
 |none=>
  rw[e]at D5;obtain⟨vi0,hq⟩:=D5;have hi0:(i==0)=false:=by simp;omega
  have hMi:¬X.Mem h i:=fun z=>z.elim (fun z=>X2 z.1) fun z=>z e;cases hl:live i with
  |false=>
   rw[hl]at hq;simp only[Bool.false_eq_true,if_false]at hq;cases hqi:q i with
   |zero=>rw[hqi]at hq;rw[hq.1]at L3;cases L3
   |succ k=>
    rw[hqi]at hq;rcases hq with⟨hf,_⟩|⟨_,g',es,hm,E7,hq'⟩
    ·rw[hf]at L3;cases L3
    have hS:=fr0.refl (X:=X) w;refine⟨_,_,upd q i k,w,live,runT_crowd_go (sl:=sl) hi (by rw[hi0];exact E7 w),by simp,(Ex0 w hS _ _ h (Ne.symm X2)).trans hh,fun x hx=>upd_ne q k hx,fun s hs=>(by cases hs),?_,Ob0 k hqi,hS⟩;refine C.put O1 X2 (by simp) (Ex0 w hS _ _) (J5 w _ _) T3 (by unfold Idle;rw[e];simp only[hl,Bool.false_eq_true,if_false];exact⟨vi0,by rw[Deaf_own];exact hq'⟩) (fun _ _=>rfl) id (fun _=>rfl) ?_ C.sim (fun _ _=>rfl) (fun G hG=>by simpa using(C.T4 G hG).2) (Nat.le_refl _);exact C.past.appMute (g:=i) (fun x=>Knows.app _) (fun op hop=>by obtain⟨e',he,rfl⟩:=Go.Conc.mem_ofEvents hop;exact touch_mute (hm e' he)) (C.past.old_hears T3 (fun z=>absurd z hMi))
  |true=>
   rw[hl]at hq;simp only[if_true]at hq;obtain⟨G,hG,hq⟩:=hq;obtain⟨Oc0,Ey0⟩:=C.T4 G hG;cases hqi:q i with
   |zero=>rw[hqi]at hq;exact hq.elim
   |succ k=>
    rw[hqi]at hq;unfold Lt at hq;rcases hq with⟨g',es,⟨_,hsy,E7⟩,hq'⟩|⟨_,hd0,Ez0⟩
    ·have hS:=fr0.refl (X:=X) w;refine⟨_,_,upd q i k,w,live,runT_crowd_go (sl:=sl) hi (by rw[hi0];exact E7 w _ _ Ey0),by simp,(Ex0 w hS _ _ h (Ne.symm X2)).trans hh,fun x hx=>upd_ne q k hx,fun s hs=>(by cases hs),?_,Ob0 k hqi,hS⟩;refine C.put O1 X2 (by simp) (Ex0 w hS _ _) (J5 w _ _) T3 (by unfold Idle;rw[e];simp only[hl,if_true];exact⟨vi0,G,hG,by rw[Deaf_own];exact hq'⟩) (fun _ _=>rfl) id (fun _=>rfl) ?_ C.sim (fun _ _=>rfl) (fun G hG=>by simpa using(C.T4 G hG).2) (Nat.le_refl _);exact C.past.appMute (g:=i) (fun x=>Knows.app _) (fun op hop=>by obtain⟨e',he,rfl⟩:=Go.Conc.mem_ofEvents hop;exact ik0 (hsy e' he)) (C.past.old_hears T3 (fun z=>absurd z hMi))
    ·have ms0:=zd0 hl O1;generalize hv0:count (upd live i false) gs.size=v0 at ms0;obtain⟨v,hv⟩:∃v,v=v0+X.pend:=⟨_,rfl⟩
     have ms0:count live gs.size+X.pend=v+1:=by omega
     have hvb:v<2147483647:=by have:=C.few;omega
     obtain⟨g',E7,Fa0,_⟩:=Ez0 v 0 Uo hvb;have oo1:GAt G (((v+1)*KK+0:Nat):Int) 0 w:=by rw[Nat.add_zero,<- ms0];exact Ey0
     have O2:=E7 w oo1;rw[Nat.add_zero]at O2;have hgv:=Ey0.setSt ((v*KK:Nat):Int);have rk0:stepG P (i==0) g w= .go g' (w.setCell (stA G) (.int .u64 ((v*KK:Nat):Int))) #[rdA (stA G),wrA (stA G)]:=by rw[hi0];exact O2
     have hgn:∀b,(X.chs b\/X.D5 b≠none)->(w.setCell (stA G) (.int .u64 ((v*KK:Nat):Int))).heap[b]? =w.heap[b]?:=fun b hb=>o4 w _ (fun e=>by
      have e:b=G.blk:=e;subst e;have:=C.cg0.2 G (.inl hG);exact hb.elim this.1 fun z=>z this.2)
     have hS:fr0 X w (w.setCell (stA G) (.int .u64 ((v*KK:Nat):Int))):=⟨rfl,rfl,fun c hc=>hgn _ (.inl hc)⟩
     have hdq:∀t:Trace,∀j,j <=(MemOp.ofEvents i g.frame.fn g.frame.place #[rdA (stA G),wrA (stA G)]).size->(t++MemOp.ofEvents i g.frame.fn g.frame.place #[rdA (stA G),wrA (stA G)]).deaf i (t.size+j)=Deaf t i:=fun t=>deaf_quiet (fun op hop d=>by
      obtain⟨e',he,rfl⟩:=Go.Conc.mem_ofEvents hop;simp only[List.mem_toArray,List.mem_cons,List.not_mem_nil,or_false]at he;rcases he with rfl|rfl <;> rfl)
     have hdd:Deaf (T++MemOp.ofEvents i g.frame.fn g.frame.place #[rdA (stA G),wrA (stA G)]) i=Deaf T i:=by
      rw[Deaf_own];exact deafBehind_still (fun e' he=>by
       simp only[List.mem_toArray,List.mem_cons,List.not_mem_nil,or_false]at he;rcases he with rfl|rfl <;> exact⟨by simp[rdA,wrA],by simp[rdA,wrA]⟩) _
     refine⟨_,_,upd q i k,_,upd live i false,runT_crowd_go (sl:=sl) hi rk0,by simp,(Ex0 _ hS _ _ h (Ne.symm X2)).trans hh,fun x hx=>upd_ne q k hx,fun s hs=>(by cases hs),?_,Ob0 k hqi,hS⟩;refine C.put O1 X2 (by simp) (Ex0 _ hS _ _) (J5 _ _ _) T3 (by unfold Idle;rw[e];simp only[upd_same,Bool.false_eq_true,if_false];exact⟨vi0,by rw[hdd];exact Fa0 Uo⟩) (fun x hx=>upd_ne live false hx) (fun z=>by rw[upd_same]at z;cases z) (fun z=>absurd e z) ?_ ?_ hgn (fun G' hG'=>?_) Uo
     ·refine Past.leave (Us:=Us live) ?_ (fun x hx=>?_)
      ·refine Past.ev1 (g:=i) C.past (.inr hl) (fun g' l x8 R9=>?_) (fun x=>Knows.app _) T3 (fun op hop=>?_) (fun _ j hj1 hj2=>?_) (C.past.old_hears T3 (fun z=>absurd z hMi))
       ·obtain⟨p,hp,rfl⟩:=x8;obtain⟨a',G',hG',ha,hb,ho⟩:=R9;simp only[Loc.cell.injEq]at ha;subst ha;have hc:Cut u G':=hG'.elim (fun z=>(C.T4 G' z).1) (C.old G');obtain⟨c,T1,f,hc,hs⟩:=hc;obtain⟨c',T',f',hc',_,hv'⟩:=u6 (C.stays g' p hp).1;rw[hb,hc]at hc';cases hc';have:=(Array.getElem?_eq_some_iff.1 hv').1;omega
       ·obtain⟨e',he,rfl⟩:=Go.Conc.mem_ofEvents hop;intro b hb;simp only[List.mem_toArray,List.mem_cons,List.not_mem_nil,or_false]at he;rcases he with rfl|rfl <;> simp[rdA,wrA,MemAct.ofEvent,MemAct.touch?]at hb <;> subst hb <;> exact⟨⟨stA G,G,.inl hG,rfl,rfl,Nat.le_refl _⟩,by simp,fun _=>rfl⟩
       ·obtain⟨m,rfl⟩:∃m,j=T.size+m:=⟨j-T.size,by omega⟩
        rw[hdq T m Uo];omega
      ·rcases hx with hx|hx
       ·exact .inl hx
       ·by_cases ex:x=i
        ·subst ex;rw[upd_same]at hx;cases hx
        ·rw[upd_ne live false ex]at hx;exact .inr hx
     ·obtain⟨ρ,hs,hlw⟩:=C.sim;obtain⟨ρ',h1,h2⟩:=j7.setSt hs Oc0 Ey0 ((v*KK:Nat):Int);exact⟨ρ',h1,fun b hb=>(h2 b fun e=>hb (e▸C.gg0 G hG)).trans (hlw b hb)⟩
     ·rw[hG]at hG';obtain rfl:=Option.some.inj hG';simp only[Array.size_setIfInBounds,Array.size_map,hv0,<- hv];exact hgv
 |some s=>
  rw[e]at D5;have hM:X.Mem h i:=.inr (by rw[e];simp);have hLo:X.Lo h i:=⟨X2,by rw[e];simp⟩
  have hS:=fr0.refl (X:=X) w;obtain⟨n,hqi⟩:∃n,q i=n+1:=by
   rcases D5.status with⟨_,h2⟩|⟨h1,_⟩
   ·exact⟨q i-1,by omega⟩
   ·rw[L3]at h1;cases h1
  rw[hqi]at D5;have op1:oi0 P (i==0) s g\/(0<n/\∃g' es,(∀e'∈es,∃p∈X.stay i,e'=⟨.cell p.1,false,false⟩)/\(∀w,(∀p∈X.stay i,w.cell? p.1=some p.2)->stepG P (i==0) g w= .go g' w es)/\Way P (i==0) (X.stay i) s n g'):=
   D5.elim .inl fun z=>.inr ⟨z.1,z.2.2⟩
  rcases op1 with y8|⟨hn0,g',es,hes,E7,Co0⟩
  ·obtain⟨k,hk⟩:=(C.chans _ (C.W4 i s e)).2.2;have hw:∀cc∈#[rcase s.ch s.z],NoWays w (gs.setIfInBounds i ph) cc:=by
    intro cc hcc;simp only[List.mem_toArray,List.mem_cons,List.not_mem_nil,or_false]at hcc;subst hcc;refine ways_recv_none hk (partners_nil fun x y hy=>?_);rcases getElem?_stand gs i x y hy with⟨_,rfl⟩|⟨hx,hy'⟩
    ·exact offersAt_ph _ _
    ·by_cases hxh:x=h
     ·subst hxh;rw[hh]at hy';obtain rfl:=Option.some.inj hy';exact hO s e y8
     ·exact(C.idle x y hxh hy').noSend _
   refine⟨_,_,upd q i 0,w,live,crowd_waits (sl:=sl) hi (y8.2.2.2.2 w) hw,by simp,(Array.getElem?_setIfInBounds_ne X2).trans hh,fun x hx=>upd_ne q 0 hx,fun s' hs' _=>by rw[<- Option.some.inj hs'];exact y8,?_,?_,hS⟩
   ·refine C.put O1 X2 (by simp) (fun x hx=>Array.getElem?_setIfInBounds_ne (fun z=>hx z.symm)) (Array.getElem?_setIfInBounds_self_of_lt O1) T3 (by unfold Idle;rw[e];exact⟨rfl,g,y8⟩) (fun _ _=>rfl) id (fun _=>rfl) ?_ C.sim (fun _ _=>rfl) (fun G hG=>by simpa using(C.T4 G hG).2) (Nat.le_refl _);exact C.past.appMute (g:=i) (fun x=>Knows.app _) (fun op hop=>by obtain⟨e',he,rfl⟩:=Go.Conc.mem_ofEvents hop;simp at he) (C.past.old_hears T3 (fun _=>by rw[Deaf_own];rfl))
   ·have h2:sumTo gs.size (upd q i 0)+(n+1)=sumTo gs.size q+0:=by
     have:=sumTo_upd q 0 id O1;simpa [hqi]using this
    omega
  ·obtain⟨ρ,hs,_⟩:=C.sim;have O2:=E7 w fun p hp=>hs.cell (u:=G2 u w.tape w.drawn) (C.stays i p hp).1;refine⟨_,_,upd q i n,w,live,runT_crowd_go (sl:=sl) hi O2,by simp,(Ex0 w hS _ _ h (Ne.symm X2)).trans hh,fun x hx=>upd_ne q n hx,fun s' _ hz=>by rw[upd_same]at hz;omega,?_,Ob0 n hqi,hS⟩;refine C.put O1 X2 (by simp) (Ex0 w hS _ _) (J5 w _ _) T3 (by unfold Idle;rw[e];exact Co0) (fun _ _=>rfl) id (fun _=>rfl) ?_ C.sim (fun _ _=>rfl) (fun G hG=>by simpa using(C.T4 G hG).2) (Nat.le_refl _);refine C.past.appRead (g:=i) (fun x=>Knows.app _) hM hLo T3 (fun op hop b hb=>?_) ?_
   ·obtain⟨e',he,rfl⟩:=Go.Conc.mem_ofEvents hop;obtain⟨p,hp,rfl⟩:=hes e' he;simp only[ofEvent_cell0,MemAct.touch?,Option.some.injEq]at hb;subst hb;refine⟨rfl,⟨p,hp,rfl⟩,?_⟩;rintro⟨a',G',hG',ha,hb,ho⟩;simp only[Loc.cell.injEq]at ha;subst ha;have hc:Cut u G':=hG'.elim (fun z=>(C.T4 G' z).1) (C.old G');obtain⟨c,T1,f,hc,hs⟩:=hc;obtain⟨c',T',f',hc',_,hv'⟩:=u6 (C.stays i p hp).1;rw[hb,hc]at hc';cases hc';have:=(Array.getElem?_eq_some_iff.1 hv').1;omega
   ·rw[Deaf_own];exact deafBehind_still (fun e' he=>by obtain⟨p,_,rfl⟩:=hes e' he;exact⟨by simp,by simp⟩) _
end
end
end
section
attribute [local irreducible] KK
def Ends(P:Program)(Post:Value->World->Prop)(m:Machine)(t:Trace):Prop:=
 ∃N last o w' t',runNT P (N+1) m t=(.ended o w',t')/\runN P N m= .next last/\step P last= .ended o w'/\Conc.Good P Post last o w' t'
theorem lq0{P:Program}:∀{N:Nat}{m m':Machine}{t t':Trace},runNT P N m t=(.next m',t')->runN P N m= .next m'
 |0,m,m',t,t',h=>by simp only[runNT,Prod.mk.injEq]at h;simp only[runN];exact h.1
 |N+1,m,m',t,t',h=>by
  simp only[runNT]at h;unfold runN step;cases e:stepT P m with
  |mk s ops=>
   rw[e]at h;cases s with
   |next m1=>exact lq0 h
   |ended o w=>simp at h
theorem zf0{P:Program}:∀(a b:Nat)(m m':Machine),runN P a m= .next m'->runN P (a+b) m=runN P b m'
 |0,b,m,m',h=>by simp only[runN,Stepped.next.injEq]at h;rw[Nat.zero_add,h]
 |a+1,b,m,m',h=>by
  rw[show a+1+b=(a+b)+1 by omega];have h':(match step P m with| .next m=>runN P a m|e=>e)= .next m':=h;show(match step P m with| .next m=>runN P (a+b) m|e=>e)=_;cases e:step P m with
  |next m1=>rw[e]at h';exact zf0 a b m1 m' h'
  |ended o w=>rw[e]at h';cases h'
section
variable{P:Program}{Post:Value->World->Prop}
theorem Ends.steps{N:Nat}{m m':Machine}{t t':Trace}(h:runNT P N m t=(.next m',t'))(hE:Ends P Post m' t'):Ends P Post m t:=by
 obtain⟨M,last,o,w',t2,h1,h2,h3,h4⟩:=hE;exact⟨N+M,last,o,w',t2,by rw[Nat.add_assoc,runNT_add,h];exact h1,by rw[zf0 N M m m' (lq0 h)];exact h2,h3,h4⟩
theorem Ends.step{m m':Machine}{t:Trace}{ops:Array MemOp}(h:stepT P m=(.next m',ops))(hE:Ends P Post m' (t++ops)):Ends P Post m t:=
 Ends.steps (N:=1) (by simp only[runNT,h]) hE
end
def Fin(P:Program)(Post:Value->World->Prop)(X:Gh)(h:Nat)(g:Goroutine)(u:World):Prop:=
 ∀live T gs w sl q,gs[h]? =some g->Ring P X h u live T gs w q->Ends P Post (crowd gs w sl) T
section
variable{P:Program}{Post:Value->World->Prop}{X:Gh}{h:Nat}{u:World}
section
variable{g:Goroutine}
theorem Ring.oq1(L3:g.status= .running)(K:Machine->Trace->Prop)(hK:∀m m' t ops,stepT P m=(.next m',ops)->K m' (t++ops)->K m t)
  (rl0:∀live T gs w sl d sl' q,gs[h]? =some g->stepT P (crowd gs w sl)=runT P (crowd gs (w.at d) sl') h->Ring P X h u live T gs (w.at d) q->K (crowd gs w sl) T) :
  ∀(μ:Nat) live T gs w sl q,sumTo gs.size q=μ->gs[h]? =some g->Ring P X h u live T gs w q->K (crowd gs w sl) T:=by
 intro μ
 induction μ using Nat.strongRecOn with
 |_ μ ih=>
  intro live T gs w sl q hμ hg C;obtain⟨i,gi,d,sl',hi,hgi,O2⟩:=crowd_pick (P:=P) (w:=w) (sl:=sl) (C.awake hg (.inl L3)) ⟨h,g,hg,L3⟩;have Cd:=C.at d;by_cases e:i=h
  ·subst e;exact rl0 live T gs w sl d sl' q hg O2 Cd
  ·obtain⟨p9,ops,q',w',ew0,hrt,H2,hgh,_,_,C',O1,_⟩:=Cd.by_step (sl:=sl') hi e hgi hg (fun w' _=>again_of_running (.inl L3) w') (fun s _ _=>offersAt_of_not_blocked (by rw[L3];simp) _ _);exact hK _ _ _ _ (O2.trans hrt) (ih _ (by rw[H2,<- hμ];exact O1) ew0 (T++ops) p9 w' sl' q' rfl hgh C')
theorem Fin.ex0(L3:g.status= .running)(rl0:∀live T gs w sl d sl' q,gs[h]? =some g->stepT P (crowd gs w sl)=runT P (crowd gs (w.at d) sl') h->Ring P X h u live T gs (w.at d) q->Ends P Post (crowd gs w sl) T):Fin P Post X h g u:=
 fun live T gs w sl q hg C=>Ring.oq1 L3 (Ends P Post) (fun _ _ _ _ h=>Ends.step h) rl0 _ live T gs w sl q rfl hg C
theorem Fin.own{g:Goroutine}(L3:g.status= .running)(hs:∀τ d,∃g' u',M6 P (h==0) g (G2 u τ d) g' u'/\Fin P Post X h g' u'):Fin P Post X h g u:=by
 refine Fin.ex0 L3 fun live T gs w sl d sl' q hg O2 C=>?_;obtain⟨g',u',hF,hK⟩:=hs (w.at d).tape (w.at d).drawn;obtain⟨w',es,hgo,C',J5⟩:=C.own hg hF;exact Ends.step (O2.trans (runT_crowd_go (sl:=sl') hg hgo)) (hK _ _ _ _ _ _ J5 C')
theorem Fin.Zz0{X':Gh}{u':World}(hw:∀live T gs w q,Ring P X h u live T gs w q->Ring P X' h u' live T gs w q)(hF:Fin P Post X' h g u'):Fin P Post X h g u:=
 fun live T gs w sl q hg C=>hF live T gs w sl q hg (hw live T gs w q C)
end
end
def V2(u:World)(b:Nat)(o:Obj):World:={u with heap:=u.heap.setIfInBounds b o}
section
variable{b:Nat}{x:Obj}{u:World}
theorem pp0(u:World)(b:Nat)(o:Obj)(k:Nat):(V2 u b o).heap[k]? =if b=k then(if b<u.heap.size then some o else none) else u.heap[k]?:=by
 simp only[V2,Array.getElem?_setIfInBounds]
theorem G7(u:World){k:Nat}(o:Obj)(h:b≠k):(V2 u b o).heap[k]? =u.heap[k]?:=by rw[pp0,if_neg h]
theorem Q8(u:World){o:Obj}(h:u.heap[b]? =some x):(V2 u b o).heap[b]? =some o:=by
 rw[pp0,if_pos rfl,if_pos (Array.getElem?_eq_some_iff.1 h).1]
theorem R8{u':World}{a:Addr}(h:u'.heap[a.block]? =u.heap[a.block]?):u'.cell? a=u.cell? a/\u'.frozen? a=u.frozen? a:=by
 unfold World.cell? World.frozen?;rw[h];exact⟨rfl,rfl⟩
theorem j7.replace{ρ:Nat->O7}{w:World}{x' y:Obj}{p:O7}(hs:j7 ρ (G2 u w.tape w.drawn) w)(hb:u.heap[b]? =some x)(hv:S4 x'=false)(hy:w.heap[b]? =some y)(hl:ij0 p x' y):∃ρ',j7 ρ' (G2 (V2 u b x') w.tape w.drawn) w/\∀k,k≠b->ρ' k=ρ k:=by
 have O1:=(Array.getElem?_eq_some_iff.1 hb).1;refine⟨fun k=>if k=b then p else ρ k,⟨hs.os,hs.output,rfl,rfl,by have:=hs.size;simpa [V2,G2]using this,fun k z hz=>?_,fun k hk=>?_,fun k z hz=>?_⟩,fun k hk=>if_neg hk⟩
 ·have hz':(V2 u b x').heap[k]? =some z:=hz;by_cases e:k=b
  ·subst e;rw[Q8 u hb]at hz';obtain rfl:=Option.some.inj hz';exact⟨y,hy,by rw[if_pos rfl];exact hl⟩
  ·rw[G7 u x' (Ne.symm e)]at hz';obtain⟨y',h1,h2⟩:=hs.obj k z hz';exact⟨y',h1,by rw[if_neg e];exact h2⟩
 ·have hk':u.heap.size <=k:=by simpa [V2,G2]using hk
  rw[if_neg Uo];exact hs.new k hk'
 ·have hz':(V2 u b x').heap[k]? =some z:=hz;by_cases e:k=b
  ·subst e;rw[Q8 u hb]at hz';obtain rfl:=Option.some.inj hz';exact hv
  ·rw[G7 u x' (Ne.symm e)]at hz';exact hs.k9 k z hz'
end
structure ok0(X:Gh)(b:Nat):Prop where
 stay:∀i p,p∈X.stay i->p.1.block≠b
 D5:X.D5 b=none
 chs:¬X.chs b
 T4:∀G,(X.T4=some G\/G∈X.old)->G.blk≠b
structure Gh.gh0(X:Gh)(n:Nat):Prop where
 stay:∀i p,p∈X.stay i->p.1.block<n
 D5:∀b o,X.D5 b=some o->b<n
 chs:∀b,X.chs b->b<n
 T4:∀G,(X.T4=some G\/G∈X.old)->G.blk<n
 low:∀b,X.low b->b<n
theorem Gh.gh0.mono{X:Gh}{n m:Nat}(h:X.gh0 n)(hm:n <=m):X.gh0 m:=
 ⟨fun i p hp=>Nat.lt_of_lt_of_le (h.stay i p hp) hm,fun b o e=>Nat.lt_of_lt_of_le (h.D5 b o e) hm,fun b e=>Nat.lt_of_lt_of_le (h.chs b e) hm,fun G e=>Nat.lt_of_lt_of_le (h.T4 G e) hm,fun b e=>Nat.lt_of_lt_of_le (h.low b e) hm⟩
theorem Gh.gh0.lu0{X:Gh}{n b:Nat}(h:X.gh0 n)(hb:n <=b):ok0 X b:=
 ⟨fun i p hp=>by have:=h.stay i p hp;omega,by
  cases e:X.D5 b with
  |none=>rfl
  |some o=>have:=h.D5 b o e;omega,fun e=>by have:=h.chs b e;omega,fun G hG=>by have:=h.T4 G hG;omega⟩
def Gh.lower(X:Gh)(b:Nat):Gh:={X with low:=fun k=>X.low k\/k=b}
theorem Ring.swap{P:Program}{X:Gh}{h:Nat}{u:World}{live:Nat->Bool}{T:Trace}{gs:Array Goroutine}{w:World}{q:Nat->Nat}(C:Ring P X h u live T gs w q){b:Nat}{x x':Obj}(hl:ok0 X b)(hb:u.heap[b]? =some x)(hv:S4 x'=false)
  (hlk:∀p y,ij0 p x y->∃p',ij0 p' x' y):Ring P (X.lower b) h (V2 u b x') live T gs w q:=by
 obtain⟨ρ,hs,hlw⟩:=C.sim;obtain⟨y,hy,hl0⟩:=hs.obj b x hb;obtain⟨p',hp'⟩:=hlk _ _ hl0;have Oc0:∀G,(X.T4=some G\/G∈X.old)->Cut u G->Cut (V2 u b x') G:=fun G hG ⟨c,T,f,hc,hcs⟩=>⟨c,T,f,by rw[G7 u x' (Ne.symm (hl.T4 G hG))];exact hc,hcs⟩
 have ch0:∀k,k≠b->lk0 u k->lk0 (V2 u b x') k:=fun k hk ⟨T,f,hc⟩=>⟨T,f,by rw[G7 u x' (Ne.symm hk)];exact hc⟩
 refine⟨?_,C.idle,C.free,C.size,C.num,fun i p hp=>?_,fun c hc=>⟨ch0 c (fun e=>hl.chs (e▸hc)) (C.chans c hc).1,(C.chans c hc).2⟩,C.W4,C.inj,fun k o e=>?_,fun G e=>.inl (C.gg0 G e),⟨fun c e=>.inl (C.cg0.1 c e),C.cg0.2⟩,fun G e=>⟨Oc0 G (.inl e) (C.T4 G e).1,(C.T4 G e).2⟩,fun G e=>Oc0 G (.inr e) (C.old G e),C.above,C.few,C.ju0,C.fq0,C.dfn,C.past⟩
 ·obtain⟨ρ',h1,h2⟩:=j7.replace hs hb hv hy hp';exact⟨ρ',h1,fun k hk=>by
   have hkb:k≠b:=fun e=>hk (.inr e);rw[h2 k hkb];exact hlw k fun e=>hk (.inl e)⟩
 ·have:=R8 (u:=u) (u':=V2 u b x') (a:=p.1) (G7 u x' (Ne.symm (hl.stay i p hp)));rw[this.1,this.2];exact C.stays i p hp
 ·have hk:k≠b:=fun z=>by subst z;have e2:X.D5 k=some o:=e;rw[hl.D5]at e2;cases e2
  exact⟨ch0 k hk (C.D5 k o e).1,(C.D5 k o e).2⟩
section
variable{P:Program}{Post:Value->World->Prop}{X:Gh}{h:Nat}{u:World}{g:Goroutine}{b:Nat}
theorem Fin.freeze{c:Array Value}{T:TypeId}{f f':Nat×Nat}(hl:ok0 X b)(hb:u.heap[b]? =some (.cells c T f))(hf:∀i,inR f i->inR f' i)(hF:Fin P Post (X.lower b) h g (V2 u b (.cells c T f'))):Fin P Post X h g u:=by
 refine Fin.Zz0 (fun live Tr gs w q C=>C.swap hl hb rfl fun p y hp=>?_) hF;cases hp with
 |same=>exact⟨.cut #[] f,by have:=ij0.cut c #[] T f f' hf;simpa using this⟩
 |cut _ rest _ f0 _ h0=>exact⟨.cut rest f0,.cut c rest T f0 f' fun i hi=>hf i (h0 i hi)⟩
 |gone=>exact⟨.gone y,.gone _ _ _⟩
def nothing:Obj:=.cells #[] 0 (0,0)
theorem Fin.chan(hl:ok0 X b)(hw:¬X.low b)(hpl:X.D7 b= .all){k:Nat}(hb:u.heap[b]? =some (.chan 0 #[] false k k false))(hF:Fin P Post {X.lower b with chs:=fun c=>X.chs c\/c=b} h g (V2 u b nothing)):Fin P Post X h g u:=by
 refine Fin.Zz0 (fun live Tr gs w q C=>?_) hF;have C':=C.swap (x':=nothing) hl hb rfl fun p y hp=>⟨.gone y,.gone _ _ _⟩
 obtain⟨ρ,hs,hlw⟩:=C.sim;obtain⟨y,hy,hl0⟩:=hs.obj b _ hb;rw[hlw b hw,hpl]at hl0;have hyb:y= .chan 0 #[] false k k false:=by cases hl0;rfl
 subst hyb;refine⟨C'.sim,C'.idle,C'.free,C'.size,C'.num,C'.stays,fun c hc=>?_,fun i s e=>.inl (C'.W4 i s e),C'.inj,C'.D5,C'.gg0,⟨fun c e=>e.elim (C'.cg0.1 c) fun e=>.inr e,fun G hG=>⟨fun e=>e.elim (C'.cg0.2 G hG).1 (hl.T4 G hG),(C'.cg0.2 G hG).2⟩⟩,C'.T4,C'.old,C'.above,C'.few,C'.ju0,C'.fq0,C'.dfn,C'.past⟩;rcases hc with hc|rfl
 ·exact C'.chans c hc
 ·exact⟨⟨0,(0,0),Q8 u hb⟩,hl.D5,k,hy⟩
theorem Fin.stay{l:kc0}(hl:∀p∈l,u.cell? p.1=some p.2/\u.frozen? p.1=true)(hF:Fin P Post {X with stay:=upd X.stay h l} h g u):Fin P Post X h g u:=by
 refine Fin.Zz0 (fun live Tr gs w q C=>?_) hF;have aa1:∀i,i≠h->upd X.stay h l i=X.stay i:=fun i hi=>upd_ne _ _ hi;refine⟨C.sim,fun i y hi hy=>?_,C.free,C.size,C.num,fun i p hp=>?_,C.chans,C.W4,C.inj,C.D5,C.gg0,C.cg0,C.T4,C.old,fun j hj=>?_,C.few,C.ju0,C.fq0,C.dfn,?_⟩
 ·have:=C.idle i y hi hy;unfold Idle at this⊢;show(match X.W1 i with|some s=>Way P (i==0) (upd X.stay h l i) s (q i) y|none=>_);rw[aa1 i hi];exact this
 ·have hp':p∈upd X.stay h l i:=hp;by_cases e:i=h
  ·subst e;rw[upd_same]at hp';exact hl p hp'
  ·rw[aa1 i e]at hp';exact C.stays i p hp'
 ·have:=C.above j hj;refine⟨this.1,this.2.1,this.2.2.1,?_⟩;show upd X.stay h l j=[];rw[aa1 j (by have:=C.size;omega)];exact this.2.2.2
 ·refine PastH.still C.past (fun z=>z.1 rfl) (fun i hi l'=>?_) (fun l' x8=>?_) (fun i hi=>.inl hi) (fun hi=>C.past.hears h hi)
  ·show(∃p∈upd X.stay h l i,_)↔_;rw[aa1 i hi];exact Iff.rfl
  ·obtain⟨p,hp,rfl⟩:=(x8:∃p∈upd X.stay h l h,l'= .cell p.1)
   have hp:p∈l:=by have hp':p∈upd X.stay h l h:=hp;rwa [upd_same]at hp'
   refine⟨rfl,?_⟩;rintro⟨a',G,hG,ha,hb,ho⟩;simp only[Loc.cell.injEq]at ha;subst ha;have hc:Cut u G:=hG.elim (fun e=>(C.T4 G e).1) (C.old G);obtain⟨c,T,f,hc,hs⟩:=hc;obtain⟨c',T',f',hc',_,hv'⟩:=u6 (hl p hp).1;rw[hb,hc]at hc';cases hc';have:=(Array.getElem?_eq_some_iff.1 hv').1;omega
end
end
section
attribute [local irreducible] KK
theorem count_le{live:Nat->Bool}{i:Nat}:∀{n:Nat},i<n->live i=true->0<count live n:=by
 intro n hn hl;have:=Go.ConcN.le_sumTo (f:=fun i=>if live i then 1 else 0) hn;simp only[hl,if_true]at this;exact this
theorem GAt.of_block{G:W7}{st sm:Int}{w w':World}(h:GAt G st sm w)(e:w'.heap[G.blk]? =w.heap[G.blk]?):GAt G st sm w':=by
 obtain⟨c,T,hb,hc⟩:=h;exact⟨c,T,e.trans hb,hc⟩
section
variable{P:Program}{Post:Value->World->Prop}{X:Gh}{u:World}{g:Goroutine}
theorem Fin.hv1{f':Nat×Nat}{b:Nat}{c:Array Value}{T:TypeId}(Cp0:X.cap=0)(hl:ok0 X b)(hw:¬X.low b)(hpl:X.D7 b= .all)(hb:u.heap[b]? =some (.cells (c ++ #[.int .u64 0,.int .u32 0]) T (0,0)))(_h0:0 <=c.size)
  (hF:Fin P Post {X.lower b with T4:=some ⟨b,c.size⟩,old:=X.T4.toList++X.old} 0 g (V2 u b (.cells c T f'))):Fin P Post X 0 g u:=by
 refine Fin.Zz0 (fun live Tr gs w q C=>?_) hF;have C':=C.swap (x':=.cells c T f') hl hb rfl fun p y hp=>by
  generalize hq:(Obj.cells (c ++ #[.int .u64 0,.int .u32 0]) T (0,0))=z at hp;cases hp with
  |same=>subst hq;exact⟨_,.cut c _ T (0,0) f' fun _ h=>by unfold inR at h;omega⟩
  |cut c' rest T' f f2 hf=>
   obtain⟨rfl,rfl,rfl⟩:=Obj.cells.inj hq;exact⟨.cut (#[.int .u64 0,.int .u32 0]++rest) f,by rw[Array.append_assoc];exact .cut c _ _ f f' fun i hi=>by have:=hf i hi;unfold inR at this;omega⟩
  |gone T' f o=>
   obtain⟨h1,_,_⟩:=Obj.cells.inj hq;have:=congrArg Array.size h1;simp at this
 obtain⟨ρ,hs,hlw⟩:=C.sim;obtain⟨y,hy,hl0⟩:=hs.obj b _ hb;rw[hlw b hw,hpl]at hl0;have hyb:y= .cells (c ++ #[.int .u64 0,.int .u32 0]) T (0,0):=by cases hl0;rfl
 subst hyb;have hz:count live gs.size+X.pend=0:=by have:=C.few;omega
 have Fb0:∀i,live i=false:=fun i=>by
  rcases Nat.lt_or_ge i gs.size with hi|hi
  ·cases e:live i with
   |false=>rfl
   |true=>have:=count_le hi e;omega
  ·exact(C.above i hi).2.2.1
 refine⟨C'.sim,fun i y hi hy=>?_,C'.free,C'.size,C'.num,C'.stays,C'.chans,C'.W4,C'.inj,C'.D5,fun G e=>?_,⟨C'.cg0.1,fun G hG=>?_⟩,fun G e=>?_,fun G e=>?_,C'.above,C'.few,fun i e=>absurd e (by rw[Fb0 i];simp),C'.fq0,C'.dfn,?_⟩
 ·have:=C'.idle i y hi hy;unfold Idle at this⊢;simp only[Fb0,Bool.false_eq_true,if_false]at this⊢;exact this
 ·cases e;exact .inr rfl
 ·rcases hG with hG|hG
  ·cases hG;exact⟨hl.chs,hl.D5⟩
  ·have hG':G∈X.T4.toList++X.old:=hG;exact C.cg0.2 G ((List.mem_append.1 hG').imp (fun z=>by simpa using z) id)
 ·cases e;refine⟨⟨c,T,f',Q8 u hb,rfl⟩,c,T,?_,rfl⟩;rw[hy];have:(((count live gs.size+X.pend)*KK:Nat):Int)=0:=by rw[hz,Nat.zero_mul];rfl
  show _=some (Obj.cells (c ++ #[.int .u64 (((count live gs.size+X.pend)*KK:Nat):Int),.int .u32 0]) T (0,0));rw[this]
 ·have e':G∈X.T4.toList++X.old:=e;rcases List.mem_append.1 e' with e'|e'
  ·exact(C'.T4 G (show X.T4=some G by simpa using e')).1
  ·exact C'.old G e'
 ·refine PastH.Ra0 C'.past (fun l x8=>?_) (fun i l hi hS=>?_) (fun l x8=>by obtain⟨a,G,_,rfl,_⟩:=x8;rfl) (fun i hi=>hi.elim id fun z=>by rw[Fb0 i]at z;cases z)
  ·obtain⟨a,G,hG,ha,Z8,ho⟩:=x8;refine⟨a,G,.inr ?_,ha,Z8,ho⟩;show G∈X.T4.toList++X.old;rcases hG with hG|hG
   ·exact List.mem_append_left _ (by have hG:X.T4=some G:=hG;simpa using hG)
   ·exact List.mem_append_right _ hG
  ·rintro⟨a,G,hG,ha,Z8,ho⟩;obtain⟨p,hp,rfl⟩:=hS;simp only[Loc.cell.injEq]at ha;subst ha;have hp0:p∈X.stay i:=hp;rcases hG with hG|hG
   ·cases hG;exact hl.stay i p hp0 Z8
   ·have hG':G∈X.T4.toList++X.old:=hG;have hc:Cut u G:=(List.mem_append.1 hG').elim (fun z=>(C.T4 G (by simpa using z)).1) (C.old G);obtain⟨c1,T1,f1,hc,hs1⟩:=hc;obtain⟨c',T',f',hc',_,hv'⟩:=u6 (C.stays i p hp0).1;rw[Z8,hc]at hc';cases hc';have:=(Array.getElem?_eq_some_iff.1 hv').1;omega
end
def Gh.pass(X:Gh)(h j:Nat)(sh:Option e7):Gh:={X with W1:=upd (upd X.W1 j none) h sh}
section
variable{P:Program}{X:Gh}{h:Nat}{u:World}{live:Nat->Bool}{T:Trace}{gs:Array Goroutine}{w:World}{q:Nat->Nat}
theorem Ring.pass(C:Ring P X h u live T gs w q){j k:Nat}{s:e7}(hj:X.W1 j=some s)(hjh:j≠h)(mw0:X.dn=0)(hk:w.heap[s.ch]? =some (.chan 0 #[] false k k false)){p9:Array Goroutine}{T':Trace}{H':Goroutine}(H2:p9.size=gs.size)
  (Od0:∀x,x≠h->x≠j->p9[x]? =gs[x]?) (hH:p9[h]? =some H') (ew1:∀x,Deaf T' x=Deaf T x) {sh:Option e7} (R9:∀s',sh=some s'->X.chs s'.ch/\∀i s2,i≠j->X.W1 i=some s2->s2.ch≠s'.ch) {nh:Nat} (hx1:Idle P (X.pass h j sh) live T' h nh H')
  (Lm0:PastH X.Sh (Us live) X.St (X.Mem h) (fun g=>X.Lo h g/\g≠j) j T'):Ring P (X.pass h j sh) j u live T' p9 (w.setChan s.ch 0 #[] false (k+1) (k+1) false) (upd q h nh):=by
 obtain⟨ρ,hs,hlw⟩:=C.sim;obtain⟨ch0,Rd0,_⟩:=C.chans s.ch (C.W4 j s hj);have X2:∀b,b≠s.ch->(w.setChan s.ch 0 #[] false (k+1) (k+1) false).heap[b]? =w.heap[b]?:=fun b hb=>heap_setChan_ne w _ _ _ _ _ _ (Ne.symm hb);have J5:(w.setChan s.ch 0 #[] false (k+1) (k+1) false).heap[s.ch]? =some (.chan 0 #[] false (k+1) (k+1) false):=heap_setChan_self w hk _ _ _ _ _ _;have m8:∀i,i≠h->i≠j->(X.pass h j sh).W1 i=X.W1 i:=fun i h1 h2=>by
  show upd (upd X.W1 j none) h sh i=_;rw[upd_ne _ _ h1,upd_ne _ _ h2]
 have ib1:(X.pass h j sh).W1 h=sh:=upd_same _ _ _;have Re0:(X.pass h j sh).W1 j=none:=by
  show upd (upd X.W1 j none) h sh j=_;rw[upd_ne _ _ hjh,upd_same]
 have vj0:j<gs.size:=by
  rcases Nat.lt_or_ge j gs.size with z|z
  ·exact z
  ·have:=(C.above j z).2.1;rw[hj]at this;cases this
 have hgb:∀G,X.T4=some G->G.blk≠s.ch:=fun G hG e=>(C.cg0.2 G (.inl hG)).1 (e▸C.W4 j s hj);have hold:∀i s2,(X.pass h j sh).W1 i=some s2->(i≠h/\i≠j/\X.W1 i=some s2)\/(i=h/\sh=some s2):=fun i s2 e=>by
  by_cases e1:i=h
  ·subst e1;rw[ib1]at e;exact .inr ⟨rfl,e⟩
  ·by_cases e2:i=j
   ·subst e2;rw[Re0]at e;cases e
   ·rw[m8 i e1 e2]at e;exact .inl ⟨e1,e2,e⟩
 refine⟨⟨fun b=>if b=s.ch then .gone (.chan 0 #[] false (k+1) (k+1) false) else ρ b,⟨hs.os,hs.output,rfl,rfl,by have:=hs.size;simpa [World.setChan,G2]using this,fun b x hx=>?_,fun b hb=>?_,hs.k9⟩,fun b hb=>?_⟩,
  fun x y hx hy=>?_,Re0,by rw[H2];exact vj0,by rw[H2];exact C.num,C.stays,fun c hc=>⟨(C.chans c hc).1,(C.chans c hc).2.1,?_⟩,fun i s2 e=>?_,fun i i' s1 s2 e1 e2 hc=>?_,fun b o e=>?_,C.gg0,C.cg0,fun G e=>⟨(C.T4 G e).1,?_⟩,C.old,fun i hi=>?_,by rw[H2];exact C.few,C.ju0,fun i hi hor=>?_,(Lm0.hears j (.inr (by rw[hj];simp))).trans mw0.symm,?_⟩
 ·by_cases e:b=s.ch
  ·subst e;obtain⟨T0,f0,hg⟩:=ch0;have N5:u.heap[s.ch]? =some x:=hx;rw[hg]at N5;obtain rfl:=Option.some.inj N5;exact⟨_,J5,by rw[if_pos rfl];exact .gone _ _ _⟩
  ·obtain⟨y,h1,h2⟩:=hs.obj b x hx;exact⟨y,(X2 b e).trans h1,by rw[if_neg e];exact h2⟩
 ·obtain⟨T0,f0,hg⟩:=ch0;have h1:s.ch<u.heap.size:=(Array.getElem?_eq_some_iff.1 hg).1;have h2:u.heap.size <=b:=hb;rw[if_neg Uo];exact hs.new b hb
 ·have:b≠s.ch:=fun e=>hb (e▸C.cg0.1 s.ch (C.W4 j s hj));show(if b=s.ch then _ else ρ b)=_;rw[if_neg this];exact hlw b hb
 ·by_cases e:x=h
  ·subst e;rw[hH]at hy;obtain rfl:=Option.some.inj hy;rw[upd_same];exact hx1
  ·rw[Od0 x e hx]at hy;have D5:=C.idle x y e hy;unfold Idle at D5⊢;rw[m8 x e hx,ew1,upd_ne q nh e];exact D5
 ·by_cases e:c=s.ch
  ·subst e;exact⟨k+1,J5⟩
  ·obtain⟨k',hk'⟩:=(C.chans c hc).2.2;exact⟨k',(X2 c e).trans hk'⟩
 ·rcases hold i s2 e with⟨_,_,e⟩|⟨_,e⟩
  ·exact C.W4 i s2 e
  ·exact(R9 s2 e).1
 ·rcases hold i s1 e1 with⟨_,a2,f1⟩|⟨f0,f1⟩ <;> rcases hold i' s2 e2 with⟨_,b2,f2⟩|⟨f3,f2⟩
  ·exact C.inj i i' s1 s2 f1 f2 hc
  ·exact absurd hc ((R9 s2 f2).2 i s1 a2 f1)
  ·exact absurd hc.symm ((R9 s1 f1).2 i' s2 b2 f2)
  ·rw[f0,f3]
 ·obtain⟨h1,h2,p,y,h3,h4⟩:=C.D5 b o e;have:b≠s.ch:=fun e2=>by subst e2;have e':X.D5 s.ch=some o:=e;rw[Rd0]at e';cases e'
  exact⟨h1,h2,p,y,(X2 b this).trans h3,h4⟩
 ·rw[H2];exact(C.T4 G e).2.of_block (X2 _ (hgb G e))
 ·rw[H2]at hi;have:=C.above i hi;refine⟨by rw[ew1];exact this.1,?_,this.2.2⟩;rw[m8 i (by have:=C.size;omega) Uo];exact this.2.1
 ·rcases hor with hor|rfl
  ·cases e:(X.pass h j sh).W1 i with
   |none=>exact absurd e hor
   |some s2=>
    rcases hold i s2 e with⟨_,_,e⟩|⟨rfl,_⟩
    ·exact C.fq0 i hi (.inl (by rw[e];simp))
    ·exact C.fq0 i hi (.inr rfl)
  ·exact C.fq0 i hi (.inl (by rw[hj];simp))
 ·refine(Lm0.fewer (Mem':=(X.pass h j sh).Mem j) fun x hx=>?_).loosen fun x hx=>?_
  ·rcases hx with⟨rfl,_⟩|hx
   ·exact .inr (by rw[hj];simp)
   ·cases e:(X.pass h j sh).W1 x with
    |none=>exact absurd e hx
    |some s2=>
     rcases hold x s2 e with⟨_,_,e⟩|⟨rfl,_⟩
     ·exact .inr (by rw[e];simp)
     ·exact .inl ⟨rfl,mw0⟩
  ·exact⟨hx.2,by rw[m8 x hx.1.1 hx.2];exact hx.1.2⟩
end
section
variable{P:Program}{Post:Value->World->Prop}{X:Gh}{h:Nat}{u:World}
def Cq0(P:Program)(X:Gh)(h:Nat)(sh:Option e7)(n:Nat)(g:Goroutine):Prop:=match sh with
 |some s'=>Way P (h==0) (X.stay h) s' n g
 |none=>0<h/\∃G,X.T4=some G/\Lt P G n 0 g
theorem Fin.give{g a₂:Goroutine}{s:e7}{j nh:Nat}{v z':Value}(L3:g.status= .running)(hj:X.W1 j=some s)(hjh:j≠h)(mw0:X.dn=0)(hsend:∀w,stepG P (h==0) g w= .comm a₂ #[scase s.ch v z'] true .send w #[])
  (sh:Option e7) (R9:∀s',sh=some s'->X.chs s'.ch/\∀i s2,i≠j->X.W1 i=some s2->s2.ch≠s'.ch) (id1:Cq0 P X h sh nh (Go.Conc.served a₂ undef)) (hF:Fin P Post (X.pass h j sh) j (Go.Conc.served s.me (recvd false v true)) u):Fin P Post X h g u:=by
 have hx1:∀{live:Nat->Bool}{T T':Trace}{gs:Array Goroutine}{w:World}{q:Nat->Nat},Ring P X h u live T gs w q->Deaf T' h=0->Idle P (X.pass h j sh) live T' h nh (Go.Conc.served a₂ undef):=by
  intro live T T' gs w q C hd;unfold Idle;have:(X.pass h j sh).W1 h=sh:=upd_same _ _ _;rw[this];unfold Cq0 at id1;cases sh with
  |some s'=>exact id1
  |none=>
   obtain⟨h0,G,hG,hL⟩:=id1;refine⟨h0,?_⟩;rw[C.fq0 h Uo (.inr rfl)];simp only[if_true];exact⟨G,hG,by rw[hd];exact hL⟩
 have fin:∀live T gs p9 w q k (g₁:Nat->Nat) (ops:Array MemOp) (fh fj:FuncId) (ph pj:String) sl,Ring P X h u live (T++ops) gs w q->w.heap[s.ch]? =some (.chan 0 #[] false k k false)->p9.size=gs.size->(∀x,x≠h->x≠j->p9[x]? =gs[x]?) ->
   p9[h]? =some (Go.Conc.served a₂ undef)->p9[j]? =some (Go.Conc.served s.me (recvd false v true))->Ends P Post (crowd p9 (w.setChan s.ch 0 #[] false (k+1) (k+1) false) sl) (T++(ops++met h j fh ph fj pj s.ch k 0)):=by
  intro live T gs p9 w q k g₁ ops fh fj ph pj sl C hk H2 Od0 hH hJ;have hMh:X.Mem h h:=.inl ⟨rfl,mw0⟩;have hMj:X.Mem h j:=.inr (by rw[hj];simp);have p2:=PastH.give C.past hMh hMj fh ph fj pj s.ch k 0;have hD:∀x,Deaf ((T++ops)++met h j fh ph fj pj s.ch k 0) x=Deaf (T++ops) x:=fun x=>Deaf_quiet (met_quiet _ _ _ _ _ _ _ _ _ x);have:=Ring.pass C hj hjh mw0 hk H2 Od0 hH hD R9 (hx1 C (by rw[hD];exact C.past.hears h hMh)) p2;rw[<- Array.append_assoc];exact hF _ _ _ _ _ _ hJ this
 have await:∀(μ:Nat) live T gs w sl q,sumTo gs.size q=μ->gs[h]? =some (parked a₂ #[scase s.ch v z'] .send)->0<q j->Ring P X h u live T gs w q->Ends P Post (crowd gs w sl) T:=by
  intro μ
  induction μ using Nat.strongRecOn with
  |_ μ ih=>
   intro live T gs w sl q hμ hg hqj C;have vj0:j<gs.size:=by
    rcases Nat.lt_or_ge j gs.size with z|z
    ·exact z
    ·have:=(C.above j z).2.1;rw[hj]at this;cases this
   have Fc0:Way P (j==0) (X.stay j) s (q j) gs[j]:=by
    have:=C.idle j gs[j] hjh (Array.getElem?_eq_getElem vj0);unfold Idle at this;rw[hj]at this;exact this
   have or1:gs[j].status= .running:=Fc0.status.elim (·.1) fun z=>by omega
   obtain⟨i,gi,d,sl',hi,hgi,O2⟩:=crowd_pick (P:=P) (w:=w) (sl:=sl) (C.awake hg (.inr rfl)) ⟨j,gs[j],Array.getElem?_eq_getElem vj0,or1⟩;have Cd:=C.at d;obtain⟨k,hk⟩:=(Cd.chans s.ch (Cd.W4 j s hj)).2.2;have hih:i≠h:=by rintro rfl;rw[hg]at hi;obtain rfl:=Option.some.inj hi;cases hgi
   by_cases ej:i=j/\oi0 P (i==0) s gi
   ·obtain⟨rfl,y8⟩:=ej;have hp:partners (gs.setIfInBounds i ph) s.ch true=[(h,0)]:=by
     rw[partners_one (stand_get (Ne.symm hih) hg) fun x y hxh hy=>by
      rcases getElem?_stand gs i x y hy with⟨_,rfl⟩|⟨_,hy'⟩
      ·exact offersAt_ph _ _
      ·exact(C.idle x y hxh hy').noSend _]
     simp[offersAt_parked_send]
    have hrt:=crowd_recv_meets (sl:=sl') hi (y8.2.2.2.2 (w.at d)) hk (Ne.symm hih) hg hp;refine Ends.step (O2.trans hrt) ?_;rw[show(MemOp.ofEvents i gi.frame.fn gi.frame.place #[]:Array MemOp)=#[] from rfl];refine fin live T gs _ (w.at d) q k (fun _=>0) #[] _ _ _ _ sl' (by simpa using Cd) hk (by simp) (fun x hx hxj=>by rw[Array.getElem?_setIfInBounds_ne (fun z=>hxj z.symm),Array.getElem?_setIfInBounds_ne (fun z=>hx z.symm)]) ?_ ?_
    ·rw[Array.getElem?_setIfInBounds_ne hih,Array.getElem?_setIfInBounds_self_of_lt C.size,finishComm_send]
    ·rw[Array.getElem?_setIfInBounds_self_of_lt (by simpa using vj0),finishComm_recv]
   ·obtain⟨p9,ops,q',w',ew0,hrt,H2,hgh,hqo,hq0,C',O1,_⟩:=Cd.by_step (sl:=sl') hi hih hgi hg (fun w' hS=>again_send_open (by rw[hS.2.2 s.ch (Cd.W4 j s hj)];exact hk))
     (fun s' hs' y8=>by
      rw[offersAt_parked_send,if_neg];intro ec;have hij:=C.inj i j s' s hs' hj ec.symm;subst hij;rw[hj]at hs';obtain rfl:=Option.some.inj hs';exact ej ⟨rfl,y8⟩)
    refine Ends.step (O2.trans hrt) (ih _ (by rw[H2,<- hμ];exact O1) ew0 _ p9 w' sl' q' rfl hgh ?_ C');by_cases hij:j=i
    ·subst hij;rcases Nat.eq_zero_or_pos (q' j)with h0|h0
     ·exact absurd ⟨rfl,hq0 s hj h0⟩ ej
     ·exact h0
    ·rw[hqo j hij];exact hqj
 refine Fin.ex0 L3 fun live T gs w sl d sl' q hg O2 C=>?_;have vj0:j<gs.size:=by
  rcases Nat.lt_or_ge j gs.size with z|z
  ·exact z
  ·have:=(C.above j z).2.1;rw[hj]at this;cases this
 have Fc0:Way P (j==0) (X.stay j) s (q j) gs[j]:=by
  have:=C.idle j gs[j] hjh (Array.getElem?_eq_getElem vj0);unfold Idle at this;rw[hj]at this;exact this
 obtain⟨k,hk⟩:=(C.chans s.ch (C.W4 j s hj)).2.2;have ab1:∀(x:Nat)(y:Goroutine),x≠j->(gs.setIfInBounds h ph)[x]? =some y->offersAt y s.ch false=[]:=by
  intro x y hxj hy;rcases getElem?_stand gs h x y hy with⟨_,rfl⟩|⟨hx,hy'⟩
  ·exact offersAt_ph _ _
  ·exact(C.idle x y hx hy').hu1 fun s' hs' hc'=>hxj (C.inj x j s' s hs' hj hc')
 rcases Fc0.status with⟨hjr,hqj⟩|⟨_,hq0⟩
 ·have hp:partners (gs.setIfInBounds h ph) s.ch false=[]:=partners_nil fun x y hy=>by
   by_cases hxj:x=j
   ·subst hxj;rw[stand_get hjh (Array.getElem?_eq_getElem vj0)]at hy;obtain rfl:=Option.some.inj hy;exact offersAt_of_not_blocked (by rw[hjr];simp) _ _
   ·exact ab1 x y hxj hy
  have hw:∀cc∈#[scase s.ch v z'],NoWays (w.at d) (gs.setIfInBounds h ph) cc:=by
   intro cc hcc;simp only[List.mem_toArray,List.mem_cons,List.not_mem_nil,or_false]at hcc;subst hcc;exact ways_send_none hk (Nat.le_refl _) hp
  have hrt:=crowd_waits (sl:=sl') hg (hsend (w.at d)) hw;refine Ends.step (O2.trans hrt) ?_;rw[show(MemOp.ofEvents h g.frame.fn g.frame.place #[]:Array MemOp)=#[] from rfl,Array.append_empty];refine await _ live T _ (w.at d) sl' q rfl (Array.getElem?_setIfInBounds_self_of_lt C.size) hqj ?_;exact⟨C.sim,fun x y hx hy=>C.idle x y hx (by rwa [Array.getElem?_setIfInBounds_ne (fun e=>hx e.symm)]at hy),C.free,by simpa using C.size,by simpa using C.num,C.stays,C.chans,C.W4,C.inj,C.D5,C.gg0,C.cg0,by simpa using C.T4,C.old,fun x hx=>C.above x (by simpa using hx),by simpa using C.few,C.ju0,C.fq0,C.dfn,C.past⟩
 ·have hpk:gs[j]=parked s.me #[rcase s.ch s.z] (.recv false):=by rw[hq0]at Fc0;exact Fc0.1
  have hgj:gs[j]? =some (parked s.me #[rcase s.ch s.z] (.recv false)):=by rw[<- hpk];exact Array.getElem?_eq_getElem vj0
  have hp:partners (gs.setIfInBounds h ph) s.ch false=[(j,0)]:=by
   rw[partners_one (stand_get hjh hgj) fun x y hxj hy=>ab1 x y hxj hy,offersAt_parked_recv,if_pos rfl];rfl
  have hrt:=crowd_send_meets (sl:=sl') hg (hsend (w.at d)) hk hjh hgj hp;refine Ends.step (O2.trans hrt) ?_;rw[show(MemOp.ofEvents h g.frame.fn g.frame.place #[]:Array MemOp)=#[] from rfl];refine fin live T gs _ (w.at d) q k (fun _=>0) #[] _ _ _ _ sl' (by simpa using C) hk (by simp) (fun x hx hxj=>by rw[Array.getElem?_setIfInBounds_ne (fun z=>hx z.symm),Array.getElem?_setIfInBounds_ne (fun z=>hxj z.symm)]) ?_ ?_
  ·rw[Array.getElem?_setIfInBounds_self_of_lt (by simpa using C.size),finishComm_send]
  ·rw[Array.getElem?_setIfInBounds_ne (Ne.symm hjh),Array.getElem?_setIfInBounds_self_of_lt vj0,finishComm_recv]
end
end
section
attribute [local irreducible] KK
section
variable{P:Program}{Post:Value->World->Prop}{X:Gh}{u:World}
def Gh.hire(X:Gh)(s:e7):Gh:={X with W1:=upd X.W1 0 (some s),pend:=0,n:=X.n+1}
theorem Fin.spawn{g g' child:Goroutine}{s:e7}{nh:Nat}{G:W7}(L3:g.status= .running)(mw0:X.dn=0)(Ln0:X.pend=1)(hG:X.T4=some G)(hgo:∀w,stepG P true g w= .spawn g' child w #[])
  (hch:X.chs s.ch) (r9:∀i s2,X.W1 i=some s2->s2.ch≠s.ch) (Co0:Way P true (X.stay 0) s nh g') (hF:Fin P Post (X.hire s) X.n child u):Fin P Post X 0 g u:=by
 refine Fin.ex0 L3 fun live T gs w sl d sl' q hg O2 C=>?_;have hrt:=runT_crowd_spawn (P:=P) (sl:=sl') (i:=0) hg (hgo (w.at d));have os1:(((MemOp.ofEvents 0 g.frame.fn g.frame.place #[]:Array MemOp).push {g:=0,fn:=g.frame.fn,pos:=g.frame.place,act:=.go gs.size}).push {g:=gs.size,fn:=child.frame.fn,pos:=g.frame.place,act:=.start})=
   #[{g:=0,fn:=g.frame.fn,pos:=g.frame.place,act:=.go gs.size},{g:=gs.size,fn:=child.frame.fn,pos:=g.frame.place,act:=.start}]:=rfl
 rw[os1]at hrt;refine Ends.step (O2.trans hrt) ?_;have h0:=C.size;have Rf0:=C.above gs.size (Nat.le_refl _);have hc0:gs.size≠0:=by omega
 have hD:∀x,Deaf (T ++ #[{g:=0,fn:=g.frame.fn,pos:=g.frame.place,act:=.go gs.size},{g:=gs.size,fn:=child.frame.fn,pos:=g.frame.place,act:=.start}]) x=Deaf T x:=fun x=>Deaf_quiet (fun op hop d=>by
  simp only[List.mem_toArray,List.mem_cons,List.not_mem_nil,or_false]at hop;rcases hop with rfl|rfl <;> rfl)
 have p:=PastH.born (c:=gs.size) C.past (.inl ⟨rfl,mw0⟩) Rf0.1 (fun l ⟨p,hp,_⟩=>by rw[Rf0.2.2.2]at hp;cases hp) (.inl rfl) g.frame.fn g.frame.place child.frame.fn;have m8:∀i,i≠0->(X.hire s).W1 i=X.W1 i:=fun i hi=>upd_ne X.W1 _ hi;have Cr0:(X.hire s).W1 0=some s:=upd_same X.W1 0 (some s);have ms0:count (upd live gs.size true) (gs.size+1)=count live gs.size+1:=by
  show sumTo gs.size _+_=_;rw[show sumTo gs.size (fun i=>if upd live gs.size true i=true then 1 else 0)=count live gs.size from Oa0 true (Nat.le_refl _)];show _+(if upd live gs.size true gs.size=true then 1 else 0)=_;rw[upd_same];rfl
 have H2:((gs.setIfInBounds 0 g').push child).size=gs.size+1:=by simp
 refine hF (upd live gs.size true) _ _ _ sl' (upd q 0 nh) (by rw[<- C.num,Array.getElem?_push,if_pos (by simp)]) ?_;rw[<- C.num];refine⟨C.sim,fun x y hx hy=>?_,by rw[m8 _ hc0];exact Rf0.2.1,by rw[H2];omega,by rw[H2,C.num];rfl,C.stays,C.chans,fun i s2 e=>?_,fun i i' s1 s2 e1 e2 hc=>?_,C.D5,C.gg0,C.cg0,fun G' e=>⟨(C.T4 G' e).1,?_⟩,C.old,fun x hx=>?_,?_,fun i hi=>?_,fun i hi hor=>?_,((hD _).trans Rf0.1).trans mw0.symm,?_⟩
 ·have hxl:x<gs.size:=by
   have:=(Array.getElem?_eq_some_iff.1 hy).1;rw[H2]at this;omega
  rw[Array.getElem?_push,if_neg (by simp;omega)]at hy;unfold Idle;by_cases e:x=0
  ·subst e;rw[Array.getElem?_setIfInBounds_self_of_lt h0]at hy;obtain rfl:=Option.some.inj hy;rw[Cr0,upd_same];exact Co0
  ·rw[Array.getElem?_setIfInBounds_ne (fun z=>e z.symm)]at hy;rw[m8 x e,hD,upd_ne q nh e,upd_ne live true (show x≠gs.size by omega)];have:=C.idle x y e hy;unfold Idle at this;exact this
 ·by_cases e0:i=0
  ·subst e0;rw[Cr0]at e;obtain rfl:=Option.some.inj e;exact hch
  ·rw[m8 i e0]at e;exact C.W4 i s2 e
 ·by_cases a:i=0 <;> by_cases b:i'=0
  ·rw[a,b]
  ·subst a;rw[Cr0]at e1;rw[m8 i' b]at e2;obtain rfl:=Option.some.inj e1;exact absurd hc.symm (r9 i' s2 e2)
  ·subst b;rw[Cr0]at e2;rw[m8 i a]at e1;obtain rfl:=Option.some.inj e2;exact absurd hc (r9 i s1 e1)
  ·rw[m8 i a]at e1;rw[m8 i' b]at e2;exact C.inj i i' s1 s2 e1 e2 hc
 ·have:=(C.T4 G' e).2;rw[Ln0]at this;rw[H2,ms0];exact this
 ·rw[H2]at hx;have:=C.above x Uo;exact⟨by rw[hD];exact this.1,by rw[m8 x Uo];exact this.2.1,by rw[upd_ne live true Uo];exact this.2.2.1,this.2.2.2⟩
 ·rw[H2,ms0];have:=C.few;rw[Ln0]at this;exact this
 ·by_cases e:i=gs.size
  ·subst e;exact⟨hc0,by show X.T4≠none;rw[hG];simp⟩
  ·rw[upd_ne live true e]at hi;exact C.ju0 i hi
 ·by_cases e:i=gs.size
  ·subst e;exact upd_same _ _ _
  ·rw[upd_ne live true e];rw[m8 i hi]at hor;exact C.fq0 i hi (.inl (hor.resolve_right e))
 ·refine((p.leave (Us':=Us (upd live gs.size true)) fun x hx=>?_).fewer (Mem':=(X.hire s).Mem gs.size) fun x hx=>?_).loosen fun x hx=>?_
  ·rcases hx with hx|hx
   ·exact .inl (.inl hx)
   ·by_cases e:x=gs.size
    ·exact .inr e
    ·rw[upd_ne live true e]at hx;exact .inl (.inr hx)
  ·rcases hx with⟨e,_⟩|hx
   ·exact .inr e
   ·by_cases e:x=0
    ·exact .inl (.inl ⟨e,mw0⟩)
    ·rw[m8 x e]at hx;exact .inl (.inr hx)
  ·refine⟨fun e=>?_,?_⟩
   ·subst e;exact hx.2 Rf0.2.1
   ·rw[m8 x hx.1];exact hx.2
end
end
section
attribute [local irreducible] KK
structure Base(X:Gh)(u:World)(use:Nat->Bool)(T:Trace)(n:Nat)(w:World):Prop where
 sim:∃ρ,j7 ρ (G2 u w.tape w.drawn) w/\∀b,¬X.low b->ρ b=X.D7 b
 free:X.W1 0=none
 size:0<n
 num:n=X.n
 stays:∀i p,p∈X.stay i->u.cell? p.1=some p.2/\u.frozen? p.1=true
 chans:∀c,X.chs c->lk0 u c/\X.D5 c=none/\∃k,w.heap[c]? =some (.chan 0 #[] false k k false)
 W4:∀i s,X.W1 i=some s->X.chs s.ch
 inj:∀i j s s',X.W1 i=some s->X.W1 j=some s'->s.ch=s'.ch->i=j
 D5:∀b o,X.D5 b=some o->lk0 u b/\S4 o=false/\∃p y,w.heap[b]? =some y/\ij0 p o y
 gg0:∀G,X.T4=some G->X.low G.blk
 cg0:(∀c,X.chs c->X.low c)/\X.Sep
 cut:∀G,X.T4=some G->Cut u G
 old:∀G∈X.old,Cut u G
 above:∀j,n <=j->Deaf T j=0/\X.W1 j=none/\use j=false/\X.stay j=[]
 ju0:∀i,use i=true->i≠0/\X.T4≠none
 fq0:∀i,X.W1 i≠none->i≠0->use i=true
 dfn:Deaf T 0=X.dn
 past:PastH X.Sh (Us use) X.St (X.Mem 0) (X.Lo 0) 0 T
section
variable{P:Program}{X:Gh}{u:World}{live use use':Nat->Bool}{T:Trace}{gs:Array Goroutine}{w w':World}{q:Nat->Nat}{n:Nat}
theorem Ring.base(C:Ring P X 0 u live T gs w q):Base X u live T gs.size w:=
 ⟨C.sim,C.free,C.size,C.num,C.stays,C.chans,C.W4,C.inj,C.D5,C.gg0,C.cg0,fun G e=>(C.T4 G e).1,C.old,C.above,C.ju0,fun i h hi=>C.fq0 i hi (.inl h),C.dfn,C.past⟩
theorem Base.ring(B:Base X u live T gs.size w)(hi:∀i g,i≠0->gs[i]? =some g->Idle P X live T i (q i) g)(hg:∀G,X.T4=some G->GAt G (((count live gs.size+X.pend)*KK:Nat):Int) 0 w)(hf:count live gs.size+X.pend <=X.cap/\X.cap <=65536):Ring P X 0 u live T gs w q:=
 ⟨B.sim,hi,B.free,B.size,B.num,B.stays,B.chans,B.W4,B.inj,B.D5,B.gg0,B.cg0,fun G e=>⟨B.cut G e,hg G e⟩,B.old,B.above,hf,B.ju0,fun i hi h=>h.elim (fun z=>B.fq0 i z hi) fun z=>absurd z hi,B.dfn,B.past⟩
theorem Base.ex1(B:Base X u use T n w){i:Nat}{l:Loc}(hl:X.St i l):l.isMemory=true/\¬X.Sh l:=by
 obtain⟨p,hp,rfl⟩:=hl;refine⟨rfl,?_⟩;rintro⟨a',G,hG,ha,hb,ho⟩;simp only[Loc.cell.injEq]at ha;subst ha;have hc:Cut u G:=hG.elim (B.cut G) (B.old G);obtain⟨c,T1,f,hc,hs⟩:=hc;obtain⟨c',T',f',hc',_,hv'⟩:=u6 (B.stays i p hp).1;rw[hb,hc]at hc';cases hc';have:=(Array.getElem?_eq_some_iff.1 hv').1;omega
def GEv(G:W7)(x:Nat)(e:Event):Prop:=(∀b,(MemAct.ofEvent e).touch? =some b->(∃a,b.loc= .cell a/\a.block=G.blk/\G.off <=a.off)/\b.kind≠.plain/\(x≠0->b.kind= .atomic))/\∀a,e.loc≠.mark (.release a)
theorem rm0{G:W7}{x:Nat}{e:Event}(h:Ip0 e=true):GEv G x e:=⟨fun b hb=>(by rw[ik0 h]at hb;cases hb),fun a ha=>by unfold Ip0 at h;rw[ha]at h;cases h⟩
theorem Rg0{G:W7}{x:Nat}{e:Event}(h:Event.mute e=true):GEv G x e:=⟨fun b hb=>(by rw[touch_mute h]at hb;cases hb),fun a ha=>by
 obtain⟨l,w,s⟩:=e;cases ha;cases h⟩
theorem Base.step(B:Base X u use T n w){x:Nat}{fn:FuncId}{pos:String}{es:Array Event}{G:W7}(hG:X.T4=some G)(hx:x<n)(hsx:X.W1 x=none)(hes:∀e∈es,GEv G x e)(hu:(∀e∈es,(MemAct.ofEvent e).touch? =none)\/(x=0\/use x=true/\∀k,k<es.size->deafBehind (Deaf T x) (es.extract 0 k)≠0))
  (hus:∀i,use' i=true->use i=true) (hls:∀i,X.W1 i≠none->i≠0->use' i=true) {pend cap dn:Nat} (hdn:dn=if x=0 then deafBehind X.dn es else X.dn) (oj0:∃ρ,j7 ρ (G2 u w'.tape w'.drawn) w'/\∀b,¬X.low b->ρ b=X.D7 b) (ch0:∀b,b≠G.blk->w'.heap[b]? =w.heap[b]?) :
  Base {X with pend:=pend,cap:=cap,dn:=dn} u use' (T++MemOp.ofEvents x fn pos es) n w':=by
 have hgn:∀b,(X.chs b\/X.D5 b≠none)->w'.heap[b]? =w.heap[b]?:=fun b hb=>ch0 b (fun e=>by
  subst e;have:=B.cg0.2 G (.inl hG);exact hb.elim this.1 fun z=>z this.2)
 have ll0:∀op∈MemOp.ofEvents x fn pos es,op.g=x:=T3;have hd0:Deaf (T++MemOp.ofEvents x fn pos es) 0=dn:=by
  by_cases e:x=0
  ·subst e;rw[Deaf_own,B.dfn,hdn,if_pos rfl]
  ·rw[Deaf_other T e _ ll0,B.dfn,hdn,if_neg e]
 refine⟨oj0,B.free,B.size,B.num,B.stays,fun c hc=>⟨(B.chans c hc).1,(B.chans c hc).2.1,?_⟩,B.W4,B.inj,fun b o e=>?_,B.gg0,B.cg0,B.cut,B.old,fun j hj=>?_,fun i hi=>B.ju0 i (hus i hi),hls,hd0,?_⟩
 ·obtain⟨k,hk⟩:=(B.chans c hc).2.2;exact⟨k,(hgn c (.inl hc)).trans hk⟩
 ·obtain⟨h1,h2,p,y,h3,h4⟩:=B.D5 b o e;exact⟨h1,h2,p,y,(hgn b (.inr (by have e':X.D5 b=some o:=e;rw[e'];simp))).trans h3,h4⟩
 ·have:=B.above j hj;refine⟨by rw[Deaf_other T (g':=x) Uo _ ll0];exact this.1,this.2.1,?_,this.2.2.2⟩;cases e:use' j with
  |false=>rfl
  |true=>have:=hus j e;rw[this]at *;simp_all
 ·have H0:Past X.Sh (Us use) X.St (fun g=>X.W1 g≠none) (X.Lo 0) (Knows T 0) T:=B.past.fewer fun g hg=>.inr hg;have hh:∀g',X.W1 g'≠none->Deaf (T++MemOp.ofEvents x fn pos es) g'=0:=fun g' hg'=>by
   rw[Deaf_other T (show x≠g' from fun e=>hg' (by rw[<- e];exact hsx)) _ ll0];exact H0.hears g' hg'
  have p1:Past X.Sh (Us use) X.St (fun g=>X.W1 g≠none) (X.Lo 0) (Knows (T++MemOp.ofEvents x fn pos es) 0) (T++MemOp.ofEvents x fn pos es):=by
   rcases hu with hu|hu
   ·exact H0.appMute (g:=x) (fun i=>Knows.app _) (fun op hop=>by obtain⟨e,he,rfl⟩:=Go.Conc.mem_ofEvents hop;exact hu e he) hh
   ·refine H0.ev1 (g:=x) (hu.elim (fun e=>.inl e) fun e=>.inr e.1) (fun g l hl=>(B.ex1 hl).2) (fun i=>Knows.app _) ll0 (fun op hop b hb=>?_) (fun X2 i hi1 hi2=>?_) hh
    ·obtain⟨e,he,rfl⟩:=Go.Conc.mem_ofEvents hop;obtain⟨⟨a,h1,h2,h3⟩,h4⟩:=(hes e he).1 b hb;exact⟨⟨a,G,.inl hG,h1,h2,h3⟩,h4⟩
    ·obtain⟨m,rfl⟩:∃m,i=T.size+m:=⟨i-T.size,by omega⟩
     have hm:m<es.size:=by
      have H2:(MemOp.ofEvents x fn pos es).size=es.size:=by rw[ofEvents_eq];simp
      omega
     rw[Go.Conc.deaf_inside T x fn pos es m (Nat.le_of_lt hm)];exact(hu.resolve_left X2).2 m hm
  refine PastH.still (p1.leave (Us':=Us use') fun g hg=>hg.imp id (hus g)) (fun z=>z.1 rfl) (fun _ _ _=>Iff.rfl) (fun l hl=>B.ex1 hl) (fun g hg=>?_) (fun hg=>?_)
  ·rcases hg with⟨e,_⟩|hg
   ·exact .inr e
   ·exact .inl hg
  ·rcases hg with⟨_,e⟩|hg
   ·exact hd0.trans e
   ·exact absurd B.free hg
end
end
section
attribute [local irreducible] KK
def zk0(P:Program)(G:W7)(g g':Goroutine)(es:Array Event):Prop:=
 g.status= .running/\g'.status= .running/\(∀e∈es,GEv G 0 e)/\∀w st sm,GAt G st sm w->stepG P true g w= .go g' w es
def ac1(P:Program)(G:W7)(K:Goroutine->Prop):Nat->Nat->Goroutine->Prop
 |0,d,g=>d=0/\K g
 |n+1,d,g=>(d=0/\K g)\/∃g' es,zk0 P G g g' es/\ac1 P G K n (deafBehind d es) g'
def Rh0(P:Program)(G:W7)(K:Goroutine->Prop):Nat->Nat->Goroutine->Prop
 |0,_,_=>False
 |n+1,d,g=>(∃g' es,zk0 P G g g' es/\Rh0 P G K n (deafBehind d es) g')\/(g.status= .running/\∀v:Nat,v<2147483647->∃g',g'.status= .running /\
   (∀w,GAt G ((v*KK:Nat):Int) 0 w->stepG P true g w= .go g' (w.setCell (stA G) (.int .u64 (((v+1)*KK:Nat):Int))) #[rdA (stA G),wrA (stA G)])/\ac1 P G K n d g')
section
variable{P:Program}{Post:Value->World->Prop}{X:Gh}{u:World}{live:Nat->Bool}{T:Trace}{gs:Array Goroutine}{w w':World}{q:Nat->Nat}
section
variable{G:W7}{g g':Goroutine}{es:Array Event}
theorem Ring.main(C:Ring P X 0 u live T gs w q)(hG:X.T4=some G)(hes:∀e∈es,GEv G 0 e){pend cap:Nat}(oj0:∃ρ,j7 ρ (G2 u w'.tape w'.drawn) w'/\∀b,¬X.low b->ρ b=X.D7 b)(ch0:∀b,b≠G.blk->w'.heap[b]? =w.heap[b]?)
  (y8:GAt G (((count live gs.size+pend)*KK:Nat):Int) 0 w') (hf:count live gs.size+pend <=cap/\cap <=65536) :
  Ring P {X with pend:=pend,cap:=cap,dn:=deafBehind X.dn es} 0 u live (T++MemOp.ofEvents 0 g.frame.fn g.frame.place es) ((gs.map (woken P g g' w')).setIfInBounds 0 g') w' q/\((gs.map (woken P g g' w')).setIfInBounds 0 g')[0]? =some g':=by
 have H2:((gs.map (woken P g g' w')).setIfInBounds 0 g').size=gs.size:=by simp
 refine⟨?_,Array.getElem?_setIfInBounds_self_of_lt (by simpa using C.size)⟩;have B:=C.base.step (fn:=g.frame.fn) (pos:=g.frame.place) (use':=live) (pend:=pend) (cap:=cap) hG C.size C.free hes (.inr (.inl rfl)) (fun _ h=>h) (fun i h hi=>C.fq0 i hi (.inl h)) (dn:=deafBehind X.dn es) (by rw[if_pos rfl]) oj0 ch0;rw[<- H2]at B;refine B.ring (fun i y hi hy=>?_) (fun G' e=>?_) (by rw[H2];exact hf)
 ·rw[Array.getElem?_setIfInBounds_ne (fun e=>hi e.symm),Array.getElem?_map]at hy;obtain⟨y₀,hy₀,rfl⟩:=Option.map_eq_some_iff.1 hy;have D5:=C.idle i y₀ hi hy₀;rw[woken_of_again (D5.again (w:=w') fun s e=>?_)]
  ·exact D5.other (fun z=>hi z.symm) T3
  ·obtain⟨k,hk⟩:=(C.chans _ (C.W4 i s e)).2.2;exact⟨k,(ch0 _ fun e2=>(C.cg0.2 G (.inl hG)).1 (e2▸C.W4 i s e)).trans hk⟩
 ·have e':X.T4=some G':=e;rw[hG]at e';obtain rfl:=Option.some.inj e';rw[H2];exact y8
theorem Fin.ot1(hG:X.T4=some G)(hh:zk0 P G g g' es)(hF:Fin P Post {X with dn:=deafBehind X.dn es} 0 g' u):Fin P Post X 0 g u:=by
 obtain⟨hr,_,hes,O2⟩:=hh;refine Fin.ex0 hr fun live T gs w sl d sl' q hg E7 C=>?_;have y8:=(C.T4 G hG).2;obtain⟨C',J5⟩:=C.main hG (g:=g) (g':=g') hes (w':=w.at d) C.sim (fun _ _=>rfl) y8 C.few;exact Ends.step (E7.trans (runT_crowd_go (sl:=sl') (i:=0) hg (O2 _ _ _ y8))) (hF _ _ _ _ _ _ J5 C')
theorem Fin.ou1{G:W7}(hG:X.T4=some G){K:Goroutine->Prop}(hK:∀g,K g->Fin P Post {X with dn:=0} 0 g u):∀(n d:Nat)(g:Goroutine),ac1 P G K n d g->Fin P Post {X with dn:=d} 0 g u
 |0,d,g,h=>by obtain⟨rfl,h⟩:=h;exact hK g h
 |n+1,d,g,h=>by
  rcases h with⟨rfl,h⟩|⟨g',es,hh,h⟩
  ·exact hK g h
  ·exact Fin.ot1 (X:={X with dn:=d}) hG hh (Fin.ou1 hG hK n _ g' h)
theorem kd0{x:Nat}:∀e∈#[rdA (stA G),wrA (stA G)],GEv G x e:=by
 intro e he;simp only[List.mem_toArray,List.mem_cons,List.not_mem_nil,or_false]at he;refine⟨fun b hb=>?_,by rcases he with rfl|rfl <;> simp[rdA,wrA]⟩;rcases he with rfl|rfl <;> simp[rdA,wrA,MemAct.ofEvent,MemAct.touch?]at hb <;> subst hb <;> exact⟨⟨stA G,rfl,rfl,Nat.le_refl _⟩,by simp,fun _=>rfl⟩
theorem zl0(d:Nat):deafBehind d #[rdA (stA G),wrA (stA G)]=d:=rfl
theorem Fin.ad1{G:W7}(hG:X.T4=some G)(hp:X.pend=0)(hc:X.cap<65536){K:Goroutine->Prop}(hK:∀g,K g->Fin P Post {X with pend:=1,cap:=X.cap+1,dn:=0} 0 g u):∀(n d:Nat)(g:Goroutine),Rh0 P G K n d g->Fin P Post {X with dn:=d} 0 g u
 |0,d,g,h=>h.elim
 |n+1,d,g,h=>by
  unfold Rh0 at h;rcases h with⟨g',es,hh,h⟩|⟨hr,Ez0⟩
  ·exact Fin.ot1 (X:={X with dn:=d}) hG hh (Fin.ad1 hG hp hc hK n _ g' h)
  ·refine Fin.ex0 hr fun live T gs w sl dd sl' q hg E7 C=>?_;have y8:=(C.T4 G hG).2;have vh0:=C.few;have hp':({X with dn:=d}:Gh).pend=0:=hp;rw[hp',Nat.add_zero]at y8 vh0;have Bg1:count live gs.size <=X.cap:=vh0.1;obtain⟨g',hr',O2,hB⟩:=Ez0 (count live gs.size) Uo;obtain⟨ρ,hs,hlw⟩:=C.sim;have Oc0:=(C.T4 G hG).1;obtain⟨ρ',h1,h2⟩:=j7.setSt hs Oc0 y8 (((count live gs.size+1)*KK:Nat):Int);obtain⟨C',J5⟩:=C.main hG (g:=g) (g':=g') (pend:=1) (cap:=X.cap+1) kd0 (w':=(w.at dd).setCell (stA G) (.int .u64 (((count live gs.size+1)*KK:Nat):Int)))
    ⟨ρ',h1,fun b hb=>(h2 b fun e=>hb (e▸C.gg0 G hG)).trans (hlw b hb)⟩ (fun b hb=>o4 _ _ hb) (y8.setSt _) ⟨by omega,by omega⟩
   refine Ends.step (E7.trans (runT_crowd_go (sl:=sl') (i:=0) hg (O2 _ y8))) ?_;rw[zl0]at C';exact Fin.ou1 (X:={X with pend:=1,cap:=X.cap+1}) hG hK n d g' hB _ _ _ _ _ _ J5 C'
theorem Fin.ends{v:Value}(hr:g.status= .running)(r9:∀i,X.W1 i=none)(Cp0:X.cap=0)(O2:∀w,stepG P true g w= .ended (.done v) w #[])
  (ov1:∀ρ w,j7 ρ (G2 u w.tape w.drawn) w->(∀b,¬X.low b->ρ b=X.D7 b)->Post v w):Fin P Post X 0 g u:=by
 refine Fin.ex0 hr fun live T gs w sl d sl' q hg E7 C=>?_;have hz:count live gs.size+X.pend=0:=by have:=C.few;omega
 have Fb0:∀i,live i=false:=fun i=>by
  rcases Nat.lt_or_ge i gs.size with hi|hi
  ·cases e:live i with
   |false=>rfl
   |true=>have:=count_le hi e;omega
  ·exact(C.above i hi).2.2.1
 have hq:∀i g,i≠0->gs[i]? =some g->QuitsD P (q i) (Deaf T i) g:=fun i g hi hg=>by
  have:=C.idle i g hi hg;unfold Idle at this;rw[r9 i]at this;simp only[Fb0,Bool.false_eq_true,if_false]at this;exact this.2
 have hrt:=runT_many_ended (P:=P) (sl:=sl') (i:=0) hg (O2 (w.at d));rw[show(MemOp.ofEvents 0 g.frame.fn g.frame.place #[]:Array MemOp)=#[] from rfl]at hrt;have rk0:=E7.trans hrt;obtain⟨ρ,hs,hlw⟩:=C.sim;refine⟨0,crowd gs w sl,_,_,T,by simp only[runNT,rk0];simp,rfl,by unfold step;rw[rk0],v,rfl,ov1 ρ (w.at d) hs hlw,C.past.clean,C.past.over (.inl rfl) (fun x hx=>hx.2 (r9 x)),⟨fun x hx=>?_,rfl⟩,fun j x hx hj=>?_⟩
 ·obtain⟨j,hj⟩:=List.mem_iff_getElem?.1 hx;rw[List.getElem?_drop]at hj;exact⟨_,(hq (1+j) x Uo (by simpa [crowd]using hj)).leaves⟩
 ·exact⟨q j,(hq j x hj hx).hears _⟩
end
end
end
section
attribute [local irreducible] KK
section
variable(P:Program)(G:W7)(K:Goroutine->Prop)(E:Nat->Nat->Goroutine->Prop)
def WE:Nat->Nat->Goroutine->Prop
 |0,d,g=>d=0/\K g
 |n+1,d,g=>(d=0/\K g)\/∃g' es,g.status= .running/\(∀e∈es,GEv G 0 e)/\(∀w,GAt G 0 0 w->stepG P true g w= .go g' w es)/\WE n (deafBehind d es) g'
def ey1(n d:Nat)(g:Goroutine):Prop:=
 g.status= .running/\g.offers=none/\(∀w st,GAt G st 0 w->stepG P true g w= .go {g with status:=.blocked} w #[])/\∃g',(∀w,GAt G 0 1 w->stepG P true g w= .go g' (w.setCell (smA G) (.int .u32 0)) (semEvents (smA G)))/\E n d g'
def WS:Nat->Nat->Goroutine->Prop
 |0,_,_=>False
 |n+1,d,g=>(∃g' es,zk0 P G g g' es/\WS n (deafBehind d es) g')\/(0<d/\ey1 P G E n d g)
def WH:Nat->Option Nat->Nat->Nat->Goroutine->Prop
 |0,_,_,_,_=>False
 |n+1,o,V,d,g=>(∃g' es,zk0 P G g g' es/\WH n o V (deafBehind d es) g')\/(g.status= .running/\match o with
  |none=>∀v:Nat,v <=V->∃g',(∀w,GAt G ((v*KK:Nat):Int) 0 w->stepG P true g w= .go g' w #[rdA (stA G)])/\(v=0->E n d g')/\(v≠0->WH n (some v) V d g')
  |some vs=>(∃g',(∀w,GAt G ((vs*KK:Nat):Int) 0 w->stepG P true g w= .go g' (w.setCell (stA G) (.int .u64 ((vs*KK+1:Nat):Int))) #[rdA (stA G),wrA (stA G)])/\WS P G E n d g') /\
    ∀v:Nat,v<vs->∃g',(∀w,GAt G ((v*KK:Nat):Int) 0 w->stepG P true g w= .go g' w #[rdA (stA G)])/\WH n none v d g')
end
inductive Md where
 |free
 |wait
 |last (i s:Nat)
 |done
def Oe0(m:Md)(c:Nat):Int×Int:=match m with
 | .free=>(((c*KK:Nat):Int),0)
 | .wait=>(((c*KK+1:Nat):Int),0)
 | .last _ 0=>(0,0)
 | .last _ (_+1)=>(1,0)
 | .done=>(0,1)
def bj0(lv:Nat->Bool)(m:Md)(i:Nat):Bool:=lv i ||(match m with| .last j _=>i==j|_=>false)
def C8(P:Program)(G:W7)(lv:Nat->Bool)(m:Md)(T:Trace)(i n:Nat)(g:Goroutine):Prop:=
 if lv i then Lt P G n (Deaf T i) g else match m with
  | .last j s=>if i=j then Lst P G n s (Deaf T i) g else QuitsD P n (Deaf T i) g
  |_=>QuitsD P n (Deaf T i) g
def posOf(m:Md)(lv:Nat->Bool)(n:Nat):Prop:=match m with
 | .free=>True
 | .wait=>0<count lv n
 | .last i s=>count lv n=0/\i≠0/\i<n/\lv i=false/\s <=2
 | .done=>count lv n=0
structure Wr(P:Program)(X:Gh)(G:W7)(u:World)(lv:Nat->Bool)(m:Md)(d:Nat)(T:Trace)(gs:Array Goroutine)(w:World)(q:Nat->Nat):Prop where
 base:Base {X with pend:=0,cap:=0,dn:=d} u (bj0 lv m) T gs.size w
 T4:X.T4=some G
 empty:∀i,X.W1 i=none
 idle:∀i g,i≠0->gs[i]? =some g->C8 P G lv m T i (q i) g
 gat:GAt G (Oe0 m (count lv gs.size)).1 (Oe0 m (count lv gs.size)).2 w
 pos:posOf m lv gs.size
 few:count lv gs.size <=65536
theorem C8.status{P:Program}{G:W7}{lv:Nat->Bool}{m:Md}{T:Trace}{i n:Nat}{g:Goroutine}(h:C8 P G lv m T i n g):g.status= .running\/g.status= .finished:=by
 unfold C8 at h;split at h
 ·exact .inl h.running
 ·split at h
  ·split at h
   ·exact .inl h.running
   ·exact h.status
  ·exact h.status
theorem C8.other{P:Program}{G:W7}{lv lv':Nat->Bool}{m m':Md}{T:Trace}{i n x:Nat}{g:Goroutine}(h:C8 P G lv m T i n g)(hx:x≠i){ops:Trace}(ll0:∀op∈ops,op.g=x)(hl:lv' i=lv i)(hm:m'=m\/((∀s,m≠.last i s)/\∀s,m'≠.last i s)):C8 P G lv' m' (T++ops) i n g:=by
 unfold C8 at h⊢;rw[Deaf_other T hx ops ll0,hl];rcases hm with rfl|⟨h1,h2⟩
 ·exact h
 ·cases hlv:lv i with
  |true=>rw[hlv]at h;exact h
  |false=>
   rw[hlv]at h;simp only[Bool.false_eq_true,if_false]at h⊢;have h3:QuitsD P n (Deaf T i) g:=by
    cases m with
    |last j s=>simp only at h;rw[if_neg (fun e=>h1 s (by rw[e]))]at h;exact h
    |_=>exact h
   cases m' with
   |last j s=>simp only;rw[if_neg (fun e=>h2 s (by rw[e]))];exact h3
   |_=>exact h3
section
variable{P:Program}{X:Gh}{G:W7}{u:World}{lv:Nat->Bool}{m:Md}{d:Nat}{T:Trace}{gs:Array Goroutine}{w:World}{q:Nat->Nat}
theorem Wr.move(C:Wr P X G u lv m d T gs w q){i n:Nat}{g g':Goroutine}{es:Array Event}{w':World}{lv':Nat->Bool}{m':Md}{sl:Option (Nat×Nat)}(hi:gs[i]? =some g)(X2:i≠0)(O2:stepG P false g w= .go g' w' es)(hes:∀e∈es,GEv G i e)
  (hu:(∀e∈es,(MemAct.ofEvent e).touch? =none)\/(bj0 lv m i=true/\∀k,k<es.size->deafBehind (Deaf T i) (es.extract 0 k)≠0)) (hus:∀j,bj0 lv' m' j=true->bj0 lv m j=true) (oj0:∃ρ,j7 ρ (G2 u w'.tape w'.drawn) w'/\∀b,¬X.low b->ρ b=X.D7 b) (ch0:∀b,b≠G.blk->w'.heap[b]? =w.heap[b]?)
  (hq:q i=n+1) (Rc0:C8 P G lv' m' (T++MemOp.ofEvents i g.frame.fn g.frame.place es) i n g') (hl:∀j,j≠i->lv' j=lv j) (hm:m'=m\/((∀j,j≠i->∀s,m≠.last j s)/\∀j,j≠i->∀s,m'≠.last j s)) (Ey0:GAt G (Oe0 m' (count lv' gs.size)).1 (Oe0 m' (count lv' gs.size)).2 w')
  (vi0:posOf m' lv' gs.size) (ms0:count lv' gs.size <=count lv gs.size) :
  ∃p9 ops q',runT P (crowd gs w sl) i=(.next (crowd p9 w' sl),ops)/\p9.size=gs.size/\(∀g0,gs[0]? =some g0->p9[0]? =some (woken P g g' w' g0))/\Wr P X G u lv' m' d (T++ops) p9 w' q'/\sumTo p9.size q'<sumTo gs.size q:=by
 have O1:i<gs.size:=(Array.getElem?_eq_some_iff.1 hi).1;have hi0:(i==0)=false:=by simpa using X2
 have H2:((gs.map (woken P g g' w')).setIfInBounds i g').size=gs.size:=by simp
 refine⟨_,_,upd q i n,runT_crowd_go (sl:=sl) hi (by rw[hi0];exact O2),H2,fun g0 h0=>?_,⟨?_,C.T4,C.empty,fun x y hx hy=>?_,by rw[H2];exact Ey0,by rw[H2];exact vi0,by rw[H2];exact Nat.le_trans ms0 C.few⟩,?_⟩
 ·rw[Array.getElem?_setIfInBounds_ne X2,Array.getElem?_map,h0];rfl
 ·rw[H2];exact C.base.step (fn:=g.frame.fn) (pos:=g.frame.place) (G:=G) C.T4 O1 (C.empty i) hes (hu.imp id .inr) hus (fun j hj=>absurd (C.empty j) hj) (by rw[if_neg X2]) oj0 ch0
 ·by_cases e:x=i
  ·subst e;rw[Array.getElem?_setIfInBounds_self_of_lt (by simpa using O1)]at hy;obtain rfl:=Option.some.inj hy;rw[upd_same];exact Rc0
  ·rw[Array.getElem?_setIfInBounds_ne (fun z=>e z.symm),Array.getElem?_map]at hy;obtain⟨y₀,hy₀,rfl⟩:=Option.map_eq_some_iff.1 hy;have h1:=C.idle x y₀ hx hy₀;rw[woken_of_again (again_of_running h1.status w'),upd_ne q n e];exact h1.other (fun z=>e z.symm) T3 (hl x e) (hm.imp id fun z=>⟨z.1 x e,z.2 x e⟩)
 ·rw[H2];have h2:sumTo gs.size (upd q i n)+(n+1)=sumTo gs.size q+n:=by
   have:=sumTo_upd q n id O1;simpa [hq]using this
  omega
end
end
section
attribute [local irreducible] KK
section
variable{G:W7}{x d:Nat}{a:Addr}
theorem Lo0:∀e∈semEvents (smA G),GEv G x e:=by
 intro e he;simp only[semEvents,List.mem_toArray,List.mem_cons,List.not_mem_nil,or_false]at he;refine⟨fun b hb=>?_,by rcases he with rfl|rfl|rfl|rfl <;> simp⟩;rcases he with rfl|rfl|rfl|rfl <;> simp[MemAct.ofEvent,MemAct.touch?]at hb <;> subst hb <;> exact⟨⟨smA G,rfl,rfl,Nat.le_succ _⟩,by simp,fun _=>rfl⟩
theorem Fd0(d:Nat):deafBehind d (semEvents (smA G))=d:=by
 simp[deafBehind,semEvents]
theorem Fe0(hd:0<d):∀k,k<(semEvents (smA G)).size->deafBehind d ((semEvents (smA G)).extract 0 k)≠0:=by
 intro k hk;have hk:k<4:=hk;rcases k with _|_|_|_|k <;> first|omega|(simp[semEvents,deafBehind];try omega)
theorem lv0{es:Array Event}(h:∀e∈es,e.loc≠.mark .disable/\e.loc≠.mark .enable)(k:Nat):deafBehind d (es.extract 0 k)=d:=
 deafBehind_still (fun e he=>h e (by
  obtain⟨j,hj,rfl⟩:=Array.mem_iff_getElem.1 he;simp only[Array.getElem_extract];exact Array.getElem_mem _)) d
theorem Iq0:∀e∈#[rdA (stA G)],GEv G x e:=by
 intro e he;simp only[List.mem_toArray,List.mem_cons,List.not_mem_nil,or_false]at he;subst he;refine⟨fun b hb=>?_,by simp[rdA]⟩;simp[rdA,MemAct.ofEvent,MemAct.touch?]at hb;subst hb;exact⟨⟨stA G,rfl,rfl,Nat.le_refl _⟩,by simp,fun _=>rfl⟩
theorem ie1:∀e∈#[wrA (stA G)],GEv G x e:=by
 intro e he;simp only[List.mem_toArray,List.mem_cons,List.not_mem_nil,or_false]at he;subst he;refine⟨fun b hb=>?_,by simp[wrA]⟩;simp[wrA,MemAct.ofEvent,MemAct.touch?]at hb;subst hb;exact⟨⟨stA G,rfl,rfl,Nat.le_refl _⟩,by simp,fun _=>rfl⟩
theorem Lp0:∀e∈#[rdA a,wrA a],e.loc≠.mark .disable/\e.loc≠.mark .enable:=by
 intro e he;simp only[List.mem_toArray,List.mem_cons,List.not_mem_nil,or_false]at he;rcases he with rfl|rfl <;> exact⟨by simp[rdA,wrA],by simp[rdA,wrA]⟩
theorem mx0:∀e∈#[rdA a],e.loc≠.mark .disable/\e.loc≠.mark .enable:=by
 intro e he;simp only[List.mem_toArray,List.mem_cons,List.not_mem_nil,or_false]at he;subst he;exact⟨by simp[rdA],by simp[rdA]⟩
theorem Ff0:∀e∈#[wrA a],e.loc≠.mark .disable/\e.loc≠.mark .enable:=by
 intro e he;simp only[List.mem_toArray,List.mem_cons,List.not_mem_nil,or_false]at he;subst he;exact⟨by simp[wrA],by simp[wrA]⟩
end
section
variable{P:Program}{X:Gh}{G:W7}{u:World}{lv:Nat->Bool}{m:Md}{d:Nat}{T:Trace}{gs:Array Goroutine}{w:World}{q:Nat->Nat}
theorem Ri0(P:Program)(g g':Goroutine)(w':World)(g0:Goroutine):woken P g g' w' g0=g0\/woken P g g' w' g0=g0.again w':=by
 unfold woken;split
 ·exact .inr rfl
 ·exact .inl rfl
theorem Wr.ro0(C:Wr P X G u lv m d T gs w q)(v:Int):∃ρ,j7 ρ (G2 u (w.setCell (stA G) (.int .u64 v)).tape (w.setCell (stA G) (.int .u64 v)).drawn) (w.setCell (stA G) (.int .u64 v))/\∀b,¬X.low b->ρ b=X.D7 b:=by
 obtain⟨ρ,hs,hlw⟩:=C.base.sim;obtain⟨ρ',h1,h2⟩:=j7.setSt hs (C.base.cut G C.T4) C.gat v;exact⟨ρ',h1,fun b hb=>(h2 b fun e=>hb (e▸C.base.gg0 G C.T4)).trans (hlw b hb)⟩
theorem Wr.Rj0(C:Wr P X G u lv m d T gs w q)(v:Int):∃ρ,j7 ρ (G2 u (w.setCell (smA G) (.int .u32 v)).tape (w.setCell (smA G) (.int .u32 v)).drawn) (w.setCell (smA G) (.int .u32 v))/\∀b,¬X.low b->ρ b=X.D7 b:=by
 obtain⟨ρ,hs,hlw⟩:=C.base.sim;obtain⟨ρ',h1,h2⟩:=j7.setSm hs (C.base.cut G C.T4) C.gat v;exact⟨ρ',h1,fun b hb=>(h2 b fun e=>hb (e▸C.base.gg0 G C.T4)).trans (hlw b hb)⟩
def Rk0(P:Program)(X:Gh)(G:W7)(u:World)(lv:Nat->Bool)(m:Md)(d:Nat)(T:Trace)(gs:Array Goroutine)(w:World)(q:Nat->Nat)(i:Nat)(sl:Option (Nat×Nat)):Prop:=
 ∃p9 ops q' w' lv' m',runT P (crowd gs w sl) i=(.next (crowd p9 w' sl),ops)/\p9.size=gs.size/\(∀g0,gs[0]? =some g0->p9[0]? =some g0\/p9[0]? =some (g0.again w'))/\Wr P X G u lv' m' d (T++ops) p9 w' q'/\sumTo p9.size q'<sumTo gs.size q /\
   count lv' p9.size <=count lv gs.size/\(m= .free↔m'= .free)/\(m'= .done->m= .done\/∀g0,gs[0]? =some g0->p9[0]? =some (g0.again w'))
theorem Wr.by(C:Wr P X G u lv m d T gs w q){i:Nat}{g:Goroutine}{sl:Option (Nat×Nat)}(hi:gs[i]? =some g)(X2:i≠0)(L3:g.status= .running):Rk0 P X G u lv m d T gs w q i sl:=by
 have O1:i<gs.size:=(Array.getElem?_eq_some_iff.1 hi).1;have D5:=C.idle i g X2 hi;have pack:∀{g':Goroutine}{w':World}{lv':Nat->Bool}{m':Md}{es:Array Event},(∃p9 ops q',runT P (crowd gs w sl) i=(.next (crowd p9 w' sl),ops)/\p9.size=gs.size/\(∀g0,gs[0]? =some g0->p9[0]? =some (woken P g g' w' g0))/\Wr P X G u lv' m' d (T++ops) p9 w' q'/\sumTo p9.size q'<sumTo gs.size q) ->
   count lv' gs.size <=count lv gs.size->(m= .free↔m'= .free)->(m'= .done->m= .done\/∀g0,woken P g g' w' g0=g0.again w')->Rk0 P X G u lv m d T gs w q i sl:=by
  rintro g' w' lv' m' es ⟨p9,ops,q',h1,h2,h3,h4,h5⟩ hc hf hd;refine⟨p9,ops,q',w',lv',m',h1,h2,fun g0 h0=>?_,h4,h5,by rw[h2];exact hc,hf,fun e=>(hd e).imp id fun z g0 h0=>?_⟩
  ·rw[h3 g0 h0];rcases Ri0 P g g' w' g0 with e|e <;> rw[e]
   ·exact .inl rfl
   ·exact .inr rfl
  ·rw[h3 g0 h0,z g0]
 unfold C8 at D5;cases hl:lv i with
 |true=>
  rw[hl]at D5;simp only[if_true]at D5;have vi0:=count_le O1 hl;cases hq:q i with
  |zero=>rw[hq]at D5;exact D5.elim
  |succ k=>
   rw[hq]at D5;unfold Lt at D5;rcases D5 with⟨g',es,⟨_,hsy,E7⟩,hL⟩|⟨_,hd0,Ez0⟩
   ·refine pack (es:=es) (C.move (sl:=sl) hi X2 (E7 w _ _ C.gat) (fun e he=>rm0 (hsy e he)) (.inl fun e he=>ik0 (hsy e he)) (fun _ h=>h) C.base.sim (fun _ _=>rfl) hq ?_ (fun _ _=>rfl) (.inl rfl) C.gat C.pos (Nat.le_refl _)) (Nat.le_refl _) Iff.rfl fun e=>.inl e;unfold C8;rw[hl,if_pos rfl,Deaf_own];exact hL
   ·have ms0:=zd0 hl O1;generalize hv:count (upd lv i false) gs.size=v at ms0;have hvb:v<2147483647:=by have:=C.few;omega
    have hdf:bj0 lv m i=true/\∀j,j < #[rdA (stA G),wrA (stA G)].size->deafBehind (Deaf T i) (#[rdA (stA G),wrA (stA G)].extract 0 j)≠0:=⟨by unfold bj0;rw[hl];rfl,fun j _=>by rw[lv0 Lp0];omega⟩
    have hdd:Deaf (T++MemOp.ofEvents i g.frame.fn g.frame.place #[rdA (stA G),wrA (stA G)]) i=Deaf T i:=by rw[Deaf_own];exact deafBehind_still Lp0 _
    have hus:∀(m':Md),(∀j s,m'= .last j s->j=i)->(∀j s,m≠.last j s)->∀j,bj0 (upd lv i false) m' j=true->bj0 lv m j=true:=fun m' hm1 hm2 j hj=>by
     unfold bj0 at hj⊢;by_cases e:j=i
     ·subst e;rw[hl];rfl
     ·rw[upd_ne lv false e]at hj;cases h2:lv j with
      |true=>rfl
      |false=>
       rw[h2]at hj;cases m' with
       |last j' s'=>have:=hm1 j' s' rfl;subst this;simp[e]at hj
       |_=>simp at hj
    cases m with
    |free=>
     obtain⟨g',E7,Fa0,_⟩:=Ez0 v 0 Uo hvb;have hg:GAt G (((v+1)*KK+0:Nat):Int) 0 w:=by have:=C.gat;rw[ms0]at this;exact this
     have O2:=E7 w hg;rw[Nat.add_zero]at O2;refine pack (es:=#[rdA (stA G),wrA (stA G)]) (C.move (sl:=sl) (m':=.free) (lv':=upd lv i false) hi X2 O2 kd0 (.inr hdf) (hus .free (fun _ _ e=>by cases e) (fun _ _ e=>by cases e)) (C.ro0 _) (fun b hb=>o4 _ _ hb) hq ?_ (fun j hj=>upd_ne lv false hj) (.inl rfl) ?_ trivial Uo) Uo Iff.rfl fun e=>.inl e
     ·unfold C8;rw[upd_same,if_neg (by simp),hdd];exact Fa0 Uo
     ·have:=C.gat.setSt ((v*KK:Nat):Int);rw[hv];exact this
    |wait=>
     obtain⟨g',E7,Fa0,ow1⟩:=Ez0 v 1 Uo hvb;have hg:GAt G (((v+1)*KK+1:Nat):Int) 0 w:=by have:=C.gat;rw[ms0]at this;exact this
     have O2:=E7 w hg;by_cases hv0:v=0
     ·subst hv0;refine pack (es:=#[rdA (stA G),wrA (stA G)]) (C.move (sl:=sl) (m':=.last i 2) (lv':=upd lv i false) hi X2 O2 kd0 (.inr hdf) (hus (.last i 2) (fun j s e=>by cases e;rfl) (fun _ _ e=>by cases e)) (C.ro0 _) (fun b hb=>o4 _ _ hb) hq ?_ (fun j hj=>upd_ne lv false hj)
       (.inr ⟨fun j _ s e=>(by cases e),fun j hj s e=>(by cases e;exact hj rfl)⟩) ?_ ⟨hv,X2,O1,upd_same _ _ _,Nat.le_refl _⟩ Uo) Uo ⟨fun e=>(by cases e),fun e=>(by cases e)⟩ fun e=>by cases e
      ·unfold C8;rw[upd_same,if_neg (by simp)];simp only[if_true];rw[hdd];exact ow1 ⟨rfl,rfl⟩
      ·have:=C.gat.setSt ((0*KK+1:Nat):Int);have e1:((0*KK+1:Nat):Int)=1:=by rw[Nat.zero_mul];rfl
       rw[e1]at this⊢;exact this
     ·refine pack (es:=#[rdA (stA G),wrA (stA G)]) (C.move (sl:=sl) (m':=.wait) (lv':=upd lv i false) hi X2 O2 kd0 (.inr hdf) (hus .wait (fun _ _ e=>by cases e) (fun _ _ e=>by cases e)) (C.ro0 _) (fun b hb=>o4 _ _ hb) hq ?_ (fun j hj=>upd_ne lv false hj) (.inl rfl) ?_ (by show 0<count _ _;omega) Uo) Uo Iff.rfl fun e=>.inl e
      ·unfold C8;rw[upd_same,if_neg (by simp),hdd];exact Fa0 Uo
      ·have:=C.gat.setSt ((v*KK+1:Nat):Int);rw[hv];exact this
    |last j s=>have:=C.pos.1;omega
    |done=>have:count lv gs.size=0:=C.pos;omega
 |false=>
  rw[hl]at D5;simp only[Bool.false_eq_true,if_false]at D5;have quit:QuitsD P (q i) (Deaf T i) g->(∀s,m≠.last i s)->Rk0 P X G u lv m d T gs w q i sl:=fun hQ hml=>by
   cases hq:q i with
   |zero=>rw[hq]at hQ;rw[hQ.1]at L3;cases L3
   |succ k=>
    rw[hq]at hQ;rcases hQ with⟨hf,_⟩|⟨_,g',es,hm,E7,hQ⟩
    ·rw[hf]at L3;cases L3
    ·refine pack (es:=es) (C.move (sl:=sl) hi X2 (E7 w) (fun e he=>Rg0 (hm e he)) (.inl fun e he=>touch_mute (hm e he)) (fun _ h=>h) C.base.sim (fun _ _=>rfl) hq ?_ (fun _ _=>rfl) (.inl rfl) C.gat C.pos (Nat.le_refl _)) (Nat.le_refl _) Iff.rfl fun e=>.inl e;unfold C8;rw[hl,if_neg (by simp),Deaf_own];cases m with
     |last j s=>simp only;rw[if_neg (fun e=>hml s (by rw[e]))];exact hQ
     |_=>exact hQ
  cases m with
  |last j s=>
   simp only at D5;by_cases hij:i=j
   ·subst hij;rw[if_pos rfl]at D5;obtain⟨hc0,_,_,_,hs2⟩:=C.pos;have if1:bj0 lv (.last i s) i=true:=by unfold bj0;simp
    cases hq:q i with
    |zero=>rw[hq]at D5;exact D5.elim
    |succ k=>
     rw[hq]at D5;unfold Lst at D5;obtain⟨hd0,D5⟩:=D5;rcases D5 with⟨g',es,⟨_,hsy,E7⟩,hnm,hL⟩|⟨_,D5⟩
     ·refine pack (es:=es) (C.move (sl:=sl) hi X2 (E7 w _ _ C.gat) (fun e he=>rm0 (hsy e he)) (.inl fun e he=>ik0 (hsy e he)) (fun _ h=>h) C.base.sim (fun _ _=>rfl) hq ?_ (fun _ _=>rfl) (.inl rfl) C.gat C.pos (Nat.le_refl _)) (Nat.le_refl _) Iff.rfl fun e=>.inl e;unfold C8;rw[hl,if_neg (by simp)];simp only[if_true];rw[Deaf_own,deafBehind_still hnm];exact hL
     ·rcases s with _|_|_|s
      ·
       simp only at D5;obtain⟨hwk,g',E7,hQ⟩:=D5;have O2:=E7 w C.gat;refine pack (es:=semEvents (smA G)) (C.move (sl:=sl) (m':=.done) (lv':=lv) hi X2 O2 Lo0 (.inr ⟨if1,Fe0 hd0⟩) (fun j hj=>by unfold bj0 at hj⊢;simp at hj;rw[hj];rfl) (C.Rj0 _) (fun b hb=>o4 _ _ hb) hq ?_ (fun _ _=>rfl) (.inr ⟨fun j hj s e=>(by cases e;exact hj rfl),fun j _ s e=>(by cases e)⟩) (C.gat.setSm _) hc0 (Nat.le_refl _)) (Nat.le_refl _) ⟨fun e=>(by cases e),fun e=>(by cases e)⟩ fun _=>.inr fun g0=>?_
       ·unfold C8;rw[hl,if_neg (by simp),Deaf_own,Fd0];exact hQ
       ·unfold woken;rw[if_pos];rw[hwk];rcases hQ.status with e|e <;> rw[e] <;> rfl
      ·simp only at D5;obtain⟨g',E7,hL⟩:=D5;have O2:=E7 w C.gat;refine pack (es:=#[wrA (stA G)]) (C.move (sl:=sl) (m':=.last i 0) (lv':=lv) hi X2 O2 ie1 (.inr ⟨if1,fun j _=>by rw[lv0 Ff0];omega⟩) (fun j hj=>hj) (C.ro0 _) (fun b hb=>o4 _ _ hb) hq ?_ (fun _ _=>rfl) (.inr ⟨fun j hj s e=>(by cases e;exact hj rfl),fun j hj s e=>(by cases e;exact hj rfl)⟩) (C.gat.setSt _) ⟨hc0,X2,O1,hl,by omega⟩ (Nat.le_refl _)) (Nat.le_refl _) ⟨fun e=>(by cases e),fun e=>(by cases e)⟩ fun e=>by cases e
       unfold C8;rw[hl,if_neg (by simp)];simp only[if_true];rw[Deaf_own,deafBehind_still Ff0];exact hL
      ·simp only at D5;obtain⟨g',E7,hL⟩:=D5;have O2:=E7 w C.gat;refine pack (es:=#[rdA (stA G)]) (C.move (sl:=sl) (m':=.last i 1) (lv':=lv) hi X2 O2 Iq0 (.inr ⟨if1,fun j _=>by rw[lv0 mx0];omega⟩) (fun j hj=>hj) C.base.sim (fun b hb=>rfl) hq ?_ (fun _ _=>rfl) (.inr ⟨fun j hj s e=>(by cases e;exact hj rfl),fun j hj s e=>(by cases e;exact hj rfl)⟩) C.gat ⟨hc0,X2,O1,hl,by omega⟩ (Nat.le_refl _)) (Nat.le_refl _) ⟨fun e=>(by cases e),fun e=>(by cases e)⟩ fun e=>by cases e
       unfold C8;rw[hl,if_neg (by simp)];simp only[if_true];rw[Deaf_own,deafBehind_still mx0];exact hL
      ·omega
   ·rw[if_neg hij]at D5;exact quit D5 fun s' e=>by cases e;exact hij rfl
  |free=>exact quit D5 fun s e=>by cases e
  |wait=>exact quit D5 fun s e=>by cases e
  |done=>exact quit D5 fun s e=>by cases e
end
end
section
attribute [local irreducible] KK
theorem rp0{lv:Nat->Bool}:∀{n:Nat},0<count lv n->∃i,i<n/\lv i=true
 |0,h=>by simp[count,sumTo]at h
 |n+1,h=>by
  cases e:lv n with
  |true=>exact⟨n,by omega,e⟩
  |false=>
   have:count lv (n+1)=count lv n:=by
    show sumTo n _+(if lv n then 1 else 0)=_;rw[e];rfl
   obtain⟨i,h1,h2⟩:=rp0 (n:=n) (by rw[<- this];exact h);exact⟨i,by omega,h2⟩
theorem rq0(lv:Nat->Bool):bj0 lv .free=lv:=funext fun i=>by unfold bj0;simp
section
variable{P:Program}{Post:Value->World->Prop}{X:Gh}{G:W7}{u:World}{lv:Nat->Bool}{m:Md}{d:Nat}{T:Trace}{gs:Array Goroutine}{w:World}{q:Nat->Nat}{K:Goroutine->Prop}
theorem Fin.we(hG:X.T4=some G)(hK:∀g,K g->Fin P Post {X with pend:=0,cap:=0,dn:=0} 0 g u):∀(n d:Nat)(g:Goroutine),WE P G K n d g->Fin P Post {X with pend:=0,cap:=0,dn:=d} 0 g u
 |0,d,g,h=>by obtain⟨rfl,h⟩:=h;exact hK g h
 |n+1,d,g,h=>by
  rcases h with⟨rfl,h⟩|⟨g',es,hr,hes,O2,h⟩
  ·exact hK g h
  ·refine Fin.ex0 hr fun live T gs w sl dd sl' q hg E7 C=>?_;have y8:=(C.T4 G hG).2;have vh0:=C.few;have hc:count live gs.size=0:=by have h1:count live gs.size+0 <=0:=vh0.1;omega
   have hz:(((count live gs.size+0)*KK:Nat):Int)=0:=by rw[hc,Nat.zero_add,Nat.zero_mul];rfl
   have wt1:GAt G 0 0 (w.at dd):=by have h2:GAt G (((count live gs.size+0)*KK:Nat):Int) 0 (w.at dd):=y8;rw[hz]at h2;exact h2
   obtain⟨C',J5⟩:=C.main hG (g:=g) (g':=g') (pend:=0) (cap:=0) hes (w':=w.at dd) C.sim (fun _ _=>rfl) y8 vh0;exact Ends.step (E7.trans (runT_crowd_go (sl:=sl') (i:=0) hg (O2 _ wt1))) (Fin.we hG hK n _ g' h _ _ _ _ _ _ J5 C')
theorem Wr.toRing(C:Wr P X G u lv .free d T gs w q)(hc:count lv gs.size=0):Ring P {X with pend:=0,cap:=0,dn:=d} 0 u lv T gs w q:=by
 have B:=C.base;rw[rq0]at B;refine B.ring (fun i g hi hg=>?_) (fun G' e=>?_) ⟨?_,by show(0:Nat) <=65536;omega⟩
 ·have:=C.idle i g hi hg;have O1:i<gs.size:=(Array.getElem?_eq_some_iff.1 hg).1;have hl:lv i=false:=by
   cases e:lv i with
   |false=>rfl
   |true=>have:=count_le O1 e;omega
  unfold C8 at this;unfold Idle;rw[show({X with pend:=0,cap:=0,dn:=d}:Gh).W1 i=none from C.empty i];rw[hl]at this⊢;simp only[Bool.false_eq_true,if_false]at this⊢;exact⟨by omega,this⟩
 ·have e':X.T4=some G':=e;rw[C.T4]at e';obtain rfl:=Option.some.inj e';have:=C.gat;exact this
 ·show count lv gs.size+0 <=0;omega
theorem Wr.at(C:Wr P X G u lv m d T gs w q)(k:Nat):Wr P X G u lv m d T gs (w.at k) q:=
 ⟨⟨let⟨ρ,hs,hl⟩:=C.base.sim;⟨ρ,j7.at hs k,hl⟩,C.base.free,C.base.size,C.base.num,C.base.stays,C.base.chans,C.base.W4,C.base.inj,C.base.D5,C.base.gg0,C.base.cg0,C.base.cut,C.base.old,C.base.above,C.base.ju0,C.base.fq0,C.base.dfn,C.base.past⟩,C.T4,C.empty,C.idle,C.gat,C.pos,C.few⟩
theorem Wr.awake(C:Wr P X G u lv m d T gs w q){a:Goroutine}(ha:gs[0]? =some a)(hs:a.status= .running\/a.status= .blocked):∀g∈gs,awake g:=by
 intro g hg;obtain⟨i,hi,rfl⟩:=Array.mem_iff_getElem.1 hg;by_cases e:i=0
 ·subst e;have:gs[0]=a:=by simpa [Array.getElem?_eq_getElem hi]using ha
  rw[this];exact awake_of (hs.elim .inl fun x=>.inr (.inl x))
 ·exact awake_of ((C.idle i _ e (Array.getElem?_eq_getElem hi)).status.elim .inl fun x=>.inr (.inr x))
theorem Wr.main(C:Wr P X G u lv m d T gs w q){g g':Goroutine}{es:Array Event}{w':World}{m':Md}(hes:∀e∈es,GEv G 0 e)(oj0:∃ρ,j7 ρ (G2 u w'.tape w'.drawn) w'/\∀b,¬X.low b->ρ b=X.D7 b)(ch0:∀b,b≠G.blk->w'.heap[b]? =w.heap[b]?)
  (hm:m'=m\/((∀j s,m≠.last j s)/\∀j s,m'≠.last j s)) (Ey0:GAt G (Oe0 m' (count lv gs.size)).1 (Oe0 m' (count lv gs.size)).2 w') (vi0:posOf m' lv gs.size) :
  Wr P X G u lv m' (deafBehind d es) (T++MemOp.ofEvents 0 g.frame.fn g.frame.place es) ((gs.map (woken P g g' w')).setIfInBounds 0 g') w' q/\((gs.map (woken P g g' w')).setIfInBounds 0 g')[0]? =some g':=by
 have H2:((gs.map (woken P g g' w')).setIfInBounds 0 g').size=gs.size:=by simp
 have hus:∀j,bj0 lv m' j=true->bj0 lv m j=true:=fun j hj=>by
  rcases hm with rfl|⟨h1,h2⟩
  ·exact hj
  ·unfold bj0 at hj⊢;cases m' with
   |last j s=>exact absurd rfl (h2 j s)
   |_=>simp at hj;rw[hj];rfl
 refine⟨⟨?_,C.T4,C.empty,fun x y hx hy=>?_,by rw[H2];exact Ey0,by rw[H2];exact vi0,by rw[H2];exact C.few⟩,Array.getElem?_setIfInBounds_self_of_lt (by simpa using C.base.size)⟩
 ·rw[H2];exact C.base.step (fn:=g.frame.fn) (pos:=g.frame.place) (G:=G) C.T4 C.base.size (C.empty 0) hes (.inr (.inl rfl)) hus (fun j hj=>absurd (C.empty j) hj) (by rw[if_pos rfl]) oj0 ch0
 ·rw[Array.getElem?_setIfInBounds_ne (fun z=>hx z.symm),Array.getElem?_map]at hy;obtain⟨y₀,hy₀,rfl⟩:=Option.map_eq_some_iff.1 hy;have h1:=C.idle x y₀ hx hy₀;rw[woken_of_again (again_of_running h1.status w')];exact h1.other (fun z=>hx z.symm) T3 rfl (hm.imp id fun z=>⟨z.1 x,z.2 x⟩)
theorem again_blocked{g:Goroutine}(hr:g.status= .running)(ho:g.offers=none)(w:World):({g with status:=.blocked}:Goroutine).again w=g:=by
 cases g;simp only at hr ho;subst hr;subst ho;rfl
theorem Fin.sem(hG:X.T4=some G)(hK:∀g,K g->Fin P Post {X with pend:=0,cap:=0,dn:=0} 0 g u):∀(μ n d:Nat) (g:Goroutine) (b:Bool) lv m T gs w sl q,μ=3*sumTo gs.size q+3*n+(if b then 1 else 0)->Wr P X G u lv m d T gs w q->m≠.free->(if b then gs[0]? =some g/\WS P G (WE P G K) n d g else m≠.done/\gs[0]? =some {g with status:=.blocked}/\∃k,n=k+1/\0<d/\ey1 P G (WE P G K) k d g)->Ends P Post (crowd gs w sl) T:=by
 intro μ
 induction μ using Nat.strongRecOn with
 |_ μ ih=>
  intro n d g b lv m T gs w sl q hμ C hmf hb;have ez1:(∃(i:Nat) (g:Goroutine),gs[i]? =some g/\g.status= .running)/\∀g∈gs,awake g:=by
   cases b with
   |true=>
    obtain⟨h0,hW⟩:=hb;have hr:g.status= .running:=by
     cases n with
     |zero=>exact hW.elim
     |succ n=>
      rcases hW with⟨_,_,hh,_⟩|⟨_,hh⟩
      ·exact hh.1
      ·exact hh.1
    exact⟨⟨0,g,h0,hr⟩,C.awake h0 (.inl hr)⟩
   |false=>
    obtain⟨hmd,h0,k,_,_,_⟩:=hb;refine⟨?_,C.awake h0 (.inr rfl)⟩;cases m with
    |free=>exact absurd rfl hmf
    |done=>exact absurd rfl hmd
    |wait=>
     obtain⟨i,hi,hl⟩:=rp0 (show 0<count lv gs.size from C.pos);have hi0:i≠0:=(C.base.ju0 i (by unfold bj0;rw[hl];rfl)).1;have:=C.idle i gs[i] hi0 (Array.getElem?_eq_getElem hi);unfold C8 at this;rw[hl,if_pos rfl]at this;exact⟨i,gs[i],Array.getElem?_eq_getElem hi,this.running⟩
    |last i s=>
     obtain⟨_,hi0,hi,hl,_⟩:=C.pos;have:=C.idle i gs[i] hi0 (Array.getElem?_eq_getElem hi);unfold C8 at this;rw[hl,if_neg (by simp)]at this;simp only[if_true]at this;exact⟨i,gs[i],Array.getElem?_eq_getElem hi,this.running⟩
  obtain⟨i,gi,dd,sl',hi,hgi,O2⟩:=crowd_pick (P:=P) (w:=w) (sl:=sl) ez1.2 ez1.1;have Cd:=C.at dd;by_cases e:i=0
  ·subst e;cases b with
   |false=>obtain⟨_,h0,_⟩:=hb;rw[h0]at hi;obtain rfl:=Option.some.inj hi;cases hgi
   |true=>
    obtain⟨h0,hW⟩:=hb;rw[h0]at hi;obtain rfl:=Option.some.inj hi;cases n with
    |zero=>exact hW.elim
    |succ n=>
     rcases hW with⟨g',es,⟨_,_,hes,E7⟩,hW⟩|⟨hd0,hr,ho,Of0,g',ox1,hE⟩
     ·obtain⟨C',J5⟩:=Cd.main (g:=g) (g':=g') (m':=m) hes Cd.base.sim (fun _ _=>rfl) (.inl rfl) Cd.gat Cd.pos;exact Ends.step (O2.trans (runT_crowd_go (sl:=sl') (i:=0) h0 (E7 _ _ _ Cd.gat))) (ih _ (by simp only[Array.size_setIfInBounds,Array.size_map];rw[hμ];simp only[if_true];omega) n _ g' true lv m _ _ _ sl' q rfl C' hmf ⟨J5,hW⟩)
     ·have blk:m≠.done->(∃st,GAt G st 0 (w.at dd))->Ends P Post (crowd gs w sl) T:=fun hmd ⟨st,y8⟩=>by
       have hgo:=Of0 _ _ y8;have hrt:=runT_crowd_go (P:=P) (sl:=sl') (i:=0) h0 hgo;rw[show(MemOp.ofEvents 0 g.frame.fn g.frame.place #[]:Array MemOp)=#[] from rfl]at hrt;obtain⟨C',J5⟩:=Cd.main (g:=g) (g':={g with status:=.blocked}) (es:=#[]) (m':=m) (fun e he=>by simp at he) Cd.base.sim (fun _ _=>rfl) (.inl rfl) Cd.gat Cd.pos;rw[show(MemOp.ofEvents 0 g.frame.fn g.frame.place #[]:Array MemOp)=#[] from rfl]at C';exact Ends.step (O2.trans hrt) (ih _ (by simp only[Array.size_setIfInBounds,Array.size_map];rw[hμ];simp) (n+1) d g false lv m _ _ _ sl' q rfl C' hmf ⟨hmd,J5,n,rfl,hd0,hr,ho,Of0,g',ox1,hE⟩)
      cases m with
      |free=>exact absurd rfl hmf
      |wait=>exact blk (fun e=>by cases e) ⟨_,Cd.gat⟩
      |last i s=>exact blk (fun e=>by cases e) (by
        have:=Cd.gat;cases s with
        |zero=>exact⟨_,this⟩
        |succ s=>exact⟨_,this⟩)
      |done=>
       obtain⟨C',J5⟩:=Cd.main (g:=g) (g':=g') (es:=semEvents (smA G)) (m':=.free) (w':=(w.at dd).setCell (smA G) (.int .u32 0)) Lo0 (Cd.Rj0 0) (fun b hb=>o4 _ _ hb) (.inr ⟨fun j s e=>(by cases e),fun j s e=>(by cases e)⟩)
        (by
         have h1:count lv gs.size=0:=Cd.pos;have h2:GAt G 0 0 _:=Cd.gat.setSm 0;have h3:(((count lv gs.size)*KK:Nat):Int)=0:=by rw[h1,Nat.zero_mul];rfl
         show GAt G (((count lv gs.size)*KK:Nat):Int) 0 _;rw[h3];exact h2) trivial
       rw[Fd0]at C';have R:=C'.toRing (by simp only[Array.size_setIfInBounds,Array.size_map];exact Cd.pos);exact Ends.step (O2.trans (runT_crowd_go (sl:=sl') (i:=0) h0 (ox1 _ Cd.gat))) (Fin.we hG hK n d g' hE _ _ _ _ sl' _ J5 R)
  ·obtain⟨p9,ops,q',w',lv',m',hrt,H2,h0',C',O1,_,Rl0,oy1⟩:=Cd.by (sl:=sl') hi e hgi
   have ig1:m'≠.free:=fun e=>hmf (Rl0.2 e);refine Ends.step (O2.trans hrt) ?_;cases b with
   |true=>
    obtain⟨h0,hW⟩:=hb;have hr:g.status= .running:=by
     cases n with
     |zero=>exact hW.elim
     |succ n=>
      rcases hW with⟨_,_,hh,_⟩|⟨_,hh⟩
      ·exact hh.1
      ·exact hh.1
    refine ih _ (by rw[hμ];simp only[if_true];omega) n d g true lv' m' _ p9 w' sl' q' rfl C' ig1 ⟨?_,hW⟩;rcases h0' g h0 with z|z
    ·exact z
    ·rw[again_of_running (.inl hr)]at z;exact z
   |false=>
    obtain⟨hmd,h0,k,hk,hd0,ae1⟩:=hb;have hA:p9[0]? =some (({g with status:=.blocked}:Goroutine).again w')->Ends P Post (crowd p9 w' sl') (T++ops):=fun z=>by
     rw[again_blocked ae1.1 ae1.2.1]at z;exact ih _ (by rw[hμ];simp only[if_true];simp;omega) n d g true lv' m' _ p9 w' sl' q' rfl C' ig1 ⟨z,by rw[hk];exact .inr ⟨hd0,ae1⟩⟩
    by_cases hdn:m'= .done
    ·exact hA ((oy1 hdn).resolve_left hmd _ h0)
    ·rcases h0' _ h0 with z|z
     ·exact ih _ (by rw[hμ];simp;omega) n d g false lv' m' _ p9 w' sl' q' rfl C' ig1 ⟨hdn,z,k,hk,hd0,ae1⟩
     ·exact hA z
end
end
section
attribute [local irreducible] KK
section
variable{P:Program}{Post:Value->World->Prop}{X:Gh}{G:W7}{u:World}{K:Goroutine->Prop}
theorem Fin.head(hG:X.T4=some G)(hK:∀g,K g->Fin P Post {X with pend:=0,cap:=0,dn:=0} 0 g u):∀(μ n:Nat) (o:Option Nat) (V d:Nat) (g:Goroutine) lv T gs w sl q,μ=n+sumTo gs.size q->Wr P X G u lv .free d T gs w q->gs[0]? =some g->WH P G (WE P G K) n o V d g->0<d\/True->(match o with|none=>count lv gs.size <=V|some vs=>0<vs/\count lv gs.size <=vs)->Ends P Post (crowd gs w sl) T:=by
 intro μ
 induction μ using Nat.strongRecOn with
 |_ μ ih=>
  intro n o V d g lv T gs w sl q hμ C h0 hW _ hV;cases n with
  |zero=>exact hW.elim
  |succ n=>
   have hr:g.status= .running:=by
    unfold WH at hW;rcases hW with⟨_,_,hh,_⟩|hh
    ·exact hh.1
    ·exact hh.1
   obtain⟨i,gi,dd,sl',hi,hgi,O2⟩:=crowd_pick (P:=P) (w:=w) (sl:=sl) (C.awake h0 (.inl hr)) ⟨0,g,h0,hr⟩;have Cd:=C.at dd;by_cases e:i=0
   ·subst e;rw[h0]at hi;obtain rfl:=Option.some.inj hi;have y8:GAt G ((count lv gs.size*KK:Nat):Int) 0 (w.at dd):=Cd.gat;unfold WH at hW;rcases hW with⟨g',es,⟨_,_,hes,E7⟩,hW⟩|⟨_,hW⟩
    ·obtain⟨C',J5⟩:=Cd.main (g:=g) (g':=g') (m':=.free) hes Cd.base.sim (fun _ _=>rfl) (.inl rfl) Cd.gat Cd.pos;exact Ends.step (O2.trans (runT_crowd_go (sl:=sl') (i:=0) h0 (E7 _ _ _ Cd.gat))) (ih _ (by simp only[Array.size_setIfInBounds,Array.size_map];omega) n o V _ g' lv _ _ _ sl' q rfl C' J5 hW (.inr trivial) (by simpa using hV))
    ·have Rm0:∀g',stepG P true g (w.at dd)= .go g' (w.at dd) #[rdA (stA G)]->(∀T' p9,Wr P X G u lv .free d T' p9 (w.at dd) q->p9.size=gs.size->p9[0]? =some g'->Ends P Post (crowd p9 (w.at dd) sl') T')->Ends P Post (crowd gs w sl) T:=fun g' hgo hk=>by
      obtain⟨C',J5⟩:=Cd.main (g:=g) (g':=g') (es:=#[rdA (stA G)]) (m':=.free) Iq0 Cd.base.sim (fun _ _=>rfl) (.inl rfl) Cd.gat Cd.pos;rw[deafBehind_still mx0]at C';exact Ends.step (O2.trans (runT_crowd_go (sl:=sl') (i:=0) h0 hgo)) (hk _ _ C' (by simp) J5)
     cases o with
     |none=>
      have hV':count lv gs.size <=V:=hV;obtain⟨g',E7,hz,hnz⟩:=hW (count lv gs.size) hV';refine Rm0 g' (E7 _ y8) fun T' p9 C' H2 J5=>?_;by_cases hc:count lv gs.size=0
      ·exact Fin.we hG hK n d g' (hz hc) _ _ _ _ sl' _ J5 (C'.toRing (by rw[H2];exact hc))
      ·exact ih _ (by rw[H2];omega) n (some (count lv gs.size)) V d g' lv T' p9 _ sl' q rfl C' J5 (hnz hc) (.inr trivial) ⟨by omega,by rw[H2];exact Nat.le_refl _⟩
     |some vs=>
      obtain⟨hvs,hle⟩:=hV;obtain⟨⟨g1,Ir0,hS⟩,oz1⟩:=hW;by_cases hc:count lv gs.size=vs
      ·subst hc;obtain⟨C',J5⟩:=Cd.main (g:=g) (g':=g1) (es:=#[rdA (stA G),wrA (stA G)]) (m':=.wait) kd0 (Cd.ro0 ((count lv gs.size*KK+1:Nat):Int)) (fun b hb=>o4 _ _ hb) (.inr ⟨fun j s e=>(by cases e),fun j s e=>(by cases e)⟩) (Cd.gat.setSt _) hvs;rw[zl0]at C';exact Ends.step (O2.trans (runT_crowd_go (sl:=sl') (i:=0) h0 (Ir0 _ y8))) (Fin.sem hG hK _ n d g1 true lv .wait _ _ _ sl' q rfl C' (fun e=>(by cases e)) ⟨J5,hS⟩)
      ·obtain⟨g',E7,hH⟩:=oz1 (count lv gs.size) Uo;refine Rm0 g' (E7 _ y8) fun T' p9 C' H2 J5=>?_;exact ih _ (by rw[H2];omega) n none (count lv gs.size) d g' lv T' p9 _ sl' q rfl C' J5 hH (.inr trivial) (by rw[H2];exact Nat.le_refl _)
   ·obtain⟨p9,ops,q',w',lv',m',hrt,H2,h0',C',O1,y7,Rl0,_⟩:=Cd.by (sl:=sl') hi e hgi
    have hmf:m'= .free:=Rl0.1 rfl;subst hmf;refine Ends.step (O2.trans hrt) (ih _ Uo (n+1) o V d g lv' _ p9 w' sl' q' rfl C' ?_ hW (.inr trivial) ?_)
    ·rcases h0' g h0 with z|z
     ·exact z
     ·rw[again_of_running (.inl hr)]at z;exact z
    ·cases o with
     |none=>exact Nat.le_trans y7 hV
     |some vs=>exact⟨hV.1,Nat.le_trans y7 hV.2⟩
theorem Fin.wait{g:Goroutine}{n:Nat}(hG:X.T4=some G)(r9:∀i,X.W1 i=none)(hp:X.pend=0)(hd:X.dn=0)(hW:WH P G (WE P G K) n none X.cap 0 g)(hK:∀g,K g->Fin P Post {X with pend:=0,cap:=0,dn:=0} 0 g u):Fin P Post X 0 g u:=by
 intro live T gs w sl q hg C;have y8:=(C.T4 G hG).2;have vh0:=C.few;rw[hp,Nat.add_zero]at y8 vh0;have B:=C.base;refine Fin.head hG hK _ n none X.cap 0 g live T gs w sl q rfl ⟨?_,hG,r9,fun i y hi hy=>?_,y8,trivial,by omega⟩ hg hW (.inr trivial) vh0.1
 ·rw[rq0];exact⟨B.sim,B.free,B.size,B.num,B.stays,B.chans,B.W4,B.inj,B.D5,B.gg0,B.cg0,B.cut,B.old,B.above,B.ju0,B.fq0,B.dfn.trans hd,by
   have:=B.past;refine this.fewer fun x hx=>?_;rcases hx with⟨e,_⟩|hx
   ·exact .inl ⟨e,hd⟩
   ·exact .inr hx⟩
 ·have:=C.idle i y hi hy;unfold Idle at this;rw[r9 i]at this;unfold C8;obtain⟨_,this⟩:=this;cases e:live i with
  |true=>
   rw[e]at this;simp only[if_true]at this⊢;obtain⟨G',hG',hL⟩:=this;rw[hG]at hG';obtain rfl:=Option.some.inj hG';exact hL
  |false=>
   rw[e]at this;simp only[Bool.false_eq_true,if_false]at this⊢;exact this
end
end
section
attribute [local irreducible] KK
def il0(w:World):World:={w with heap:=w.heap.map fun o=>if S4 o then nothing else o}
def X0(w:World):Gh where
 W1:=fun _=>none
 stay:=fun _=>[]
 T4:=none
 old:=[]
 D5:=fun _=>none
 chs:=fun _=>False
 low:=fun _=>False
 D7:=fun b=>match w.heap[b]? with
  |some o=>if S4 o then .gone o else .all
  |none=>.all
 cap:=0
 pend:=0
 dn:=0
 n:=1
section
variable{w:World}{b:Nat}
theorem Rn0(w:World)(n:Nat):(X0 w).gh0 n:=
 ⟨fun _ _ h=>(by cases h),fun _ _ h=>(by cases h),fun _ h=>h.elim,fun _ h=>h.elim (fun z=>(by cases z)) fun z=>(by cases z),fun _ h=>h.elim⟩
theorem Lq0(h:w.heap.size <=b):(X0 w).D7 b= .all:=by
 show(match w.heap[b]? with|some o=>if S4 o then O7.gone o else .all|none=>.all)=_;rw[Array.getElem?_eq_none h]
theorem Ro0{o:Obj}(h:w.heap[b]? =some o)(hv:S4 o=false):(il0 w).heap[b]? =some o:=by
 show(w.heap.map _)[b]? =_;rw[Array.getElem?_map,h];simp[hv]
theorem Rp0(w:World):j7 (X0 w).D7 (G2 (il0 w) w.tape w.drawn) w:=by
 refine⟨rfl,rfl,rfl,rfl,by simp[G2,il0],fun b x hx=>?_,fun b hb=>Lq0 (by simpa [G2,il0]using hb),fun b x hx=>?_⟩
 ·have N5:(w.heap.map fun o=>if S4 o then nothing else o)[b]? =some x:=hx;rw[Array.getElem?_map]at N5;obtain⟨o,ho,rfl⟩:=Option.map_eq_some_iff.1 N5;refine⟨o,ho,?_⟩;show ij0 (match w.heap[b]? with|some o=>if S4 o then O7.gone o else .all|none=>.all) _ _;rw[ho];cases hv:S4 o
  ·simp only[hv,Bool.false_eq_true,if_false];exact .same o
  ·simp only[hv,if_true];exact .gone _ _ _
 ·have N5:(w.heap.map fun o=>if S4 o then nothing else o)[b]? =some x:=hx;rw[Array.getElem?_map]at N5;obtain⟨o,ho,rfl⟩:=Option.map_eq_some_iff.1 N5;cases hv:S4 o
  ·simp[hv]
  ·simp[nothing,S4]
theorem Fin.start{P:Program}{Post:Value->World->Prop}{g:Goroutine}(hF:Fin P Post (X0 w) 0 g (il0 w)):Ends P Post (solo g w) #[]:=by
 rw[solo_eq_crowd];have r9:∀i a,touchAt (#[]:Trace) i=some a->False:=fun i a h=>by simp[touchAt,Trace.act?]at h
 refine hF (fun _=>false) #[] #[g] w none (fun _=>0) rfl ⟨⟨_,Rp0 w,fun _ _=>rfl⟩,fun i y hi hy=>?_,rfl,by simp,rfl,fun _ _ h=>(by cases h),fun _ h=>h.elim,fun _ _ h=>(by cases h),fun _ _ _ _ h=>(by cases h),fun _ _ h=>(by cases h),fun _ h=>(by cases h),⟨fun _ h=>h.elim,fun _ h=>h.elim (fun z=>(by cases z)) fun z=>(by cases z)⟩,fun _ h=>(by cases h),fun _ h=>(by cases h),
  fun j hj=>⟨rfl,rfl,rfl,rfl⟩,⟨Nat.le_refl _,by show(0:Nat) <=65536;omega⟩,fun _ h=>(by cases h),fun i hi h=>h.elim (fun z=>absurd rfl z) fun z=>absurd z hi,rfl,⟨fun said=>?_,fun i a h=>(r9 i a h).elim,fun i a h=>(r9 i a h).elim,fun g' hg'=>rfl,fun i a g' h=>(r9 i a h).elim⟩⟩
 ·have:i=0:=by
   have:=(Array.getElem?_eq_some_iff.1 hy).1;simp at this;omega
  exact absurd this hi
 ·rintro⟨i,j,_,⟨a,b,ha,_⟩,_⟩;exact r9 i a ha
end
end
end Go.Yc
end
section
namespace Go.Vy
open Go Go.Conc Go.Yc
inductive Out where
 |val (v:Value)
 |skip
 |enter (f:FuncId) (args:Array Value)
 |panic (v:Value)
def Out.res:Out->World->Result Next
 | .val v,w=>.ok (.value v) w
 | .skip,w=>.ok .skip w
 | .enter f args,w=>.ok (.enter f args) w
 | .panic v,w=>.halt (.panic v) w
def Fg0(P:Program)(S:Sem Next)(u:World)(r:Out)(u':World):Prop:=
 ∀ρ x,j7 ρ u x->Evo u u'/\∃x' es,S.runT P x #[]=(r.res x',es)/\j7 ρ u' x'/\∀e∈es,mt0 u e
structure Does(P:Program)(S:Sem Next)(u:World)(r:Out)(u':World):Prop where
 tape:u'.tape=u.tape
 drawn:u'.drawn=u.drawn
 go:∀τ d,Fg0 P S (G2 u τ d) r (G2 u' τ d)
section
variable{P:Program}{S:Sem Next}{u u':World}{r:Out}
theorem Out.Et0(r:Out)(w:World):Et0 (r.res w):=by cases r <;> trivial
theorem af1(r:Out)(w w':World):atW (r.res w) w'=r.res w':=by cases r <;> rfl
theorem Oh0(r:Out)(w:World):mu0 (r.res w)=w:=by cases r <;> rfl
theorem X7(ht:S0 P S)(hr:S.run P u=r.res u'):Fg0 P S u r u':=by
 intro ρ x hs;have h1:(S.runT P u #[]).1=r.res u':=by rw[Sem.runT_eq];exact hr
 have hf:Yc.Et0 (S.runT P u #[]).1:=by rw[h1];exact r.Et0 u'
 obtain⟨⟨x',h2,h3⟩,h4,h5⟩:=B8 ht hs hf;rw[h1,Oh0]at h3 h4;rw[h1,af1]at h2;exact⟨h4,x',_,h2,h3,fun e he=>(h5 e he).resolve_left (by simp)⟩
theorem Does.N0(ht:S0 P S)(h1:u'.tape=u.tape)(h2:u'.drawn=u.drawn)(hr:∀τ d,S.run P (G2 u τ d)=r.res (G2 u' τ d)):Does P S u r u':=⟨h1,h2,fun τ d=>X7 ht (hr τ d)⟩
end
structure Cl(P:Program)(main:Bool)(Z:Goroutine->World->Prop):Prop where
 own:∀g u,g.status= .running->(∀τ d,∃g' u' d',M6 P main g (G2 u τ d) g' u'/\Z g' (G2 u' u.tape d'))->Z g u
class Ctx(P:Program) where
 main:Bool
 Zs:(Goroutine->World->Prop)->Prop
 cl:∀Z,Zs Z->Cl P main Z
theorem qv0{P:Program}{Post:Value->World->Prop}{X:Gh}{h:Nat}{g:Goroutine}{u:World}{τ:Tape}{d:Nat}(hF:Fin P Post X h g (G2 u τ d)):Fin P Post X h g u:=
 fun live T gs w sl q hg C=>hF live T gs w sl q hg ⟨C.sim,C.idle,C.free,C.size,C.num,C.stays,C.chans,C.W4,C.inj,C.D5,C.gg0,C.cg0,C.T4,C.old,C.above,C.few,C.ju0,C.fq0,C.dfn,C.past⟩
theorem im0(P:Program)(Post:Value->World->Prop)(X:Gh)(h:Nat):Cl P (h==0) (Fin P Post X h):=
 ⟨fun _ _ hr hs=>Fin.own hr fun τ d=>by
  obtain⟨g',u',d',hF,hZ⟩:=hs τ d;exact⟨g',u',hF,qv0 hZ⟩⟩
section
variable{P:Program}{main:Bool}{Z:Goroutine->World->Prop}
theorem Cl.ctl(hZ:Cl P main Z){g g':Goroutine}{u:World}(hr:g.status= .running)(hr':g'.status= .running)(hs:∀w,stepG P main g w= .go g' w #[])(h:Z g' u):Z g u:=
 hZ.own g u hr fun τ d=>⟨g',G2 u τ d,u.drawn,⟨hr',fun ρ w hw=>⟨Evo.refl _,w,#[],hs w,hw,fun e he=>by simp at he⟩⟩,h⟩
end
def Is0(Z:Goroutine->World->Prop)(b:Frame)(k:List Item)(cs:List Frame):Exit->Act->World->Prop
 | .normal,a,w=>Z (G (b.at a k) cs) w
 | .exit id,a,w=>∃k',exitTo id k=some k'/\Z (G (b.at a k') cs) w
 | .goto l,a,w=>∃k',gotoIn l k=some k'/\Z (G (b.at a k') cs) w
 | .ret,a,w=>∀todo,Z (G {b.at a todo with mode:=.returning} cs) w
 | .panic ch,a,w=>∀todo,Z (G {b.at a todo with mode:=.panicking ch} cs) w
 | .outgrown,_,_=>False
theorem Is0.push{Z:Goroutine->World->Prop}{b:Frame}{x:Item}{k:List Item}{cs:List Frame}{e:Exit}{a:Act}{w:World}(hx:x.plain=true)(he:e≠.normal)(h:Is0 Z b k cs e a w):Is0 Z b (x::k) cs e a w:=by
 cases e with
 |normal=>exact absurd rfl he
 |exit id=>obtain⟨k',hk,h⟩:=h;exact⟨k',by cases x <;> simp_all [exitTo,Item.plain],h⟩
 |goto l=>obtain⟨k',hk,h⟩:=h;exact⟨k',by cases x <;> simp_all [gotoIn,Item.plain],h⟩
 |ret=>exact h
 |panic ch=>exact h
 |outgrown=>exact h
def ca0(P:Program)(fn:Func)(tmps:Array Value)(w:World)(v:Value):Prop:=∀τ d ρ x,j7 ρ (G2 w τ d) x->∃x' es,(results fn tmps).runT P x #[]=(.ok v x',es)/\j7 ρ (G2 w τ d) x'/\∀e∈es,mt0 (G2 w τ d) e
def Leaves(P:Program)(fr:Frame)(w:World):Ending->Prop
 | .returned v=>fr.mode= .returning/\fr.defers=[]/\fr.kind= .normal/\∃fn,P.funcs[fr.fn]? =some fn/\ca0 P fn fr.tmps w v
 | .panicked chain=>fr.mode= .panicking chain/\fr.defers=[]/\fr.catches P=false
 | .outgrown=>False
def Calls(P:Program)[Ctx P](f:FuncId)(args:Array Value)(w:World)(R:Ending->World->Prop):Prop:=
 ∀Z,Ctx.Zs P Z->∀cs,(∀e w' fr,R e w'->fr.fn=f->Leaves P fr w' e->Z (G fr cs) w')->Z (G (Frame.enter P f args .normal) cs) w
section
variable{P:Program}{main:Bool}{Z:Goroutine->World->Prop}{fr c:Frame}{cs:List Frame}{w:World}
theorem Calls.mono{P:Program}[Ctx P]{f:FuncId}{args:Array Value}{w:World}{R R':Ending->World->Prop}(h:Calls P f args w R)(hr:∀e w',R e w'->R' e w'):Calls P f args w R':=
 fun Z hZ cs hk=>h Z hZ cs fun e w' fr he hf hl=>hk e w' fr (hr e w' he) hf hl
theorem dv0(hZ:Cl P main Z){v:Value}(h:Leaves P fr w (.returned v))(hk:Z (G (c.finish v) cs) w):Z (G fr (c::cs)) w:=by
 obtain⟨hm,hd,hn,fn,hf,hr⟩:=h;refine hZ.own _ _ rfl fun τ d=>⟨G (c.finish v) cs,G2 w τ d,w.drawn,⟨rfl,fun ρ x hx=>?_⟩,hk⟩
 obtain⟨x',es,L3,N5,hev⟩:=hr τ d ρ x hx;rw[Sem.runT_eq]at L3;obtain⟨h1,h2⟩:=Prod.mk.inj L3;refine⟨Evo.refl _,x',seen P fr.fn es ++ #[],?_,N5,fun e he=>?_⟩
 ·simp[G,stepG,unwind,doReturn,hm,hd,hn,hf,h1,h2,GStep.after]
 ·have j8:e∈seen P fr.fn es:=by simpa using he
  exact hev e (mem_seen j8)
theorem ke0(hZ:Cl P main Z){chain:List PanicEntry}(h:Leaves P fr w (.panicked chain))(hk:Z (G (c.raise chain) cs) w):Z (G fr (c::cs)) w:=by
 obtain⟨hm,hd,hc⟩:=h;exact hZ.ctl rfl rfl (fun w=>by simp[G,stepG,unwind,hm,hd,hc]) hk
end
section
variable{P:Program}[Ctx P]
def pa1(P:Program)[Ctx P](o:Oper)(a:Act)(next:Act->World->Prop)(Q:Exit->Act->World->Prop)(r:Out)(w:World):Prop:=match r with
 | .val v=>next (a.put o.dst v) w
 | .skip=>next (a.put o.dst undef) w
 | .enter f args=>Calls P f args w fun
  | .returned v,w''=>next (a.put o.dst v) w''
  | .panicked chain,w''=>Q (.panic chain) a w''
  | .outgrown,_=>False
 | .panic v=>Q (.panic [{v,recovered:=false}]) a w
def vq0(P:Program)[Ctx P](o:Oper)(a:Act)(w:World)(next:Act->World->Prop)(Q:Exit->Act->World->Prop):Prop:=
 ∀τ d,∃r w',Fg0 P (execOp a.eval o) (G2 w τ d) r w'/\pa1 P o a next Q r (G2 w' w.tape w.drawn)
def wpOps(P:Program)[Ctx P](ops:Array Oper)(Q:Exit->Act->World->Prop):List Nat->Act->World->Prop
 | [],a,w=>Q .normal a w
 |i::rest,a,w=>match ops[i]? with
  |none=>False
  |some o=>if Region.wanted o (yielded ops a.tmps) then vq0 P o a w (wpOps P ops Q rest) Q else wpOps P ops Q rest (a.put o.dst undef) w
def wpList(P:Program)[Ctx P](ops:Array Oper)(Q:Exit->Act->World->Prop):List Oper->Act->World->Prop
 | [],a,w=>Q .normal a w
 |o::rest,a,w=>if Region.wanted o (yielded ops a.tmps) then vq0 P o a w (wpList P ops Q rest) Q else wpList P ops Q rest (a.put o.dst undef) w
def cwp(P:Program)[Ctx P](c:Code)(Q:Exit->Act->World->Prop)(a:Act)(w:World):Prop:=
 ∀Z,Ctx.Zs P Z->∀b k cs,b.kind≠.early->(∀e a' w',Q e a' w'->Is0 Z b k cs e a' w')->Z (G (b.at a (.code c::k)) cs) w
variable{Q Q':Exit->Act->World->Prop}{a:Act}{w:World}{ops:Array Oper}
section
variable{o:Oper}{c:Operand}{id:Nat}{x y:Code}
theorem ky0{next next':Act->World->Prop}(hn:∀a w,next a w->next' a w)(hq:∀e a w,Q e a w->Q' e a w)(h:vq0 P o a w next Q):vq0 P o a w next' Q':=by
 intro τ d;obtain⟨r,w',h1,h2⟩:=h τ d;refine⟨r,w',h1,?_⟩;cases r with
 |val v=>exact hn _ _ h2
 |skip=>exact hn _ _ h2
 |enter f args=>exact Calls.mono h2 fun e w'' he=>by cases e <;> first|exact hn _ _ he|exact hq _ _ _ he|exact he
 |panic v=>exact hq _ _ _ h2
theorem bp0{next:Act->World->Prop}{r:Out}{w':World}(h:Does P (execOp a.eval o) w r w')(hk:pa1 P o a next Q r w'):vq0 P o a w next Q:=by
 intro τ d;refine⟨r,G2 w' τ d,h.go τ d,?_⟩;have:G2 (G2 w' τ d) w.tape w.drawn=w':=by rw[<- h.tape,<- h.drawn];rfl
 rw[this];exact hk
theorem wp_ops:∀(l:List Nat)(a:Act)(w:World),wpOps P ops Q l a w->∀Z,Ctx.Zs P Z->∀b k cs,b.kind≠.early->(∀e a' w',Q e a' w'->Is0 Z b k cs e a' w')->Z (G (b.at a (.inRegion ops l::k)) cs) w
 | [],a,w,h,Z,hZ,b,k,cs,hb,hk=>(Ctx.cl Z hZ).ctl rfl rfl (fun w=>stepG_region_end) (hk _ _ _ h)
 |i::rest,a,w,h,Z,hZ,b,k,cs,hb,hk=>by
  unfold wpOps at h;cases ho:ops[i]? with
  |none=>rw[ho]at h;exact h.elim
  |some o=>
   rw[ho]at h;simp only at h;cases hw:Region.wanted o (yielded ops a.tmps)with
   |false=>
    rw[hw]at h;exact(Ctx.cl Z hZ).ctl rfl rfl (fun w=>stepG_unwanted ho hw) (wp_ops rest _ _ h Z hZ b k cs hb hk)
   |true=>
    rw[hw,if_pos rfl]at h;have eo0:∀v,(b.at a (.inRegion ops (i::rest)::k)).finish v=b.at (a.put o.dst v) (.inRegion ops rest::k):=by
     intro v;rw[Frame.finish_at,ho];rfl
    have Rq0:(b.kind==CallKind.early)=false:=by simpa using hb
    refine(Ctx.cl Z hZ).own _ _ rfl fun τ d=>?_;obtain⟨r,w',hr,hK⟩:=h τ d;have fol:∀g',g'.status= .running->(∀x x' es,(execOp a.eval o).runT P x #[]=(r.res x',es)->stepG P (Ctx.main P) (G (b.at a (.inRegion ops (i::rest)::k)) cs) x= .go g' x' (seen P b.fn es))->M6 P (Ctx.main P) (G (b.at a (.inRegion ops (i::rest)::k)) cs) (G2 w τ d) g' w':=by
     intro g' hg' hs;refine⟨hg',fun ρ x hx=>?_⟩;obtain⟨h1,x',es,h2,h3,h4⟩:=hr ρ x hx;exact⟨h1,x',_,hs x x' es h2,h3,fun e he=>h4 e (mem_seen he)⟩
    have split:∀x x' es,(execOp a.eval o).runT P x #[]=(r.res x',es)->(execOp a.eval o).run P x=r.res x'/\(execOp a.eval o).events P x #[]=es:=fun x x' es h=>by
     rw[Sem.runT_eq]at h;exact Prod.mk.inj h
    cases r with
    |val v=>
     refine⟨G (b.at (a.put o.dst v) (.inRegion ops rest::k)) cs,w',w.drawn,fol _ rfl fun x x' es h=>?_,wp_ops rest _ _ hK Z hZ b k cs hb hk⟩;obtain⟨h1,h2⟩:=split x x' es h;rw[stepG_value ho hw hb h1,listed,h2]
    |skip=>
     refine⟨G (b.at (a.put o.dst undef) (.inRegion ops rest::k)) cs,w',w.drawn,fol _ rfl fun x x' es h=>?_,wp_ops rest _ _ hK Z hZ b k cs hb hk⟩;obtain⟨h1,h2⟩:=split x x' es h;rw[stepG_none ho hw hb h1,listed,h2]
    |enter f args=>
     refine⟨G (Frame.enter P f args .normal) (b.at a (.inRegion ops (i::rest)::k)::cs),w',w.drawn,fol _ rfl fun x x' es h=>?_,hK Z hZ _ fun e w'' fr he hf hl=>?_⟩
     ·obtain⟨h1,h2⟩:=split x x' es h;rw[stepG_enter ho hw hb h1,listed,h2]
     ·cases e with
      |returned v=>
       refine U543 ?_;exact wp_ops rest _ _ he Z hZ b k cs hb hk
      |panicked chain=>
       refine U517 ?_;exact hk _ _ _ he _
      |outgrown=>exact he.elim
    |panic v=>
     refine⟨G {b.at a (.inRegion ops (i::rest)::k)with mode:=.panicking [{v,recovered:=false}]} cs,w',w.drawn,fol _ rfl fun x x' es h=>?_,hk _ _ _ hK _⟩;obtain⟨h1,h2⟩:=split x x' es h;have h1':(execOp a.eval o).run P x= .halt (.panic v) x':=h1;rw[stepG_oper ho hw];simp[stepG.apply,h1',h2,G,Frame.at,Rq0,GStep.after,Frame.raise]
theorem wp_mono{c:Code}(h:cwp P c Q a w)(hq:∀e a w,Q e a w->Q' e a w):cwp P c Q' a w:=fun Z hZ b k cs hb hk=>h Z hZ b k cs hb fun e a' w' he=>hk e a' w' (hq e a' w' he)
theorem wp_skip(h:Q .normal a w):cwp P .skip Q a w:=fun Z hZ _b _k _cs _hb hk=>(Ctx.cl Z hZ).ctl rfl rfl (fun _=>stepG_skip) (hk _ _ _ h)
theorem wp_exit(h:Q (.exit id) a w):cwp P (.exit id) Q a w:=fun Z hZ b k cs hb hk=>by
 obtain⟨k',h1,h2⟩:=hk _ _ _ h;exact(Ctx.cl Z hZ).ctl rfl rfl (fun _=>stepG_exit h1) h2
theorem wp_ret(h:Q .ret a w):cwp P .ret Q a w:=fun Z hZ _b _k _cs _hb hk=>(Ctx.cl Z hZ).ctl rfl rfl (fun _=>stepG_ret') (hk _ _ _ h _)
theorem wp_seq(h:cwp P x (Exit.then (cwp P y Q) Q) a w):cwp P (.seq x y) Q a w:=by
 intro Z hZ b k cs hb hk;refine(Ctx.cl Z hZ).ctl rfl rfl (fun _=>stepG_seq) (h Z hZ b (.code y::k) cs hb fun e a' w' he=>?_);cases e with
 |normal=>exact he Z hZ b k cs hb hk
 |exit id=>exact(hk _ _ _ he).push rfl (by simp)
 |goto l=>exact(hk _ _ _ he).push rfl (by simp)
 |ret=>exact(hk _ _ _ he).push rfl (by simp)
 |panic ch=>exact(hk _ _ _ he).push rfl (by simp)
 |outgrown=>exact(hk _ _ _ he).push rfl (by simp)
theorem wp_cond{t:Bool}(hc:a.eval c= .bool t)(h:cwp P (if t then x else y) Q a w):cwp P (.cond c x y) Q a w:=
 fun Z hZ b k cs hb hk=>(Ctx.cl Z hZ).ctl rfl rfl (fun _=>stepG_cond hc) (h Z hZ b k cs hb hk)
theorem wp_cond_true(hc:a.eval c= .bool true)(h:cwp P x Q a w):cwp P (.cond c x y) Q a w:=wp_cond hc h
theorem wp_cond_false(hc:a.eval c= .bool false)(h:cwp P y Q a w):cwp P (.cond c x y) Q a w:=wp_cond hc h
theorem wp_block{c:Code}(h:cwp P c (Exit.inBlock id Q) a w):cwp P (.block id c) Q a w:=by
 intro Z hZ b k cs hb hk;refine(Ctx.cl Z hZ).ctl rfl rfl (fun _=>stepG_block) (h Z hZ b (.inBlock id::k) cs hb fun e a' w' he=>?_);cases e with
 |normal=>exact(Ctx.cl Z hZ).ctl rfl rfl (fun _=>stepG_inBlock) (hk _ _ _ he)
 |exit id'=>
  by_cases D5:id'=id
  ·simp only[Exit.inBlock,D5,if_true]at he;exact⟨k,by simp[exitTo,D5],hk _ _ _ he⟩
  ·simp only[Exit.inBlock,D5,if_false]at he;obtain⟨k',h1,h2⟩:=hk _ _ _ he;have:(id==id')=false:=by simp;exact fun h=>D5 h.symm
   exact⟨k',by simp[exitTo,this,h1],h2⟩
 |goto l=>
  obtain⟨k',h1,h2⟩:=hk _ _ _ he;exact⟨k',by simp[gotoIn,h1],h2⟩
 |ret=>exact hk _ _ _ he
 |panic ch=>exact hk _ _ _ he
 |outgrown=>exact hk _ _ _ he
theorem wp_loop_ghost{c:Code}(I:Nat->Act->World->Prop)(k₀:Nat)(h₀:I k₀ a w)(round:∀n a w,I n a w->cwp P c (Exit.then (fun a' w'=>∃n',n'<n/\I n' a' w') Q) a w):cwp P (.loop c) Q a w:=by
 intro Z hZ b k cs hb hk;have key:∀n a w,I n a w->Z (G (b.at a (.code c :: .inLoop c::k)) cs) w:=by
  intro n
  induction n using Nat.strongRecOn with
  |_ n ih=>
   intro a w hI;refine round n a w hI Z hZ b (.inLoop c::k) cs hb fun e a' w' he=>?_;cases e with
   |normal=>
    obtain⟨n',hn,hI'⟩:=he;exact(Ctx.cl Z hZ).ctl rfl rfl (fun _=>stepG_inLoop) (ih n' hn a' w' hI')
   |exit id=>exact(hk _ _ _ he).push rfl (by simp)
   |goto l=>exact(hk _ _ _ he).push rfl (by simp)
   |ret=>exact(hk _ _ _ he).push rfl (by simp)
   |panic ch=>exact(hk _ _ _ he).push rfl (by simp)
   |outgrown=>exact(hk _ _ _ he).push rfl (by simp)
 exact(Ctx.cl Z hZ).ctl rfl rfl (fun _=>stepG_loop) (key k₀ a w h₀)
theorem rr0(pre:List Oper):∀(l:List Oper)(a:Act)(w:World),wpList P (pre++l).toArray Q l a w->wpOps P (pre++l).toArray Q ((List.range l.length).map (pre.length + ·)) a w
 | [],_,_,h=>h
 |o::l,a,w,h=>by
  have h0:(pre++o::l).toArray[pre.length]? =some o:=by simp
  have e:(List.range (o::l).length).map (pre.length + ·)=pre.length::(List.range l.length).map ((pre ++ [o]).length + ·):=by
   simp[List.range_succ_eq_map,List.map_map];intro x _;omega
  rw[e];unfold wpOps;rw[h0];simp only;unfold wpList at h;have key:∀a w,wpList P (pre++o::l).toArray Q l a w->wpOps P (pre++o::l).toArray Q ((List.range l.length).map ((pre ++ [o]).length + ·)) a w:=fun a w hh=>by
   have:=rr0 (pre ++ [o]) l a w;rw[List.append_assoc]at this;exact this hh
  split
  ·rename_i hw;rw[if_pos hw]at h;exact ky0 key (fun _ _ _ z=>z) h
  ·rename_i hw;rw[if_neg hw]at h;exact key _ _ h
theorem wp_region_lit{l:List Oper}(h:wpList P l.toArray Q l a w):cwp P (.region id l.toArray false) Q a w:=by
 intro Z hZ b k cs hb hk;refine(Ctx.cl Z hZ).ctl rfl rfl (fun _=>stepG_region) (wp_ops _ _ _ ?_ Z hZ b k cs hb hk);have:=rr0 (P:=P) (Q:=Q) [] l a w;simp only[List.nil_append,List.length_nil,Nat.zero_add,List.map_id']at this;simpa using this h
theorem wp_region_draw(h:∀t,wpOps P ops Q (Region.schedule (P.follows .mixedOrders) ops t) a {w with drawn:=w.drawn+1}):cwp P (.region id ops true) Q a w:=by
 intro Z hZ b k cs hb hk;refine(Ctx.cl Z hZ).own _ _ rfl fun τ d=>?_;refine⟨G (b.at a (.inRegion ops (Region.schedule (P.follows .mixedOrders) ops (τ d (.order b.fn id)))::k)) cs,{G2 w τ d with drawn:=d+1},w.drawn+1,⟨rfl,fun ρ x hx=>⟨⟨Nat.le_refl _,fun _ o ho=>⟨o,ho,P4.refl o⟩⟩,{x with drawn:=x.drawn+1},#[],?_,?_,fun e he=>by simp at he⟩⟩,wp_ops _ _ _ (h _) Z hZ b k cs hb hk⟩
 ·rw[stepG_region_draw,hx.tape,hx.drawn];rfl
 ·exact⟨hx.os,hx.output,hx.tape,by show x.drawn+1=d+1;rw[hx.drawn];rfl,hx.size,hx.obj,hx.new,hx.k9⟩
end
def bodyPost(P:Program)[Ctx P](fn:Func)(R:Ending->World->Prop):Exit->Act->World->Prop
 | .normal,a,w| .ret,a,w=>a.defers=[]/\∃v,ca0 P fn a.tmps w v/\R (.returned v) w
 | .panic chain,a,w=>a.defers=[]/\R (.panicked chain) w
 |_,_,_=>False
theorem calls_of_wp{f:FuncId}{fn:Func}{c:Code}{args:Array Value}{R:Ending->World->Prop}(hf:P.funcs[f]? =some fn)(hb:fn.body=some c)
  (h:cwp P c (bodyPost P fn R) {tmps:=args++Array.replicate (fn.ntmps-args.size) undef,defers:=[]} w):Calls P f args w R:=by
 intro Z hZ cs hk;rw[enter_at args hf hb];refine h Z hZ (base f) [] cs (by simp[base]) fun e a' w' he=>?_;have db0:∀a' w' todo,(a'.defers=[]/\∃v,ca0 P fn a'.tmps w' v/\R (.returned v) w')->Z (G {(base f).at a' todo with mode:=.returning} cs) w':=fun a' w' todo ⟨hd,v,hr,hR⟩=>
  hk _ _ _ hR rfl ⟨rfl,hd,rfl,fn,hf,hr⟩
 cases e with
 |normal=>exact(Ctx.cl Z hZ).ctl rfl rfl (fun _=>stepG_end) (db0 a' w' [] he)
 |ret=>exact fun todo=>db0 a' w' todo he
 |panic chain=>exact fun todo=>hk _ _ _ he.2 rfl ⟨rfl,he.1,by simp[Frame.catches,Frame.at,base,hf]⟩
 |exit id=>exact he.elim
 |goto l=>exact he.elim
 |outgrown=>exact he.elim
end
end Go.Vy
end
section
namespace Go.Yc
open Go
section
section
variable{α β:Type}{P:Program}{s:Sem α}{f:α->Sem β}
theorem M0(a:α):S0 P (pure a:Sem α):=trivial
theorem O0(h:S0 P s)(hf:∀a,S0 P (f a)):S0 P (s >>=f):=V7 hf h
theorem fa1{f:α->β}(h:S0 P s):S0 P (f <$> s):=V7 (f:=fun a=>pure (f a)) (fun _=>trivial) h
theorem E3(h:Halt):S0 P (.halt h:Sem α):=trivial
theorem dw0(a:Addr)(m:Mode):S0 P (load a m):=fun _=>trivial
theorem aj0(a:Addr)(v:Value)(m:Mode):S0 P (store a v m):=trivial
theorem jl0{o:Obj}(h:S4 o=false):S0 P (newObj o):=⟨h,fun _=>trivial⟩
theorem N6(q:Question):S0 P (choose q):=fun _=>trivial
theorem X5:S0 P program:=trivial
theorem O6(r:Nat):S0 P (getObj r):=fun _=>trivial
theorem C4(s:String):S0 P (stuck s:Sem α):=trivial
theorem j2(s:Unsupported):S0 P (unsupported s:Sem α):=trivial
theorem S8(v:Value):S0 P (goPanic v:Sem α):=trivial
theorem n7(n:Nat):S0 P (askRoom n):=by
 unfold askRoom;split
 ·show(if Im0 Mark.noRoom=true then S0 P (Sem.pure ()) else dead P (Sem.pure ()));exact trivial
 ·trivial
theorem Rr0{α β:Type}{P:Program}{f:α->Sem β}(hf:∀a,S0 P (f a)):∀(l:List α),S0 P (l.mapM f)
 | []=>by rw[List.mapM_nil];trivial
 |x::l=>by
  rw[List.mapM_cons];exact O0 (hf x) fun _=>O0 (Rr0 hf l) fun _=>trivial
theorem S1(hf:∀a,S0 P (f a))(l:Array α):S0 P (l.mapM f):=by
 rw[Array.mapM_eq_mapM_toList];exact fa1 (Rr0 hf _)
end
attribute [local irreducible] S0 dead
section
variable{P:Program}{α:Type}
theorem u5(t:TypeId):S0 P (typeInfo t):=by
 unfold typeInfo
 repeat' (first|exact M0 _|exact E3 _|exact X5|(refine O0 ?_ (fun _=>?_))|(refine S1 (fun _=>?_) _)|split|(dsimp only))
theorem M1(t:TypeId):S0 P (underlying t):=by
 unfold underlying
 repeat' (first|exact M0 _|exact E3 _|exact X5|(refine O0 ?_ (fun _=>?_))|(refine S1 (fun _=>?_) _)|split|(dsimp only))
theorem T9(t:TypeId):S0 P (typeStr t):=by
 unfold typeStr
 repeat' (first|exact M0 _|exact E3 _|exact M1 _|exact u5 _|exact n7 _|exact S8 _|exact j2 _|exact C4 _|exact O6 _|exact X5|exact N6 _|exact jl0 rfl|exact aj0 _ _ _|exact dw0 _ _|(refine O0 ?_ (fun _=>?_))|(refine S1 (fun _=>?_) _)|split|(dsimp only))
theorem I3(t:TypeId):S0 P (zeroValue t):=by
 unfold zeroValue
 repeat' (first|exact M0 _|exact E3 _|exact u5 _|(refine O0 ?_ (fun _=>?_))|(refine S1 (fun _=>?_) _)|split|(dsimp only))
theorem Q4(t:TypeId):S0 P (sizeOf t):=by
 unfold sizeOf
 repeat' (first|exact M0 _|exact u5 _|(refine O0 ?_ (fun _=>?_))|(refine S1 (fun _=>?_) _)|split|(dsimp only))
theorem ak0(t:TypeId):S0 P (isAgg t):=by
 unfold isAgg
 repeat' (first|exact M0 _|exact M1 _|(refine O0 ?_ (fun _=>?_))|(refine S1 (fun _=>?_) _)|split|(dsimp only))
theorem A4{P:Program}(a:Addr):∀(n i:Nat)(acc:Array Value),S0 P (loadCellsFrom a i n acc)
 |0,_,_=>by unfold loadCellsFrom;exact M0 _
 |n+1,i,acc=>by
  unfold loadCellsFrom;exact O0 (dw0 _ _) fun _=>A4 a n _ _
theorem O5(a:Addr)(n:Nat):S0 P (loadCells a n):=by
 unfold loadCells
 repeat' (first|exact A4 _ _ _ _|(refine O0 ?_ (fun _=>?_))|(refine S1 (fun _=>?_) _)|split|(dsimp only))
theorem D4{P:Program}(a:Addr):∀(vs:List Value)(i:Nat),S0 P (storeCells a vs i)
 | [],_=>by unfold storeCells;exact M0 _
 |v::vs,i=>by
  unfold storeCells;exact O0 (aj0 _ _ _) fun _=>D4 a vs _
theorem Y7(t:TypeId)(a:Addr):S0 P (loadVar t a):=by
 unfold loadVar
 repeat' (first|exact M0 _|exact O5 _ _|exact ak0 _|exact Q4 _|exact dw0 _ _|(refine O0 ?_ (fun _=>?_))|(refine S1 (fun _=>?_) _)|split|(dsimp only))
theorem Z6(t:TypeId)(a:Addr)(v:Value):S0 P (storeVar t a v):=by
 unfold storeVar
 repeat' (first|exact E3 _|exact D4 _ _ _|exact Q4 _|(refine O0 ?_ (fun _=>?_))|(refine S1 (fun _=>?_) _)|split|(dsimp only))
theorem P7(t:TypeId)(c:Array Value):S0 P (newRow t c):=by
 unfold newRow
 repeat' (first|exact M0 _|exact jl0 rfl|(refine O0 ?_ (fun _=>?_))|(refine S1 (fun _=>?_) _)|split|(dsimp only))
theorem D8(t:TypeId)(v:Value):S0 P (newVar t v):=by
 unfold newVar
 repeat' (first|exact P7 _ _|(refine O0 ?_ (fun _=>?_))|(refine S1 (fun _=>?_) _)|split|(dsimp only))
theorem al0(t:TypeId):S0 P (elemOf t):=by
 unfold elemOf
 repeat' (first|exact M0 _|exact E3 _|exact M1 _|(refine O0 ?_ (fun _=>?_))|(refine S1 (fun _=>?_) _)|split|(dsimp only))
theorem am0(t:TypeId)(c:Array Value)(o:Nat):S0 P (part t c o):=by
 unfold part
 repeat' (first|exact M0 _|exact E3 _|exact ak0 _|exact Q4 _|(refine O0 ?_ (fun _=>?_))|(refine S1 (fun _=>?_) _)|split|(dsimp only))
theorem C2(e:RuntimeError):S0 P (runtimePanic e:Sem α):=by
 unfold runtimePanic
 repeat' (first|exact E3 _|exact al0 _|exact D8 _ _|exact X5|(refine O0 ?_ (fun _=>?_))|(refine S1 (fun _=>?_) _)|split|(dsimp only))
theorem p5(k:IntKind)(x y:Int)(c:BoundsCode):S0 P (boundsPanic k x y c:Sem α):=by
 unfold boundsPanic
 repeat' (first|exact M0 _|exact fa1 (N6 _)|exact C2 _|exact N6 _|(refine O0 ?_ (fun _=>?_))|(refine S1 (fun _=>?_) _)|split|(dsimp only))
theorem o7(v:Value):S0 P (asIntOf v):=by
 unfold asIntOf
 repeat' (first|exact M0 _|exact E3 _|(refine O0 ?_ (fun _=>?_))|(refine S1 (fun _=>?_) _)|split|(dsimp only))
theorem J9(v:Value):S0 P (asInt v):=by
 unfold asInt
 repeat' (first|exact M0 _|exact o7 _|(refine O0 ?_ (fun _=>?_))|(refine S1 (fun _=>?_) _)|split|(dsimp only))
theorem an0(v:Value):S0 P (asBool v):=by
 unfold asBool
 repeat' (first|exact M0 _|exact E3 _|(refine O0 ?_ (fun _=>?_))|(refine S1 (fun _=>?_) _)|split|(dsimp only))
theorem N9(v:Value):S0 P (asString v):=by
 unfold asString
 repeat' (first|exact M0 _|exact E3 _|exact an0 _|exact J9 _|exact o7 _|exact p5 _ _ _ _|exact C2 _|exact am0 _ _ _|exact al0 _|exact D8 _ _|exact P7 _ _|exact Z6 _ _ _|exact Y7 _ _|exact D4 _ _ _|exact O5 _ _|exact A4 _ _ _ _|exact ak0 _|exact Q4 _|exact I3 _|exact T9 _|exact M1 _|exact u5 _|exact n7 _|exact S8 _|exact j2 _|exact C4 _|exact O6 _|exact X5|exact N6 _|exact jl0 rfl|exact aj0 _ _ _|exact dw0 _ _|(refine O0 ?_ (fun _=>?_))|(refine S1 (fun _=>?_) _)|split|(dsimp only))
theorem ey0(v:Value):S0 P (asAgg v):=by
 unfold asAgg
 repeat' (first|exact M0 _|exact E3 _|(refine O0 ?_ (fun _=>?_))|(refine S1 (fun _=>?_) _)|split|(dsimp only))
theorem v9(v:Value):S0 P (asAddr v):=by
 unfold asAddr
 repeat' (first|exact M0 _|exact E3 _|exact C2 _|(refine O0 ?_ (fun _=>?_))|(refine S1 (fun _=>?_) _)|split|(dsimp only))
theorem ez0(t:TypeId)(h:Bool)(o:Value):S0 P (Instr.alloc t h o):=by
 unfold Instr.alloc
 repeat' (first|exact M0 _|exact D8 _ _|exact Z6 _ _ _|exact I3 _|(refine O0 ?_ (fun _=>?_))|(refine S1 (fun _=>?_) _)|split|(dsimp only))
theorem pq0(t:TypeId)(v:Value):S0 P (Instr.box t v):=by
 unfold Instr.box
 repeat' (first|exact M0 _|exact D8 _ _|(refine O0 ?_ (fun _=>?_))|(refine S1 (fun _=>?_) _)|split|(dsimp only))
theorem fa0(t:TypeId)(p:Array (Nat×Value)):S0 P (Instr.build t p):=by
 unfold Instr.build
 repeat' (first|exact M0 _|exact E3 _|exact Q4 _|exact I3 _|exact M1 _|(refine O0 ?_ (fun _=>?_))|(refine S1 (fun _=>?_) _)|split|(dsimp only))
theorem P6(t:TypeId)(n:Nat)(p:Array (Nat×Value)):S0 P (Instr.buildSlice t n p):=by
 unfold Instr.buildSlice
 repeat' (first|exact M0 _|exact E3 _|exact P7 _ _|exact Q4 _|exact I3 _|exact M1 _|(refine O0 ?_ (fun _=>?_))|(refine S1 (fun _=>?_) _)|split|(dsimp only))
theorem b6(v:Value):S0 P (Instr.sureAddr v):=by
 unfold Instr.sureAddr
 repeat' (first|exact M0 _|exact E3 _|(refine O0 ?_ (fun _=>?_))|(refine S1 (fun _=>?_) _)|split|(dsimp only))
theorem ci0(t:TypeId)(v:Value):S0 P (Instr.loadAt t v):=by
 unfold Instr.loadAt
 repeat' (first|exact b6 _|exact Y7 _ _|(refine O0 ?_ (fun _=>?_))|(refine S1 (fun _=>?_) _)|split|(dsimp only))
theorem V9(t:TypeId)(v x:Value):S0 P (Instr.storeAt t v x):=by
 unfold Instr.storeAt
 repeat' (first|exact b6 _|exact Z6 _ _ _|(refine O0 ?_ (fun _=>?_))|(refine S1 (fun _=>?_) _)|split|(dsimp only))
theorem W9(t:TypeId)(v x:Value):S0 P (Instr.indexAt t v x):=by
 unfold Instr.indexAt
 repeat' (first|exact M0 _|exact E3 _|exact b6 _|exact o7 _|exact p5 _ _ _ _|exact Q4 _|exact M1 _|(refine O0 ?_ (fun _=>?_))|(refine S1 (fun _=>?_) _)|split|(dsimp only))
theorem X9(v:Value)(n:Nat):S0 P (Instr.extract v n):=by
 unfold Instr.extract
 repeat' (first|exact M0 _|exact E3 _|(refine O0 ?_ (fun _=>?_))|(refine S1 (fun _=>?_) _)|split|(dsimp only))
theorem fb0(t:TypeId)(v:Value)(n:Nat):S0 P (Instr.field t v n):=by
 unfold Instr.field
 repeat' (first|exact E3 _|exact ey0 _|exact am0 _ _ _|exact M1 _|(refine O0 ?_ (fun _=>?_))|(refine S1 (fun _=>?_) _)|split|(dsimp only))
theorem z5(t:TypeId)(v:Value):S0 P (Instr.makeInterface t v):=by
 unfold Instr.makeInterface
 repeat' (first|exact M0 _|exact E3 _|exact M1 _|(refine O0 ?_ (fun _=>?_))|(refine S1 (fun _=>?_) _)|split|(dsimp only))
theorem z7(t:TypeId)(a b:Value):S0 P (Instr.makeSlice t a b):=by
 unfold Instr.makeSlice
 repeat' (first|exact M0 _|exact E3 _|exact J9 _|exact C2 _|exact P7 _ _|exact Q4 _|exact I3 _|exact M1 _|exact u5 _|exact n7 _|exact N6 _|(refine O0 ?_ (fun _=>?_))|(refine S1 (fun _=>?_) _)|split|(dsimp only))
theorem E8(t:TypeId)(a:Value):S0 P (Instr.makeChan t a):=by
 unfold Instr.makeChan
 repeat' (first|exact M0 _|exact E3 _|exact J9 _|exact C2 _|exact M1 _|exact u5 _|exact jl0 rfl|(refine O0 ?_ (fun _=>?_))|(refine S1 (fun _=>?_) _)|split|(dsimp only))
theorem Q6(x:Value)(y:Nat)(c:BoundsCode):S0 P (Instr.sliceBound x y c):=by
 unfold Instr.sliceBound
 repeat' (first|exact M0 _|exact o7 _|exact p5 _ _ _ _|(refine O0 ?_ (fun _=>?_))|(refine S1 (fun _=>?_) _)|split|(dsimp only))
theorem K5(b:Bool)(l c:Nat)(x y z:Option Value):S0 P (Instr.sliceBounds b l c x y z):=by
 unfold Instr.sliceBounds
 repeat' (first|exact M0 _|exact E3 _|exact Q6 _ _ _|(refine O0 ?_ (fun _=>?_))|(refine S1 (fun _=>?_) _)|split|(dsimp only))
theorem fc0(t:TypeId)(v:Value)(x y z:Option Value):S0 P (Instr.slice t v x y z):=by
 unfold Instr.slice
 repeat' (first|exact M0 _|exact E3 _|exact K5 _ _ _ _ _ _|exact v9 _|exact Q4 _|exact M1 _|(refine O0 ?_ (fun _=>?_))|(refine S1 (fun _=>?_) _)|split|(dsimp only))
theorem Y9(t:TypeId)(v:Value)(x y z:Option Value):S0 P (Instr.sliceAt t v x y z):=by
 unfold Instr.sliceAt
 repeat' (first|exact M0 _|exact fc0 _ _ _ _ _|exact K5 _ _ _ _ _ _|exact b6 _|exact Q4 _|exact M1 _|(refine O0 ?_ (fun _=>?_))|(refine S1 (fun _=>?_) _)|split|(dsimp only))
theorem bq0(o:BinOp)(k:IntKind)(x y:Int):S0 P (Op.intArith o k x y):=by
 unfold Op.intArith
 repeat' (first|exact M0 _|exact E3 _|exact Y9 _ _ _ _ _|exact fc0 _ _ _ _ _|exact K5 _ _ _ _ _ _|exact Q6 _ _ _|exact E8 _ _|exact z7 _ _ _|exact z5 _ _|exact fb0 _ _ _|exact X9 _ _|exact W9 _ _ _|exact V9 _ _ _|exact ci0 _ _|exact b6 _|exact P6 _ _ _|exact fa0 _ _|exact pq0 _ _|exact ez0 _ _ _|exact v9 _|exact ey0 _|exact N9 _|exact an0 _|exact J9 _|exact o7 _|exact p5 _ _ _ _|exact C2 _|exact am0 _ _ _|exact al0 _|exact D8 _ _|exact P7 _ _|exact Z6 _ _ _|exact Y7 _ _|exact D4 _ _ _|exact O5 _ _|exact A4 _ _ _ _|exact ak0 _|exact Q4 _|exact I3 _|exact T9 _|exact M1 _|exact u5 _|exact n7 _|exact S8 _|exact j2 _|exact C4 _|exact O6 _|exact X5|exact N6 _|exact jl0 rfl|exact aj0 _ _ _|exact dw0 _ _|(refine O0 ?_ (fun _=>?_))|(refine S1 (fun _=>?_) _)|split|(dsimp only))
theorem kf0(o:BinOp)(k:IntKind)(x y:Int):S0 P (Op.intDiv o k x y):=by
 unfold Op.intDiv
 repeat' (first|exact M0 _|exact E3 _|exact bq0 _ _ _ _|exact Y9 _ _ _ _ _|exact fc0 _ _ _ _ _|exact K5 _ _ _ _ _ _|exact Q6 _ _ _|exact E8 _ _|exact z7 _ _ _|exact z5 _ _|exact fb0 _ _ _|exact X9 _ _|exact W9 _ _ _|exact V9 _ _ _|exact ci0 _ _|exact b6 _|exact P6 _ _ _|exact fa0 _ _|exact pq0 _ _|exact ez0 _ _ _|exact v9 _|exact ey0 _|exact N9 _|exact an0 _|exact J9 _|exact o7 _|exact p5 _ _ _ _|exact C2 _|exact am0 _ _ _|exact al0 _|exact D8 _ _|exact P7 _ _|exact Z6 _ _ _|exact Y7 _ _|exact D4 _ _ _|exact O5 _ _|exact A4 _ _ _ _|exact ak0 _|exact Q4 _|exact I3 _|exact T9 _|exact M1 _|exact u5 _|exact n7 _|exact S8 _|exact j2 _|exact C4 _|exact O6 _|exact X5|exact N6 _|exact jl0 rfl|exact aj0 _ _ _|exact dw0 _ _|(refine O0 ?_ (fun _=>?_))|(refine S1 (fun _=>?_) _)|split|(dsimp only))
theorem kz0(o:BinOp)(k:IntKind)(x y:Int):S0 P (Op.intBits o k x y):=by
 unfold Op.intBits
 repeat' (first|exact M0 _|exact E3 _|exact kf0 _ _ _ _|exact bq0 _ _ _ _|exact Y9 _ _ _ _ _|exact fc0 _ _ _ _ _|exact K5 _ _ _ _ _ _|exact Q6 _ _ _|exact E8 _ _|exact z7 _ _ _|exact z5 _ _|exact fb0 _ _ _|exact X9 _ _|exact W9 _ _ _|exact V9 _ _ _|exact ci0 _ _|exact b6 _|exact P6 _ _ _|exact fa0 _ _|exact pq0 _ _|exact ez0 _ _ _|exact v9 _|exact ey0 _|exact N9 _|exact an0 _|exact J9 _|exact o7 _|exact p5 _ _ _ _|exact C2 _|exact am0 _ _ _|exact al0 _|exact D8 _ _|exact P7 _ _|exact Z6 _ _ _|exact Y7 _ _|exact D4 _ _ _|exact O5 _ _|exact A4 _ _ _ _|exact ak0 _|exact Q4 _|exact I3 _|exact T9 _|exact M1 _|exact u5 _|exact n7 _|exact S8 _|exact j2 _|exact C4 _|exact O6 _|exact X5|exact N6 _|exact jl0 rfl|exact aj0 _ _ _|exact dw0 _ _|(refine O0 ?_ (fun _=>?_))|(refine S1 (fun _=>?_) _)|split|(dsimp only))
theorem rs0(o:BinOp)(x y:Int):S0 P (Op.intCmp o x y):=by
 unfold Op.intCmp
 repeat' (first|exact M0 _|exact E3 _|exact kz0 _ _ _ _|exact kf0 _ _ _ _|exact bq0 _ _ _ _|exact Y9 _ _ _ _ _|exact fc0 _ _ _ _ _|exact K5 _ _ _ _ _ _|exact Q6 _ _ _|exact E8 _ _|exact z7 _ _ _|exact z5 _ _|exact fb0 _ _ _|exact X9 _ _|exact W9 _ _ _|exact V9 _ _ _|exact ci0 _ _|exact b6 _|exact P6 _ _ _|exact fa0 _ _|exact pq0 _ _|exact ez0 _ _ _|exact v9 _|exact ey0 _|exact N9 _|exact an0 _|exact J9 _|exact o7 _|exact p5 _ _ _ _|exact C2 _|exact am0 _ _ _|exact al0 _|exact D8 _ _|exact P7 _ _|exact Z6 _ _ _|exact Y7 _ _|exact D4 _ _ _|exact O5 _ _|exact A4 _ _ _ _|exact ak0 _|exact Q4 _|exact I3 _|exact T9 _|exact M1 _|exact u5 _|exact n7 _|exact S8 _|exact j2 _|exact C4 _|exact O6 _|exact X5|exact N6 _|exact jl0 rfl|exact aj0 _ _ _|exact dw0 _ _|(refine O0 ?_ (fun _=>?_))|(refine S1 (fun _=>?_) _)|split|(dsimp only))
theorem Lr0(o:BinOp)(k:IntKind)(x:Int)(l:IntKind)(y:Int):S0 P (Op.shift o k x l y):=by
 unfold Op.shift
 repeat' (first|exact M0 _|exact E3 _|exact rs0 _ _ _|exact kz0 _ _ _ _|exact kf0 _ _ _ _|exact bq0 _ _ _ _|exact Y9 _ _ _ _ _|exact fc0 _ _ _ _ _|exact K5 _ _ _ _ _ _|exact Q6 _ _ _|exact E8 _ _|exact z7 _ _ _|exact z5 _ _|exact fb0 _ _ _|exact X9 _ _|exact W9 _ _ _|exact V9 _ _ _|exact ci0 _ _|exact b6 _|exact P6 _ _ _|exact fa0 _ _|exact pq0 _ _|exact ez0 _ _ _|exact v9 _|exact ey0 _|exact N9 _|exact an0 _|exact J9 _|exact o7 _|exact p5 _ _ _ _|exact C2 _|exact am0 _ _ _|exact al0 _|exact D8 _ _|exact P7 _ _|exact Z6 _ _ _|exact Y7 _ _|exact D4 _ _ _|exact O5 _ _|exact A4 _ _ _ _|exact ak0 _|exact Q4 _|exact I3 _|exact T9 _|exact M1 _|exact u5 _|exact n7 _|exact S8 _|exact j2 _|exact C4 _|exact O6 _|exact X5|exact N6 _|exact jl0 rfl|exact aj0 _ _ _|exact dw0 _ _|(refine O0 ?_ (fun _=>?_))|(refine S1 (fun _=>?_) _)|split|(dsimp only))
theorem It0(o:BinOp)(x y:ByteArray):S0 P (Op.stringOp o x y):=by
 unfold Op.stringOp
 repeat' (first|exact M0 _|exact E3 _|exact Lr0 _ _ _ _ _|exact rs0 _ _ _|exact kz0 _ _ _ _|exact kf0 _ _ _ _|exact bq0 _ _ _ _|exact Y9 _ _ _ _ _|exact fc0 _ _ _ _ _|exact K5 _ _ _ _ _ _|exact Q6 _ _ _|exact E8 _ _|exact z7 _ _ _|exact z5 _ _|exact fb0 _ _ _|exact X9 _ _|exact W9 _ _ _|exact V9 _ _ _|exact ci0 _ _|exact b6 _|exact P6 _ _ _|exact fa0 _ _|exact pq0 _ _|exact ez0 _ _ _|exact v9 _|exact ey0 _|exact N9 _|exact an0 _|exact J9 _|exact o7 _|exact p5 _ _ _ _|exact C2 _|exact am0 _ _ _|exact al0 _|exact D8 _ _|exact P7 _ _|exact Z6 _ _ _|exact Y7 _ _|exact D4 _ _ _|exact O5 _ _|exact A4 _ _ _ _|exact ak0 _|exact Q4 _|exact I3 _|exact T9 _|exact M1 _|exact u5 _|exact n7 _|exact S8 _|exact j2 _|exact C4 _|exact O6 _|exact X5|exact N6 _|exact jl0 rfl|exact aj0 _ _ _|exact dw0 _ _|(refine O0 ?_ (fun _=>?_))|(refine S1 (fun _=>?_) _)|split|(dsimp only))
theorem Ls0(o:UnOp)(x:Value):S0 P (Op.unary o x):=by
 unfold Op.unary
 repeat' (first|exact M0 _|exact E3 _|(refine O0 ?_ (fun _=>?_))|(refine S1 (fun _=>?_) _)|split|(dsimp only))
theorem Cs0(x:Value):S0 P (Builtin.lenOf x):=by
 unfold Builtin.lenOf
 repeat' (first|exact M0 _|exact E3 _|(refine O0 ?_ (fun _=>?_))|(refine S1 (fun _=>?_) _)|split|(dsimp only))
theorem in0(s n:Nat)(x:Value):S0 P (Builtin.firstCells s n x):=by
 unfold Builtin.firstCells
 repeat' (first|exact M0 _|exact E3 _|exact O5 _ _|(refine O0 ?_ (fun _=>?_))|(refine S1 (fun _=>?_) _)|split|(dsimp only))
theorem Rs0(a:Array TypeId)(t:TypeId)(x:Array Value):S0 P (Builtin.len_ a t x):=by
 unfold Builtin.len_
 repeat' (first|exact M0 _|exact E3 _|exact in0 _ _ _|exact Cs0 _|exact Ls0 _ _|exact It0 _ _ _|exact Lr0 _ _ _ _ _|exact rs0 _ _ _|exact kz0 _ _ _ _|exact kf0 _ _ _ _|exact bq0 _ _ _ _|exact Y9 _ _ _ _ _|exact fc0 _ _ _ _ _|exact K5 _ _ _ _ _ _|exact Q6 _ _ _|exact E8 _ _|exact z7 _ _ _|exact z5 _ _|exact fb0 _ _ _|exact X9 _ _|exact W9 _ _ _|exact V9 _ _ _|exact ci0 _ _|exact b6 _|exact P6 _ _ _|exact fa0 _ _|exact pq0 _ _|exact ez0 _ _ _|exact v9 _|exact ey0 _|exact N9 _|exact an0 _|exact J9 _|exact o7 _|exact p5 _ _ _ _|exact C2 _|exact am0 _ _ _|exact al0 _|exact D8 _ _|exact P7 _ _|exact Z6 _ _ _|exact Y7 _ _|exact D4 _ _ _|exact O5 _ _|exact A4 _ _ _ _|exact ak0 _|exact Q4 _|exact I3 _|exact T9 _|exact M1 _|exact u5 _|exact n7 _|exact S8 _|exact j2 _|exact C4 _|exact O6 _|exact X5|exact N6 _|exact jl0 rfl|exact aj0 _ _ _|exact dw0 _ _|(refine O0 ?_ (fun _=>?_))|(refine S1 (fun _=>?_) _)|split|(dsimp only))
theorem pc1(a:Array TypeId)(t:TypeId)(x:Array Value):S0 P (Builtin.cap_ a t x):=by
 unfold Builtin.cap_
 repeat' (first|exact M0 _|exact E3 _|exact M1 _|exact O6 _|(refine O0 ?_ (fun _=>?_))|(refine S1 (fun _=>?_) _)|split|(dsimp only))
theorem ih1(a:Array TypeId)(t:TypeId)(x:Array Value):S0 P (Builtin.copy_ a t x):=by
 unfold Builtin.copy_
 repeat' (first|exact M0 _|exact E3 _|exact in0 _ _ _|exact Cs0 _|exact D4 _ _ _|exact Q4 _|exact M1 _|(refine O0 ?_ (fun _=>?_))|(refine S1 (fun _=>?_) _)|split|(dsimp only))
end
end
end Go.Yc
end
section
namespace Go.Vc
open Go
abbrev Env:=Nat->Value
def upd(e:Env)(d:Nat)(v:Value):Env:=fun t=>if t=d then v else e t
def V3(e:Env)(d:Option Nat)(v:Value):Env:=match d with|some d=>upd e d v|none=>e
def ev(e:Env)(x:Operand):Value:=match x with
 | .tmp t=>e t
 | .const v=>v
 | .global g=>.pointer (some ⟨g,0,none⟩)
 | .func f=>.func (.func f) #[] #[]
theorem upd_same(e:Env)(d:Nat)(v:Value):upd e d v d=v:=if_pos rfl
theorem upd_ne(e:Env){d t:Nat}(v:Value)(h:t≠d):upd e d v t=e t:=if_neg h
theorem L0{e:Env}{t:Nat}{v:Value}(h:e t=v):e=upd e t v:=by
 funext s;unfold upd;split
 ·rename_i hs;rw[hs,h]
 ·rfl
class K3 where
 ds:List Deferred
instance Rt0:K3:=⟨[]⟩
structure Rep[K3](n:Nat)(a:Act)(e:Env):Prop where
 size:a.tmps.size=n
 defers:a.defers=K3.ds
 get:∀t,a.tmps.getD t undef=e t
theorem Rep.eval[K3]{n:Nat}{a:Act}{e:Env}(h:Rep n a e):a.eval=ev e:=by
 funext x;cases x <;> simp[Act.eval,ev,h.get]
def z6(n:Nat)(d:Option Nat):Bool:=match d with|some d=>Nat.blt d n|none=>true
theorem Rep.put[K3]{n:Nat}{a:Act}{e:Env}(h:Rep n a e){d:Option Nat}(hd:z6 n d=true)(v:Value):Rep n (a.put d v) (V3 e d v):=by
 cases d with
 |none=>exact h
 |some d=>
  have R6:d<n:=by simpa [z6,Nat.blt_eq]using hd
  refine⟨by simp[Act.put,h.size],by simp[Act.put,h.defers],fun t=>?_⟩;have hg:=h.get t;simp only[Act.put,V3,upd,Array.getD_eq_getD_getElem?,Array.getElem?_setIfInBounds]at hg⊢;by_cases htd:t=d
  ·subst htd;simp[h.size,R6]
  ·simp only[htd,if_false,Ne.symm htd];exact hg
def lift[K3](n:Nat)(Q:Exit->Env->World->Prop):Exit->Act->World->Prop:=fun x a w=>∃e,Rep n a e/\Q x e w
def x9(next:Env->World->Prop)(Q:Exit->Env->World->Prop):Exit->Env->World->Prop
 | .normal,e,w=>next e w
 |x,e,w=>Q x e w
def ao0(id:Nat)(Q:Exit->Env->World->Prop):Exit->Env->World->Prop
 | .exit id',e,w=>if id'=id then Q .normal e w else Q (.exit id') e w
 |x,e,w=>Q x e w
section
variable{P:Program}{n:Nat}{Q:Exit->Env->World->Prop}{e:Env}{w:World}
def L(P:Program)(n:Nat)(ops:Array Oper)(Q:Exit->Env->World->Prop)(l:List Oper)(e:Env)(w:World):Prop:=
 (∀o∈l,z6 n o.dst=true)->∀a,Rep n a e->wpList P ops (lift n Q) l a w
def ag1(n:Nat)(l:List Oper):Bool:=l.all fun o=>z6 n o.dst
variable{ops:Array Oper}{o:Oper}{v:Value}
def G3(ops:Array Oper)(e:Env)(j:Nat):Option Bool:=
 match(ops[j]?).bind (·.dst)with
 |some t=>match e t with| .bool b=>some b|_=>none
 |none=>none
theorem pr0[K3]{a:Act}(ha:Rep n a e)(j:Nat):yielded ops a.tmps j=G3 ops e j:=by
 unfold yielded G3;cases h:(ops[j]?).bind (·.dst)with
 |none=>simp
 |some t=>
  have hg:=ha.get t;simp only[Option.bind_some,Array.getD_eq_getD_getElem?]at hg⊢;cases h2:a.tmps[t]? with
  |none=>rw[h2]at hg;simp only[Option.getD_none]at hg;rw[<- hg];rfl
  |some u=>rw[h2]at hg;simp only[Option.getD_some]at hg;rw[<- hg];cases u <;> rfl
theorem c6[K3]{a:Act}(ha:Rep n a e)(o:Oper):Region.wanted o (yielded ops a.tmps)=Region.wanted o (G3 ops e):=by
 have:yielded ops a.tmps=G3 ops e:=funext (pr0 ha);rw[this]
def Ret(R:Value->World->Prop):Ending->World->Prop
 | .returned v,w=>R v w
 |_,_=>False
end
section
end
def hav(G:List Nat)(f e:Env):Env:=fun t=>if G.contains t then f t else e t
def bk0(G:List Nat)(e' e:Env):Prop:=∀t,G.contains t=false->e' t=e t
theorem bk0.refl(G:List Nat)(e:Env):bk0 G e e:=fun _ _=>rfl
theorem bk0.upd{G:List Nat}{e' e:Env}{d:Nat}{v:Value}(hd:G.contains d=true)(h:bk0 G e' e):bk0 G (upd e' d v) e:=fun t ht=>by
 have:t≠d:=fun h=>by subst h;rw[hd]at ht;cases ht
 rw[upd_ne _ _ this];exact h t ht
theorem bk0.out{G:List Nat}{e' e:Env}(h:bk0 G e' e):∃f,e'=hav G f e:=⟨e',by
 funext t;unfold hav;split
 ·rfl
 ·rename_i ht;exact h t (by simpa using ht)⟩
section
end
theorem Ug{P:Prop}(h:P:=by repeat(first|exact bk0.refl _ _|refine bk0.upd rfl ?_)):P:=h
end Go.Vc
end
