/- What the claim leans on, part 6. Laws. -/
import Derived.Test.YtgadhljgilblbaaK5
import Derived.Conc.LeavingOf
import Derived.JoinedCond
import Derived.Deep.CondSized
set_option linter.unusedVariables false
section
namespace Go.Vy.Sc
open Go Go.Conc Go.Yc Go.RowKit Go.Proofs Go.Proofs.Ytgadhljgilblbaa Try
open Go.Vc Go.Wg
section
variable [Ctx prog]
end
section
theorem Ua0 (x0:Int) (x1:Int) (x2:Int) (x3:Int) (x4:Bool):prog.built 122 [(0,.agg #[.i x0,.i x1]),(1,.i x2),(2,.i x3),(3,.bool x4)]=some #[.i x0,.i x1,.i x2,.i x3,.bool x4]:=by kernel_rfl
end
section
variable [Ctx prog]
set_option maxHeartbeats 1000000 in
theorem wc0 {w0 w:World} {B2 m bc:Nat} {ba:Option Addr} {most:Int} {M:Mx} (hR:RX w0 B2 m ba bc most w M) {i k:Nat} {d:Dc} (hi:i<m) (hk:M.W9[i]? =some k) (hd:M.now[i]? =some d) (hlb:(M.s.log i).length <=1000000) (htb:M.s.N0.length <=1000000) (hkb:k <=1000000):C prog 31 #[.p M.wb,.i (i:Int)] w fun v w'=>v= .tuple #[]/\∃a c ta tc,RX w0 B2 m ba bc most w' {M with la:=r6 M.la i a,lc:=r6 M.lc i c,ta:=ta,tc:=tc,s:=P4 i M.s d.c,W9:=M.W9.set i (k+1)}:=by
 refine C.enter (n:=60) func31 rfl rfl ?_;have hM:=hR.hW;refine U14 ?_;refine U265 ?_;refine L.va (Q0 (cs:=dcC d) rfl underlying117 rfl X2 rfl (fun j v hj=>hR.Oz0 hd j v hj)) ?_;have vx0:=hM;have Pb0:=hR;refine L.alloc (cs:=#[.i 0,.i 0,.i 0,.i 0,.i 0,.slice none 0 0,.i 0,.i 0,.i 0,.i 0,.bool false]) Kl0 rfl (fun w b4 F4=>?_);have lt4:=Nat.le_refl w.heap.size;have B1:=F4.blk;refine L.pa [.i (d.c.at_:Int),.i d.c.num,.i d.c.rn,.i d.c.rg,.i d.c.val,.slice d.a d.c.seen.length d.k,.i d.c.tn,.i d.c.tg,.i d.c.e,.i d.c.x,.bool d.c.ok] X2 B1 (fun w G0 hg A2=>?_);have hbA:=G4 F4.below F4.below.size hg (by have:=F4.here;omega);have hM:=vx0.j0 hbA;have hR:=Pb0.j0 hbA;have B1:=G0;clear G0 hg A2 hbA F4 vx0 Pb0;refine U253 ?_;have hG:=hR.hG;refine W.fl 23 [21,22] [0,1,2,3,4,5,6,7,8,9,10,11,12,13,14,15,16,17,18,19,20,21,22] (fun w'=>V0 w' M.wb #[.p M.hb,.slice ba m bc,.slice (pt M.pb) m m,.slice (pt M.nb) m m,.slice M.ta M.s.N0.length M.tc,.slice (pt M.gb) m m] 54/\V0 w' M.gb (arr m fun j=>.slice (M.la j) (M.s.log j).length (M.lc j)) 50/\V0 w' b4 #[.i (d.c.at_:Int),.i d.c.num,.i d.c.rn,.i d.c.rg,.i d.c.val,.slice d.a d.c.seen.length d.k,.i d.c.tn,.i d.c.tg,.i d.c.e,.i d.c.x,.bool d.c.ok] 117) (by kernel_rfl) (by kernel_rfl) (by kernel_rfl) (by kernel_rfl) (by kernel_rfl) (⟨hM.j0 (Below.refl w.heap.size w).drew,hG.j0 (Below.refl w.heap.size w).drew,B1.j0 (Below.refl w.heap.size w).drew⟩) ?_;have Y2:Below w.heap.size w w.drew:=(Below.refl w.heap.size w).drew;have hM:=hM.j0 Y2;have hR:=hR.j0 Y2;have B1:=B1.j0 Y2;have hG:=hG.j0 Y2;clear Y2;generalize w.drew=w at *;refine U24 ?_;refine U436 ?_;refine U203 ?_;refine U436 ?_;refine F.va rfl rfl (fun w' J0=>(K2 rfl)) ?_;refine F.va rfl rfl (fun w' J0=>(o4 (i:=i) rfl rfl underlying45 nt0 hi)) ?_;refine F.va rfl rfl (fun w' J0=>(B0 (v:=.slice (M.la i) (M.s.log i).length (M.lc i)) rfl underlying50 rfl (by show World.cell? _ ⟨M.gb,0+i*1,none⟩=_;rw[Nat.zero_add,Nat.mul_one];exact V0.q0 J0.2.1 i (P6 hi)))) ?_;refine F.va rfl rfl (fun w' J0=>(E0 rfl underlying117 rfl X5 (by decide))) ?_;refine F.va rfl rfl (fun w' J0=>(Q0 (cs:=[.i d.c.tn,.i d.c.tg]) rfl underlying82 rfl X5 rfl (J0.2.2.B4 rfl))) ?_;refine F.va rfl rfl (fun w' J0=>(E0 rfl underlying117 rfl c5 (by decide))) ?_;refine F.va rfl rfl (fun w' J0=>(B0 rfl underlying3 rfl (J0.2.2.q0 8 (v:=.i d.c.e) rfl))) ?_;refine F.va rfl rfl (fun w' J0=>(E0 rfl underlying117 rfl sz2 (by decide))) ?_;refine F.va rfl rfl (fun w' J0=>(B0 rfl underlying2 rfl (J0.2.2.q0 9 (v:=.i d.c.x) rfl))) ?_;refine F.va rfl rfl (fun w' J0=>(E0 rfl underlying117 rfl sz4 (by decide))) ?_;refine F.va rfl rfl (fun w' J0=>(B0 rfl underlying4 rfl (J0.2.2.q0 10 (v:=.bool d.c.ok) rfl))) ?_;refine F.va rfl rfl (fun w' J0=>(Z1 (parts:=[(0,.tmp 25),(1,.tmp 27),(2,.tmp 29),(3,.tmp 31)]) rfl (Ua0 d.c.tn d.c.tg d.c.e d.c.x d.c.ok))) ?_;refine F.A9 rfl rfl ?_;refine L.Q7 (cs:=#[.i d.c.tn,.i d.c.tg,.i d.c.e,.i d.c.x,.bool d.c.ok]) rfl rfl underlying50 ee0 rfl ⟨_,ur0⟩ (by decide) (fun w b33 F33=>?_);have ob1:=Nat.le_refl w.heap.size;have hM:=hM.j0 F33.below;have hR:=hR.j0 F33.below;have B1:=B1.j0 F33.below;have hG:=hG.j0 F33.below;have Pc0:=F33.blk;refine L.nil ⟨rfl,⟨hM,hG,B1⟩,?_⟩;refine F.A9 rfl rfl ?_;refine L.z6 (B:=B2) (m:=1) rfl rfl underlying50 nu0 rfl (by decide) (hR.hL i hi) (news:=[.i d.c.tn,.i d.c.tg,.i d.c.e,.i d.c.x,.bool d.c.ok]) rfl (fun q u hq=>?_) (fun u hu=>by simp at hu;rcases hu with rfl|rfl|rfl|rfl|rfl <;> rfl) (by omega) (by omega) hR.bs (fun a34 c34 w2 hO I6 hwh=>?_)
 ·rw[Addr.add_lit]
  match q,hq with
  |0,hq=>cases hq;exact Pc0.q0 0 rfl
  |1,hq=>cases hq;exact Pc0.q0 1 rfl
  |2,hq=>cases hq;exact Pc0.q0 2 rfl
  |3,hq=>cases hq;exact Pc0.q0 3 rfl
  |4,hq=>cases hq;exact Pc0.q0 4 rfl
 have hM:=V0.app hM (hR.hL i hi) I6 (by decide);have hG:=V0.app hG (hR.hL i hi) I6 (by decide);have B1:=V0.app B1 (hR.hL i hi) I6 (by decide)
 rename World=>w1
 skip
 refine L.nil ⟨rfl,⟨hM,hG,B1⟩,?_⟩;refine U15 ?_;refine L.va (o4 (i:=i) rfl rfl underlying45 nt0 hi) ?_
 skip
 refine L.xG hR hi (⟨d.c.tn,d.c.tg,d.c.e,d.c.x,d.c.ok⟩:jv0) I6 hwh hO rfl rfl nt0 (fun w Y9 hg=>?_);have B1:=B1.other hg (V0.ne B1 hG (by decide));clear hG hM hO I6 hwh hg;have hR:=Y9;clear Y9;have hM:V0 w M.wb #[.p M.hb,.slice ba m bc,.slice (pt M.pb) m m,.slice (pt M.nb) m m,.slice M.ta M.s.N0.length M.tc,.slice (pt M.gb) m m] 54:=hR.hW;refine U42 ?_;refine L.va (E0 rfl underlying117 rfl X5 (by decide)) ?_;refine L.va (E0 rfl underlying82 rfl c5 (by decide)) ?_;refine L.va (B0 rfl underlying3 rfl (B1.q0 6 (v:=.i d.c.tn) rfl)) ?_;refine U149 ?_;refine W.y6 rfl (fun h39=>?_) (fun h39=>?_)
 ·refine W.fl 9 [7,8] [0,1,2,3,4,5,6,7,8] (fun w'=>V0 w' M.wb #[.p M.hb,.slice ba m bc,.slice (pt M.pb) m m,.slice (pt M.nb) m m,.slice M.ta M.s.N0.length M.tc,.slice (pt M.gb) m m] 54/\V0 w' b4 #[.i (d.c.at_:Int),.i d.c.num,.i d.c.rn,.i d.c.rg,.i d.c.val,.slice d.a d.c.seen.length d.k,.i d.c.tn,.i d.c.tg,.i d.c.e,.i d.c.x,.bool d.c.ok] 117) (by kernel_rfl) (by kernel_rfl) (by kernel_rfl) (by kernel_rfl) (by kernel_rfl) (⟨hM.j0 (Below.refl w.heap.size w).drew,B1.j0 (Below.refl w.heap.size w).drew⟩) ?_;refine U401 ?_;intro Y2 hR;have B1:=B1.j0 Y2;have hM:=hM.j0 Y2;clear Y2;generalize w.drew=w at *;refine U350 ?_;refine U281 ?_;refine F.va rfl rfl (fun w' J0=>(E0 rfl underlying117 rfl X5 (by decide))) ?_;refine F.va rfl rfl (fun w' J0=>(Q0 (cs:=[.i d.c.tn,.i d.c.tg]) rfl underlying82 rfl X5 rfl (J0.2.B4 rfl))) ?_;refine F.A9 rfl rfl ?_;refine L.Q7 (cs:=#[.i d.c.tn,.i d.c.tg]) rfl rfl underlying46 X5 rfl ⟨_,sb0⟩ (by decide) (fun w b47 F47=>?_);have mu1:=Nat.le_refl w.heap.size;have hR:=hR.j0 F47.below;have B1:=B1.j0 F47.below;have hM:=hM.j0 F47.below;have Tu0:=F47.blk;refine L.nil ⟨rfl,⟨hM,B1⟩,?_⟩;refine F.A9 rfl rfl ?_;refine L.z6 (B:=B2) (m:=1) rfl rfl underlying46 Yi0 rfl (by decide) hR.hT (news:=[.i d.c.tn,.i d.c.tg]) rfl (fun q u hq=>?_) (fun u hu=>by simp at hu;rcases hu with rfl|rfl <;> rfl) (by show M.s.N0.length+1 <=_;omega) (by show(M.s.N0.length+1)*_ <=_;omega) hR.bs (fun a48 c48 w2 hO I6 _=>?_)
  ·rw[Addr.add_lit]
   match q,hq with
   |0,hq=>cases hq;exact Tu0.q0 0 rfl
   |1,hq=>cases hq;exact Tu0.q0 1 rfl
  have hM:=V0.app hM hR.hT I6 (by decide);have B1:=V0.app B1 hR.hT I6 (by decide);refine L.nil ⟨rfl,⟨hM,B1⟩,?_⟩;refine U237 ?_;refine L.va (E0 rfl underlying54 rfl Bl0 (by decide)) ?_;refine L.xT hR (d.c.tn,d.c.tg) I6 hO rfl rfl Bl0 (fun w Y9 hg=>?_);clear hM hO I6 hg B1;have hR:=Y9;clear Y9;have hM:V0 w M.wb #[.p M.hb,.slice ba m bc,.slice (pt M.pb) m m,.slice (pt M.nb) m m,.slice a48 ((M.s.N0 ++ [(d.c.tn,d.c.tg)]).length) c48,.slice (pt M.gb) m m] 54:=hR.hW;refine U1 ?_;refine U250 ?_;refine U300 ?_;refine U327 ?_;refine U564 ?_;refine L.xP (i:=i) (z:=k+1) hR hi rfl rfl c5 (fun w Y9 hg=>?_);have hR:=Y9;clear Y9 hM hg;refine U110 ?_;rw[sw0 h39];exact⟨rfl,_,_,_,_,hR⟩
 ·refine W.skip ?_;show W _ _ _ _ _ _;refine U250 ?_;refine U300 ?_;refine U327 ?_;refine U564 ?_;refine L.xP (i:=i) (z:=k+1) hR hi rfl rfl c5 (fun w Y9 hg=>?_);have hR:=Y9;clear Y9 hM hg;refine U110 ?_;rw[dz0 h39];exact⟨rfl,_,_,_,_,hR⟩
set_option maxHeartbeats 2000000 in
theorem qz0 {w0 w:World} {B2 m bc:Nat} {ba:Option Addr} {most:Int} {M0:Mx} {bo:Nat->List X8} {oa:Nat->Option Addr} {oc:Nat->Nat} (hBo:M7 w0 ba m bo oa oc) (hR:RX w0 B2 m ba bc most w M0) {i k0:Nat} (hi:i<m) (hk:M0.W9[i]? =some k0) (hnw:∃d,M0.now[i]? =some d) (hkl:k0 <=(bo i).length) (na1:(M0.s.log i).length <=k0) (hbl:(bo i).length <=1000000) (htb:M0.s.N0.length <=1000000):C prog 28 #[.p M0.wb,.i (i:Int)] w fun v w'=>v= .tuple #[]/\∃M,RX w0 B2 m ba bc most w' M/\Pa0 (bo i) M0 i (Z0 (bo i) i k0 M0.s) M:=by
 refine C.enter (n:=113) func28 rfl rfl ?_;refine W.block ?_;refine W.loop (fun k e w=>∃(M:Mx),∃(q:Nat),k=(bo i).length-q/\e 0= .p M.wb/\e 1= .i (i:Nat)/\RX w0 B2 m ba bc most w M/\BgI (bo i) M0 i (Z0 (bo i) i k0 M0.s) M q/\q <=(bo i).length) _ ⟨M0,k0,rfl,rfl,rfl,hR,BgI.start hk hnw na1,hkl⟩ ?_;rintro k e w ⟨M,q,hk,s0,s1,hR,hI,hkl⟩;rw[L0 s0,L0 s1];clear s0 s1;have hM:=hR.hW;obtain⟨d0,hd0⟩:=hI.nw;have hpk:=hI.pk;have hlg:=hI.lg;have htl:=hI.tl;refine U75 ?_;refine U6 ?_;refine D.va (fun w' J0=>(E0 rfl underlying54 rfl O8 (by decide))) ?_;refine D.va (fun w' J0=>(B0 rfl underlying23 rfl ((hM.j0 J0).q0 2 (v:=.slice (pt M.pb) m m) rfl))) ?_;refine D.va (fun w' J0=>(K2 rfl)) ?_;refine D.va (fun w' J0=>(o4 (i:=i) rfl rfl underlying23 c5 hi)) ?_;refine D.va (fun w' J0=>(B0 (v:=.i (q:Int)) rfl underlying3 rfl (RX.qy0 (hR.j0 J0) hpk))) ?_;refine U6 ?_;refine D.va (fun w' J0=>(E0 rfl underlying54 rfl dv1 (by decide))) ?_;refine D.va (fun w' J0=>(B0 rfl underlying22 rfl ((hM.j0 J0).q0 1 (v:=.slice ba m bc) rfl))) ?_;refine D.va (fun w' J0=>(K2 rfl)) ?_;refine D.va (fun w' J0=>(u4 (i:=i) rfl rfl underlying22 Bm0 hBo.sl hi)) ?_;refine D.va (fun w' J0=>(B0 (v:=.slice (oa i) (bo i).length (oc i)) rfl underlying80 rfl (y4 (hBo.row i hi) (RX.hb (hR.j0 J0))))) ?_;refine U314 ?_;refine D.nil (fun w D1=>?_);refine U155 ?_;intro hR hM;refine U22 ?_;refine W.y6 rfl (fun h20=>?_) (fun h20=>?_)
 ·have hkt:q<(bo i).length:=by omega
  obtain⟨o,ho⟩:∃o,(bo i)[q]? =some o:=⟨_,List.getElem?_eq_getElem hkt⟩
  refine U81 ?_;refine W.block ?_;refine W.seq ?_;refine W.fl 17 [16] [0,1,2,3,4,5,6,7,8,9,10,11,12,13,14,15,16] (fun w'=>V0 w' M.wb #[.p M.hb,.slice ba m bc,.slice (pt M.pb) m m,.slice (pt M.nb) m m,.slice M.ta M.s.N0.length M.tc,.slice (pt M.gb) m m] 54/\RX w0 B2 m ba bc most w' M) (by kernel_rfl) (by kernel_rfl) (by kernel_rfl) (by kernel_rfl) (by kernel_rfl) (⟨hM.j0 (Below.refl w.heap.size w).drew,hR.j0 (Below.refl w.heap.size w).drew⟩) ?_;refine U151 ?_;intro Y2 hR hM;clear Y2;generalize w.drew=w at *;refine U24 ?_;refine F.va rfl rfl (fun w' J0=>(E0 rfl underlying54 rfl dv1 (by decide))) ?_;refine F.va rfl rfl (fun w' J0=>(B0 rfl underlying22 rfl (J0.1.q0 1 (v:=.slice ba m bc) rfl))) ?_;refine F.va rfl rfl (fun w' J0=>(K2 rfl)) ?_;refine F.va rfl rfl (fun w' J0=>(u4 (i:=i) rfl rfl underlying22 Bm0 hBo.sl hi)) ?_;refine F.va rfl rfl (fun w' J0=>(B0 (v:=.slice (oa i) (bo i).length (oc i)) rfl underlying80 rfl (y4 (hBo.row i hi) (RX.hb J0.2)))) ?_;refine U24 ?_;refine F.va rfl rfl (fun w' J0=>(E0 rfl underlying54 rfl O8 (by decide))) ?_;refine F.va rfl rfl (fun w' J0=>(B0 rfl underlying23 rfl (J0.1.q0 2 (v:=.slice (pt M.pb) m m) rfl))) ?_;refine F.va rfl rfl (fun w' J0=>(K2 rfl)) ?_;refine F.va rfl rfl (fun w' J0=>(o4 (i:=i) rfl rfl underlying23 c5 hi)) ?_;refine F.va rfl rfl (fun w' J0=>(B0 (v:=.i (q:Int)) rfl underlying3 rfl (RX.qy0 J0.2 hpk))) ?_;refine F.va rfl rfl (fun w' J0=>(u4 (i:=q) rfl rfl underlying80 up0 (hBo.ops i hi).sl hkt)) ?_;refine F.va rfl rfl (fun w' J0=>(Q0 (cs:=Cw0 o) rfl underlying84 rfl up0 rfl (fun j v hv=>y4 ((hBo.ops i hi).cell q o ho j v hv) (RX.hb J0.2)))) ?_;refine F.A9 rfl rfl ?_;have Pb0:=hR;have vx0:=hM;refine L.alloc (cs:=#[.i 0,.i 0,.i 0,.i 0,.i 0]) kc1 rfl (fun w b4 F4=>?_);have lt4:=Nat.le_refl w.heap.size;have hR:=hR.j0 F4.below;have hM:=hM.j0 F4.below;have B1:=F4.blk;refine L.nil ⟨rfl,⟨hM,hR⟩,?_⟩;refine U15 ?_;refine L.pa [.i o.kind,.i o.val,.i o.u5,.i o.rn,.i o.rg] up0 B1 (fun w G0 hg A2=>?_);have hbA:=G4 F4.below F4.below.size hg (by have:=F4.here;omega);have hR:=Pb0.j0 hbA;have hM:=vx0.j0 hbA;have B1:=G0;clear G0 hg A2 hbA F4 Pb0 vx0;refine U42 ?_;refine L.va (E0 rfl underlying84 rfl c5 (by decide)) ?_;refine L.va (B0 rfl underlying3 rfl (B1.q0 0 (v:=.i o.kind) rfl)) ?_;refine U13 ?_;refine U47 ?_;refine W.y6 rfl (fun k1=>?_) (fun k1=>?_)
  ·refine W.fl 12 [11] [0,1,2,3,4,5,6,7,8,9,10,11] (fun w'=>V0 w' M.wb #[.p M.hb,.slice ba m bc,.slice (pt M.pb) m m,.slice (pt M.nb) m m,.slice M.ta M.s.N0.length M.tc,.slice (pt M.gb) m m] 54/\V0 w' b4 #[.i o.kind,.i o.val,.i o.u5,.i o.rn,.i o.rg] 84) (by kernel_rfl) (by kernel_rfl) (by kernel_rfl) (by kernel_rfl) (by kernel_rfl) (⟨hM.j0 (Below.refl w.heap.size w).drew,B1.j0 (Below.refl w.heap.size w).drew⟩) ?_;refine U151 ?_;intro Y2 hR hM;have B1:=B1.j0 Y2;clear Y2;generalize w.drew=w at *;refine U308 ?_;refine U255 ?_;refine F.va rfl rfl (fun w' J0=>(E0 rfl underlying84 rfl sz2 (by decide))) ?_;refine F.va rfl rfl (fun w' J0=>(B0 rfl underlying2 rfl (J0.2.q0 1 (v:=.i o.val) rfl))) ?_;refine F.A9 rfl rfl ?_;refine L.call (W1 rfl rfl func59 rfl ku1 rfl) (Hv0 _ _ o.val) ?_;rintro _ w ⟨rfl,D1⟩;refine U172 ?_;intro hR hM B1;refine L.nil ⟨rfl,⟨hM,B1⟩,?_⟩;refine U15 ?_;refine L.va (o4 (i:=i) rfl rfl underlying52 X2 hi) ?_;refine L.xN (i:=i) (d:=(⟨dw0 o.val,none,0⟩:Dc)) hR hi (N1.zero _ _) rfl rfl X2 (fun w Y9 hg=>?_);have hR:=Y9;clear Y9 hM hg B1;have hdn:(M.now.set i (⟨dw0 o.val,none,0⟩:Dc))[i]? =some (⟨dw0 o.val,none,0⟩:Dc):=H6 _ hd0;refine U302 ?_;intro hM;refine U34 ?_;refine U162 ?_;refine U265 ?_;refine L.va (E0 rfl underlying117 rfl c5 (by decide)) ?_;refine L.va (B0 (v:=.i 1) rfl underlying3 rfl (RX.Oz0 hR hdn 0 _ rfl)) ?_;refine L.va (A1 (r:=true) (by decide) (ad0 (m:=1) (k:=0) rfl rfl)) ?_;refine U87 ?_;refine U365 ?_;exact⟨rfl,_,hR,hI.stop ho (⟨dw0 o.val,none,0⟩:Dc) (by unfold m5;rw[if_pos k1]) (by show(1:Nat)≠0;decide)⟩
  ·refine W.seq ?_;refine W.region rfl ?_;refine U47 ?_;refine W.y6 rfl (fun k2=>?_) (fun k2=>?_)
   ·refine W.fl 16 [14,15] [0,1,2,3,4,5,6,7,8,9,10,11,12,13,14,15] (fun w'=>V0 w' M.wb #[.p M.hb,.slice ba m bc,.slice (pt M.pb) m m,.slice (pt M.nb) m m,.slice M.ta M.s.N0.length M.tc,.slice (pt M.gb) m m] 54/\V0 w' b4 #[.i o.kind,.i o.val,.i o.u5,.i o.rn,.i o.rg] 84) (by kernel_rfl) (by kernel_rfl) (by kernel_rfl) (by kernel_rfl) (by kernel_rfl) (⟨hM.j0 (Below.refl w.heap.size w).drew,B1.j0 (Below.refl w.heap.size w).drew⟩) ?_;refine U151 ?_;intro Y2 hR hM;have B1:=B1.j0 Y2;clear Y2;generalize w.drew=w at *;refine U308 ?_;refine U255 ?_;refine U24 ?_;refine U281 ?_;refine U525 ?_;rintro _ w ⟨rfl,D1⟩;refine U172 ?_;intro hR hM B1;refine L.nil ⟨rfl,⟨hM,B1⟩,?_⟩;refine F.A9 rfl rfl ?_;refine L.call (W1 rfl rfl func60 rfl kv1 rfl) (Oo0 _ hR.hD (named M.s.N0 o).1 (named M.s.N0 o).2) ?_;rintro _ w ⟨rfl,D1⟩;refine U172 ?_;intro hR hM B1;clear D1;obtain⟨c9,hc9⟩:∃c9,c9=T9 M.s.H (named M.s.N0 o).1 (named M.s.N0 o).2:=⟨_,rfl⟩
    rw[<- hc9];have hz9:=Tz0 M.s.H (named M.s.N0 o).1 (named M.s.N0 o).2;rw[<- hc9]at hz9;have hco:m5 M.s o=some c9:=by
      unfold m5;rw[if_neg k1,if_pos k2,<- hc9]
    refine L.nil ⟨rfl,⟨hM,B1⟩,?_⟩;refine U15 ?_;refine U466 ?_;intro w Y9 hg;have hR:=Y9;clear Y9 hM hg B1;have hdn:(M.now.set i (⟨c9,none,0⟩:Dc))[i]? =some (⟨c9,none,0⟩:Dc):=H6 _ hd0;refine U302 ?_;intro hM;refine U34 ?_;refine U162 ?_;refine U265 ?_;refine U476 ?_;refine L.va (ad0 rfl rfl) ?_;refine U1 ?_;refine W.y6 rfl (fun bt1=>?_) (fun bt1=>?_)
    ·refine W.ret ?_;exact U568
    ·refine W.skip ?_;show W _ _ _ _ _ _;refine W.region rfl ?_;refine U444 ?_;rintro _ w ⟨rfl,a9,c8,ta9,tc9,hR9⟩;clear hM hR;have hR:=hR9;clear hR9;have h0:c9.at_=0:=by omega
     refine U160 ?_;exact U416
   ·refine W.seq ?_;refine W.region rfl ?_;refine U47 ?_;refine W.y6 rfl (fun k3=>?_) (fun k3=>?_)
    ·refine W.fl 16 [14,15] [0,1,2,3,4,5,6,7,8,9,10,11,12,13,14,15] (fun w'=>V0 w' M.wb #[.p M.hb,.slice ba m bc,.slice (pt M.pb) m m,.slice (pt M.nb) m m,.slice M.ta M.s.N0.length M.tc,.slice (pt M.gb) m m] 54/\V0 w' b4 #[.i o.kind,.i o.val,.i o.u5,.i o.rn,.i o.rg] 84) (by kernel_rfl) (by kernel_rfl) (by kernel_rfl) (by kernel_rfl) (by kernel_rfl) (⟨hM.j0 (Below.refl w.heap.size w).drew,B1.j0 (Below.refl w.heap.size w).drew⟩) ?_;refine U151 ?_;intro Y2 hR hM;have B1:=B1.j0 Y2;clear Y2;generalize w.drew=w at *;refine U308 ?_;refine U255 ?_;refine U24 ?_;refine U281 ?_;refine U525 ?_;rintro _ w ⟨rfl,D1⟩;refine U172 ?_;intro hR hM B1;refine L.nil ⟨rfl,⟨hM,B1⟩,?_⟩;refine F.A9 rfl rfl ?_;refine L.call (W1 rfl rfl func61 rfl kw1 rfl) (Hx0 _ hR.hD (named M.s.N0 o).1 (named M.s.N0 o).2) ?_;rintro _ w ⟨rfl,D1⟩;refine U172 ?_;intro hR hM B1;clear D1;obtain⟨c9,hc9⟩:∃c9,c9=fe0 M.s.H (named M.s.N0 o).1 (named M.s.N0 o).2:=⟨_,rfl⟩
     rw[<- hc9];have hz9:=bs1 M.s.H (named M.s.N0 o).1 (named M.s.N0 o).2;rw[<- hc9]at hz9;have hco:m5 M.s o=some c9:=by
       unfold m5;rw[if_neg k1,if_neg k2,if_pos k3,<- hc9]
     refine L.nil ⟨rfl,⟨hM,B1⟩,?_⟩;refine U15 ?_;refine U466 ?_;intro w Y9 hg;have hR:=Y9;clear Y9 hM hg B1;have hdn:(M.now.set i (⟨c9,none,0⟩:Dc))[i]? =some (⟨c9,none,0⟩:Dc):=H6 _ hd0;refine U302 ?_;intro hM;refine U34 ?_;refine U162 ?_;refine U265 ?_;refine U476 ?_;refine L.va (ad0 rfl rfl) ?_;refine U1 ?_;refine W.y6 rfl (fun bt1=>?_) (fun bt1=>?_)
     ·refine W.ret ?_;exact U568
     ·refine W.skip ?_;show W _ _ _ _ _ _;refine W.region rfl ?_;refine U444 ?_;rintro _ w ⟨rfl,a9,c8,ta9,tc9,hR9⟩;clear hM hR;have hR:=hR9;clear hR9;have h0:c9.at_=0:=by omega
      refine U160 ?_;exact U416
    ·refine W.seq ?_;refine U250 ?_;refine U300 ?_;refine U327 ?_;refine L.va (B0 (v:=.i (q:Int)) rfl underlying3 rfl (RX.qy0 hR hpk)) ?_;refine U437 ?_;refine L.xP (i:=i) (z:=q+1) hR hi rfl rfl c5 (fun w Y9 hg=>?_);have hR:=Y9;clear Y9 hM hg;have hco:m5 M.s o=none:=by
       unfold m5;rw[if_neg k1,if_neg k2,if_neg k3]
     refine U1 ?_;refine W.exit ?_;refine U132 ?_;refine T.nrm ?_;exact⟨_,by omega,⟨{M with W9:=M.W9.set i (q+1)},q+1,rfl,rfl,rfl,hR,(hI.skip ho hco),hkt⟩⟩
 ·refine W.exit ?_;refine U132 ?_;refine U44 ?_;exact⟨rfl,_,hR,hI.fin (by omega) hkl⟩
end
end Go.Vy.Sc
end
section
namespace Go.Vy
open Go Go.Yc Go.RowKit
open Go.Vc
theorem Pd0 {P:Program} [Ctx P] {n:Nat} {l0:List Oper} {k:Nat} {I:(Nat->Bool)->Env->World->Prop} {V:(Nat->Bool)->Prop} (h:pg0 n l0.toArray k) (hk:k <=l0.length)
  (at0:∀D,V D->∀i,k <=i->i<l0.toArray.size->D i=true->∀j,j<i->D j=true)
  (ji0:∀i o,i<k->l0[i]? =some o->∀D e w,D i=false->D6 o D->I D e w->Vd0 P l0.toArray I i o D e w)
  {Q':Exit->Act->World->Prop} (hQ:∀D a w e,Rep n a e->(∀j,j<k->D j=true)->I D e w->wpOps P l0.toArray Q' (List.range' k (l0.toArray.size-k)) a w) :
  ∀{listed:Array Bool} {σ:List Nat},Lin l0.toArray listed σ->(∀τ ρ,σ=τ++ρ->V (fun j=>listed.getD j false ||τ.contains j)) ->
   ∀(a:Act) (e:Env) (w:World),listed.size=l0.toArray.size->(∀j,k <=j->listed.getD j false=false)->Rep n a e->I (fun j=>listed.getD j false) e w->wpOps P l0.toArray Q' σ a w:=by
 intro listed σ k4
 induction k4 with
 | @nil listed hr=>
  intro _ a e w hs hkf ha hI;have hra:=gt0 h.bk hs hr;have hkl:l0.toArray.size <=k:=by
   rcases Nat.lt_or_ge k l0.toArray.size with h3|h3
   ·have:=hra k h3;rw[hkf k (Nat.le_refl _)]at this;cases this
   ·exact h3
  have:=hQ _ a w e ha (fun j hj=>hra j (by simp;omega)) hI;rw[show l0.toArray.size-k=0 by omega]at this;exact this
 | @cons listed i σ hi hl ih=>
  intro hV a e w hs hkf ha hI;have F9:=hi;obtain⟨h1,o,dr0,ai0⟩:=mem_ready.1 hi;have hlo:l0[i]? =some o:=by simpa using dr0
  have hio:i<l0.toArray.size:=(Array.getElem?_eq_some_iff.1 dr0).1;have J7:i<listed.size:=by omega
  have hDi:listed.getD i false=false:=by
   simp only[Array.getD_eq_getD_getElem?,J7,Array.getElem?_eq_getElem,Option.getD_some]at h1⊢;exact h1
  have hVD:V (C4 (fun j=>listed.getD j false) i):=by
   have:=hV [i] σ rfl;have e1:(fun j=>listed.getD j false ||([i]:List Nat).contains j)=C4 (fun j=>listed.getD j false) i:=funext fun j=>by
    unfold C4;by_cases hj:j=i
    ·simp[hj]
    ·simp[hj]
   rw[e1]at this;exact this
  by_cases hik:k <=i
  ·have R6:∀j,j<i->listed.getD j false=true:=fun j hj=>by
    have:=at0 _ hVD i hik hio (by simp[C4]) j hj;unfold C4 at this;rw[if_neg (by omega)]at this;exact this
   have J9:i=k:=by
    rcases Nat.lt_or_ge k i with h3|h3
    ·have:=R6 k h3;rw[hkf k (Nat.le_refl _)]at this;cases this
    ·omega
   subst J9;rw[lh0 (V:=V) h.bk (.cons F9 hl) i (by omega) hs R6 (fun j hj=>hkf j hj) at0 hV];exact hQ _ a w e ha R6 hI
  ·have hik:i<k:=by omega
   have hV':∀τ ρ,σ=τ++ρ->V (fun j=>(listed.setIfInBounds i true).getD j false ||τ.contains j):=by
    intro τ ρ hσ;have:=hV (i::τ) ρ (by rw[hσ];rfl);have e1:(fun j=>listed.getD j false ||(i::τ).contains j)=fun j=>(listed.setIfInBounds i true).getD j false ||τ.contains j:=by
     funext j;by_cases hj:i=j
     ·subst hj;simp[Array.getD_eq_getD_getElem?,J7]
     ·rw[getD_set_ne false hj];have:(i::τ).contains j=τ.contains j:=by
       simp[Ne.symm hj]
      rw[this]
    rw[e1]at this;exact this
   have Qw0:∀j,k <=j->(listed.setIfInBounds i true).getD j false=false:=fun j hj=>by
    rw[getD_set_ne false (by omega)];exact hkf j hj
   have next:∀v w',I (C4 (fun j=>listed.getD j false) i) (L3 e o.dst v) w'->wpOps P l0.toArray Q' σ (a.put o.dst v) w':=fun v w' hI'=>
    ih hV' _ _ w' (by simpa using hs) Qw0 (ha.put (h.dst i o dr0) v) (by rw[iq0 J7];exact hI')
   have hs':=ji0 i o hik hlo (fun j=>listed.getD j false) e w hDi ai0 hI;unfold wpOps;rw[dr0];simp only;rw[y5 ha];rcases hs' with⟨hw,hr⟩|⟨hw,hr⟩
   ·rw[if_pos hw];intro τ d;rw[ha.eval];obtain⟨r,w',h1,h2⟩:=hr τ d;refine⟨r,w',h1,?_⟩;cases r with
    |val u=>exact next u _ h2
    |skip=>exact next undef _ h2
    |enter f args=>
     refine Calls.mono h2 fun x w'' hx=>?_;cases x with
     |returned u=>exact next u w'' hx
     |panicked ch=>exact hx.elim
     |outgrown=>exact hx.elim
    |panic u=>exact h2.elim
   ·rw[if_neg (by rw[hw];simp)];exact next undef w hr
theorem W.im1 {P:Program} [Ctx P] {n:Nat} {id:Nat} {l:List Oper} {Q:Exit->Env->World->Prop} {e:Env} {w:World} (k:Nat) (I:(Nat->Bool)->Env->World->Prop) (hm:P.follows .mixedOrders=true) (hB:iy0 n l.toArray k=true) (hA:gr0 l k=true) (hk:Nat.ble k l.length=true) (h0:I (fun _=>false) e w.drew)
  (ji0:∀i o,i<k->l[i]? =some o->∀D e w,D i=false->D6 o D->I D e w->Vd0 P l.toArray I i o D e w)
  (H9:∀D e w,(∀j,j<k->D j=true)->I D e w->L P n l.toArray Q (l.drop k) e w):W P n (.region id l.toArray true) Q e w:=by
 intro a ha;refine wp_region_draw fun t=>?_;simp only[Region.schedule,hm,Bool.true_or,if_true];have k4:=ev0 l.toArray l.toArray.size t (Array.replicate l.toArray.size false) (by simp) (by simp);unfold Region.linearise;generalize Region.linearise.go .any l.toArray l.toArray.size t (Array.replicate l.toArray.size false) []=σ at k4⊢;have ho:=z9 hB;have e0:(fun j=>(Array.replicate l.toArray.size false).getD j false)=fun _=>false:=funext fun j=>K0 _ _;refine Pd0 (V:=Pre σ) (I:=I) ho (Nat.le_of_ble_eq_true hk) (fun D hD i J9 J7=>iv0 hA (Y4 k4) hD i J9 (by simpa using J7)) ji0 (fun D a' w' e' ha' hD hI=>?_) k4 ?_ a e _ (by simp) (fun j _=>K0 _ _) ha (by rw[e0];exact h0)
 ·have h4:=H9 D e' w' hD hI (fun o' ho'=>by
   obtain⟨i,hi⟩:=List.mem_iff_getElem?.1 ho';rw[List.getElem?_drop]at hi;exact ho.dst (k+i) o' (by simpa using hi)) a' ha'
  have h5:=wpOps_eq_wpList (P:=P) (ops:=l.toArray) (Q:=lift n Q) (l.drop k) k (fun j=>by rw[List.getElem?_drop];simp);rw[List.length_drop]at h5;have h6:l.toArray.size-k=l.length-k:=by simp
  rw[h6,h5];exact h4
 ·intro τ ρ hσ;exact⟨τ,ρ,hσ,fun k=>by show((Array.replicate l.toArray.size false).getD k false ||τ.contains k)=true↔_;rw[K0];simp⟩
inductive NK where
 |lk (v:Value)
 |nw (mk:Nat->Value) (cs:Array Value) (T:TypeId)
def NK.ok (sp:NK) (N d:Nat) (e:Env) (w:World):Prop:=match sp with
 | .lk v=>e d=v
 | .nw mk cs T=>∃b,e d=mk b/\V0 w b cs T/\N <=b
def oy0 (l:List Oper) (k t:Nat):Bool:=(l.take k).all fun o=>o.dst !=some t
def tg0 (o:Oper) (j:Nat):Bool:=o.after.any fun x=>Region.binds .any x&&x.on==j
structure NI (l:List Oper) (k:Nat) (sp:Nat->NK) (e0:Env) (w0:World) (D:Nat->Bool) (e:Env) (w:World):Prop where
 hb:Below w0.heap.size w0 w
 slot:∀i o d,i<k->l[i]? =some o->o.dst=some d->D i=true->(sp i).ok w0.heap.size d e w
 free:∀t,oy0 l k t=true->e t=e0 t
def NOp (P:Program) (l:List Oper) (k:Nat) (sp:Nat->NK) (e0:Env) (i:Nat) (o:Oper):Prop :=
 ∀(e:Env) (w:World),(∀t,oy0 l k t=true->e t=e0 t)->(∀j p t v,j<k->l[j]? =some p->p.dst=some t->tg0 o j=true->sp j= .lk v->e t=v) ->
  match sp i with
  | .lk v=>Does P (execOp (ev e) o) w (.val v) w
  | .nw mk cs T=>Does P (execOp (ev e) o) w (.val (mk w.heap.size)) (w.alloc (.cells cs T))
theorem NK.Pe0 {sp:NK} {N d t:Nat} {e:Env} {w w':World} {v:Value} (h:sp.ok N d e w) (C3:d≠t) (hb:Below w.heap.size w w'):sp.ok N d (upd e t v) w':=by
 cases sp with
 |lk u=>exact(upd_ne _ _ C3).trans h
 |nw mk cs T=>
  obtain⟨b,h1,h2,h3⟩:=h;exact⟨b,(upd_ne _ _ C3).trans h1,h2.j0 hb,h3⟩
theorem W.news {P:Program} [Ctx P] {n:Nat} {id:Nat} {l:List Oper} {Q:Exit->Env->World->Prop} {e:Env} {w:World} (k:Nat) (sp:Nat->NK) (hm:P.follows .mixedOrders=true) (hB:iy0 n l.toArray k=true) (hA:gr0 l k=true) (hk:Nat.ble k l.length=true)
  (hg:(l.take k).all (fun o=>o.guard.isNone&&o.dst.isSome)=true) (hop:∀i o,i<k->l[i]? =some o->NOp P l k sp e i o)
  (H9:∀e' w',NI l k sp e w (fun _=>true) e' w'->L P n l.toArray Q (l.drop k) e' w'):W P n (.region id l.toArray true) Q e w:=by
 have ho:=z9 hB;have hk':=Nat.le_of_ble_eq_true hk;have hgo:∀i o,i<k->l[i]? =some o->o.guard=none/\∃d,o.dst=some d:=fun i o hi hl=>by
  have h1:=List.all_eq_true.1 hg o (List.mem_iff_getElem?.2 ⟨i,by rw[List.getElem?_take,if_pos hi];exact hl⟩);simp only[Bool.and_eq_true]at h1;refine⟨by simpa using h1.1,?_⟩;cases hd:o.dst with
  |none=>rw[hd]at h1;cases h1.2
  |some d=>exact⟨d,rfl⟩
 refine W.im1 k (NI l k sp e w) hm hB hA hk ⟨(Below.refl w.heap.size w).drew,(fun i o d _ _ _ h=>by cases h),fun _ _=>rfl⟩ (fun i o hi hl D e' w' hDi ai0 hI=>?_) (fun D e' w' hD hI=>H9 e' w' ⟨hI.hb,fun i o d hi hl hd _=>hI.slot i o d hi hl hd (hD i hi),hI.free⟩);obtain⟨p6,d,hd⟩:=hgo i o hi hl;have hnf:oy0 l k d=false:=by
  cases hf:oy0 l k d with
  |false=>rfl
  |true=>
   have h1:=List.all_eq_true.1 hf o (List.mem_iff_getElem?.2 ⟨i,by rw[List.getElem?_take,if_pos hi];exact hl⟩);rw[hd]at h1;simp at h1
 have hw1:Region.wanted o (u3 l.toArray e')=true:=by unfold Region.wanted;rw[p6]
 have rq0:∀j p t,j<k->l[j]? =some p->p.dst=some t->j≠i->t≠d:=fun j p t hj hp ht S2 e9=>S2 (ho.one j i p o t hj hi (by simpa using hp) (by simpa using hl) ht (by rw[hd,e9]));have hx:=hop i o hi hl e' w' hI.free (fun j p t v hj hp ht hdj hs=>by
  unfold tg0 at hdj;obtain⟨q,hq,hx2⟩:=Array.any_eq_true.1 hdj;simp only[Bool.and_eq_true,beq_iff_eq]at hx2;have hDj:=ai0 _ (Array.getElem_mem hq) hx2.1;rw[hx2.2]at hDj;have:=hI.slot j p t hj hp ht hDj;rw[hs]at this;exact this)
 have fin:∀v w2,w2.tape=w'.tape->w2.drawn=w'.drawn->Below w'.heap.size w' w2->(sp i).ok w.heap.size d (upd e' d v) w2->NI l k sp e w (C4 D i) (L3 e' o.dst v) w2:=fun v w2 _ _ H3 hok=>by
  rw[hd];refine⟨O0 hI.hb H3,fun j p t hj hp ht hDj=>?_,fun t ht=>?_⟩
  ·by_cases S2:j=i
   ·subst S2;obtain rfl:p=o:=Option.some.inj (hp.symm.trans hl);rw[hd]at ht;cases ht;exact hok
   ·have hDj:D j=true:=by
     unfold C4 at hDj;rw[if_neg S2]at hDj;exact hDj
    exact NK.Pe0 (hI.slot j p t hj hp ht hDj) (rq0 j p t hj hp ht S2) H3
  ·have C3:t≠d:=fun e9=>by subst e9;rw[hnf]at ht;cases ht
   exact(upd_ne _ _ C3).trans (hI.free t ht)
 refine .inl ⟨hw1,fun τ dd=>?_⟩;cases hs:sp i with
 |lk v=>
  rw[hs]at hx;have hx:Does P (execOp (ev e') o) w' (.val v) w':=hx;refine⟨.val v,P2 w' τ dd,hx.go τ dd,?_⟩;show NI l k sp e w (C4 D i) (L3 e' o.dst v) (P2 (P2 w' τ dd) w'.tape w'.drawn);have e9:P2 (P2 w' τ dd) w'.tape w'.drawn=w':=rfl;rw[e9];refine fin v w' rfl rfl (Below.refl _ _) ?_;rw[hs];exact upd_same _ _ _
 |nw mk cs T=>
  rw[hs]at hx;have hx:Does P (execOp (ev e') o) w' (.val (mk w'.heap.size)) (w'.alloc (.cells cs T)):=hx;refine⟨.val (mk w'.heap.size),P2 (w'.alloc (.cells cs T)) τ dd,hx.go τ dd,?_⟩;show NI l k sp e w (C4 D i) (L3 e' o.dst (mk w'.heap.size)) (P2 (P2 (w'.alloc (.cells cs T)) τ dd) w'.tape w'.drawn);have e9:P2 (P2 (w'.alloc (.cells cs T)) τ dd) w'.tape w'.drawn=w'.alloc (.cells cs T):=rfl;rw[e9];have F:=K6 w' cs T;refine fin _ _ rfl rfl F.below ?_;exact U629
structure NI3 (l:List Oper) (k:Nat) (sp:Nat->NK) (jv dv:Nat) (f:Env->Value) (js:List (Nat×Nat)) (e0:Env) (w0:World) (D:Nat->Bool) (e:Env) (w:World):Prop where
 hb:Below w0.heap.size w0 w
 slot:∀i o d,i<k->i≠jv->l[i]? =some o->o.dst=some d->D i=true->(sp i).ok w0.heap.size d e w
 evl:D jv=true->e dv=f e/\∀p∈js,D p.1=true
 free:∀t,oy0 l k t=true->e t=e0 t
theorem W.in1 {P:Program} [Ctx P] {n:Nat} {id:Nat} {l:List Oper} {Q:Exit->Env->World->Prop} {e:Env} {w:World} (k:Nat) (sp:Nat->NK) (jv dv:Nat) (f:Env->Value) (js:List (Nat×Nat)) (hm:P.follows .mixedOrders=true) (hB:iy0 n l.toArray k=true) (hA:gr0 l k=true) (hk:Nat.ble k l.length=true)
  (hg:(l.take k).all (fun o=>o.guard.isNone&&o.dst.isSome)=true) (hjv:(match l[jv]? with|some o=>o.dst==some dv&&js.all fun p=>Nat.blt p.1 k&&p.1 !=jv&&tg0 o p.1&&(match l[p.1]? with|some q=>q.dst==some p.2|none=>false)|none=>false)=true) (hjk:Nat.blt jv k=true) (hf:∀e e':Env,(∀p∈js,e p.2=e' p.2)->f e=f e')
  (hop:∀i o,i<k->i≠jv->l[i]? =some o->NOp P l k sp e i o) (hev:∀o,l[jv]? =some o->∀(e':Env) (w':World),(∀p∈js,(sp p.1).ok w.heap.size p.2 e' w')->Does P (execOp (ev e') o) w' (.val (f e')) w')
  (Px0:∀j o,j<k->l[j]? =some o->tg0 o jv=false)
  (H9:∀e' w',NI3 l k sp jv dv f js e w (fun _=>true) e' w'->L P n l.toArray Q (l.drop k) e' w'):W P n (.region id l.toArray true) Q e w:=by
 have ho:=z9 hB;have hk':=Nat.le_of_ble_eq_true hk;have io1:jv<k:=by simpa [Nat.blt_eq]using hjk
 have hgo:∀i o,i<k->l[i]? =some o->o.guard=none/\∃d,o.dst=some d:=fun i o hi hl=>by
  have h1:=List.all_eq_true.1 hg o (List.mem_iff_getElem?.2 ⟨i,by rw[List.getElem?_take,if_pos hi];exact hl⟩);simp only[Bool.and_eq_true]at h1;refine⟨by simpa using h1.1,?_⟩;cases hd:o.dst with
  |none=>rw[hd]at h1;cases h1.2
  |some d=>exact⟨d,rfl⟩
 obtain⟨ov,hov⟩:∃o,l[jv]? =some o:=⟨_,List.getElem?_eq_getElem (by omega)⟩
 rw[hov]at hjv;simp only[Bool.and_eq_true,beq_iff_eq]at hjv;obtain⟨hdv,hjs⟩:=hjv;have Ub0:∀p∈js,p.1<k/\p.1≠jv/\tg0 ov p.1=true/\∃q,l[p.1]? =some q/\q.dst=some p.2:=fun p hp=>by
  have h1:=List.all_eq_true.1 hjs p hp;simp only[Bool.and_eq_true,bne_iff_ne,ne_eq]at h1;obtain⟨⟨⟨h2,h3⟩,h4⟩,h5⟩:=h1;refine⟨by simpa [Nat.blt_eq]using h2,h3,h4,?_⟩;cases hq:l[p.1]? with
  |none=>rw[hq]at h5;cases h5
  |some q=>rw[hq]at h5;exact⟨q,rfl,by simpa using h5⟩
 refine W.im1 k (NI3 l k sp jv dv f js e w) hm hB hA hk ⟨(Below.refl w.heap.size w).drew,(fun i o d _ _ _ _ h=>by cases h),(fun h=>by cases h),fun _ _=>rfl⟩ (fun i o hi hl D e' w' hDi ai0 hI=>?_) (fun D e' w' hD hI=>H9 e' w' ⟨hI.hb,fun i o d hi C3 hl hd _=>hI.slot i o d hi C3 hl hd (hD i hi),fun _=>⟨(hI.evl (hD jv io1)).1,fun _ _=>rfl⟩,hI.free⟩);obtain⟨p6,d,hd⟩:=hgo i o hi hl;have hnf:oy0 l k d=false:=by
  cases hf:oy0 l k d with
  |false=>rfl
  |true=>
   have h1:=List.all_eq_true.1 hf o (List.mem_iff_getElem?.2 ⟨i,by rw[List.getElem?_take,if_pos hi];exact hl⟩);rw[hd]at h1;simp at h1
 have hw1:Region.wanted o (u3 l.toArray e')=true:=by unfold Region.wanted;rw[p6]
 have rq0:∀j p t,j<k->l[j]? =some p->p.dst=some t->j≠i->t≠d:=fun j p t hj hp ht S2 e9=>S2 (ho.one j i p o t hj hi (by simpa using hp) (by simpa using hl) ht (by rw[hd,e9]));have dep:∀j,tg0 o j=true->D j=true:=fun j hdj=>by
  unfold tg0 at hdj;obtain⟨q,hq,hx2⟩:=Array.any_eq_true.1 hdj;simp only[Bool.and_eq_true,beq_iff_eq]at hx2;have hDj:=ai0 _ (Array.getElem_mem hq) hx2.1;rw[hx2.2]at hDj;exact hDj
 have fin:∀v w2,Below w'.heap.size w' w2->(i≠jv->(sp i).ok w.heap.size d (upd e' d v) w2)->(i=jv->v=f e'/\∀p∈js,D p.1=true)->NI3 l k sp jv dv f js e w (C4 D i) (L3 e' o.dst v) w2:=fun v w2 H3 hok hvv=>by
  rw[hd];refine⟨O0 hI.hb H3,fun j p t hj ip1 hp ht hDj=>?_,fun hDv=>?_,fun t ht=>?_⟩
  ·by_cases S2:j=i
   ·subst S2;obtain rfl:p=o:=Option.some.inj (hp.symm.trans hl);rw[hd]at ht;cases ht;exact hok ip1
   ·have hDj:D j=true:=by
     unfold C4 at hDj;rw[if_neg S2]at hDj;exact hDj
    exact NK.Pe0 (hI.slot j p t hj ip1 hp ht hDj) (rq0 j p t hj hp ht S2) H3
  ·have Wt0:∀x,D x=true->C4 D i x=true:=fun x hx=>by
    unfold C4;split
    ·rfl
    ·exact hx
   by_cases S2:jv=i
   ·obtain⟨h1,h2⟩:=hvv S2.symm;have hdd:d=dv:=by
     subst S2;rw[hov]at hl;cases hl;rw[hdv]at hd;cases hd;rfl
    subst hdd;refine⟨?_,fun p hp=>Wt0 _ (h2 p hp)⟩;show upd e' d v d=f (upd e' d v);rw[upd_same,h1];refine hf _ _ fun p hp=>?_;obtain⟨q1,q2,_,q,hq,hqd⟩:=Ub0 p hp;exact(upd_ne _ _ (rq0 p.1 q p.2 q1 hq hqd (fun z=>q2 (z.trans S2.symm)))).symm
   ·have hDv:D jv=true:=by
     unfold C4 at hDv;rw[if_neg S2]at hDv;exact hDv
    obtain⟨h1,h2⟩:=hI.evl hDv;refine⟨?_,fun p hp=>Wt0 _ (h2 p hp)⟩;show upd e' d v dv=f (upd e' d v);rw[upd_ne _ _ (rq0 jv ov dv io1 hov hdv S2),h1];refine hf _ _ fun p hp=>?_;obtain⟨q1,q2,_,q,hq,hqd⟩:=Ub0 p hp;refine(upd_ne _ _ (rq0 p.1 q p.2 q1 hq hqd fun z=>?_)).symm;have:=h2 p hp;rw[z,hDi]at this;cases this
  ·have C3:t≠d:=fun e9=>by subst e9;rw[hnf]at ht;cases ht
   exact(upd_ne _ _ C3).trans (hI.free t ht)
 by_cases hiv:i=jv
 ·subst hiv;rw[hov]at hl;cases hl;have hx:=hev ov hov e' w' fun p hp=>by
   obtain⟨q1,q2,q3,q,hq,hqd⟩:=Ub0 p hp;exact hI.slot p.1 q p.2 q1 q2 hq hqd (dep p.1 q3)
  refine .inl ⟨hw1,fun τ dd=>⟨.val (f e'),P2 w' τ dd,hx.go τ dd,?_⟩⟩;show NI3 l k sp i dv f js e w (C4 D i) (L3 e' ov.dst (f e')) (P2 (P2 w' τ dd) w'.tape w'.drawn);have e9:P2 (P2 w' τ dd) w'.tape w'.drawn=w':=rfl;rw[e9];exact fin _ w' (Below.refl _ _) (fun z=>absurd rfl z) (fun _=>⟨rfl,fun p hp=>dep p.1 (Ub0 p hp).2.2.1⟩)
 have hx:=hop i o hi hiv hl e' w' hI.free (fun j p t v hj hp ht hdj hs=>by
  have nb1:j≠jv:=fun z=>by rw[z]at hdj;rw[Px0 i o hi hl]at hdj;cases hdj
  have:=hI.slot j p t hj nb1 hp ht (dep j hdj);rw[hs]at this;exact this)
 refine .inl ⟨hw1,fun τ dd=>?_⟩;cases hs:sp i with
 |lk v=>
  rw[hs]at hx;have hx:Does P (execOp (ev e') o) w' (.val v) w':=hx;refine⟨.val v,P2 w' τ dd,hx.go τ dd,?_⟩;show NI3 l k sp jv dv f js e w (C4 D i) (L3 e' o.dst v) (P2 (P2 w' τ dd) w'.tape w'.drawn);have e9:P2 (P2 w' τ dd) w'.tape w'.drawn=w':=rfl;rw[e9];refine fin v w' (Below.refl _ _) (fun _=>?_) (fun z=>absurd z hiv);rw[hs];exact upd_same _ _ _
 |nw mk cs T=>
  rw[hs]at hx;have hx:Does P (execOp (ev e') o) w' (.val (mk w'.heap.size)) (w'.alloc (.cells cs T)):=hx;refine⟨.val (mk w'.heap.size),P2 (w'.alloc (.cells cs T)) τ dd,hx.go τ dd,?_⟩;show NI3 l k sp jv dv f js e w (C4 D i) (L3 e' o.dst (mk w'.heap.size)) (P2 (P2 (w'.alloc (.cells cs T)) τ dd) w'.tape w'.drawn);have e9:P2 (P2 (w'.alloc (.cells cs T)) τ dd) w'.tape w'.drawn=w'.alloc (.cells cs T):=rfl;rw[e9];have F:=K6 w' cs T;refine fin _ _ F.below (fun _=>?_) (fun z=>absurd z hiv);exact U629
theorem Pf0 {l:List Oper} {k jv:Nat} (h:((l.take k).all fun o=>!tg0 o jv)=true):∀j o,j<k->l[j]? =some o->tg0 o jv=false:=fun j o hj hl=>by
 have h1:=List.all_eq_true.1 h o (List.mem_iff_getElem?.2 ⟨j,by rw[List.getElem?_take,if_pos hj];exact hl⟩);simpa using h1
section
variable {P:Program}[Ctx P]
end
section
variable {P:Program}{ρ:Operand->Value}{w:World}{d:Option Nat}{ty:TypeId}{ps:String}{af:Array Edge}{g:Option (Nat×Bool)}{T E:TypeId}{x y:Operand}
theorem kc0 {m s bytes:Nat} {zv:Value} (hx:ρ x= .int .i64 (m:Int)) (hy:ρ y= .int .i64 (m:Int)) (hT:P.underlying T=some (.slice E)) (hi:(P.info? E).map (fun i=>(i.zero,i.size,i.bytes))=some (some zv,s,bytes)) (hm:m <=9223372036854775807) (hb:m*bytes <=281474976710656) :
  Does P (execOp ρ ⟨d,.makeSlice T x y,ty,ps,af,g⟩) w (.val (.slice (some ⟨w.heap.size,0,none⟩) m m)) (w.alloc (.cells (madeCells zv.cells (m*s)) E)):=by
 refine .j1 (I2 rfl _) rfl rfl fun τ d'=>?_;show(execOp ρ ⟨d,.makeSlice T x y,ty,ps,af,g⟩).run P (P2 w τ d')= .ok (.value (.slice (some ⟨(P2 w τ d').heap.size,0,none⟩) m m)) ((P2 w τ d').alloc (.cells (madeCells zv.cells (m*s)) E));generalize P2 w τ d'=w;obtain⟨i,hi'⟩:∃i,P.info? E=some i:=by cases hh:P.info? E with|none=>rw[hh]at hi;cases hi|some i=>exact⟨i,rfl⟩
 rw[hi']at hi;simp only[Option.map_some,Option.some.injEq,Prod.mk.injEq]at hi;obtain⟨h1,rfl,rfl⟩:=hi;have hr:=run_make (P:=P) w T E i zv hT hi' h1 .i64 .i64 (m:Int) (m:Int) (by omega) (Int.le_refl _) (by
  have:((m*i.bytes:Nat):Int) <=281474976710656:=by omega
  rw[Int.natCast_mul,Int.mul_comm]at this;exact this) (by omega)
 simp only[Int.toNat_natCast]at hr;simp only[execOp,hx,hy,Sem.run_bind,hr,Result.andThen_ok,Sem.run_pure]
end
section
variable {P:Program}[Ctx P]
end
end Go.Vy
end
section
namespace Go.Vy.Sc
open Go Go.Conc Go.Yc Go.RowKit Go.Proofs Go.Proofs.Ytgadhljgilblbaa Try
open Go.Vc Go.Wg
theorem lv0 (ops:List X8) (i:Nat):∀(n k:Nat) (s:HW) (x:Nat),ops.length-k=n->(Z0 ops i k s).W3= .inr x->x=1:=by
 intro n
 induction n with
 |zero=>intro k s x h hx;rw[C7 (by omega)]at hx;cases hx;rfl
 |succ n ih=>
  intro k s x h hx;obtain⟨o,ho⟩:∃o,ops[k]? =some o:=⟨_,List.getElem?_eq_getElem (by omega)⟩
  rw[v5 ho]at hx;split at hx
  ·exact ih _ _ _ (by omega) hx
  ·split at hx
   ·cases hx
   ·exact ih _ _ _ (by omega) hx
theorem Pg0 {most:Int} {ops:List X8} {i:Nat} {l:Nat×L1} {s:HW} {x:Nat} (h:(o7 most ops i l s).W3= .inr x):x=1:=by
 unfold o7 at h;split at h
 ·cases h
 ·exact lv0 _ _ _ _ _ _ rfl h
theorem Ie0 {most:Int} {H:Hs} {c:L1}:(W0 most H c).1.Y0.length <=H.Y0.length+1:=by
 unfold W0;split
 ·split
  ·exact Nat.le_succ _
  ·split <;> exact Nat.le_succ _
 split
 ·exact Nat.le_succ _
 split
 ·split
  ·show(H.Y0 ++ [_]).length <=_;rw[List.length_append];exact Nat.le_refl _
  ·rw[Hs.o6];exact Nat.le_succ _
 split
 ·split <;> exact Nat.le_succ _
 split
 ·rw[Hs.o6];exact Nat.le_succ _
 split
 ·exact Nat.le_succ _
 split
 ·exact Nat.le_succ _
 ·exact Nat.le_succ _
structure NOk (p:j4) (q:PR (V1 p)):Prop where
 n:q.s.H.Y0.length <=q.evs.length
 p:q.s.H.pool.length <=q.evs.length
 t:q.s.N0.length <=q.evs.length
 one:∀(j x:Nat),q.ft[j]? =some (.inr x)->x=1
theorem Ph0 {p:j4} {q:PR (V1 p)} {i:Nat} {l:Nat×L1} (hf:q.ft[i]? =some (.inl l)):(V1 p).o5 q i={q with s:=(o7 p.most (p.bo i) i l q.s).s,ft:=q.ft.set i (o7 p.most (p.bo i) i l q.s).W3,evs:=q.evs ++ [(i,D3 5 l.2)],j2:=q.j2++tell i (q.evs.length+1) (o7 p.most (p.bo i) i l q.s).j2,outs:=q.outs ++ [o7 p.most (p.bo i) i l q.s],who:=q.who ++ [some i],used:=q.used+1}:=by
 unfold Sys.o5;rw[hf]
theorem Wu0 {p:j4} {q:PR (V1 p)}:(V1 p).bgn q={q with s:=(Z0 (p.bo q.ft.length) q.ft.length 0 q.s).s,ft:=q.ft ++ [(Z0 (p.bo q.ft.length) q.ft.length 0 q.s).W3],j2:=q.j2++tell q.ft.length q.evs.length (Z0 (p.bo q.ft.length) q.ft.length 0 q.s).j2,outs:=q.outs ++ [Z0 (p.bo q.ft.length) q.ft.length 0 q.s],who:=q.who ++ [none]}:=rfl
theorem lw0 (ops:List X8) (i:Nat):∀(n k:Nat) (s:HW),ops.length-k=n->(Z0 ops i k s).s.N0=s.N0:=by
 intro n
 induction n with
 |zero=>intro k s h;rw[C7 (by omega)]
 |succ n ih=>
  intro k s h;obtain⟨o,ho⟩:∃o,ops[k]? =some o:=⟨_,List.getElem?_eq_getElem (by omega)⟩
  rw[v5 ho];split
  ·exact ih _ _ (by omega)
  ·rename_i c hc;split
   ·rfl
   ·rename_i C3;rw[ih (k+1) (P4 i s c) (by omega)];have hz:=(qs0 hc).2.2 (by simpa using C3);rw[dz0 (by rw[hz];decide)]
theorem th0 {p:j4} (hp:n4 p):∀q,(V1 p).Reach q->NOk p q:=by
 refine Sys.bd1 (Y:=V1 p) (fun q=>NOk p q) ⟨Nat.le_refl _,Nat.le_refl _,Nat.le_refl _,fun j x h=>by cases h⟩ (fun q hR hq _=>?_) (fun q i l hR hq _ hf _=>?_)
 ·rw[Wu0];have e1:=(ea0 (p.bo q.ft.length) q.ft.length _ 0 q.s rfl).1;have e2:=lw0 (p.bo q.ft.length) q.ft.length _ 0 q.s rfl;refine⟨?_,?_,?_,fun j x h=>?_⟩
  ·show(HW.H (Z0 _ _ 0 q.s).s).Y0.length <=q.evs.length;rw[e1];exact hq.n
  ·show(HW.H (Z0 _ _ 0 q.s).s).pool.length <=q.evs.length;rw[e1];exact hq.p
  ·show(HW.N0 (Z0 _ _ 0 q.s).s).length <=q.evs.length;rw[e2];exact hq.t
  ·have h:(q.ft ++ [(Z0 (p.bo q.ft.length) q.ft.length 0 q.s).W3])[j]? =some (.inr x):=h;rcases m8 h with h|⟨_,h⟩
   ·exact hq.one j x h
   ·exact lv0 _ _ _ _ _ _ rfl h
 ·have hl:=(List.getElem?_eq_some_iff.1 hf).1;rw[Ph0 hf];have hj:=(st0 hp q hR).lab i l hf;have hpo:=ot0 (most:=p.most) hj;have hnd:=Ie0 (most:=p.most) (H:=q.s.H) (c:=l.2);have key:(HW.H (o7 p.most (p.bo i) i l q.s).s)=(W0 p.most q.s.H l.2).1/\(HW.N0 (o7 p.most (p.bo i) i l q.s).s).length <=q.s.N0.length+1:=by
   unfold o7;split
   ·exact⟨rfl,Nat.le_succ _⟩
   ·refine⟨(ea0 (p.bo i) i _ (l.1+1) _ rfl).1,?_⟩;show(HW.N0 (Z0 (p.bo i) i (l.1+1) _).s).length <=_;rw[lw0 (p.bo i) i _ (l.1+1) _ rfl];show(if 0<_ then _ else _:List (Int×Int)).length <=_;split
    ·rw[List.length_append];exact Nat.le_refl _
    ·exact Nat.le_succ _
  refine⟨?_,?_,?_,fun j x h=>?_⟩
  ·show(HW.H (o7 _ _ i l q.s).s).Y0.length <=(q.evs ++ [_]).length;rw[key.1,List.length_append];have:=hq.n;simp;omega
  ·show(HW.H (o7 _ _ i l q.s).s).pool.length <=(q.evs ++ [_]).length;rw[key.1,List.length_append];have:=hq.p;simp;omega
  ·show(HW.N0 (o7 _ _ i l q.s).s).length <=(q.evs ++ [_]).length;rw[List.length_append];have:=hq.t;have:=key.2;simp;omega
  ·have h:(q.ft.set i (o7 p.most (p.bo i) i l q.s).W3)[j]? =some (.inr x):=h;by_cases S2:j=i
   ·subst S2;rw[List.getElem?_set_self hl]at h;exact Pg0 (Option.some.inj h)
   ·rw[List.getElem?_set_ne (Ne.symm S2)]at h;exact hq.one j x h
structure MQ (p:j4) (q:PR (V1 p)) (M:Mx):Prop where
 s:M.s=q.s
 evs:M.evs=q.evs
 used:M.used=q.used
 nil:∀j,j<p.m->q.ft[j]? =none->M.W9[j]? =some 0
 inl:∀(j:Nat) l,j<p.m->q.ft[j]? =some (.inl l)->M.W9[j]? =some l.1/\∃d,M.now[j]? =some d/\d.c=l.2
 inr:∀(j x:Nat),j<p.m->q.ft[j]? =some (.inr x)->M.W9[j]? =some (p.bo j).length
section
variable {p:j4}{q:PR (V1 p)}{M M':Mx}{i:Nat}
theorem MQ.bgn (h:MQ p q M) (hi:q.ft.length=i) (hW:Pa0 (p.bo i) M i (Z0 (p.bo i) i 0 M.s) M'):MQ p ((V1 p).bgn q) M':=by
 subst hi;rw[h.s]at hW;rw[Wu0];have ik0:(q.ft ++ [(Z0 (p.bo q.ft.length) q.ft.length 0 q.s).W3])[q.ft.length]? =some (Z0 (p.bo q.ft.length) q.ft.length 0 q.s).W3:=by simp
 have zu0:∀j,j≠q.ft.length->(q.ft ++ [(Z0 (p.bo q.ft.length) q.ft.length 0 q.s).W3])[j]? =q.ft[j]?:=fun j hj=>by
  rcases Nat.lt_or_ge j q.ft.length with z|z
  ·rw[List.getElem?_append_left z]
  ·rw[List.getElem?_eq_none z,List.getElem?_eq_none];rw[List.length_append];show q.ft.length+1 <=j;omega
 refine⟨hW.s,hW.fx.e.1.trans h.evs,hW.fx.e.2.2.2.trans h.used,fun j hj hf=>?_,fun j l hj hf=>?_,fun j x hj hf=>?_⟩
 ·have hf:(q.ft ++ [(Z0 (p.bo q.ft.length) q.ft.length 0 q.s).W3])[j]? =none:=hf;by_cases e:j=q.ft.length
  ·subst e;rw[ik0]at hf;cases hf
  ·rw[zu0 j e]at hf;rw[hW.W9 j e];exact h.nil j hj hf
 ·have hf:(q.ft ++ [(Z0 (p.bo q.ft.length) q.ft.length 0 q.s).W3])[j]? =some (.inl l):=hf;by_cases e:j=q.ft.length
  ·subst e;rw[ik0]at hf;exact hW.inl l (Option.some.inj hf)
  ·rw[zu0 j e]at hf;rw[hW.W9 j e,hW.now j e];exact h.inl j l hj hf
 ·have hf:(q.ft ++ [(Z0 (p.bo q.ft.length) q.ft.length 0 q.s).W3])[j]? =some (.inr x):=hf;by_cases e:j=q.ft.length
  ·subst e;rw[ik0]at hf;exact hW.inr x (Option.some.inj hf)
  ·rw[zu0 j e]at hf;rw[hW.W9 j e];exact h.inr j x hj hf
theorem MQ.o5 (h:MQ p q M) {l:Nat×L1} (hf:q.ft[i]? =some (.inl l)) (hs:M'.s=(o7 p.most (p.bo i) i l q.s).s) (he:M'.evs=M.evs ++ [(i,D3 5 l.2)]) (hu:M'.used=M.used+1) (hp:∀j,j≠i->M'.W9[j]? =M.W9[j]?) (hn:∀j,j≠i->M'.now[j]? =M.now[j]?)
  (hin:∀l',(o7 p.most (p.bo i) i l q.s).W3= .inl l'->M'.W9[i]? =some l'.1/\∃d,M'.now[i]? =some d/\d.c=l'.2) (hir:∀x,(o7 p.most (p.bo i) i l q.s).W3= .inr x->M'.W9[i]? =some (p.bo i).length):MQ p ((V1 p).o5 q i) M':=by
 rw[Ph0 hf];have ik0:(q.ft.set i (o7 p.most (p.bo i) i l q.s).W3)[i]? =some (o7 p.most (p.bo i) i l q.s).W3:=H6 _ hf;refine⟨hs,by rw[he,h.evs],by rw[hu,h.used],fun j hj hff=>?_,fun j l' hj hff=>?_,fun j x hj hff=>?_⟩
 ·have hff:(q.ft.set i (o7 p.most (p.bo i) i l q.s).W3)[j]? =none:=hff;by_cases e:j=i
  ·subst e;rw[ik0]at hff;cases hff
  ·rw[A6 _ e]at hff;rw[hp j e];exact h.nil j hj hff
 ·have hff:(q.ft.set i (o7 p.most (p.bo i) i l q.s).W3)[j]? =some (.inl l'):=hff;by_cases e:j=i
  ·subst e;rw[ik0]at hff;exact hin l' (Option.some.inj hff)
  ·rw[A6 _ e]at hff;rw[hp j e,hn j e];exact h.inl j l' hj hff
 ·have hff:(q.ft.set i (o7 p.most (p.bo i) i l q.s).W3)[j]? =some (.inr x):=hff;by_cases e:j=i
  ·subst e;rw[ik0]at hff;exact hir x (Option.some.inj hff)
  ·rw[A6 _ e]at hff;rw[hp j e];exact h.inr j x hj hff
end
structure Uc0 (N m:Nat) (M:Mx):Prop where
 na:M.L.na≠none->ab M.L.na<N
 pa:M.L.pa≠none->ab M.L.pa<N
 ta:M.ta≠none->ab M.ta<N
 la:∀i,i<m->M.la i≠none->ab (M.la i)<N
 ea:M.ea≠none->ab M.ea<N
 sa:∀(i:Nat) (d:Dc),M.now[i]? =some d->d.a≠none->ab d.a<N
section
variable {w0 w w':World}{B2 m bc N:Nat}{ba:Option Addr}{most:Int}{M:Mx}
theorem N1.lt {B:Nat} {a:Option Addr} {k:Nat} {l:List Int} (h:N1 w B a k l) (ha:a≠none):ab a<w.heap.size:=by
 obtain⟨cs,h1,_⟩:=h.bl ha;exact(G3 h1).lt
theorem RX.nc1 (h:RX w0 B2 m ba bc most w M):Uc0 w.heap.size m M :=
 ⟨fun ha=>h.hD.nO.lt ha,fun ha=>h.hD.pO.lt ha,fun ha=>h.hT.lt ha,fun i hi ha=>(h.hL i hi).lt ha,fun ha=>h.hV.lt ha,fun i d hd ha=>(h.hS i d hd).lt ha⟩
theorem RX.iq1 (h:RX w0 B2 m ba bc most w M) (hl:Uc0 N m M) (hN:B2 <=N) (hb:Below N w w'):RX w0 B2 m ba bc most w' M:=by
 have lo:=h.lo;have k:∀{b:Nat} {cs:Array Value} {T:TypeId},V0 w b cs T->b<N->V0 w' b cs T:=fun hB D2=>(hb.block _ D2).trans hB;exact⟨k h.hW (by omega),⟨k h.hD.hH (by omega),Own.congr h.hD.nO fun ha=>hb.block _ (hl.na ha),h.hD.pO.low hl.pa hb⟩,k h.hP (by omega),k h.hN (by omega),k h.hG (by omega),k h.hR (by omega),k h.hE (by omega),k h.hX (by omega),k h.hZ (by have:=h.zl;omega),Own.congr h.hT fun ha=>hb.block _ (hl.ta ha),fun i hi=>Own.congr (h.hL i hi) fun ha=>hb.block _ (hl.la i hi ha),Own.congr h.hV fun ha=>hb.block _ (hl.ea ha),fun i d hd=>(h.hS i d hd).low (hl.sa i d hd) hb,h.inj,h.lp,h.ln,h.le,h.lw,h.pe,h.zr,h.zl,Nat.le_trans h.bs hb.size,h.b0,h.lo,h.hi,h.hb.trans (hb.mono (Nat.le_trans h.b0 hN))⟩
end
theorem ra0 {α:Type} (f:α->List Value) (s:Nat) (hs:0<s) (hf:∀x,(f x).length=s) (x:α) (m:Nat):madeCells (f x).toArray (m*s)=((List.replicate m x).flatMap f).toArray:=by
 have hl:((List.replicate m x).flatMap f).length=m*s:=by rw[be0 hf,List.length_replicate]
 apply Array.ext
 ·simp[madeCells,hl]
 ·intro i h1 h2;have hi:i<m*s:=by simpa [madeCells]using h1
  have hm:i%s<s:=Nat.mod_lt _ hs;have hd:i/s<m:=Nat.div_lt_of_lt_mul (by rw[Nat.mul_comm];exact hi);have h3:=D9 f s hf (List.replicate m x) (i/s) x (i%s) ((f x)[i%s]'(by rw[hf];exact hm)) (by rw[List.getElem?_replicate,if_pos hd]) (List.getElem?_eq_getElem _);rw[show i/s*s+i%s=i by rw[Nat.mul_comm];exact Nat.div_add_mod i s]at h3;have h4:((List.replicate m x).flatMap f)[i]? =some (((List.replicate m x).flatMap f).toArray[i]'h2):=List.getElem?_eq_getElem _;rw[h3]at h4;have h5:=Option.some.inj h4;rw[<- h5];simp[madeCells,hf];rw[List.getElem?_eq_getElem (by rw[hf];exact hm)];rfl
theorem wd0 {Y:Sys} {p:PR Y} {e:Int} (h:Y.rds p≠[]):∃i l,p.ft[i]? =some (.inl l)/\(Y.rds p)[W7 e (Y.rds p).length]? =some i/\Y.step p e=Y.o5 p i:=by
 have hl:0<(Y.rds p).length:=List.length_pos_iff.2 h;obtain⟨i,hi⟩:∃i,(Y.rds p)[W7 e (Y.rds p).length]? =some i:=⟨_,List.getElem?_eq_getElem (kp0 _ hl)⟩
 obtain⟨_,hr⟩:=Sys.mk0 hi;unfold Sys.j9 at hr;cases hx:p.ft[i]? with
 |none=>rw[hx]at hr;cases hr
 |some f=>
  cases f with
  |inl l=>exact⟨i,l,hx,hi,by unfold Sys.step;rw[hi]⟩
  |inr x=>rw[hx]at hr;cases hr
theorem Dg0 {Y:Sys}:∀n,(Y.N4 n).evs=[]/\(Y.N4 n).used=0
 |0=>⟨rfl,rfl⟩
 |n+1=>by
  show(Y.bgn (Y.N4 n)).evs=[]/\(Y.bgn (Y.N4 n)).used=0;unfold Sys.bgn;split <;> exact Dg0 n
theorem we0 {p:j4} {q:PR (V1 p)} {j:Nat} {f:(Nat×L1) ⊕ Nat} (hf:q.ft[j]? =some f):(V1 p).j9 q j=f.isLeft:=by
 unfold Sys.j9;rw[hf];cases f <;> rfl
theorem Ft0 {r:Nat->Bool} {i:Nat} (h:r i=true):(List.range (i+1)).filter r=(List.range i).filter r ++ [i]:=by rw[List.range_succ,List.filter_append];simp[h]
theorem Pi0 {r:Nat->Bool} {i:Nat} (h:r i=false):(List.range (i+1)).filter r=(List.range i).filter r:=by rw[List.range_succ,List.filter_append];simp[h]
theorem Pj0 {r:Nat->Bool} (i:Nat):((List.range i).filter r).length <=i:=by have:=List.length_filter_le r (List.range i);simpa using this
abbrev mx0 (m wb hb pb nb gb rb eb xb zb:Nat):Mx:=⟨wb,hb,pb,nb,gb,rb,eb,xb,zb,⟨none,0,none,0⟩,none,0,fun _=>none,fun _=>0,none,0,List.replicate m dc0,List.replicate m 0,[],List.replicate m 0,List.replicate m sp0,0,hw0⟩
theorem Pk0 (z:Value) (n:Nat):madeCells #[z] n=Array.replicate n z:=cc0 z 1 Nat.one_pos n
theorem Pl0 {w0 w:World} {m bc:Nat} {ba:Option Addr} {most:Int} {wb hb pb nb gb rb eb xb zb:Nat} (hb0:Below w0.heap.size w0 w)
  (hW:V0 w wb #[.p hb,.slice ba m bc,.slice (pt pb) m m,.slice (pt nb) m m,.slice none 0 0,.slice (pt gb) m m] 54)
  (hH:V0 w hb #[.i 5,.i most,.slice none 0 0,.slice none 0 0] 113) (hP:V0 w pb (madeCells #[.i 0] (m*1)) 3) (hN:V0 w nb (madeCells #[.i 0,.i 0,.i 0,.i 0,.i 0,.slice none 0 0,.i 0,.i 0,.i 0,.i 0,.bool false] (m*11)) 117)
  (hG:V0 w gb (madeCells #[.slice none 0 0] (m*1)) 50) (hR:V0 w rb #[.slice none 0 0,.slice none 0 0,.slice (pt eb) m m,.slice (pt xb) m m,.bool false,.i 0] 40)
  (hE:V0 w eb (madeCells #[.i 0] (m*1)) 3) (hX:V0 w xb (madeCells #[.i 0,.i 0,.i 0] (m*3)) 77) (hZ:V0 w zb #[.slice none 0 0,.slice none 0 0,.slice none 0 0,.slice none 0 0,.bool false,.i 0] 40) (pe:pb≠eb) (zr:zb≠rb)
  (hi:w0.heap.size <=wb/\w0.heap.size <=hb/\w0.heap.size <=pb/\w0.heap.size <=nb/\w0.heap.size <=gb/\w0.heap.size <=rb/\w0.heap.size <=eb/\w0.heap.size <=xb):RX w0 w.heap.size m ba bc most w (mx0 m wb hb pb nb gb rb eb xb zb):=by
 have lt:∀{b:Nat} {cs:Array Value} {T:TypeId},V0 w b cs T->b<w.heap.size:=fun h=>(G3 h).lt;refine⟨hW,⟨hH,Own.nil _ _ _ _,N1.zero _ _⟩,?_,?_,?_,hR,?_,?_,hZ,Own.nil _ _ _ _,fun i hi=>Own.nil _ _ _ _,Own.nil _ _ _ _,fun i d hd=>?_,fun i j _ _ _ h=>absurd rfl h,by simp,by simp,by simp,by simp,pe,zr,lt hZ,Nat.le_refl _,hb0.size,⟨lt hW,lt hH,lt hP,lt hN,lt hG,lt hR,lt hE,lt hX⟩,hi,hb0⟩
 ·have h9:=hP;rw[Pk0,Nat.mul_one]at h9;have e:Array.replicate m (Value.i 0)=((List.replicate m 0).map plV).toArray:=by
   apply Array.toList_inj.1;simp[plV]
  rw[e]at h9;exact h9
 ·have h9:=hN;have e:=ra0 dcC 11 (by decide) (fun _=>rfl) dc0 m;have e2:(dcC dc0).toArray=#[.i 0,.i 0,.i 0,.i 0,.i 0,.slice none 0 0,.i 0,.i 0,.i 0,.i 0,.bool false]:=rfl;rw[<- e2,e]at h9;exact h9
 ·have h9:=hG;rw[Pk0,Fl0]at h9;exact h9
 ·have h9:=hE;rw[Pk0,Nat.mul_one]at h9;have e:Array.replicate m (Value.i 0)=((List.replicate m (0:Int)).map (Value.int .i64)).toArray:=by
   apply Array.toList_inj.1;simp
  rw[e]at h9;exact h9
 ·have h9:=hX;have e:=ra0 spC 3 (by decide) (fun _=>rfl) sp0 m;have e2:(spC sp0).toArray=#[.i 0,.i 0,.i 0]:=rfl;rw[<- e2,e]at h9;exact h9
 ·have hd:(List.replicate m dc0)[i]? =some d:=hd;rw[List.getElem?_replicate]at hd;split at hd
  ·cases hd;exact N1.zero _ _
  ·cases hd
theorem Pm0 {p:j4} {wb hb pb nb gb rb eb xb zb:Nat}:MQ p ((V1 p).N4 0) (mx0 p.m wb hb pb nb gb rb eb xb zb) :=
 ⟨rfl,rfl,rfl,fun j hj _=>by show(List.replicate p.m 0)[j]? =_;rw[List.getElem?_replicate,if_pos hj],(fun j l _ h=>by cases h),(fun j x _ h=>by cases h)⟩
structure ge0 (w0:World) (m:Nat) (most:Int) (w:World) (M:Mx):Prop where
 hW:∃ba bc,V0 w M.wb (M.wC ba bc m) 54
 hD:∃B2,DH w B2 M.hb most M.s.H M.L
 hG:V0 w M.gb (arr m fun i=>.slice (M.la i) (M.s.log i).length (M.lc i)) 50
 hE:V0 w M.eb (M.ends.map (Value.int .i64)).toArray 3
 hX:V0 w M.xb (M.I4.flatMap spC).toArray 77
 hL:∀i,i<m->ei0 w (M.la i) (M.s.log i)
 hV:∃B2,Own w B2 79 4 M.ea M.evs.length M.ec (M.evs.flatMap evC)
 le:M.ends.length=m
 lw:M.I4.length=m
 hb:Below w0.heap.size w0 w
theorem RX.out {w0 w w':World} {B2 m bc:Nat} {ba:Option Addr} {most:Int} {M:Mx} {cs:Array Value} (h:RX w0 B2 m ba bc most w M) (hz:w0.heap.size <=M.zb) (hg:w.grownBy w' (some M.zb)) (_:cs=cs):ge0 w0 m most w' M:=by
 have hm:F1 w w' w0.heap.size [40]:=F1.put h.hZ hg hz rfl;exact⟨⟨ba,bc,h.hW.mod hm rfl⟩,⟨B2,h.hD.mod hm rfl⟩,h.hG.mod hm rfl,h.hE.mod hm rfl,h.hX.mod hm rfl,fun i hi=>ei0.own ((h.hL i hi).mod hm rfl),⟨B2,h.hV.mod hm rfl⟩,h.le,h.lw,Below.pf0 h.hb hm⟩
section
variable {w0 w w':World}{m:Nat}{most:Int}{M:Mx}
theorem ge0.j0 (h:ge0 w0 m most w M) (hb:Below w.heap.size w w'):ge0 w0 m most w' M :=
 ⟨let⟨ba,bc,x⟩:=h.hW;⟨ba,bc,x.j0 hb⟩,let⟨B2,x⟩:=h.hD;⟨B2,x.j0 hb⟩,h.hG.j0 hb,h.hE.j0 hb,h.hX.j0 hb,fun i hi=>(h.hL i hi).j0 hb,let⟨B2,x⟩:=h.hV;⟨B2,Own.congr x fun ha=>hb.block _ (x.lt ha)⟩,h.le,h.lw,O0 h.hb hb⟩
theorem ge0.Np0 (h:ge0 w0 m most w M):dg0 w M.ea none (pt M.eb) (pt M.xb) m M.evs [] M.ends M.I4:=by
 obtain⟨B2,hV⟩:=h.hV;refine⟨hV.sl,SL.zero _,SL.mk _ _ _,SL.mk _ _ _,h.le,h.lw,fun i x k v h1 h2=>?_,(fun i x k v h1 _=>by cases h1),fun i x h1=>?_,fun i x k v h1 h2=>?_⟩
 ·rw[hV.off,Nat.zero_add];exact hV.cell (D9 evC 4 (fun _=>rfl) M.evs i x k v h1 h2)
 ·show w.cell? ⟨M.eb,0+i*1,none⟩=_;rw[Nat.zero_add,Nat.mul_one];exact h.hE.q0 i (by simp[h1])
 ·show w.cell? ⟨M.xb,0+i*3+k,none⟩=_;rw[Nat.zero_add];exact h.hX.q0 _ (by rw[List.getElem?_toArray];exact D9 spC 3 (fun _=>rfl) M.I4 i x k v h1 h2)
end
def Told (p:j4) (q:PR (V1 p)) (j:Nat) (M:Mx):Prop:=∀x,x<j->M.ends[x]? =some (G8 q.ft[x]?)/\M.I4[x]? =some (Me0 (V1 p) x q.ft[x]?)
section
variable {p:j4}{q:PR (V1 p)}{M:Mx}{j:Nat}
theorem Ud0 {l:Nat×L1} (h:Told p q j M) (hf:q.ft[j]? =some (.inl l)) (he:j<M.ends.length) (hw:j<M.I4.length):Told p q (j+1) {M with ends:=(M.ends.set j 1).set j 0,I4:=(M.I4.set j sp0).set j (D3 5 l.2)}:=by
 intro x hx;by_cases e:x=j
 ·subst e;rw[hf];refine⟨?_,?_⟩
  ·show((M.ends.set x 1).set x 0)[x]? =some 0;rw[List.getElem?_set_self (by rw[List.length_set];exact he)]
  ·show((M.I4.set x sp0).set x (D3 5 l.2))[x]? =some (D3 5 l.2);rw[List.getElem?_set_self (by rw[List.length_set];exact hw)]
 ·have:=h x (by omega);refine⟨?_,?_⟩
  ·show((M.ends.set j 1).set j 0)[x]? =_;rw[A6 _ e,A6 _ e];exact this.1
  ·show((M.I4.set j sp0).set j (D3 5 l.2))[x]? =_;rw[A6 _ e,A6 _ e];exact this.2
theorem Pn0 {x0:Nat} (h:Told p q j M) (hf:q.ft[j]? =some (.inr x0)) (h1:x0=1) (he:j<M.ends.length) (hw:j<M.I4.length):Told p q (j+1) {M with ends:=M.ends.set j 1,I4:=M.I4.set j sp0}:=by
 subst h1;intro x hx;by_cases e:x=j
 ·subst e;rw[hf];refine⟨?_,?_⟩
  ·show(M.ends.set x 1)[x]? =some 1;rw[List.getElem?_set_self he]
  ·show(M.I4.set x sp0)[x]? =some sp0;rw[List.getElem?_set_self hw]
 ·have:=h x (by omega);refine⟨?_,?_⟩
  ·show(M.ends.set j 1)[x]? =_;rw[A6 _ e];exact this.1
  ·show(M.I4.set j sp0)[x]? =_;rw[A6 _ e];exact this.2
theorem Told.lists (h:Told p q p.m M) (he:M.ends.length=p.m) (hw:M.I4.length=p.m):M.ends=(List.range p.m).map (fun j=>G8 q.ft[j]?)/\M.I4=(List.range p.m).map (fun j=>Me0 (V1 p) j q.ft[j]?):=by
 constructor
 ·apply List.ext_getElem?;intro j;rcases Nat.lt_or_ge j p.m with hj|hj
  ·rw[(h j hj).1];simp[hj]
  ·rw[List.getElem?_eq_none (by omega),List.getElem?_eq_none (by simpa using hj)]
 ·apply List.ext_getElem?;intro j;rcases Nat.lt_or_ge j p.m with hj|hj
  ·rw[(h j hj).2];simp[hj]
  ·rw[List.getElem?_eq_none (by omega),List.getElem?_eq_none (by simpa using hj)]
end
structure NW (N:Nat) (w:World):Prop where
 le:N <=w.heap.size
theorem NW.j0 {N:Nat} {w w':World} (h:NW N w) (hb:Below w.heap.size w w'):NW N w':=⟨Nat.le_trans h.le hb.size⟩
theorem NW.grown {N:Nat} {w w':World} {r:Option Nat} (h:NW N w) (hg:w.grownBy w' r):NW N w':=⟨Nat.le_trans h.le hg.size⟩
theorem Dh0 {w:World} {nb i:Nat} {now:List Dc} {d:Dc} (hN:V0 w nb (now.flatMap dcC).toArray 117) (hd:now[i]? =some d):∀(j:Nat) (v:Value),(dcC d)[j]? =some v->w.cell? ⟨nb,0+i*11+j,none⟩=some v:=fun j v hj=>by
 rw[Nat.zero_add];exact hN.q0 _ (by rw[List.getElem?_toArray];exact D9 dcC 11 (fun _=>rfl) now i d j v hd hj)
theorem bu1 (e:Int) {n:Nat} (hn:0<n):-(n:Int)<e.tmod (n:Int)/\e.tmod (n:Int)<(n:Int) :=
 ⟨by have:=Int.lt_tmod_of_pos e (b:=(n:Int)) (by omega);omega,Int.tmod_lt_of_pos e (by omega)⟩
section
variable {p:j4}{q:PR (V1 p)}{M M5 M9:Mx}{i:Nat}{l:Nat×L1}
theorem ir1 (h:MQ p q M) (hf:q.ft[i]? =some (.inl l)) {d9:Dc} (hd9:d9.c=(W0 p.most q.s.H l.2).2) (h0:d9.c.at_≠0) (e1:M5.evs=M.evs ++ [(i,D3 5 l.2)]) (e2:M5.used=M.used+1) (e3:M5.s={q.s with H:=(W0 p.most q.s.H l.2).1}) (e4:M5.W9=M.W9) (e5:M5.now=M.now.set i d9) (hi:i<p.m):MQ p ((V1 p).o5 q i) M5:=by
 obtain⟨hpl,d,hd,_⟩:=h.inl i l hi hf;have hgo:o7 p.most (p.bo i) i l q.s=⟨{q.s with H:=(W0 p.most q.s.H l.2).1},[],.inl (l.1,(W0 p.most q.s.H l.2).2)⟩:=by
  unfold o7;rw[if_pos (by rw[<- hd9];exact h0)]
 refine h.o5 hf (by rw[hgo];exact e3) e1 e2 (fun j hj=>by rw[e4]) (fun j hj=>by rw[e5];exact A6 _ hj) (fun l' c6=>?_) (fun x hx=>?_)
 ·rw[hgo]at c6;have c6:(Sum.inl (l.1,(W0 p.most q.s.H l.2).2):(Nat×L1) ⊕ Nat)= .inl l':=c6;cases c6;exact⟨by rw[e4];exact hpl,d9,by rw[e5];exact H6 _ hd,hd9⟩
 ·rw[hgo]at hx;cases hx
theorem Ue0 (h:MQ p q M) (hf:q.ft[i]? =some (.inl l)) (h0:(W0 p.most q.s.H l.2).2.at_=0) (e1:M5.evs=M.evs ++ [(i,D3 5 l.2)]) (e2:M5.used=M.used+1) (e3:M5.s=P4 i {q.s with H:=(W0 p.most q.s.H l.2).1} (W0 p.most q.s.H l.2).2) (e4:∀j,j≠i->M5.W9[j]? =M.W9[j]?) (e5:∀j,j≠i->M5.now[j]? =M.now[j]?)
  (hW:Pa0 (p.bo i) M5 i (Z0 (p.bo i) i (l.1+1) M5.s) M9):MQ p ((V1 p).o5 q i) M9:=by
 have hgo:o7 p.most (p.bo i) i l q.s=Z0 (p.bo i) i (l.1+1) M5.s:=by
  unfold o7;rw[if_neg (fun z=>z h0),e3]
 exact h.o5 hf (by rw[hgo];exact hW.s) (hW.fx.e.1.trans e1) (hW.fx.e.2.2.2.trans e2) (fun j hj=>(hW.W9 j hj).trans (e4 j hj)) (fun j hj=>(hW.now j hj).trans (e5 j hj)) (fun l' c6=>hW.inl l' (by rw[<- hgo];exact c6)) (fun x hx=>hW.inr x (by rw[<- hgo];exact hx))
end
section
variable [Ctx prog]
end
section
theorem Uf0 (x0:Int) (x1:Int):prog.built 113 [(0,.i x0),(1,.i x1)]=some #[.i x0,.i x1,.slice none 0 0,.slice none 0 0]:=by kernel_rfl
theorem Ug0 (x0:Option Addr) (x1:Option Addr) (x2:Nat) (x3:Nat) (x4:Option Addr) (x5:Nat) (x6:Nat) (x7:Option Addr) (x8:Nat) (x9:Nat) (x10:Option Addr) (x11:Nat) (x12:Nat):prog.built 54 [(0,.pointer x0),(1,.slice x1 x2 x3),(2,.slice x4 x5 x6),(3,.slice x7 x8 x9),(5,.slice x10 x11 x12)]=some #[.pointer x0,.slice x1 x2 x3,.slice x4 x5 x6,.slice x7 x8 x9,.slice none 0 0,.slice x10 x11 x12]:=by kernel_rfl
theorem Uh0 (x0:Option Addr) (x1:Nat) (x2:Nat) (x3:Option Addr) (x4:Nat) (x5:Nat):prog.built 40 [(2,.slice x0 x1 x2),(3,.slice x3 x4 x5)]=some #[.slice none 0 0,.slice none 0 0,.slice x0 x1 x2,.slice x3 x4 x5,.bool false,.i 0]:=by kernel_rfl
theorem Ui0:prog.built 77 []=some #[.i 0,.i 0,.i 0]:=by kernel_rfl
theorem Uj0 (x0:Int) (x1:Int) (x2:Int) (x3:Int):prog.built 79 [(0,.i x0),(1,.agg #[.i x1,.i x2,.i x3])]=some #[.i x0,.i x1,.i x2,.i x3]:=by kernel_rfl
end
section
variable [Ctx prog]
set_option maxHeartbeats 4000000 in
theorem Uk0 {p:j4} (hp:n4 p) {bc sn scp:Nat} {sc:Nat->Int} {ba sa:Option Addr} {oa:Nat->Option Addr} {oc:Nat->Nat} (w0:World) (hBo:M7 w0 ba p.m p.bo oa oc) (hSc:pl0 w0 sa sn scp sc) (hm:p.m <=16) (hsn:sn <=20000) (hbl:∀i,i<p.m->(p.bo i).length <=2000) :
  C prog 12 #[.i p.most,.i 5,.slice ba p.m bc,.slice sa sn scp] w0 fun v w=>∃M,v= .tuple #[.agg (Mx.rC p.m M),.p M.wb]/\ge0 w0 p.m p.most w M/\MQ p ((V1 p).pn sc sn) M/\Told p ((V1 p).pn sc sn) p.m M:=by
 refine C.enter (n:=183) func12 rfl rfl ?_;refine U7 ?_;intro hb;refine L.alloc (cs:=#[.slice none 0 0,.slice none 0 0,.slice none 0 0,.slice none 0 0,.bool false,.i 0]) Ki0 rfl (fun w b8 F8=>?_);have lt8:=F8.lq hb.size;have hb:=O0 hb F8.below;have hB8:=F8.blk;refine U9 ?_;refine U0 ?_;refine U102 ?_;refine U5 ?_;refine W.seq ?_;refine W.news 11 (fun i=>match i with|0=>.lk (.int .i64 5)|1=>.lk (.int .i64 p.most)|2=>.lk (.agg #[.int .i64 5,.int .i64 p.most,.slice none 0 0,.slice none 0 0])|3=>.nw (fun b=>.pointer (some ⟨b,0,none⟩)) #[.int .i64 5,.int .i64 p.most,.slice none 0 0,.slice none 0 0] 113|4=>.lk (.slice ba p.m bc)|5=>.lk (.int .i64 (p.m:Nat))|6=>.nw (fun b=>.slice (some ⟨b,0,none⟩) p.m p.m) (madeCells #[.int .i64 0] (p.m*1)) 3|7=>.lk (.int .i64 (p.m:Nat))|8=>.nw (fun b=>.slice (some ⟨b,0,none⟩) p.m p.m) (madeCells #[.int .i64 0,.int .i64 0,.int .i64 0,.int .i64 0,.int .i64 0,.slice none 0 0,.int .i64 0,.int .i64 0,.int .i64 0,.int .i64 0,.bool false] (p.m*11)) 117|9=>.lk (.int .i64 (p.m:Nat))|_=>.nw (fun b=>.slice (some ⟨b,0,none⟩) p.m p.m) (madeCells #[.slice none 0 0] (p.m*1)) 50) (by kernel_rfl) (by kernel_rfl) (by kernel_rfl) (by kernel_rfl) (by kernel_rfl) (fun i o hi ho=>?_) (fun e9 w9 h9=>?_)
 ·match i,hi,ho with
  |0,_,ho=>cases ho;exact fun e w hf hd=>K2 ((hf 1 (by kernel_rfl)).trans rfl)
  |1,_,ho=>cases ho;exact fun e w hf hd=>K2 ((hf 0 (by kernel_rfl)).trans rfl)
  |2,_,ho=>cases ho;exact fun e w hf hd=>Z1 (parts:=[(0,.tmp 20),(1,.tmp 21)]) (by show [(0,e 20),(1,e 21)]=_;rw[hd 0 _ 20 _ (by decide) rfl rfl (by kernel_rfl) rfl,hd 1 _ 21 _ (by decide) rfl rfl (by kernel_rfl) rfl]) ((Uf0 5 p.most))
  |3,_,ho=>cases ho;exact fun e w hf hd=>Dt0 (v:=.agg #[.int .i64 5,.int .i64 p.most,.slice none 0 0,.slice none 0 0]) (hd 2 _ 22 _ (by decide) rfl rfl (by kernel_rfl) rfl)
  |4,_,ho=>cases ho;exact fun e w hf hd=>w7 ((hf 2 (by kernel_rfl)).trans rfl)
  |5,_,ho=>cases ho;exact fun e w hf hd=>K2 ((hf 10 (by kernel_rfl)).trans rfl)
  |6,_,ho=>cases ho;exact fun e w hf hd=>kc0 (m:=p.m) (zv:=.int .i64 0) (hd 5 _ 25 _ (by decide) rfl rfl (by kernel_rfl) rfl) (hd 5 _ 25 _ (by decide) rfl rfl (by kernel_rfl) rfl) underlying23 in3 (by omega) (by omega)
  |7,_,ho=>cases ho;exact fun e w hf hd=>K2 ((hf 10 (by kernel_rfl)).trans rfl)
  |8,_,ho=>cases ho;exact fun e w hf hd=>kc0 (m:=p.m) (zv:=.agg #[.int .i64 0,.int .i64 0,.int .i64 0,.int .i64 0,.int .i64 0,.slice none 0 0,.int .i64 0,.int .i64 0,.int .i64 0,.int .i64 0,.bool false]) (hd 7 _ 27 _ (by decide) rfl rfl (by kernel_rfl) rfl) (hd 7 _ 27 _ (by decide) rfl rfl (by kernel_rfl) rfl) underlying52 eg1 (by omega) (by omega)
  |9,_,ho=>cases ho;exact fun e w hf hd=>K2 ((hf 10 (by kernel_rfl)).trans rfl)
  |10,_,ho=>cases ho;exact fun e w hf hd=>kc0 (m:=p.m) (zv:=.slice none 0 0) (hd 9 _ 29 _ (by decide) rfl rfl (by kernel_rfl) rfl) (hd 9 _ 29 _ (by decide) rfl rfl (by kernel_rfl) rfl) underlying45 dx1 (by omega) (by omega)
  |n+11,hi,_=>exact absurd hi (by omega)
 ·obtain⟨b23,s23,wf0,bv1⟩:=h9.slot 3 _ 23 (by decide) rfl rfl rfl;have bv1:=Nat.le_trans hb.size bv1;obtain⟨b26,s26,id0,Th0⟩:=h9.slot 6 _ 26 (by decide) rfl rfl rfl;have Th0:=Nat.le_trans hb.size Th0;obtain⟨b28,s28,wg0,bw1⟩:=h9.slot 8 _ 28 (by decide) rfl rfl rfl;have bw1:=Nat.le_trans hb.size bw1;obtain⟨b30,s30,wh0,bx1⟩:=h9.slot 10 _ 30 (by decide) rfl rfl rfl;have bx1:=Nat.le_trans hb.size bx1;have s24:e9 24= .slice ba p.m bc:=h9.slot 4 _ 24 (by decide) rfl rfl rfl;have hb:=O0 hb h9.hb;have hB8:=hB8.j0 h9.hb;have s0:e9 0= .i (p.most):=(h9.free 0 (by kernel_rfl)).trans rfl;have s1:e9 1= .i 5:=(h9.free 1 (by kernel_rfl)).trans rfl;have s2:e9 2= .slice ba p.m bc:=(h9.free 2 (by kernel_rfl)).trans rfl;have s3:e9 3= .slice sa sn scp:=(h9.free 3 (by kernel_rfl)).trans rfl;have s8:e9 8= .p b8:=(h9.free 8 (by kernel_rfl)).trans rfl;have s10:e9 10= .i (p.m:Nat):=(h9.free 10 (by kernel_rfl)).trans rfl;rw[L0 s0,L0 s1,L0 s2,L0 s3,L0 s8,L0 s10,L0 s23,L0 s24,L0 s26,L0 s28,L0 s30];clear s0 s1 s2 s3 s8 s10 s23 s24 s26 s28 s30 h9
  rename World=>w
  refine L.va (Z1 (parts:=[(0,.tmp 23),(1,.tmp 24),(2,.tmp 26),(3,.tmp 28),(5,.tmp 30)]) rfl (Ug0 ((pt b23)) ba p.m bc (pt b26) p.m p.m (pt b28) p.m p.m (pt b30) p.m p.m)) ?_;refine L.box (cs:=#[.p b23,.slice ba p.m bc,.slice (pt b26) p.m p.m,.slice (pt b28) p.m p.m,.slice none 0 0,.slice (pt b30) p.m p.m]) rfl rfl (fun w b32 F32=>?_);have Rx0:=F32.lq hb.size;have hb:=O0 hb F32.below;have hB8:=hB8.j0 F32.below;have wf0:=wf0.j0 F32.below;have id0:=id0.j0 F32.below;have wg0:=wg0.j0 F32.below;have wh0:=wh0.j0 F32.below;have ga0:=F32.blk;refine U9 ?_;refine W.seq ?_;refine W.in1 6 (fun i=>match i with|0=>.lk (.int .i64 (p.m:Nat))|1=>.nw (fun b=>.slice (some ⟨b,0,none⟩) p.m p.m) (madeCells #[.int .i64 0] (p.m*1)) 3|2=>.lk (.int .i64 (p.m:Nat))|3=>.nw (fun b=>.slice (some ⟨b,0,none⟩) p.m p.m) (madeCells #[.int .i64 0,.int .i64 0,.int .i64 0] (p.m*3)) 77|_=>.nw (fun b=>.pointer (some ⟨b,0,none⟩)) #[.slice none 0 0,.slice none 0 0,.slice none 0 0,.slice none 0 0,.bool false,.int .i64 0] 40) 4 37 (fun e=>.agg #[.slice none 0 0,.slice none 0 0,e 34,e 36,.bool false,.int .i64 0]) [(1,34),(3,36)] (by kernel_rfl) (by kernel_rfl) (by kernel_rfl) (by kernel_rfl) (by kernel_rfl) (by kernel_rfl) (by kernel_rfl) (fun e e2 h=>by rw[h (1,34) (by simp),h (3,36) (by simp)]) (fun i o hi C3 ho=>?_) (fun o ho e w h=>?_) (Pf0 (by kernel_rfl)) (fun e9 w9 h9=>?_)
  ·match i,hi,C3,ho with
   |0,_,_,ho=>cases ho;exact fun e w hf hd=>K2 ((hf 10 (by kernel_rfl)).trans rfl)
   |1,_,_,ho=>cases ho;exact fun e w hf hd=>kc0 (m:=p.m) (zv:=.int .i64 0) (hd 0 _ 33 _ (by decide) rfl rfl (by kernel_rfl) rfl) (hd 0 _ 33 _ (by decide) rfl rfl (by kernel_rfl) rfl) underlying23 in3 (by omega) (by omega)
   |2,_,_,ho=>cases ho;exact fun e w hf hd=>K2 ((hf 10 (by kernel_rfl)).trans rfl)
   |3,_,_,ho=>cases ho;exact fun e w hf hd=>kc0 (m:=p.m) (zv:=.agg #[.int .i64 0,.int .i64 0,.int .i64 0]) (hd 2 _ 35 _ (by decide) rfl rfl (by kernel_rfl) rfl) (hd 2 _ 35 _ (by decide) rfl rfl (by kernel_rfl) rfl) underlying38 dz1 (by omega) (by omega)
   |5,_,_,ho=>cases ho;exact fun e w hf hd=>mh0 (v:=.agg #[.slice none 0 0,.slice none 0 0,.slice none 0 0,.slice none 0 0,.bool false,.int .i64 0]) Ki0
   |4,_,C3,_=>exact absurd rfl C3
   |n+6,hi,_,_=>exact absurd hi (by omega)
  ·cases ho;obtain⟨b34,s34,_,_⟩:=h (1,34) (by simp);obtain⟨b36,s36,_,_⟩:=h (3,36) (by simp);show Does _ _ _ (.val (.agg #[.slice none 0 0,.slice none 0 0,e 34,e 36,.bool false,.i 0])) _;rw[s34,s36];exact Z1 (parts:=[(2,.tmp 34),(3,.tmp 36)]) (vs:=[(2,.slice (pt b34) p.m p.m),(3,.slice (pt b36) p.m p.m)]) (by show [(2,e 34),(3,e 36)]=_;rw[s34,s36]) ((Uh0 (pt b34) p.m p.m (pt b36) p.m p.m))
  ·have hwz:∀{b:Nat} {cs:Array Value} {T:TypeId},V0 w b cs T->b<w.heap.size:=fun h=>(G3 h).lt;obtain⟨b34,s34,o8,Oa0⟩:=h9.slot 1 _ 34 (by decide) (by decide) rfl rfl rfl;obtain⟨b36,s36,Ul0,by1⟩:=h9.slot 3 _ 36 (by decide) (by decide) rfl rfl rfl;obtain⟨b12,s12,fl0,Po0⟩:=h9.slot 5 _ 12 (by decide) (by decide) rfl rfl rfl;have pe9:b26≠b34:=by have h7:=hwz id0;omega
   have ne8:b8≠b12:=by have h7:=hwz hB8;omega
   clear hwz;have Oa0:=Nat.le_trans hb.size Oa0;have by1:=Nat.le_trans hb.size by1;have Po0:=Nat.le_trans hb.size Po0;have hb:=O0 hb h9.hb;have hB8:=hB8.j0 h9.hb;have wf0:=wf0.j0 h9.hb;have id0:=id0.j0 h9.hb;have wg0:=wg0.j0 h9.hb;have wh0:=wh0.j0 h9.hb;have ga0:=ga0.j0 h9.hb;have s37:e9 37= .agg #[.slice none 0 0,.slice none 0 0,.slice (pt b34) p.m p.m,.slice (pt b36) p.m p.m,.bool false,.i 0]:=by
    have h7:=(h9.evl rfl).1;rw[h7];show Value.agg #[_,_,e9 34,e9 36,_,_]=_;rw[s34,s36]
   have s0:e9 0= .i (p.most):=(h9.free 0 (by kernel_rfl)).trans rfl;have s2:e9 2= .slice ba p.m bc:=(h9.free 2 (by kernel_rfl)).trans rfl;have s3:e9 3= .slice sa sn scp:=(h9.free 3 (by kernel_rfl)).trans rfl;have s8:e9 8= .p b8:=(h9.free 8 (by kernel_rfl)).trans rfl;have s10:e9 10= .i (p.m:Nat):=(h9.free 10 (by kernel_rfl)).trans rfl;have s11:e9 11= .p b32:=(h9.free 11 (by kernel_rfl)).trans rfl;rw[L0 s0,L0 s2,L0 s3,L0 s8,L0 s10,L0 s11,L0 s12,L0 s37];clear s0 s2 s3 s8 s10 s11 s12 s37 s34 s36 h9
   rename World=>w
   refine L.pu 0 [.slice none 0 0,.slice none 0 0,.slice (pt b34) p.m p.m,.slice (pt b36) p.m p.m,.bool false,.i 0] #[.slice none 0 0,.slice none 0 0,.slice (pt b34) p.m p.m,.slice (pt b36) p.m p.m,.bool false,.i 0] da0 fl0 (fun w G0 hg A2=>?_);have Y1:=F1.E5 fl0 hg;have hb:=G4 hb hb.size hg Po0;have hB8:=hB8.other hg ne8;have wf0:=wf0.mod Y1 rfl;have id0:=id0.mod Y1 rfl;have wg0:=wg0.mod Y1 rfl;have wh0:=wh0.mod Y1 rfl;have ga0:=ga0.mod Y1 rfl;have o8:=o8.mod Y1 rfl;have Ul0:=Ul0.mod Y1 rfl;have fl0:=G0;refine U48 ?_;have hR:=Pl0 hb ga0 wf0 id0 wg0 wh0 fl0 o8 Ul0 hB8 pe9 ne8 ⟨Rx0,bv1,Th0,bw1,bx1,Po0,Oa0,by1⟩;have Z9:=Pm0 (p:=p) (wb:=b32) (hb:=b23) (pb:=b26) (nb:=b28) (gb:=b30) (rb:=b12) (eb:=b34) (xb:=b36) (zb:=b8);obtain⟨B2,hB2⟩:∃B2,B2=w.heap.size:=⟨_,rfl⟩
   rw[<- hB2]at hR;have hz:=lt8;clear hB2 ga0 wf0 id0 wg0 wh0 fl0 o8 Ul0 hB8;show W _ _ _ _ _ _;refine U57 ?_;refine W.loop (fun k e w=>∃(j:Nat),∃(M:Mx),k=p.m-j/\e 2= .slice ba p.m bc/\e 3= .slice sa sn scp/\e 8= .p M.zb/\e 10= .i (p.m:Nat)/\e 11= .p M.wb/\e 12= .p M.rb/\e 13= .i (j:Nat)/\j <=p.m/\RX w0 B2 p.m ba bc p.most w M/\MQ p ((V1 p).N4 j) M/\w0.heap.size <=M.zb) _ ⟨0,(mx0 p.m b32 b23 b26 b28 b30 b12 b34 b36 b8),rfl,rfl,rfl,rfl,rfl,rfl,rfl,rfl,Nat.zero_le _,hR,Z9,hz⟩ ?_;rintro k e w ⟨j,M,hk,s2,s3,s8,s10,s11,s12,s13,hj,hR,Z9,hz⟩;rw[L0 s2,L0 s3,L0 s8,L0 s10,L0 s11,L0 s12,L0 s13];clear s2 s3 s8 s10 s11 s12 s13;refine U18 ?_;refine L.va (K2 rfl) ?_;refine U29 ?_;refine W.y6 rfl (fun h40=>?_) (fun h40=>?_)
   ·have D2:j<p.m:=by omega
    refine U49 ?_;refine U159 ?_;have hfl:((V1 p).N4 j).ft.length=j:=Sys.S5 j;have hre:(V1 p).Reach ((V1 p).N4 j):=.inl ⟨j,hj,rfl⟩;have hk:=Z9.nil j D2 (List.getElem?_eq_none (by omega));have hnw:∃d,M.now[j]? =some d:=⟨_,List.getElem?_eq_getElem (by rw[hR.ln];exact D2)⟩
    have hlg:(M.s.log j).length <=0:=by rw[Z9.s,(ft0 hp _ hre).new j (Nat.le_of_eq hfl)];exact Nat.le_refl _
    have htb:M.s.N0.length <=1000000:=by
     rw[Z9.s];have h9:=(th0 hp _ hre).t;rw[(Dg0 j).1]at h9;exact Nat.le_trans h9 (Nat.zero_le _)
    refine L.call (W1 rfl rfl func28 rfl el1 rfl) (qz0 hBo hR D2 hk hnw (Nat.zero_le _) hlg (by have:=hbl j D2;omega) htb) ?_;rintro _ w ⟨rfl,M1,hR1,hW⟩;have nd1:MQ p ((V1 p).N4 (j+1)) M1:=Z9.bgn hfl hW;have f1:M1.wb=M.wb:=hW.fx.b.1;have f2:M1.rb=M.rb:=hW.fx.b.2.2.2.2.2.1;have f3:M1.zb=M.zb:=hW.fx.z;have hz1:w0.heap.size <=M1.zb:=by rw[f3];exact hz
    rw[<- f1,<- f2,<- f3];refine L.nil ?_;refine U39 ?_;exact⟨_,by omega,⟨j+1,M1,rfl,rfl,rfl,rfl,rfl,rfl,rfl,rfl,D2,hR1,nd1,hz1⟩⟩
   ·have hjm:j=p.m:=by omega
    rw[hjm]at Z9;refine W.exit ?_;refine U38 ?_;refine W.block ?_;refine W.loop (fun k e w=>∃(q:Nat),∃(M:Mx),k=sn-q/\e 2= .slice ba p.m bc/\e 3= .slice sa sn scp/\e 8= .p M.zb/\e 10= .i (p.m:Nat)/\e 11= .p M.wb/\e 12= .p M.rb/\q <=sn/\RX w0 B2 p.m ba bc p.most w M/\MQ p ((V1 p).pn sc q) M/\M.used=q/\w0.heap.size <=M.zb) _ ⟨0,M,rfl,rfl,rfl,rfl,rfl,rfl,rfl,Nat.zero_le _,hR,Z9,(by rw[Z9.used];exact(Dg0 p.m).2),hz⟩ ?_;rintro k e w ⟨q,M,hk,s2,s3,s8,s10,s11,s12,hq,hR,Z9,hus,hz⟩;rw[L0 s2,L0 s3,L0 s8,L0 s10,L0 s11,L0 s12];clear s2 s3 s8 s10 s11 s12;obtain⟨N,hN⟩:∃N,N=w.heap.size:=⟨_,rfl⟩
    have hlo:Uc0 N p.m M:=by rw[hN];exact hR.nc1
    have hBN:B2 <=N:=by rw[hN];exact hR.bs
    have hNw:NW N w:=⟨Nat.le_of_eq hN⟩
    clear hN;have hre:(V1 p).Reach ((V1 p).pn sc q):=.inr ⟨sc,q,rfl⟩;have is1:=ft0 hp _ hre;have Um0:=th0 hp _ hre;have ne1:((V1 p).pn sc q).evs.length <=20000:=Nat.le_trans (Sys.ks0 sc q).1 (by omega);have hfl:((V1 p).pn sc q).ft.length=p.m:=Sys.w8 sc q;refine W.block ?_;refine U0 ?_;refine U28 ?_;refine U57 ?_;refine W.loop (fun k e w=>∃(j:Nat),∃(M:Mx),∃(n:Nat),∃(a:Option Addr),∃(cp:Nat),k=p.m-j/\e 2= .slice ba p.m bc/\e 3= .slice sa sn scp/\e 8= .p M.zb/\e 10= .i (p.m:Nat)/\e 11= .p M.wb/\e 12= .p M.rb/\e 14= .slice a n cp/\e 15= .i (j:Nat)/\j <=p.m/\RX w0 B2 p.m ba bc p.most w M/\MQ p ((V1 p).pn sc q) M/\M.used=q/\w0.heap.size <=M.zb/\Uc0 N p.m M/\Told p ((V1 p).pn sc q) j M/\n=((List.range j).filter ((V1 p).j9 ((V1 p).pn sc q))).length/\Own w N 3 1 a n cp (((List.range j).filter ((V1 p).j9 ((V1 p).pn sc q))).map plV)/\NW N w) _ ⟨0,M,0,none,0,rfl,rfl,rfl,rfl,rfl,rfl,rfl,rfl,rfl,Nat.zero_le _,hR,Z9,hus,hz,hlo,(fun x hx=>absurd hx (Nat.not_lt_zero _)),rfl,Own.nil _ _ _ _,hNw⟩ ?_;rintro k e w ⟨j,M,n,a,cp,hk,s2,s3,s8,s10,s11,s12,s14,s15,hj,hR,Z9,hus,hz,hlo,hen,hn,hl,hNw⟩;rw[L0 s2,L0 s3,L0 s8,L0 s10,L0 s11,L0 s12,L0 s14,L0 s15];clear s2 s3 s8 s10 s11 s12 s14 s15;refine U18 ?_;refine L.va (K2 rfl) ?_;refine U29 ?_;refine W.y6 rfl (fun h48=>?_) (fun h48=>?_)
    ·have D2:j<p.m:=by omega
     refine U49 ?_;refine W.seq ?_;have it1:=hR.le;have iu1:=hR.lw;obtain⟨f,hf⟩:∃f,((V1 p).pn sc q).ft[j]? =some f:=⟨_,List.getElem?_eq_getElem (by rw[hfl];exact D2)⟩
     rcases f with l|x0
     ·obtain⟨hpl,d,hd,hdc⟩:=Z9.inl j l D2 hf;have hll:l.1<(p.bo j).length:=by
       obtain⟨_,o,ho,_⟩:=is1.lab j l hf;exact(List.getElem?_eq_some_iff.1 ho).1
      have hat:=(tc0 hp hre (td0 hp _ hre)).j j l hf;refine U184 ?_;intro hM I8;refine U411 ?_;intro hN9;refine U170 ?_;intro Y2 hR hM I8 hN9;have hl:=hl.j0 Y2;have hNw:=hNw.j0 Y2;clear Y2;generalize w.drew=w at *;refine U427 ?_;refine U305 ?_;refine U462 ?_;refine U560 ?_;refine L.xE (i:=j) (z:=1) hR D2 rfl rfl c5 (fun w Y9 hg=>?_);refine U303 ?_;intro hl hNw;have hR:=Y9;refine U565 ?_;intro hM I8 hN9;refine L.nil ⟨rfl,I8,?_⟩;refine U337 ?_;refine L.xX (i:=j) (z:=sp0) hR D2 rfl rfl k8 (fun w Y9 hg=>?_);refine U346 ?_;intro hl hNw;have hR:=Y9;refine U156 ?_;intro hM I8;refine U530 ?_;intro hN9;refine U120 ?_;refine U430 ?_;refine U503 ?_;refine D.va (fun w' J0=>(B0 (v:=.i (l.1:Int)) rfl underlying3 rfl (RX.qy0 (hR.j0 J0) hpl))) ?_;refine U100 ?_;refine U419 ?_;refine U314 ?_;refine D.nil (fun w D1=>?_);refine U155 ?_;intro hR hM;have I8:=I8.j0 D1;have hN9:=hN9.j0 D1;have hl:=hl.j0 D1;have hNw:=hNw.j0 D1;refine U584 ?_;refine W.seq ?_;refine W.fl 20 [17,19] [0,1,2,3,4,5,6,7,8,9,10,11,12,13,14,15,16,17,18,19] (fun w'=>V0 w' M.rb #[.slice M.ea M.evs.length M.ec,.slice none 0 0,.slice (pt M.eb) p.m p.m,.slice (pt M.xb) p.m p.m,.bool false,.i (M.used:Int)] 40/\V0 w' M.wb #[.p M.hb,.slice ba p.m bc,.slice (pt M.pb) p.m p.m,.slice (pt M.nb) p.m p.m,.slice M.ta M.s.N0.length M.tc,.slice (pt M.gb) p.m p.m] 54/\V0 w' M.nb (Mx.now ({M with ends:=(M.ends.set j 1),I4:=(M.I4.set j sp0)}:Mx) |>.flatMap dcC).toArray 117) (by kernel_rfl) (by kernel_rfl) (by kernel_rfl) (by kernel_rfl) (by kernel_rfl) (⟨I8.j0 (Below.refl w.heap.size w).drew,hM.j0 (Below.refl w.heap.size w).drew,hN9.j0 (Below.refl w.heap.size w).drew⟩) ?_;refine U170 ?_;intro Y2 hR hM I8 hN9;have hl:=hl.j0 Y2;have hNw:=hNw.j0 Y2;clear Y2;generalize w.drew=w at *;refine F.va rfl rfl (fun w' J0=>(E0 rfl underlying40 rfl O8 (by decide))) ?_;refine F.va rfl rfl (fun w' J0=>(B0 rfl underlying23 rfl (J0.1.q0 2 (v:=.slice (pt M.eb) p.m p.m) rfl))) ?_;refine U305 ?_;refine F.va rfl rfl (fun w' J0=>(B0 rfl underlying38 rfl (J0.1.q0 3 (v:=.slice (pt M.xb) p.m p.m) rfl))) ?_;refine U203 ?_;refine U440 ?_;refine U193 ?_;refine U453 ?_;refine F.va rfl rfl (fun w' J0=>(o4 (i:=j) rfl rfl underlying52 X2 D2)) ?_;refine U625 ?_;intro hnx;rw[hdc]at hnx;refine L.call (W1 rfl rfl func29 rfl em1 rfl) hnx ?_;rintro _ w ⟨rfl,D1⟩;refine U155 ?_;intro hR hM;have I8:=I8.j0 D1;have hN9:=hN9.j0 D1;have hl:=hl.j0 D1;have hNw:=hNw.j0 D1;clear D1 hnx;refine L.nil ⟨rfl,⟨I8,hM,hN9⟩,?_⟩;refine U423 ?_;refine L.xE (i:=j) (z:=0) hR D2 rfl rfl c5 (fun w Y9 hg=>?_);refine U303 ?_;intro hl hNw;have hR:=Y9;refine U156 ?_;intro hM I8;have hN9:V0 w M.nb (Mx.now ({M with ends:=((M.ends.set j 1).set j 0),I4:=(M.I4.set j sp0)}:Mx) |>.flatMap dcC).toArray 117:=hR.hN;refine L.nil ⟨rfl,⟨I8,hM,hN9⟩,?_⟩;refine U337 ?_;refine L.xX (i:=j) (z:=(D3 5 l.2)) hR D2 rfl rfl k8 (fun w Y9 hg=>?_);refine U346 ?_;intro hl hNw;have hR:=Y9;refine U156 ?_;intro hM I8;have hN9:V0 w M.nb (Mx.now ({M with ends:=((M.ends.set j 1).set j 0),I4:=((M.I4.set j sp0).set j (D3 5 l.2))}:Mx) |>.flatMap dcC).toArray 117:=hR.hN;refine U1 ?_;refine W.region rfl ?_;refine U56 ?_;refine L.Q7 (cs:=#[.i (j:Nat)]) rfl rfl underlying23 c5 rfl ⟨_,zr3⟩ (by decide) (fun w b95 F95=>?_);have oc1:=Nat.le_refl w.heap.size;have hR:=hR.j0 F95.below;have hM:=hM.j0 F95.below;have I8:=I8.j0 F95.below;have hN9:=hN9.j0 F95.below;have hl:=hl.j0 F95.below;have hNw:=hNw.j0 F95.below;have iv1:=F95.blk;have nf1:n <=16:=by rw[hn];exact Nat.le_trans (Pj0 j) (by omega)
      refine L.N5 (B:=N) (m:=1) rfl rfl underlying23 in3 rfl (by decide) hl (fun h=>by cases h) (news:=[.i (j:Int)]) rfl (fun ad had y u hj=>by
       cases had;rw[Addr.add_lit]
       match y,hj with
       |0,hj=>cases hj;exact iv1.q0 0 rfl) (fun u hu=>by simp only[List.mem_cons,List.not_mem_nil,or_false]at hu;subst hu;rfl) (by omega) (by omega) hNw.le (fun a96 c96 w2 hl2 u9 J6 _=>?_)
      have Y9:RX w0 B2 p.m ba bc p.most w2 ({M with ends:=((M.ends.set j 1).set j 0),I4:=((M.I4.set j sp0).set j (D3 5 l.2))}:Mx):=hR.iq1 ⟨hlo.na,hlo.pa,hlo.ta,hlo.la,hlo.ea,hlo.sa⟩ hBN J6;have hNw:NW N w2:=⟨Nat.le_trans hNw.le J6.size⟩
      clear hl u9 J6 hM I8 hN9 hR iv1;have hR:=Y9;clear Y9
      rename World=>w
      refine U236 ?_;refine U39 ?_;exact⟨_,by omega,⟨j+1,{M with ends:=(M.ends.set j 1).set j 0,I4:=(M.I4.set j sp0).set j (D3 5 l.2)},n+1,a96,c96,rfl,rfl,rfl,rfl,rfl,rfl,rfl,rfl,rfl,D2,hR,⟨Z9.s,Z9.evs,Z9.used,Z9.nil,Z9.inl,Z9.inr⟩,hus,hz,⟨hlo.na,hlo.pa,hlo.ta,hlo.la,hlo.ea,hlo.sa⟩,(Ud0 hen hf (by rw[it1];exact D2) (by rw[iu1];exact D2)),(by rw[Ft0 (we0 hf),List.length_append,hn];rfl),(by rw[Ft0 (we0 hf),List.map_append];exact hl2),hNw⟩⟩
     ·have hpl:=Z9.inr j x0 D2 hf;refine U184 ?_;intro hM I8;refine U411 ?_;intro hN9;refine U170 ?_;intro Y2 hR hM I8 hN9;have hl:=hl.j0 Y2;have hNw:=hNw.j0 Y2;clear Y2;generalize w.drew=w at *;refine U427 ?_;refine U305 ?_;refine U462 ?_;refine U560 ?_;refine L.xE (i:=j) (z:=1) hR D2 rfl rfl c5 (fun w Y9 hg=>?_);refine U303 ?_;intro hl hNw;have hR:=Y9;refine U565 ?_;intro hM I8 hN9;refine L.nil ⟨rfl,I8,?_⟩;refine U337 ?_;refine L.xX (i:=j) (z:=sp0) hR D2 rfl rfl k8 (fun w Y9 hg=>?_);refine U346 ?_;intro hl hNw;have hR:=Y9;refine U156 ?_;intro hM I8;refine U530 ?_;intro hN9;refine U120 ?_;refine U430 ?_;refine U503 ?_;refine D.va (fun w' J0=>(B0 (v:=.i ((p.bo j).length:Int)) rfl underlying3 rfl (RX.qy0 (hR.j0 J0) hpl))) ?_;refine U100 ?_;refine U419 ?_;refine U314 ?_;refine D.nil (fun w D1=>?_);have hR:=hR.j0 D1;have hl:=hl.j0 D1;have hNw:=hNw.j0 D1;refine U582 ?_;refine W.skip ?_;refine U39 ?_;exact⟨_,by omega,⟨j+1,{M with ends:=M.ends.set j 1,I4:=M.I4.set j sp0},n,a,cp,rfl,rfl,rfl,rfl,rfl,rfl,rfl,rfl,rfl,D2,hR,⟨Z9.s,Z9.evs,Z9.used,Z9.nil,Z9.inl,Z9.inr⟩,hus,hz,⟨hlo.na,hlo.pa,hlo.ta,hlo.la,hlo.ea,hlo.sa⟩,(Pn0 hen hf (Um0.one j x0 hf) (by rw[it1];exact D2) (by rw[iu1];exact D2)),(by rw[Pi0 (we0 hf)];exact hn),(by rw[Pi0 (we0 hf)];exact hl),hNw⟩⟩
    ·refine W.exit ?_;refine U38 ?_;refine U388 ?_;have hjm:j=p.m:=by omega
     refine U184 ?_;intro hM I8;have hN9:V0 w M.nb (Mx.now M |>.flatMap dcC).toArray 117:=hR.hN;refine W.region rfl ?_;refine U41 ?_;refine U634 ?_;refine L.g7 6 [100,101,102,103,104,105,106] 106 (.bool (decide (n=0\/M.used=sn))) (tj:=100) rfl (fun Pp0=>?_) (fun Pp0=>?_) (fun f=>?_)
     ·refine L.off rfl ?_;refine U165 ?_;refine⟨rfl,congrArg Value.bool ((decide_eq_true (.inl (by have:=of_decide_eq_true Pp0;omega))).symm),?_⟩;exact A0.upd rfl (A0.upd rfl (A0.upd rfl (A0.upd rfl (A0.upd rfl (A0.upd rfl (A0.upd rfl (A0.refl _ _)))))))
     ·refine L.on rfl ?_;refine U335 ?_;refine L.va (B0 rfl underlying3 rfl (I8.q0 5 (v:=.i (M.used:Int)) rfl)) ?_;refine L.on rfl ?_;refine U69 ?_;refine U227 ?_;refine L.va (S1 rfl rfl) ?_;refine U25 ?_;refine⟨rfl,congrArg Value.bool (by rw[decide_eq_decide];have:=of_decide_eq_false Pp0;constructor <;> intro h <;> omega),?_⟩;exact A0.upd rfl (A0.upd rfl (A0.upd rfl (A0.upd rfl (A0.upd rfl (A0.upd rfl (A0.upd rfl (A0.refl _ _)))))))
     refine U1 ?_;refine W.y6 rfl (fun iw1=>?_) (fun iw1=>?_)
     ·have W8:n=0\/M.used=sn:=iw1;refine U0 ?_;refine L.va (Q0 (cs:=[.slice M.ea M.evs.length M.ec,.slice none 0 0,.slice (pt M.eb) p.m p.m,.slice (pt M.xb) p.m p.m,.bool false,.i (M.used:Int)]) rfl underlying40 rfl da0 rfl (I8.B4 rfl)) ?_;refine L.va (Y3 rfl) ?_;refine L.pa [.slice M.ea M.evs.length M.ec,.slice none 0 0,.slice (pt M.eb) p.m p.m,.slice (pt M.xb) p.m p.m,.bool false,.i (M.used:Int)] da0 hR.hZ (fun w G0 hg A2=>?_);have hZ:=hR.out hz hg (rfl:(#[]:Array Value)=#[]);have hB8:V0 w M.zb #[.slice M.ea M.evs.length M.ec,.slice none 0 0,.slice (pt M.eb) p.m p.m,.slice (pt M.xb) p.m p.m,.bool false,.i (M.used:Int)] 40:=G0;refine U9 ?_;refine U43 ?_;refine ends.dq0 (cs:=#[.slice M.ea M.evs.length M.ec,.slice none 0 0,.slice (pt M.eb) p.m p.m,.slice (pt M.xb) p.m p.m,.bool false,.i (M.used:Int)]) (.inr rfl) rfl rfl underlying40 rfl da0 hB8 ?_;have hPn:(V1 p).pn sc q=(V1 p).pn sc sn:=by
       rcases W8 with h0|h0
       ·obtain⟨d9,hd9⟩:∃d9,sn=q+d9:=⟨sn-q,by omega⟩
        rw[hd9];rw[hjm]at hn;exact(Sys.og0 (List.length_eq_zero_iff.1 (hn.symm.trans h0)) d9).symm
       ·rw[show q=sn by omega]
      rw[hjm]at hen;rw[hPn]at Z9 hen;exact⟨M,rfl,hZ,Z9,hen⟩
     ·rw[hjm]at hn hl;have hn0:0<n:=by omega
      have hqs:q<sn:=by omega
      have C3:(V1 p).rds ((V1 p).pn sc q)≠[]:=List.length_pos_iff.1 (by show 0<(((List.range p.m).filter ((V1 p).j9 ((V1 p).pn sc q)))).length;rw[<- hn];exact hn0);obtain⟨i,l,hfi,hpi,S4⟩:=wd0 (e:=sc q) C3;have hpi:(((List.range p.m).filter ((V1 p).j9 ((V1 p).pn sc q))))[W7 (sc q) n]? =some i:=by rw[hn];exact hpi
      have him:i<p.m:=by have:=(List.getElem?_eq_some_iff.1 hfi).1;omega
      obtain⟨hpl,d,hd,hdc⟩:=Z9.inl i l him hfi;have hat:=(tc0 hp hre (td0 hp _ hre)).j i l hfi;have od1:=bu1 (sc q) hn0;have nf1:n <=16:=by rw[hn];exact Nat.le_trans (Pj0 _) hm
      have nv1:M.used <=20000:=by omega
      have oe1:M.evs.length <=20000:=by rw[Z9.evs];exact ne1
      have of1:=hbl i him;refine U81 ?_;refine U0 ?_;refine L.va (w7 rfl) ?_;refine U481 ?_;refine L.va (u4 (i:=M.used) rfl rfl underlying23 c5 hSc.sl (by omega)) ?_;refine L.va (B0 (v:=.i (sc q)) rfl underlying3 rfl (by rw[hus];exact y4 (hSc.cell q hqs) (RX.hb hR))) ?_;refine U256 ?_;refine U56 ?_;refine U41 ?_;refine L.va (pw0 (κ:=.i64) (m:=sc q) (k:=(n:Int)) rfl rfl (by omega)) ?_;refine U41 ?_;refine L.va (ex0 (m:=(sc q).tmod (n:Int)) (k:=(n:Int)) rfl rfl (by omega)) ?_;refine U41 ?_;refine L.va (v:=.i ((W7 (sc q) n:Nat):Int)) (by rw[<- fz1 (sc q) (n:=n) hn0];exact pw0 rfl rfl (by omega)) ?_;refine L.va (u4 (i:=W7 (sc q) n) rfl rfl underlying23 c5 hl.sl (kp0 _ hn0)) ?_;refine L.va (B0 (v:=.i (i:Int)) rfl underlying3 rfl (by rw[hl.off,Nat.zero_add,Nat.mul_one];exact hl.cell (by rw[List.getElem?_map,hpi];rfl))) ?_;refine U256 ?_;refine U481 ?_;refine L.va (gk0 rfl rfl (by omega)) ?_;refine L.va (E0 rfl underlying40 rfl c5 (by decide)) ?_;refine L.xU (z:=M.used+1) hR rfl rfl c5 (fun w Y9 hg=>?_);have hR:=Y9;clear Y9 hg hM I8 hN9 hl;have hM:V0 w M.wb #[.p M.hb,.slice ba p.m bc,.slice (pt M.pb) p.m p.m,.slice (pt M.nb) p.m p.m,.slice M.ta M.s.N0.length M.tc,.slice (pt M.gb) p.m p.m] 54:=hR.hW;have I8:V0 w M.rb #[.slice M.ea M.evs.length M.ec,.slice none 0 0,.slice (pt M.eb) p.m p.m,.slice (pt M.xb) p.m p.m,.bool false,.i ((M.used+1:Nat):Int)] 40:=hR.hR;have hN9:V0 w M.nb (Mx.now ({M with used:=M.used+1}:Mx) |>.flatMap dcC).toArray 117:=hR.hN;refine U253 ?_;refine W.fl 17 [14,16] [0,1,2,3,4,5,6,7,8,9,10,11,12,13,14,15,16] (fun w'=>V0 w' M.rb #[.slice M.ea M.evs.length M.ec,.slice none 0 0,.slice (pt M.eb) p.m p.m,.slice (pt M.xb) p.m p.m,.bool false,.i ((M.used+1:Nat):Int)] 40/\V0 w' M.wb #[.p M.hb,.slice ba p.m bc,.slice (pt M.pb) p.m p.m,.slice (pt M.nb) p.m p.m,.slice M.ta M.s.N0.length M.tc,.slice (pt M.gb) p.m p.m] 54/\V0 w' M.nb (Mx.now ({M with used:=M.used+1}:Mx) |>.flatMap dcC).toArray 117) (by kernel_rfl) (by kernel_rfl) (by kernel_rfl) (by kernel_rfl) (by kernel_rfl) (⟨I8.j0 (Below.refl w.heap.size w).drew,hM.j0 (Below.refl w.heap.size w).drew,hN9.j0 (Below.refl w.heap.size w).drew⟩) ?_;refine U170 ?_;intro Y2 hR hM I8 hN9;clear Y2;generalize w.drew=w at *;refine F.va rfl rfl (fun w' J0=>(E0 rfl underlying40 rfl pj0 (by decide))) ?_;refine F.va rfl rfl (fun w' J0=>(B0 rfl underlying36 rfl (J0.1.q0 0 (v:=.slice M.ea M.evs.length M.ec) rfl))) ?_;refine U203 ?_;refine U440 ?_;refine U193 ?_;refine U453 ?_;refine F.va rfl rfl (fun w' J0=>(o4 (i:=i) rfl rfl underlying52 X2 him)) ?_;refine U625 ?_;intro hnx;rw[hdc]at hnx;refine L.call (W1 rfl rfl func29 rfl em1 rfl) hnx ?_;rintro _ w ⟨rfl,D1⟩;refine U155 ?_;intro hR hM;have I8:=I8.j0 D1;have hN9:=hN9.j0 D1;clear D1 hnx;refine L.nil ⟨rfl,⟨I8,hM,hN9⟩,?_⟩;refine F.va rfl rfl (fun w' J0=>(Z1 (parts:=[(0,.tmp 133),(1,.tmp 145)]) rfl (Uj0 (i:Nat) ((D3 5 l.2).kind) ((D3 5 l.2).obj) ((D3 5 l.2).num)))) ?_;refine F.A9 rfl rfl ?_;refine L.Q7 (cs:=#[.i (i:Nat),.i ((D3 5 l.2).kind),.i ((D3 5 l.2).obj),.i ((D3 5 l.2).num)]) rfl rfl underlying36 Gn0 rfl ⟨_,ea1⟩ (by decide) (fun w tf0 E7=>?_);have Fs0:=Nat.le_refl w.heap.size;have hR:=hR.j0 E7.below;have hM:=hM.j0 E7.below;have I8:=I8.j0 E7.below;have hN9:=hN9.j0 E7.below;have kb0:=E7.blk;refine L.nil ⟨rfl,⟨I8,hM,hN9⟩,?_⟩;refine U15 ?_;refine L.z6 (B:=B2) (m:=1) rfl rfl underlying36 eb1 rfl (by decide) hR.hV (news:=[.i (i:Int),.i (D3 5 l.2).kind,.i (D3 5 l.2).obj,.i (D3 5 l.2).num]) rfl (fun y u hy=>?_) (fun u hu=>by simp at hu;rcases hu with rfl|rfl|rfl|rfl <;> rfl) (by show M.evs.length+1 <=_;omega) (by show(M.evs.length+1)*_ <=_;omega) hR.bs (fun wi0 wj0 w2 hO I6 _=>?_)
      ·rw[Addr.add_lit]
       match y,hy with
       |0,hy=>cases hy;exact kb0.q0 0 rfl
       |1,hy=>cases hy;exact kb0.q0 1 rfl
       |2,hy=>cases hy;exact kb0.q0 2 rfl
       |3,hy=>cases hy;exact kb0.q0 3 rfl
      refine L.va (E0 rfl underlying40 rfl pj0 (by decide)) ?_;refine L.xEv hR (i,D3 5 l.2) I6 hO rfl rfl pj0 (fun w Y9 hg=>?_);have hR:=Y9;clear Y9 hg I6 hO hM I8 hN9 kb0;refine U274 ?_;intro hM I8;have hN9:V0 w M.nb (Mx.now ({M with used:=M.used+1,ea:=wi0,ec:=wj0,evs:=M.evs ++ [(i,D3 5 l.2)]}:Mx) |>.flatMap dcC).toArray 117:=hR.hN;refine U253 ?_;refine W.fl 17 [16] [0,1,2,3,4,5,6,7,8,9,10,11,12,13,14,15,16] (fun w'=>V0 w' M.wb #[.p M.hb,.slice ba p.m bc,.slice (pt M.pb) p.m p.m,.slice (pt M.nb) p.m p.m,.slice M.ta M.s.N0.length M.tc,.slice (pt M.gb) p.m p.m] 54/\V0 w' M.nb (Mx.now ({M with used:=M.used+1,ea:=wi0,ec:=wj0,evs:=M.evs ++ [(i,D3 5 l.2)]}:Mx) |>.flatMap dcC).toArray 117) (by kernel_rfl) (by kernel_rfl) (by kernel_rfl) (by kernel_rfl) (by kernel_rfl) (⟨hM.j0 (Below.refl w.heap.size w).drew,hN9.j0 (Below.refl w.heap.size w).drew⟩) ?_;refine U170 ?_;intro Y2 hR hM I8 hN9;clear Y2;generalize w.drew=w at *;refine U490 ?_;refine U255 ?_;refine U490 ?_;refine F.va rfl rfl (fun w' J0=>(K2 rfl)) ?_;refine F.va rfl rfl (fun w' J0=>(o4 (i:=i) rfl rfl underlying52 X2 him)) ?_;refine F.va rfl rfl (fun w' J0=>(Q0 (cs:=dcC d) rfl underlying117 rfl X2 rfl (fun k v hk=>Dh0 J0.2 hd k v hk))) ?_;refine F.A9 rfl rfl ?_;have hJ9:HJ M.s.H d.c:=by rw[Z9.s,hdc];exact hat.1
      have Sz0:M.s.H.Y0.length <=1048576:=by rw[Z9.s];have:=Um0.n;omega
      have ng1:M.s.H.pool.length <=1000000000:=by rw[Z9.s];have:=Um0.p;omega
      have htk:=Oy0 (Bs:=w0.heap.size) w hR.hD (Nat.le_trans hR.b0 hR.bs) hR.hi.2.1 hR.b0 hR.bs d (hR.hS i d hd) hJ9 (by rw[hdc];exact hat.2.1) (by rw[hdc];exact hat.2.2.1) hp.most Sz0 ng1;refine L.call (W1 rfl rfl func30 rfl km1 rfl) htk ?_;rintro _ w ⟨d9,L9,rfl,hd9,hD9,hP9,r9⟩;have Y9:RX w0 B2 p.m ba bc p.most w ({M with used:=M.used+1,ea:=wi0,ec:=wj0,evs:=M.evs ++ [(i,D3 5 l.2)],L:=L9,s:={M.s with H:=(W0 p.most M.s.H d.c).1}}:Mx):=hR.heap hD9 r9;clear htk hD9 r9 hM I8 hN9 hR;have hR:=Y9;clear Y9;rw[Z9.s,hdc]at hd9;refine U274 ?_;intro hM I8;have hN9:V0 w M.nb (Mx.now ({M with used:=M.used+1,ea:=wi0,ec:=wj0,evs:=M.evs ++ [(i,D3 5 l.2)],L:=L9,s:={M.s with H:=(W0 p.most M.s.H d.c).1}}:Mx) |>.flatMap dcC).toArray 117:=hR.hN;refine L.nil ⟨rfl,⟨hM,hN9⟩,?_⟩;refine U15 ?_;refine L.va (o4 (i:=i) rfl rfl underlying52 X2 him) ?_;refine L.xN (i:=i) (d:=d9) hR him hP9 rfl rfl X2 (fun w Y9 hg=>?_);have hR:=Y9;clear Y9 hg hM I8 hN9 hP9;have hdn:(M.now.set i d9)[i]? =some d9:=H6 _ hd;refine U274 ?_;intro hM I8;have hN9:V0 w M.nb (Mx.now ({M with used:=M.used+1,ea:=wi0,ec:=wj0,evs:=M.evs ++ [(i,D3 5 l.2)],L:=L9,s:={M.s with H:=(W0 p.most M.s.H d.c).1},now:=M.now.set i d9}:Mx) |>.flatMap dcC).toArray 117:=hR.hN;refine U1 ?_;refine U14 ?_;refine L.va (E0 rfl underlying54 rfl Yh0 (by decide)) ?_;refine L.va (B0 rfl underlying52 rfl (hM.q0 3 (v:=.slice (pt M.nb) p.m p.m) rfl)) ?_;refine L.va (K2 rfl) ?_;refine L.va (o4 (i:=i) rfl rfl underlying52 X2 him) ?_;refine L.va (E0 rfl underlying117 rfl c5 (by decide)) ?_;refine L.va (B0 (v:=.i (d9.c.at_:Int)) rfl underlying3 rfl (Dh0 hN9 hdn 0 _ rfl)) ?_;refine L.va (S1 rfl rfl) ?_;refine U1 ?_;refine W.y6 rfl (fun nh1=>?_) (fun nh1=>?_)
      ·refine W.seq ?_;refine U159 ?_;have h09:d9.c.at_=0:=by omega
       have ix1:(M.s.log i).length <=l.1/\l.1<(p.bo i).length:=by
        rw[Z9.s];obtain⟨h7,o,ho,_⟩:=is1.lab i l hfi;exact⟨h7,(List.getElem?_eq_some_iff.1 ho).1⟩
       have og1:M.s.N0.length <=20000:=by rw[Z9.s];have:=Um0.t;omega
       refine L.call (W1 rfl rfl func31 rfl en1 rfl) (wc0 hR him hpl hdn (by show(M.s.log i).length <=_;omega) (by show M.s.N0.length <=_;omega) (by omega)) ?_;rintro _ w ⟨rfl,a9,c9,ta9,tc9,hR8⟩;clear hM I8 hN9 hR;obtain⟨M5,hM5⟩:∃M5:Mx,M5={(({M with used:=M.used+1,ea:=wi0,ec:=wj0,evs:=M.evs ++ [(i,D3 5 l.2)],L:=L9,s:={M.s with H:=(W0 p.most M.s.H d.c).1},now:=M.now.set i d9}:Mx))with la:=r6 M.la i a9,lc:=r6 M.lc i c9,ta:=ta9,tc:=tc9,s:=P4 i {M.s with H:=(W0 p.most M.s.H d.c).1} d9.c,W9:=M.W9.set i (l.1+1)}:=⟨_,rfl⟩
       have hR:RX w0 B2 p.m ba bc p.most w M5:=by rw[hM5];exact hR8
       clear hR8;refine U1 ?_;refine U159 ?_;have e1:M5.W9[i]? =some (l.1+1):=by rw[hM5];exact H6 _ hpl
       have e2:M5.now[i]? =some d9:=by rw[hM5];exact hdn
       have e3:(M5.s.log i).length <=l.1+1:=by
        rw[hM5];show(r6 M.s.log i (M.s.log i ++ [R8 d9.c]) i).length <=_;rw[Z2,List.length_append];exact Nat.succ_le_succ ix1.1
       have e4:M5.s.N0.length <=1000000:=by
        rw[hM5];show(if 0<d9.c.tn then M.s.N0 ++ [(d9.c.tn,d9.c.tg)] else M.s.N0).length <=_;split
        ·rw[List.length_append];simp;omega
        ·omega
       have e5:M5.s=P4 i {((V1 p).pn sc q).s with H:=(W0 p.most ((V1 p).pn sc q).s.H l.2).1} (W0 p.most ((V1 p).pn sc q).s.H l.2).2:=by rw[hM5];show P4 i {M.s with H:=(W0 p.most M.s.H d.c).1} d9.c=_;rw[hd9,hdc,Z9.s]
       have f1:M5.wb=M.wb:=by rw[hM5]
       have f2:M5.rb=M.rb:=by rw[hM5]
       have f3:M5.zb=M.zb:=by rw[hM5]
       rw[<- f1,<- f2,<- f3];refine L.call (W1 rfl rfl func28 rfl el1 rfl) (qz0 hBo hR him e1 ⟨_,e2⟩ ix1.2 e3 (by omega) e4) ?_;rintro _ w ⟨rfl,M9,hR9,hW⟩;have bz1:MQ p ((V1 p).pn sc (q+1)) M9:=by
        show MQ p ((V1 p).step ((V1 p).pn sc q) (sc q)) M9;rw[S4];exact Ue0 Z9 hfi (by rw[<- hd9];exact h09) (by rw[hM5]) (by rw[hM5]) e5 (fun j hj=>by rw[hM5];exact A6 _ hj) (fun j hj=>by rw[hM5];exact A6 _ hj) hW
       have ca1:M9.used=q+1:=by rw[hW.fx.e.2.2.2,hM5];show M.used+1=q+1;rw[hus]
       have g1:M9.wb=M5.wb:=hW.fx.b.1;have g2:M9.rb=M5.rb:=hW.fx.b.2.2.2.2.2.1;have g3:M9.zb=M5.zb:=hW.fx.z;have hz1:w0.heap.size <=M9.zb:=by rw[g3,f3];exact hz
       rw[<- g1,<- g2,<- g3];refine U160 ?_;refine T.nrm ?_;exact⟨_,by omega,⟨q+1,M9,rfl,rfl,rfl,rfl,rfl,rfl,rfl,hqs,hR9,bz1,ca1,hz1⟩⟩
      ·obtain⟨M4,hM4⟩:∃M4,M4=({M with used:=M.used+1,ea:=wi0,ec:=wj0,evs:=M.evs ++ [(i,D3 5 l.2)],L:=L9,s:={M.s with H:=(W0 p.most M.s.H d.c).1},now:=M.now.set i d9}:Mx):=⟨_,rfl⟩
       have hR:RX w0 B2 p.m ba bc p.most w M4:=by rw[hM4];exact hR
       have bz1:MQ p ((V1 p).pn sc (q+1)) M4:=by
        show MQ p ((V1 p).step ((V1 p).pn sc q) (sc q)) M4;rw[S4,hM4];exact ir1 Z9 hfi hd9 (by omega) rfl rfl (by show({M.s with H:=(W0 p.most M.s.H d.c).1}:HW)=_;rw[hdc,Z9.s]) rfl rfl him
       have ca1:M4.used=q+1:=by rw[hM4];show M.used+1=q+1;rw[hus]
       have hz:w0.heap.size <=M4.zb:=by rw[hM4];exact hz
       have f1:M4.wb=M.wb:=by rw[hM4]
       have f2:M4.rb=M.rb:=by rw[hM4]
       have f3:M4.zb=M.zb:=by rw[hM4]
       rw[<- f1,<- f2,<- f3];clear hM I8 hN9 hM4;refine W.skip ?_;refine B.nrm ?_;refine T.nrm ?_;exact⟨_,by omega,⟨q+1,M4,rfl,rfl,rfl,rfl,rfl,rfl,rfl,hqs,hR,bz1,ca1,hz⟩⟩
end
end Go.Vy.Sc
end
section
namespace Go.Vy
open Go Go.Yc Go.RowKit
open Go.Vc
section
variable {P:Program}{ρ:Operand->Value}{w:World}{d:Option Nat}{ty:TypeId}{ps:String}{af:Array Edge}{g:Option (Nat×Bool)}{x y:Operand}{T T':TypeId}
theorem po0 {a:Bool} (hx:ρ x= .bool a) (hy:ρ y= .bool a) (hT:P.underlying T=some .bool):Does P (execOp ρ ⟨d,.binOp .eql T x y T',ty,ps,af,g⟩) w (.val (.bool true)) w:=by
 have h1:∀w:World,(binOp .eql T (.bool a) (.bool a)).run P w= .ok (.bool true) w:=fun w=>by
  have h2:=run_equal_bool (P:=P) w T a a hT;simp[binOp,h2]
 have h3:E1 P (binOp .eql T (.bool a) (.bool a)):=rv0 (m9 (n:=9999) rfl) rfl;refine .j1 (aj0 hx hy (dp0 (fun _ h=>by cases h) (fun h=>by cases h)) h3) rfl rfl fun τ d=>?_;have h2:∀w:World,(eqGuard .eql T x y (.bool a) (.bool a)).run P w= .ok () w:=fun w=>by simp[eqGuard]
 simp only[execOp,hx,hy,Sem.run_bind,h2,h1,Result.andThen_ok];rfl
end
end Go.Vy
namespace Go.Vy.Sc
open Go Go.Conc Go.Yc Go.RowKit Go.Proofs Go.Proofs.Ytgadhljgilblbaa Try
open Go.Vc Go.Wg
theorem cb1 {p:j4} {q:PR (V1 p)} (hq:q.ft.length=p.m):(q.ft.any (·.isLeft)&&((V1 p).rds q).isEmpty)=false:=by
 cases he:((V1 p).rds q).isEmpty with
 |false=>simp
 |true=>
  rw[Bool.and_true];have he:(V1 p).rds q=[]:=by simpa using he
  rw[<- Bool.not_eq_true,List.any_eq_true];rintro⟨f,hf,hl⟩;obtain⟨j,hj⟩:=List.mem_iff_getElem?.1 hf;have hjm:j<p.m:=by have:=(List.getElem?_eq_some_iff.1 hj).1;omega
  have hr:=we0 hj;rw[hl]at hr;have:j∈(V1 p).rds q:=by
   unfold Sys.rds;rw[List.mem_filter];exact⟨by simpa using hjm,hr⟩
  rw[he]at this;cases this
structure Wv0 (p:j4) (R:Rn) (M:Mx):Prop where
 evs:R.evs=M.evs
 j2:R.j2=[]
 ends:R.ends=M.ends
 I4:R.I4=M.I4
 stuck:R.stuck=false
 used:R.used=M.used
 m:R.m=p.m
theorem cc1 {p:j4} {sc:Nat->Int} {sn B:Nat} {w w0 w1:World} {R:Rn} {M:Mx} (hX:gc0 (V1 p) sc sn B R w1) (hZ:ge0 w0 p.m p.most w M) (Z9:MQ p ((V1 p).pn sc sn) M) (hT:Told p ((V1 p).pn sc sn) p.m M):Wv0 p R M:=by
 have hl:=hT.lists hZ.le hZ.lw;have hm:R.m=p.m:=hX.hm;refine⟨hX.evs.trans Z9.evs.symm,hX.j2.trans (Wp0 _ (.inr ⟨sc,sn,rfl⟩)),?_,?_,hX.stuck.trans (cb1 (Sys.w8 sc sn)),hX.used.trans Z9.used.symm,hm⟩
 ·rw[hl.1];apply List.ext_getElem?;intro j;rcases Nat.lt_or_ge j p.m with hj|hj
  ·rw[hX.ends j hj];simp[hj]
  ·rw[List.getElem?_eq_none (by have:=hX.mem.eo0;omega),List.getElem?_eq_none (by simpa using hj)]
 ·rw[hl.2];apply List.ext_getElem?;intro j;rcases Nat.lt_or_ge j p.m with hj|hj
  ·rw[hX.I4 j hj];simp[hj]
  ·rw[List.getElem?_eq_none (by have:=hX.mem.jf0;omega),List.getElem?_eq_none (by simpa using hj)]
section
variable [Ctx prog]
theorem cd1 {p:j4} {sc:Nat->Int} {sn B:Nat} {w0:World} {R:Rn} {M:Mx} (w:World) (hJ:Wv0 p R M) (hX:gc0 (V1 p) sc sn B R w) (hZ:ge0 w0 p.m p.most w M) (hm:p.m <=16) (he:M.evs.length <=20000) :
  C prog 13 #[.agg #[.slice R.ea R.evs.length R.ec,.slice R.na R.j2.length R.nc,.slice (pt R.eb) R.m R.m,.slice (pt R.wb) R.m R.m,.bool R.stuck,.i (R.used:Int)],.agg (Mx.rC p.m M)] w fun v w'=>v= .bool true/\Below w.heap.size w w':=by
 have h1:=hX.mem.Np0;rw[hJ.evs,hJ.j2,hJ.ends,hJ.I4,hJ.m]at h1;rw[hJ.evs,hJ.j2,hJ.m,hJ.stuck,hJ.used];exact bb1 w ⟨by omega,by simp,by omega⟩ h1 hZ.Np0
theorem ce1 {p:j4} {sc:Nat->Int} {sn B:Nat} {w0:World} {R:Rn} {M:Mx} {Ly:I5} {r:T6} (hp:n4 p) (w:World) (hY:ag0 p sc sn B w R Ly r) (hZ:ge0 w0 p.m p.most w M) (Z9:MQ p ((V1 p).pn sc sn) M) (hsn:sn <=20000) (hw:p.m=0\/G8 ((V1 p).pn sc sn).ft[0]? =1) :
  C prog 15 #[.p p.hp,.p M.hb] w fun v w'=>v= .bool true/\Below w.heap.size w w':=by
 have hre:(V1 p).Reach ((V1 p).pn sc sn):=.inr ⟨sc,sn,rfl⟩;have hn:=th0 hp _ hre;have hev:=(Sys.ks0 (Y:=V1 p) sc sn).1;have hpi:fk0 ((V1 p).pn sc sn).s.H 0:=(td0 hp _ hre).none fun l hl=>by
  rcases hw with h|h
  ·have h1:((V1 p).pn sc sn).ft.length=p.m:=Sys.w8 sc sn;have h2:=(List.getElem?_eq_some_iff.1 hl).1;omega
  ·rw[hl]at h;cases h
 obtain⟨B2,hD⟩:=hZ.hD;have hR:=hD.ij1;rw[Z9.s]at hR;refine Nt0 p.B p.hp p.wb p.pb 5 p.most ((V1 p).pn sc sn).s.H Ly w hY.mem hR ?_ ?_ ?_
 ·have:=hn.n;omega
 ·have:=hn.p;omega
 ·rw[Ho0];have:=hpi.bal;omega
theorem iy1 {p:j4} {sc:Nat->Int} {sn B:Nat} {w0:World} {R:Rn} {M:Mx} {Ly:I5} {r:T6} (hp:n4 p) (w:World) (hY:ag0 p sc sn B w R Ly r) (hZ:ge0 w0 p.m p.most w M) (Z9:MQ p ((V1 p).pn sc sn) M) {i:Nat} (hi:i<p.m) (hl:(p.bo i).length <=2000) :
  C prog 14 #[.slice (r.la i) ((hS p sc sn).log i).length (r.lc i),.slice (M.la i) (M.s.log i).length (M.lc i)] w fun v w'=>v= .bool true/\Below w.heap.size w w':=by
 have h1:=(ft0 hp _ (.inr ⟨sc,sn,rfl⟩:(V1 p).Reach ((V1 p).pn sc sn))).all i;have h2:=hZ.hL i hi;rw[Z9.s]at h2⊢;exact Hn0 w (by show(HW.log ((V1 p).pn sc sn).s i).length <=_;omega) (ei0.own (hY.ans i hi)) h2
theorem Un0 {p:j4} (hp:n4 p) {m:Nat} {most:Int} {bo:Nat->List X8} (pm:p.m=m) (pmo:p.most=most) (pbo:p.bo=bo) {bc sn scp:Nat} {sc:Nat->Int} {ba sa:Option Addr} {oa:Nat->Option Addr} {oc:Nat->Nat} (w0:World) (hBo:M7 w0 ba m bo oa oc) (hSc:pl0 w0 sa sn scp sc) (hm:m <=16) (hsn:sn <=20000) (hbl:∀i,i<m->(bo i).length <=2000) :
  C prog 12 #[.i most,.i 5,.slice ba m bc,.slice sa sn scp] w0 fun v w=>∃M,v= .tuple #[.agg (Mx.rC p.m M),.p M.wb]/\ge0 w0 p.m p.most w M/\MQ p ((V1 p).pn sc sn) M/\Told p ((V1 p).pn sc sn) p.m M:=by
 subst pm pmo pbo;exact Uk0 hp w0 hBo hSc hm hsn hbl
end
end Go.Vy.Sc
end
section
namespace Go.Vy.Sc
open Go Go.Conc Go.Yc Go.RowKit Go.Proofs Go.Proofs.Ytgadhljgilblbaa Try
open Go.Vc Go.Wg
set_option maxHeartbeats 2000000 in
theorem ji1 {lb:Nat} {pl:Nat->p7} {most:Int} {m bc sn scp:Nat} {bo:Nat->List X8} {sc:Nat->Int} {ba sa:Option Addr} {oa:Nat->Option Addr} {oc:Nat->Nat} (w0:World) (hm:m <=1000000000000) (hsn:sn <=9223372036854775807) (hBo:M7 w0 ba m bo oa oc) (hz:∀i,m <=i->bo i=[]) (hSc:pl0 w0 sa sn scp sc) :
  @C prog (C9 lb pl) 3 #[.i most,.slice ba m bc,.slice sa sn scp] w0 fun v w=>v= .bool true/\Below w0.heap.size w0 w:=by
 letI:Ctx prog:=C9 lb pl;refine C.enter (n:=127) func3 rfl rfl ?_;refine U7 ?_;intro hb;refine U12 ?_;refine U18 ?_;refine U106 ?_;refine L.call (n3 rfl rfl rfl func6 rfl nm6 rfl) (ic1 _ hm hsn hBo) ?_;rintro _ w ⟨bf,rfl,ni1,D1⟩;have hb:=O0 hb D1;clear D1;refine L.va (au0 rfl) ?_;refine U1 ?_;refine W.cond rfl (fun h20=>?_) (fun h20=>?_)
 ·refine W.seq ?_;by_cases r9:most<1\/1048576<most
  ·refine W.region rfl ?_;refine L.call (dm0  func8 rfl nm8 rfl) (ib0 _) ?_;rintro _ w ⟨wb,rfl,hwb,hW,D1⟩;have hwb:=Nat.le_trans hb.size hwb;have hb:=O0 hb D1;refine L.va (K2 rfl) ?_;refine L.call (n3 rfl rfl rfl func7 rfl nm7 rfl) (Tg0 wb 5 most w r9) ?_;rintro _ w1 ⟨rfl,hw⟩;refine U10 ?_;refine U21 ?_;refine U73 ?_;refine U20 ?_;refine U229 ?_;refine L.g7 3 [29,30,31,32] 32 (.bool false) (tj:=29) rfl (fun Pq0=>?_) (fun Pq0=>?_) (fun f=>?_)
   ·refine L.on rfl ?_;refine U261 ?_;refine⟨rfl,congrArg Value.bool (decide_eq_false (by have:=of_decide_eq_true Pq0;omega)),?_⟩;exact A0.upd rfl (A0.upd rfl (A0.upd rfl (A0.upd rfl (A0.refl _ _))))
   ·refine L.off rfl ?_;refine U161 ?_;refine⟨rfl,congrArg Value.bool rfl,?_⟩;exact A0.upd rfl (A0.upd rfl (A0.upd rfl (A0.upd rfl (A0.refl _ _))))
   refine U12 ?_;refine U623 ?_;rintro _ w ⟨rfl,D1⟩;have hb:=O0 hb D1;refine U23 ?_;refine U140 ?_;rintro _ w1 ⟨rfl,hw⟩;refine U10 ?_;refine L.on rfl ?_;refine L.va (A1 (r:=false) (by decide) (S1 (m:=2) (k:=0) rfl rfl)) ?_;refine U267 ?_;refine U630 ?_;refine U267 ?_;refine U23 ?_;refine U23 ?_;refine U140 ?_;rintro _ w1 ⟨rfl,hw⟩;refine U10 ?_;refine L.on rfl ?_;refine L.va (A1 (r:=true) (by decide) (S1 (m:=2) (k:=2) rfl rfl)) ?_;refine L.on rfl ?_;refine L.va (O6 rfl) ?_;refine U242 ?_;exact U31
  ·refine W.region rfl ?_;refine L.call (dm0  func8 rfl nm8 rfl) (ib0 _) ?_;rintro _ w ⟨wb,rfl,hwb,hW,D1⟩;have hwb:=Nat.le_trans hb.size hwb;have hb:=O0 hb D1;refine L.va (K2 rfl) ?_;refine L.call (n3 rfl rfl rfl func7 rfl nm7 rfl) (ta0 w0.heap.size wb 5 most _ hb.size hW r9) ?_;rintro _ w ⟨hp1,pb1,Ly1,rfl,hM1,_,_,D1,_,_⟩;have hb:=O0 hb D1;refine U21 ?_;refine U73 ?_;refine U20 ?_;refine U229 ?_;refine L.g7 3 [29,30,31,32] 32 (.bool true) (tj:=29) rfl (fun Pq0=>?_) (fun Pq0=>?_) (fun f=>?_)
   ·refine L.on rfl ?_;refine U261 ?_;refine⟨rfl,congrArg Value.bool (decide_eq_true (by omega)),?_⟩;exact A0.upd rfl (A0.upd rfl (A0.upd rfl (A0.upd rfl (A0.refl _ _))))
   ·exact absurd (of_decide_eq_false Pq0) (by omega)
   refine U12 ?_;refine U623 ?_;rintro _ w ⟨rfl,D1⟩;have hb:=O0 hb D1;refine U23 ?_;refine U140 ?_;rintro _ w1 ⟨rfl,hw⟩;refine U10 ?_;refine U550 ?_;refine U267 ?_;refine U630 ?_;refine U267 ?_;refine U23 ?_;refine L.va (v7 rfl) ?_;refine U62 ?_;refine L.off rfl ?_;refine L.on rfl ?_;refine L.va (e7 rfl) ?_;refine U242 ?_;exact U31
 ·refine W.skip ?_;show W _ _ _ _ _ _;refine U20 ?_;refine U106 ?_;have hF:=ni1 (by simpa using h20);refine L.call (n3 rfl rfl rfl func11 rfl kd1 rfl) (Nz0 w (hBo.j0 hb) hz (hSc.j0 hb) hF) ?_;rintro _ w1 ⟨p,R,Ly,r,rfl,⟨pm,pmo,pbo⟩,hP,hY,hK,D1⟩;obtain⟨Bq,hBq⟩:∃Bq,Bq=w.heap.size:=⟨_,rfl⟩
  rw[<- hBq]at hY;clear hBq;rw[<- pm]at hK;have hb:=O0 hb D1;clear D1
  rename World=>w
  refine U21 ?_;refine L.va (lc0 rfl) ?_;refine U12 ?_;refine U17 ?_;refine U353 ?_;refine U26 ?_;refine U20 ?_;refine U106 ?_;have if1:=hF.m1;have Pr0:=hF.sn1;have hbl:∀i,i<m->(bo i).length <=2000:=fun i hi=>by
   have h1:=te0 (f:=fun i=>(bo i).length) hi;have h2:=hF.sum;have h1:(bo i).length <=Go.ConcN.sumTo m fun i=>(bo i).length:=h1;omega
  refine L.call (bl0 rfl rfl rfl rfl func12 rfl ke1 rfl) (Un0 hP pm pmo pbo w (hBo.j0 hb) (hSc.j0 hb) if1 Pr0 hbl) ?_;rintro _ w1 ⟨M,rfl,hZ,Z9,hTd⟩;have D1:=hZ.hb;have hb:=O0 hb D1;have hY:=hY.j0 D1;have hK:=hK.j0 D1;clear D1;obtain⟨ba2,bc2,hW⟩:=hZ.hW;have hJ:=cc1 hY.run hZ Z9 hTd;have iz1:M.evs.length <=20000:=by rw[Z9.evs];exact Nat.le_trans (Sys.ks0 (Y:=V1 p) sc sn).1 Pr0
  have ja1:p.m <=16:=by omega
  rename World=>w
  refine U21 ?_;have Ob0:=hY;have jb1:=hK;have jc1:=hZ;have jd1:=hW;have vy0:=hb;refine L.alloc (cs:=#[.slice none 0 0,.slice none 0 0,.slice none 0 0,.slice none 0 0,.bool false,.i 0]) Ki0 rfl (fun w b12 F12=>?_);have Po0:=F12.lq hb.size;have fl0:=F12.blk;refine L.pa [.slice M.ea M.evs.length M.ec,.slice none 0 0,.slice (pt M.eb) p.m p.m,.slice (pt M.xb) p.m p.m,.bool false,.i (M.used:Int)] da0 fl0 (fun w G0 hg A2=>?_);have hbA:=G4 F12.below F12.below.size hg (by have:=F12.here;omega);have hY:=Ob0.j0 hbA;have hK:=jb1.j0 hbA;have hZ:=jc1.j0 hbA;have hW:=jd1.j0 hbA;have hb:=O0 vy0 hbA;have fl0:=G0;clear G0 hg A2 hbA F12 Ob0 jb1 jc1 jd1 vy0;refine U9 ?_;refine U75 ?_;refine U6 ?_;refine D.va (fun w' J0=>(E0 rfl underlying48 rfl da0 (by decide))) ?_;refine D.va (fun w' J0=>(Q0 (cs:=[.slice R.ea R.evs.length R.ec,.slice R.na R.j2.length R.nc,.slice (pt R.eb) R.m R.m,.slice (pt R.wb) R.m R.m,.bool R.stuck,.i (R.used:Int)]) rfl underlying40 rfl da0 rfl ((hK.j0 J0).B4 rfl))) ?_;refine D.va (fun w' J0=>(Q0 (cs:=[.slice M.ea M.evs.length M.ec,.slice none 0 0,.slice (pt M.eb) p.m p.m,.slice (pt M.xb) p.m p.m,.bool false,.i (M.used:Int)]) rfl underlying40 rfl da0 rfl ((fl0.j0 J0).B4 rfl))) ?_;refine D.call (fun w' J0=>(W1 rfl rfl func13 rfl kf1 rfl)) (fun w' J0=>((cd1 w' hJ (ag0.run (hY.j0 J0)) (hZ.j0 J0) ja1 iz1).mono fun r w h=>⟨h.1,O0 J0 h.2⟩)) ?_;refine D.va (fun w' J0=>(au0 rfl)) ?_;refine U103 ?_;refine D.call (fun w' J0=>(dm0  func9 rfl nm9 rfl)) (fun w' J0=>((No0 w').mono fun r w h=>⟨h.1,O0 J0 h.2⟩)) ?_;refine D.on rfl ?_;refine U583 ?_;refine U30 ?_;intro w D1 hb;have hY:=hY.j0 D1;have hK:=hK.j0 D1;have hZ:=hZ.j0 D1;have hW:=hW.j0 D1;have fl0:=fl0.j0 D1;refine U22 ?_;refine U82 ?_;refine U388 ?_;obtain⟨wz,hwz⟩:∃wz,ge0 wz p.m p.most w M:=⟨_,hZ⟩
  have hZ:=hwz;clear hwz;refine W.region rfl ?_;refine U216 ?_;refine W.loop (fun k e w=>∃(i:Nat),k=m-i/\e 1= .slice ba m bc/\e 10= .p p.pk/\e 12= .p b12/\e 13= .p M.wb/\e 14= .i (i:Nat)/\i <=m/\ag0 p sc sn Bq w R Ly r/\V0 w p.pk #[.slice R.ea R.evs.length R.ec,.slice R.na R.j2.length R.nc,.slice (pt R.eb) R.m R.m,.slice (pt R.wb) R.m R.m,.bool R.stuck,.i (R.used:Int),.p p.hp,.slice (pt p.l7) p.m p.m,.slice r.ta (hS p sc sn).N0.length r.tc] 48/\ge0 wz p.m p.most w M/\V0 w M.wb #[.p M.hb,.slice ba2 p.m bc2,.slice (pt M.pb) p.m p.m,.slice (pt M.nb) p.m p.m,.slice M.ta M.s.N0.length M.tc,.slice (pt M.gb) p.m p.m] 54/\V0 w b12 #[.slice M.ea M.evs.length M.ec,.slice none 0 0,.slice (pt M.eb) p.m p.m,.slice (pt M.xb) p.m p.m,.bool false,.i (M.used:Int)] 40/\Below w0.heap.size w0 w) _ ⟨0,rfl,rfl,rfl,rfl,rfl,rfl,Nat.zero_le _,hY,hK,hZ,hW,fl0,hb⟩ ?_;rintro k e w ⟨i,hk,s1,s10,s12,s13,s14,hi,hY,hK,hZ,hW,fl0,hb⟩;rw[L0 s1,L0 s10,L0 s12,L0 s13,L0 s14];clear s1 s10 s12 s13 s14;refine U18 ?_;refine U102 ?_;refine U29 ?_;refine W.y6 rfl (fun h85=>?_) (fun h85=>?_)
  ·have D2:i<m:=by omega
   have Il0:i<p.m:=by omega
   refine U49 ?_;refine U120 ?_;refine D.va (fun w' J0=>(E0 rfl underlying48 rfl Rd0 (by decide))) ?_;refine D.va (fun w' J0=>(B0 rfl underlying45 rfl ((hK.j0 J0).q0 7 (v:=.slice (pt p.l7) p.m p.m) rfl))) ?_;refine U510 ?_;refine D.va (fun w' J0=>(B0 (v:=.slice (r.la i) ((hS p sc sn).log i).length (r.lc i)) rfl underlying50 rfl (by rw[Nat.zero_add,Nat.mul_one];exact V0.q0 (ag0.lg (hY.j0 J0)) i (P6 Il0)))) ?_;refine U6 ?_;refine D.va (fun w' J0=>(E0 rfl underlying54 rfl Rd0 (by decide))) ?_;refine D.va (fun w' J0=>(B0 rfl underlying45 rfl ((hW.j0 J0).q0 5 (v:=.slice (pt M.gb) p.m p.m) rfl))) ?_;refine U510 ?_;refine D.va (fun w' J0=>(B0 (v:=.slice (M.la i) (M.s.log i).length (M.lc i)) rfl underlying50 rfl (by rw[Nat.zero_add,Nat.mul_one];exact V0.q0 (ge0.hG (hZ.j0 J0)) i (P6 Il0)))) ?_;refine D.call (fun w' J0=>(W1 rfl rfl func14 rfl kg1 rfl)) (fun w' J0=>((iy1 hP w' (hY.j0 J0) (hZ.j0 J0) Z9 Il0 (by rw[pbo];exact hbl i D2)).mono fun r w h=>⟨h.1,O0 J0 h.2⟩)) ?_;refine D.va (fun w' J0=>(au0 rfl)) ?_;refine U30 ?_;intro w D1 hb;have hY:=hY.j0 D1;have hK:=hK.j0 D1;have hZ:=hZ.j0 D1;have hW:=hW.j0 D1;have fl0:=fl0.j0 D1;refine U167 ?_;refine U39 ?_;exact⟨_,by omega,⟨i+1,rfl,rfl,rfl,rfl,rfl,rfl,D2,hY,hK,hZ,hW,fl0,hb⟩⟩
  ·refine W.exit ?_;refine U38 ?_;refine U0 ?_;refine U102 ?_;refine U634 ?_;refine L.g7 6 [107,108,109,110,111,112,113] 113 (.bool (decide (p.m=0\/G8 ((V1 p).pn sc sn).ft[0]? =1))) (tj:=107) rfl (fun Ps0=>?_) (fun Ps0=>?_) (fun f=>?_)
   ·refine L.off rfl ?_;refine U165 ?_;refine⟨rfl,congrArg Value.bool ((decide_eq_true (.inl (by have:=of_decide_eq_true Ps0;omega))).symm),?_⟩;exact A0.upd rfl (A0.upd rfl (A0.upd rfl (A0.upd rfl (A0.upd rfl (A0.upd rfl (A0.upd rfl (A0.refl _ _)))))))
   ·have Y1:0<p.m:=by have:=of_decide_eq_false Ps0;omega
    have he0:=(hTd 0 Y1).1;refine L.on rfl ?_;refine U334 ?_;refine L.va (B0 rfl underlying23 rfl (fl0.q0 2 (v:=.slice (pt M.eb) p.m p.m) rfl)) ?_;refine L.on rfl ?_;refine L.va (o4 (i:=0) rfl rfl underlying23 c5 Y1) ?_;refine L.on rfl ?_;refine L.va (B0 (v:=.i (G8 ((V1 p).pn sc sn).ft[0]?)) rfl underlying3 rfl (V0.q0 (ge0.hE hZ) 0 (by simp[he0]))) ?_;refine L.on rfl ?_;refine L.va (S1 rfl rfl) ?_;refine U25 ?_;refine⟨rfl,congrArg Value.bool (by rw[decide_eq_decide];constructor <;> intro h <;> omega),?_⟩;exact A0.upd rfl (A0.upd rfl (A0.upd rfl (A0.upd rfl (A0.upd rfl (A0.upd rfl (A0.upd rfl (A0.refl _ _)))))))
   refine U12 ?_;refine U183 ?_;refine D.va (fun w' J0=>(v7 rfl)) ?_;refine U591 ?_;refine D.g7 10 [116,117,118,119,120,121,122,123,124,125,126] 126 (.bool true) (tj:=116) rfl (fun Ww0=>?_) (fun Ww0=>?_) (fun f=>?_)
   ·refine D.off rfl ?_;refine U52 ?_;refine U52 ?_;refine U638 ?_;refine⟨congrArg Value.bool rfl,?_⟩;exact A0.upd rfl (A0.upd rfl (A0.upd rfl (A0.upd rfl (A0.upd rfl (A0.upd rfl (A0.upd rfl (A0.upd rfl (A0.upd rfl (A0.upd rfl (A0.upd rfl (A0.refl _ _)))))))))))
   ·have hwh:p.m=0\/G8 ((V1 p).pn sc sn).ft[0]? =1:=of_decide_eq_true (by simpa only[Bool.not_eq_false']using Ww0);refine U390 ?_;refine D.va (fun w' J0=>(E0 rfl underlying48 rfl Yd0 (by decide))) ?_;refine D.on rfl ?_;refine D.va (fun w' J0=>(B0 rfl underlying25 rfl ((hK.j0 J0).q0 6 (v:=.p p.hp) rfl))) ?_;refine U390 ?_;refine D.va (fun w' J0=>(E0 rfl underlying54 rfl Yg0 (by decide))) ?_;refine D.on rfl ?_;refine D.va (fun w' J0=>(B0 rfl underlying51 rfl ((hW.j0 J0).q0 0 (v:=.p M.hb) rfl))) ?_;refine D.on rfl ?_;refine D.call (fun w' J0=>(W1 rfl rfl func15 rfl kh1 rfl)) (fun w' J0=>((ce1 hP w' (hY.j0 J0) (hZ.j0 J0) Z9 Pr0 hwh).mono fun r w h=>⟨h.1,O0 J0 h.2⟩)) ?_;refine U639 ?_;refine⟨congrArg Value.bool rfl,?_⟩;exact A0.upd rfl (A0.upd rfl (A0.upd rfl (A0.upd rfl (A0.upd rfl (A0.upd rfl (A0.upd rfl (A0.upd rfl (A0.upd rfl (A0.upd rfl (A0.upd rfl (A0.refl _ _)))))))))))
   refine U384 ?_;intro w D1 hb;refine U22 ?_;exact U31
end Go.Vy.Sc
end
section
namespace Go.Vy
open Go Go.Conc
theorem Ii0 {H:Type} {enc:TypeId×Value->H} {a:Assume} {C:Checked} {os:Os} {f:FuncId} {fn:Func} {s:OpenSpec} {k:(H:Type)->List (DataW H)->Bool} (hk:s.cond=some k) {F:Stop.Interp} {conds:List PathCond} {apart fresh handsOn again:Bool}
  (own:ownKnob C.prog.godebug=none) (started:os.Started) (hfn:C.prog.funcs[f]? =some fn)
  (wit:∃(w:World) (tape:Tape) (i:Input),w.os=os/\(w.forCall tape i).Shaped C.prog/\i.vars=[]/\Input.okWide C.prog (w.forCall tape i) .any w.heap.size f i/\s.pre6 enc C.prog fn conds apart (w.forCall tape i).memory i.args/\a.holds C.prog (lone (Frame.enter C.prog f i.args .normal) [] (w.forCall tape i)))
  (runs:∀(W:World) (base:Nat) (args:Array Value) (ds gs:List (DataW H)) (before:List MemPlace),(∀(j:Nat) t v,fn.params[j]? =some t->args[j]? =some v->Value.okWide C.prog W .any base t v)->DataW.Whole enc C.prog fn.params.toList s.vars apart W args.toList ds gs before->k H (ds++gs)=true ->
   ∃M last o w' t',runNT C.prog (M+1) (solo (G (Frame.enter C.prog f args .normal) []) W) #[]=(.ended o w',t')/\runN C.prog M (solo (G (Frame.enter C.prog f args .normal) []) W)= .next last/\step C.prog last= .ended o w'/\Conc.Good C.prog (fun v W'=>(s.at F).post enc C.prog fn apart fresh handsOn again W args v W') last o w' t') :
  ReturnsInLeavingWide a C os f .any (s.pre6 enc C.prog fn conds apart) ((s.at F).post enc C.prog fn apart fresh handsOn again):=by
 refine returnsInLeavingWide_of_good own started wit fun w tape i _ _ _ hok nj1 _=>?_;obtain⟨_,_,_,fn',je1,_,_,_,_,nk1⟩:=hok;rw[hfn]at je1;obtain rfl:=Option.some.inj je1;obtain⟨ds,gs,before,hw,_,hkk⟩:=(OpenSpec.pre_some hk conds apart _ _).1 nj1.1;obtain⟨M,last,o,w',t',h1,h2,h3,h4⟩:=runs (w.forCall tape i) w.heap.size i.args ds gs before nk1 (DataW.Whole.of_heap (w':=w.forCall tape i) (by rfl) hw) hkk;exact⟨M,last,o,w',t',h1,h2,h3,h4.mono fun v hp=>ChangeSpec.post_blind hp⟩
theorem Di0 {p:Pinned} {s:OpenSpec} {c:OpenClaim} (f:FuncId) (fn:Func) (hn:c.program=p.name) (hs:c.sum=p.sum) (hsp:c.spec=s.name) (hstart:c.start= .entering) (W8:c.outside=[]) (hin:c.inits=[]) (hun:c.under=none)
  (hi4:c.initsInPlace=[]/\c.initsUnfollowed=false/\c.initsRecurse=false/\c.initsNamed=[]/\c.initsPassed=[]) (hnb:c.noBlocks=false) (hlv:c.leaving=true) (hfo:c.followed=none) (nl1:c.narrowed=s.cond.isSome) (cf1:c.still=false)
  (hfn:p.checked.prog.funcNamed c.func=some f) (hf:p.checked.prog.funcs[f]? =some fn) (closed:joinedFacts p.checked.prog f fn s.bare c=true) (jf1:fn.isInstance p.checked.prog c.origin c.targs) (jg1:fn.isWrapper p.checked.prog c.wrapper c.mainSum)
  (h:∀os:Os,os.Started->∀(H:Type) (enc:TypeId×Value->H),(∀a b,enc a=enc b->a=b)->∀F:Stop.Interp,ReturnsInLeavingWide c.assume p.checked os f .any (c.pre enc p.checked.prog fn s) ((s.at F).post enc p.checked.prog fn c.apart c.fresh c.handsOn c.again)):c.holds p s:=by
 simp only[joinedFacts,Bool.and_eq_true,beq_iff_eq,Array.all_eq_true_iff_forall_mem,List.all_eq_true,decide_eq_true_eq]at closed;obtain⟨⟨⟨⟨⟨⟨⟨⟨⟨⟨⟨⟨⟨⟨⟨⟨⟨⟨⟨⟨⟨⟨⟨⟨⟨⟨⟨⟨⟨⟨⟨q1,q2⟩,q3⟩,q4⟩,q5⟩,q6⟩,q7⟩,q8⟩,q9⟩,q10⟩,q11⟩,q12⟩,q13⟩,q14⟩,q15⟩,q16⟩,q17⟩,nm1⟩,q18⟩,q19⟩,q20⟩,q21⟩,q22⟩,q23⟩,nn1⟩,q24⟩,no1⟩,np1⟩,q25⟩,q26⟩,q27⟩,q28⟩:=closed;have hq:∀os:Os,Stop.quiet p.checked.prog os:=fun os k hk=>by rw[q9]at hk;cases hk
 have hex:∃os:Os,c.world os/\Stop.quiet p.checked.prog os:=⟨_,by unfold OpenClaim.world;rw[W8,hstart];exact WideRow.started_initial,hq _⟩
 refine⟨q1,hn,hs,hsp,q2,q3,?_,?_,f,fn,hfn,hf,⟨q4,q19⟩,(fun hb=>by rw[hnb]at hb;cases hb),?_,jf1,jg1,q6.trans q7.symm,⟨q8.trans q9.symm,?_,nn1⟩,q10,q11,q12,q13,q14,⟨q15,q27,q28⟩,⟨q16,q20⟩,⟨q17,q21,q25,q26⟩,⟨q22,no1,np1,nm1⟩,?_,fun n hn'=>varReadable_some (q18 n hn'),hex,[],?_,fun os st _ H enc inj=>?_⟩
 ·unfold OpenClaim.startFits;rw[hstart];exact q24
 ·unfold OpenClaim.startTold;rw[hstart];exact⟨hin,hun,hi4⟩
 ·unfold OpenClaim.namedList;rw[hfo];exact q5
 ·unfold Program.envWorded;rw[q9];rfl
 ·rw[W8,nl1];cases hsh:c.shortTexts with
  |none=>simp
  |some _=>rw[hsh]at q23;cases q23
 ·unfold OpenClaim.lists;rw[hfo]
 ·have st':os.Started:=by unfold OpenClaim.world at st;rw[W8,hstart]at st;exact st
  rw[OpenClaim.post_not_still cf1];unfold OpenClaim.form;rw[hstart,q6];intro F;have e1:c.okInput=Input.okWide:=by unfold OpenClaim.okInput;rw[hnb]
  have e2:c.atReturn p.checked.prog=leavingAtReturn p.checked.prog:=by unfold OpenClaim.atReturn;rw[hlv]
  have e3:c.always p.checked.prog []=nothingAlways:=by unfold OpenClaim.always;rw[hfo]
  have e4:s.post enc p.checked.prog fn F c.outside c.apart c.fresh c.handsOn c.again=(s.at F).post enc p.checked.prog fn c.apart c.fresh c.handsOn c.again:=by rw[W8];rfl
  rw[e1,e2,e3];show ReturnsInOpen _ _ _ _ _ _ _ _ (s.post enc p.checked.prog fn F c.outside c.apart c.fresh c.handsOn c.again) _ _;rw[e4];exact h os st' H enc inj F q24
end Go.Vy
end
section
namespace Go.Vy.Sc
open Go Go.Conc Go.Yc Go.RowKit Go.Proofs Go.Proofs.Ytgadhljgilblbaa Try
open Go.Vc Go.Wg Go.ChangeShapes Go.WideShapes Go.ChangeAt Go.Deep
theorem Pt0 {H:Type} (d:DataW H):1 <=Rows.uptoBulk d:=by
 cases d with
 |lit l=>cases l <;> simp[Rows.uptoBulk]
 |_=>simp[Rows.uptoBulk]
theorem rc0 {H:Type} {d:DataW H}:∀{l:List (DataW H)},d∈l->Rows.uptoBulk d <=Rows.uptoBulkAll l
 |x::r,h=>by
  simp only[Rows.uptoBulkAll];rcases List.mem_cons.1 h with rfl|h
  ·omega
  ·have:=rc0 h;omega
theorem wk0 {H:Type}:∀(l:List (DataW H)),l.length <=Rows.uptoBulkAll l
 | []=>Nat.zero_le _
 |x::r=>by
  have:=Pt0 x;have:=wk0 r;simp only[Rows.uptoBulkAll,List.length_cons];omega
theorem cg1 {H:Type} {l:List (DataW H)} (h:Rows.uptoSmall H l=true):Rows.uptoBulkAll l <=1048576:=of_decide_eq_true h
section
variable {H:Type}{enc:TypeId×Value->H}{W:World}{base:Nat}{spare:Nat->Bool}{held:Bool}{P:Program}
theorem oz0 {t e:TypeId} {s:Nat} {a:Option Addr} {len cap fuel:Nat} {x:DataW H×List MemPlace} (ht:P.underlying t=some (.slice e)) (hs:P.cellsOf e=s) (h0:0<s) (h:DataW.trod enc P W base spare held fuel t [.slice a len cap]=some x) :
  SL a len/\(a=none->len=0/\cap=0)/\(len <=cap/\len <=Rows.uptoBulk x.1)/\∃n,∀i,i<len->∃cs y,Rows.uptoBulk y.1 <=Rows.uptoBulk x.1/\cs.length=s/\(∀(j:Nat) v,cs[j]? =some v->W.cell? ⟨ab a,ao a+i*s+j,none⟩=some v)/\DataW.trod enc P W base spare held n e cs=some y:=by
 rcases open_slice ht h with⟨hcs,_⟩|⟨ad,l,c,m,n,D,Pl,hcs,hb,hl,hm,hmm,hx,hi⟩
 ·simp at hcs;obtain⟨rfl,rfl,rfl⟩:=hcs;exact⟨SL.zero _,fun _=>⟨rfl,rfl⟩,⟨Nat.le_refl _,Nat.zero_le _⟩,0,fun i hi=>absurd hi (Nat.not_lt_zero _)⟩
 ·simp at hcs;obtain⟨rfl,rfl,rfl⟩:=hcs;have hlm:len <=m:=by rw[hmm];split <;> omega
  have hbk:Rows.uptoBulkAll ((List.range len).map D) <=Rows.uptoBulk x.1:=by
   rw[hx];simp only[Rows.uptoBulk];omega
  have hE:∀i,i<len->∃cs y,Rows.uptoBulk y.1 <=Rows.uptoBulk x.1/\cs.length=s/\(∀(j:Nat) v,cs[j]? =some v->W.cell? ((ad.add (i*s)).add j)=some v)/\DataW.trod enc P W base spare held n e cs=some y:=fun i J7=>by
   obtain⟨cs,h1,h2⟩:=hi i (by omega);rw[hs]at h1;obtain⟨_,h4,h3⟩:=World.cells?_some h1;refine⟨cs,_,Nat.le_trans (rc0 (List.mem_map.2 ⟨i,by simpa using J7,rfl⟩)) hbk,h4,fun j v hj=>?_,h2⟩;have:j<s:=by rw[<- h4];exact(List.getElem?_eq_some_iff.1 hj).1
   rw[h3 j this];exact hj
  have hsp:0<len->ad=⟨ad.block,ad.off,none⟩:=fun G9=>by
   obtain⟨cs,y,_,h1,h2,_⟩:=hE 0 G9;obtain⟨v,hv⟩:∃v,cs[0]? =some v:=⟨_,List.getElem?_eq_getElem (by omega)⟩
   have:=h2 0 v hv;rw[Nat.zero_mul]at this;have e1:(ad.add 0).add 0=ad:=by simp[Addr.add]
   rw[e1]at this;obtain⟨b,o,sp⟩:=ad;cases sp with
   |none=>rfl
   |some sp=>unfold World.cell? at this;simp at this;split at this <;> simp at this
  refine⟨fun G9=>by rw[hsp G9];rfl,(fun h=>by cases h),⟨hl,?_⟩,n,fun i J7=>?_⟩
  ·have:=wk0 ((List.range len).map D);rw[List.length_map,List.length_range]at this;omega
  ·obtain⟨cs,y,h5,h1,h2,h3⟩:=hE i J7;refine⟨cs,y,h5,h1,fun j v hj=>?_,h3⟩;have:=h2 j v hj;rw[hsp (by omega),Addr.add_lit,Addr.add_lit]at this;exact this
end
section
variable {H:Type}{enc:TypeId×Value->H}{W:World}{base:Nat}{spare:Nat->Bool}{held:Bool}
theorem wl0:prog.cellsOf 84=5:=by kernel_rfl
theorem Fu0:prog.cellsOf 82=2:=by kernel_rfl
theorem Pu0:prog.cellsOf 2=1:=by kernel_rfl
theorem If0:prog.cellsOf 80=1:=by kernel_rfl
theorem nq1 {α:Type}:∀{cs:List α},cs.length=2->∃a b,cs=[a,b]
 | [a,b],_=>⟨a,b,rfl⟩
theorem nr1 {α:Type}:∀{cs:List α},cs.length=5->∃a b c d e,cs=[a,b,c,d,e]
 | [a,b,c,d,e],_=>⟨a,b,c,d,e,rfl⟩
instance:Inhabited X8:=⟨⟨0,0,0,0,0⟩⟩
set_option maxRecDepth 100000 in
theorem Ig0 {n:Nat} {cs:List Value} {x:DataW H×List MemPlace} (h:DataW.trod enc prog W base spare held n 82 cs=some x):∃a b:Int,cs=[.i a,.i b]:=by
 obtain⟨m,hl,hf⟩:=om0 underlying82 h;rw[Fu0]at hl;obtain⟨v0,v1,rfl⟩:=nq1 hl;obtain⟨y0,h0⟩:∃y,DataW.trod enc prog W base spare held m 3 (([v0,v1].drop 0).take (prog.cellsOf 3))=some y:=hf 0 _ rfl;obtain⟨y1,h1⟩:∃y,DataW.trod enc prog W base spare held m 3 (([v0,v1].drop 1).take (prog.cellsOf 3))=some y:=hf 1 _ rfl;rw[on0]at h0 h1;obtain⟨a,ha,_⟩:=DataW.trod_int underlying3 h0;obtain⟨b,hb,_⟩:=DataW.trod_int underlying3 h1;simp at ha hb;exact⟨a,b,by rw[ha,hb]⟩
set_option maxRecDepth 100000 in
theorem Ih0 {n:Nat} {cs:List Value} {x:DataW H×List MemPlace} (h:DataW.trod enc prog W base spare held n 84 cs=some x):∃o:X8,cs=Cw0 o:=by
 obtain⟨m,hl,hf⟩:=om0 underlying84 h;rw[wl0]at hl;obtain⟨v0,v1,v2,v3,v4,rfl⟩:=nr1 hl;obtain⟨y0,h0⟩:∃y,DataW.trod enc prog W base spare held m 3 (([v0,v1,v2,v3,v4].drop 0).take (prog.cellsOf 3))=some y:=hf 0 _ rfl;obtain⟨y1,h1⟩:∃y,DataW.trod enc prog W base spare held m 2 (([v0,v1,v2,v3,v4].drop 1).take (prog.cellsOf 2))=some y:=hf 1 _ rfl;obtain⟨y2,h2⟩:∃y,DataW.trod enc prog W base spare held m 3 (([v0,v1,v2,v3,v4].drop 2).take (prog.cellsOf 3))=some y:=hf 2 _ rfl;obtain⟨y3,h3⟩:∃y,DataW.trod enc prog W base spare held m 82 (([v0,v1,v2,v3,v4].drop 3).take (prog.cellsOf 82))=some y:=hf 3 _ rfl;rw[on0]at h0 h2;rw[Pu0]at h1;rw[Fu0]at h3;obtain⟨z0,g0,_⟩:=DataW.trod_int underlying3 h0;obtain⟨z1,g1,_⟩:=DataW.trod_int underlying2 h1;obtain⟨z2,g2,_⟩:=DataW.trod_int underlying3 h2;obtain⟨a,b,g3⟩:=Ig0 h3;refine⟨⟨z0,z1,z2,a,b⟩,?_⟩;have g3:[v3,v4]=[.i a,.i b]:=g3;simp at g0 g1 g2 g3;rw[g0,g1,g2,g3.1,g3.2];rfl
theorem Uo0 {n len cap:Nat} {a:Option Addr} {x:DataW H×List MemPlace} (h:DataW.trod enc prog W base spare held n 80 [.slice a len cap]=some x) (hx:Rows.uptoBulk x.1 <=1048576):∃l:List X8,l.length=len/\SL a len/\len <=1048576/\(∀(k:Nat) (o:X8),l[k]? =some o->∀(j:Nat) (v:Value),(Cw0 o)[j]? =some v->W.cell? ⟨ab a,ao a+k*5+j,none⟩=some v):=by
 obtain⟨h1,_,⟨_,h2⟩,m,h3⟩:=oz0 underlying80 wl0 (by decide) h;obtain⟨f,hf⟩:=ol0 (α:=X8) (n:=len) (p:=fun i o=>∀(j:Nat) (v:Value),(Cw0 o)[j]? =some v->W.cell? ⟨ab a,ao a+i*5+j,none⟩=some v) fun i hi=>by
  obtain⟨cs,y,g0,_,g2,g3⟩:=h3 i hi;obtain⟨o,rfl⟩:=Ih0 g3;exact⟨o,g2⟩
 refine⟨(List.range len).map f,by simp,h1,by omega,fun k o hk=>?_⟩;have hkl:k<len:=by
  have:=(List.getElem?_eq_some_iff.1 hk).1;simpa using this
 simp[hkl]at hk;rw[<- hk];exact hf k hkl
theorem Up0 {a:Option Addr} {len cap:Nat} {d:DataW H} {p:List MemPlace} (h:DataW.Trod enc prog W base spare held 23 (.slice a len cap) d p) (hd:Rows.uptoBulk d <=1048576):∃sc,pl0 (et0 W) a len cap sc/\len <=1048576:=by
 obtain⟨fuel,hf⟩:=h;obtain⟨h1,h2,h4,n,h3⟩:=oz0 underlying23 on0 Nat.one_pos (show DataW.trod enc prog W base spare held fuel 23 [.slice a len cap]=_ from hf);have h4c:=h4.1;have h4:len <=Rows.uptoBulk d:=h4.2;obtain⟨sc,hsc⟩:=ol0 (α:=Int) (n:=len) (p:=fun i z=>W.cell? ⟨ab a,ao a+i*1,none⟩=some (.int .i64 z)) fun i hi=>by
  obtain⟨cs,y,_,_,g2,g3⟩:=h3 i hi;obtain⟨z,rfl,_⟩:=DataW.trod_int underlying3 g3;exact⟨z,g2 0 _ rfl⟩
 exact⟨sc,⟨h1,h2,h4c,fun j hj=>ku0 (hsc j hj)⟩,by omega⟩
theorem Uq0 {a:Option Addr} {len cap:Nat} {d:DataW H} {p:List MemPlace} (h:DataW.Trod enc prog W base spare held 22 (.slice a len cap) d p) (hd:Rows.uptoBulk d <=1048576):∃bo oa oc,M7 (et0 W) a len bo oa oc/\len <=1048576/\∀i,len <=i->bo i=[]:=by
 obtain⟨fuel,hf⟩:=h;obtain⟨h1,h2,h4,n,h3⟩:=oz0 underlying22 If0 Nat.one_pos (show DataW.trod enc prog W base spare held fuel 22 [.slice a len cap]=_ from hf);have h4c:=h4.1;have h4:len <=Rows.uptoBulk d:=h4.2;obtain⟨F,hF⟩:=ol0 (α:=List X8×Option Addr×Nat) (n:=len) (p:=fun i z=>W.cell? ⟨ab a,ao a+i*1,none⟩=some (.slice z.2.1 z.1.length z.2.2)/\SL z.2.1 z.1.length/\z.1.length <=1048576/\∀(k:Nat) (o:X8),z.1[k]? =some o->∀(j:Nat) (v:Value),(Cw0 o)[j]? =some v->W.cell? ⟨ab z.2.1,ao z.2.1+k*5+j,none⟩=some v) fun i hi=>by
  obtain⟨cs,y,g0,g1,g2,g3⟩:=h3 i hi;have g0:Rows.uptoBulk y.1 <=Rows.uptoBulk d:=g0;have hcs:∃a' ch1 Ur0,cs=[.slice a' ch1 Ur0]:=by
   rcases DataW.trod_slice underlying80 g3 with⟨h0,_⟩|⟨a',ch1,Ur0,_,_,_,_,h0,_⟩
   ·exact⟨_,_,_,h0⟩
   ·exact⟨_,_,_,h0⟩
  obtain⟨a',ch1,Ur0,rfl⟩:=hcs;obtain⟨l,rfl,q1,q2,q3⟩:=Uo0 g3 (by omega);exact⟨(l,a',Ur0),g2 0 _ rfl,q1,q2,q3⟩
 refine⟨fun i=>if i<len then(F i).1 else [],fun i=>(F i).2.1,fun i=>(F i).2.2,⟨h1,fun i hi=>?_,fun i hi=>?_,fun i hi=>?_⟩,by omega,fun i hi=>if_neg (by omega)⟩
 ·show(et0 W).cell? _=some (.slice _ (if i<len then(F i).1 else []).length _);rw[if_pos hi];exact ku0 (hF i hi).1
 ·show ic0 (et0 W) _ (if i<len then(F i).1 else []);rw[if_pos hi];exact⟨(hF i hi).2.1,fun k o ho j v hv=>ku0 ((hF i hi).2.2.2 k o ho j v hv)⟩
 ·show(if i<len then(F i).1 else []).length <=_;rw[if_pos hi];exact(hF i hi).2.2.1
end
end Go.Vy.Sc
end
