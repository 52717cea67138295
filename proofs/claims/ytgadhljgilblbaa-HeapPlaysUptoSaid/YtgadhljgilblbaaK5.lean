/- What the claim leans on, part 5. Laws. -/
import Derived.Test.YtgadhljgilblbaaK4
import Derived.ChangeKeysEq
set_option linter.unusedVariables false
section
namespace Go.Vy.Sc
open Go Go.Conc Go.Yc Go.RowKit Go.Proofs Go.Proofs.Ytgadhljgilblbaa Try
open Go.Vc Go.Wg
theorem Te0 (x0:Int) (x1:Int) (x2:Int):prog.built 122 [(0,.agg #[.i x0,.i x1]),(1,.i x2)]=some #[.i x0,.i x1,.i x2,.i 0,.bool false]:=by kernel_rfl
section
variable [Ctx prog]
theorem sx0 (B c:Nat) (a:Option Addr) (N0:List (Int×Int)) (o:X8) (w0:World) (hO:Own w0 B 82 2 a N0.length c (N0.flatMap gd0)) :
  C prog 52 #[.slice a N0.length c,.agg #[.i o.kind,.i o.val,.i o.u5,.i o.rn,.i o.rg]] w0 fun v w=>v= .agg #[.i (named N0 o).1,.i (named N0 o).2]/\Below w0.heap.size w0 w:=by
 refine C.enter (n:=22) func52 rfl rfl ?_;refine U7 ?_;intro hb;refine L.box (cs:=#[.i o.kind,.i o.val,.i o.u5,.i o.rn,.i o.rg]) rfl rfl (fun w b3 F3=>?_);refine U63 ?_;intro lt3 hb;have hO:=hO.j0 F3.below;have C1:=F3.blk;refine L.alloc (cs:=#[.i 0,.i 0]) sb0 rfl (fun w b4 F4=>?_);have lt4:=F4.lq hb.size;have ht1:a≠none->ab a≠b4:=fun h=>by have h8:=hO.lt h;have h9:=F4.here;omega
 have hb:=O0 hb F4.below;have hO:=hO.j0 F4.below;refine U79 ?_;intro C1 B1;refine U42 ?_;refine U486 ?_;refine U229 ?_;refine L.g7 6 [8,9,10,11,12,13,14] 14 (.bool (decide (0 <=o.u5/\o.u5<(N0.length:Int)))) (tj:=8) rfl (fun hb8=>?_) (fun hb8=>?_) (fun f=>?_)
 ·refine L.on rfl ?_;refine U332 ?_;refine L.va (B0 rfl underlying3 rfl (C1.q0 2 (v:=.i o.u5) rfl)) ?_;refine L.on rfl ?_;refine U69 ?_;refine L.va (V4 rfl underlying46 rfl) ?_;refine L.on rfl ?_;refine L.va (is0 rfl rfl) ?_;refine U55 ?_;refine⟨rfl,congrArg Value.bool (by first|exact lg0 hb8|rfl|(simp_all;done)|(rw[Bool.eq_iff_iff];simp_all;omega)),?_⟩;exact A0.upd rfl (A0.upd rfl (A0.upd rfl (A0.upd rfl (A0.upd rfl (A0.upd rfl (A0.upd rfl (A0.refl _ _)))))))
 ·refine L.off rfl ?_;refine U105 ?_;refine U25 ?_;refine⟨rfl,congrArg Value.bool (by first|exact lf0 hb8|rfl|(simp_all;done)|(rw[Bool.eq_iff_iff];simp_all;omega)),?_⟩;exact A0.upd rfl (A0.upd rfl (A0.upd rfl (A0.upd rfl (A0.upd rfl (A0.upd rfl (A0.upd rfl (A0.refl _ _)))))))
 refine U1 ?_;refine W.y6 rfl (fun h14=>?_) (fun h14=>?_)
 ·refine W.seq ?_;refine U148 ?_;refine U486 ?_;refine L.va (Ag0 rfl rfl underlying46 X5 hO.sl (by omega) (by omega)) ?_;refine L.va (Q0 (cs:=[.i (((N0[o.u5.toNat]?).getD (0,0)).1),.i (((N0[o.u5.toNat]?).getD (0,0)).2)]) rfl underlying82 rfl X5 rfl (fun j v hj=>Td0 hO (i:=o.u5.toNat) (by omega) j v hj)) ?_;refine L.pu 0 [.i (((N0[o.u5.toNat]?).getD (0,0)).1),.i (((N0[o.u5.toNat]?).getD (0,0)).2)] #[.i (((N0[o.u5.toNat]?).getD (0,0)).1),.i (((N0[o.u5.toNat]?).getD (0,0)).2)] X5 B1 (fun w G0 hg A2=>?_);refine U133 ?_;intro Y1 hb;have hO:=hO.V2 hg ht1;have B1:=G0;refine U35 ?_;refine ends.cell (cs:=#[.i (((N0[o.u5.toNat]?).getD (0,0)).1),.i (((N0[o.u5.toNat]?).getD (0,0)).2)]) (.inr rfl) rfl rfl underlying82 rfl X5 B1 ?_;exact⟨by unfold named;rw[if_pos h14],hb⟩
 ·refine W.skip ?_;show W _ _ _ _ _ _;refine U0 ?_;refine L.va (E0 rfl underlying84 rfl X5 (by decide)) ?_;refine L.va (Q0 (cs:=[.i o.rn,.i o.rg]) rfl underlying82 rfl X5 rfl (C1.B4 rfl)) ?_;refine L.pu 0 [.i o.rn,.i o.rg] #[.i o.rn,.i o.rg] X5 B1 (fun w G0 hg A2=>?_);refine U133 ?_;intro Y1 hb;have hO:=hO.V2 hg ht1;have B1:=G0;refine U35 ?_;refine ends.cell (cs:=#[.i o.rn,.i o.rg]) (.inr rfl) rfl rfl underlying82 rfl X5 B1 ?_;exact⟨by unfold named;rw[if_neg h14],hb⟩
theorem vs0 (x:Int) (w0:World):C prog 10 #[.i x] w0 fun v w=>v= .i x/\w=w0:=by
 refine C.enter (n:=4) func10 rfl rfl ?_;refine U175 ?_;refine U20 ?_;refine U5 ?_;exact U118
end
set_option maxHeartbeats 4000000 in
theorem ag1 {p:j4} {fb:Nat->FuncId} {q:PR (V1 p)} {p5:World} {i cb:Nat} {top:List Frame} (hp:n4 p) {s:HW} {m:Gm} {r:T6} {k:Nat} {o:X8} (w0:World) (hE:HSo p (A3 p fb q p5 i cb top) w0 s m r) (hc:CSt (A3 p fb q p5 i cb top) w0 (Z0 (p.bo i) i k s)) (ho:(p.bo i)[k]? =some o) (hl:(s.log i).length <=k) (G9:i=0->s.N0.length <=k) (hk:k<100000) (him:i<p.m) (hk1:o.kind=1) (F9:i=0) :
  @Calls prog (O1 (A3 p fb q p5 i cb top)) 26 #[.p p.pk,.p cb,.agg #[.i o.kind,.i o.val,.i o.u5,.i o.rn,.i o.rg]] w0 (X3 (A3 p fb q p5 i cb top) w0 fun _ u=>∃s1 m1 r1,HSo p (A3 p fb q p5 i cb top) u s1 m1 r1/\CSt (A3 p fb q p5 i cb top) u (Z0 (p.bo i) i (k+1) s1)/\(s1.log i).length <=k+1/\(i=0->s1.N0.length <=k+1)):=by
 letI:Ctx prog:=O1 (A3 p fb q p5 i cb top);refine U248 ?_;intro sy0;have ou0:=hc.output;have hK:=hE.st.rm.hK;refine U0 ?_;refine U208 ?_;intro w b5 F5 lt5;refine U374 ?_;intro n5 hK;refine U264 ?_;intro hE hc;have j3:=F5.blk;refine U59 ?_;refine U218 ?_;intro w b6 F6 lt6;refine U375 ?_;intro n6 hK;have hE:=hE.j0 F6.below;refine U260 ?_;intro hc j3;have O2:=F6.blk;refine U42 ?_;refine U202 ?_;refine U13 ?_;refine U356 ?_;refine W.seq ?_;have hPK:eh0 p w:=⟨_,_,hK⟩
 clear hK;refine W.fp2 13 [7,11,12] [] 7 11 [0,1,2,3,4,5,6,7,8,9,10,11,12] [0,1,2,3,4,5,6,11,7,8,9,10,12] (fun ch u=>z7 ch/\P8 (A3 p fb q p5 i cb top) w0 u) (fun w'=>eh0 p w'/\V0 w' b5 #[.i o.kind,.i o.val,.i o.u5,.i o.rn,.i o.rg] 84) (by kernel_rfl) (by kernel_rfl) (by kernel_rfl) (by kernel_rfl) (by kernel_rfl) (by kernel_rfl) (by kernel_rfl) (by kernel_rfl) (fun _ _ _ h=>h) (⟨hPK.j0 (Below.refl w.heap.size w).drew,j3.j0 (Below.refl w.heap.size w).drew⟩) ?_ ?_
 ·have Y2:Below w.heap.size w w.drew:=(Below.refl w.heap.size w).drew;have hE:=hE.j0 Y2;have hc:=hc.j0 Y2;have j3:=j3.j0 Y2;have O2:=O2.j0 Y2;clear Y2;generalize w.drew=w at *;refine U319 ?_;refine U484 ?_;refine U445 ?_;refine FP.A9 rfl rfl ?_;have C8:=Fc0 hp F9 hE hc ho hk1;refine L.Q6 rfl (n3 rfl rfl rfl func22 rfl Kr0 rfl) C8 ?_ ?_ (fun _ h=>h)
  rotate_left
  ·rintro ch u ⟨hra,hh⟩;exact .inr ⟨ch,rfl,hra,hh.at (hc.os.trans sy0.symm) (hc.output.trans ou0.symm)⟩
  rintro _ w ⟨c2,m1,r1,s1,hE1,hc1,hl1,kv0,hOw,hx,hok,rfl⟩;obtain⟨j3,n5⟩:=hOw.blk j3 (by decide) n5;obtain⟨O2,n6⟩:=hOw.blk O2 (by decide) n6;clear hE hc hl G9 hOw C8;have hE:=hE1;have hc:=hc1;have hl:=hl1;have G9:=kv0;clear hE1 hc1 hl1 kv0;have hPK:eh0 p w:=⟨_,_,hE.st.rm.hK⟩
  refine L.nil (.inl ⟨rfl,_,.inl rfl,⟨hPK,j3⟩,?_⟩);refine U348 ?_;refine FP.A9 rfl rfl ?_;refine L.alloc (cs:=#[.i 0,.i 0]) sb0 rfl (fun w b7 F7=>?_);have lt7:=Nat.le_refl w.heap.size;have n7:=hE.fresh (Nat.le_of_eq F7.here.symm);have hE:=hE.j0 F7.below;have hc:=hc.j0 F7.below;have j3:=j3.j0 F7.below;have O2:=O2.j0 F7.below;have hPK:=hPK.j0 F7.below;have hB7:=F7.blk;refine L.nil (.inl ⟨rfl,_,.inl rfl,⟨hPK,j3⟩,?_⟩);refine FP.A9 rfl rfl ?_;refine L.pu 0 [.i c2.tn,.i c2.tg] #[.i c2.tn,.i c2.tg] X5 hB7 (fun w G0 hg A2=>?_);have Y1:=F1.E5 hB7 hg;have hE:=hE.V2 hg n7;have hc:=hc.V2 hg trivial;have j3:=j3.mod Y1 rfl;have O2:=O2.mod Y1 rfl;have hPK:=hPK.mod Y1 rfl;have hB7:=G0;clear Y1;refine L.nil (.inl ⟨rfl,_,.inl rfl,⟨hPK,j3⟩,?_⟩);refine U157 ?_;refine U5 ?_;refine U424 ?_;refine U144 ?_;intro Y2 hE;refine U154 ?_;intro hc O2;have hB7:=hB7.j0 Y2;clear Y2;generalize w.drew=w at *;refine U463 ?_;refine U561 ?_;rintro _ w1 ⟨rfl,hw⟩;refine U10 ?_;refine L.nil ⟨rfl,hB7,?_⟩;refine U15 ?_;refine U472 ?_;intro w G0 hg A2;refine U169 ?_;intro Y1 hE hc;have hB7:=hB7.mod Y1 rfl;have O2:=G0;refine U58 ?_;refine U489 ?_;refine U149 ?_;refine W.y6 rfl (fun h30=>?_) (fun h30=>?_)
  ·have hK:=hE.st.rm.hK;have hT:=hE.st.rm.hT;have cj0:=G6 hT;have ml1:=G9 F9;refine U404 ?_;intro Y2;refine U123 ?_;intro hE hc O2;have hB7:=hB7.j0 Y2;have hK:=hK.j0 Y2;have hT:=hT.j0 Y2;clear Y2;generalize w.drew=w at *;refine U345 ?_;refine U418 ?_;refine U566 ?_;intro w b37 F37;refine U604 ?_;intro ah1 ai1;have hE:=hE.j0 F37.below;have hc:=hc.j0 F37.below;have O2:=O2.j0 F37.below;have hB7:=hB7.j0 F37.below;have hK:=hK.j0 F37.below;have hT:=hT.j0 F37.below;have Nl0:=F37.blk;refine L.nil (.inl ⟨rfl,_,.inl rfl,⟨hK,hB7⟩,?_⟩);refine FP.A9 rfl rfl ?_;refine L.z6 (B:=p.B) (m:=1) rfl rfl underlying46 Yi0 rfl (by decide) hT (news:=[.i c2.tn,.i c2.tg]) rfl (fun q u hq=>?_) (fun u hu=>by simp at hu;rcases hu with rfl|rfl <;> rfl) (by omega) (by omega) hE.st.B (fun ta2 tc2 w2 H8 I6 hwh=>?_)
   ·rw[Addr.add_lit]
    match q,hq with
    |0,hq=>cases hq;exact Nl0.q0 0 rfl
    |1,hq=>cases hq;exact Nl0.q0 1 rfl
   refine U497 ?_;intro n6 hB7;have O2:=V0.app O2 hT I6 (by decide);have hK:=V0.app hK hT I6 (by decide);have hc:=hc.V2 I6 trivial;rename_i ss0;refine L.nil (.inl ⟨rfl,_,.inl rfl,⟨hK,hB7⟩,?_⟩);refine U157 ?_;refine L.va (K1 rfl) ?_;refine U420 ?_;intro w G0 hg A2;have Y1:=F1.E5 hK hg;have hc:=hc.V2 hg trivial;have O2:=O2.mod Y1 rfl;have hB7:=hB7.mod Y1 rfl;have hK:=G0;refine U48 ?_;have hE2:=hE.Wj0 (c2.tn,c2.tg) H8 I6 hwh hK hg;obtain⟨s2,hs2⟩:∃s2,s2=({s1 with N0:=s1.N0 ++ [(c2.tn,c2.tg)]}:HW):=⟨_,rfl⟩
   obtain⟨r2,hr2⟩:∃r2,r2=({r1 with ta:=ta2,tc:=tc2}:T6):=⟨_,rfl⟩
   rw[<- hs2,<- hr2]at hE2;rw[<- hr2]at n6;have hl2:(s2.log i).length <=k:=by rw[hs2];exact hl
   clear hE hK H8 I6 hwh G0 hg hB7 n7;have hE:=hE2;have hl:=hl2;clear hE2 hl2;refine U34 ?_;refine U128 ?_;intro hK hG hT cj0;refine U398 ?_;intro Y2;refine U123 ?_;intro hE hc O2;refine U127 ?_;intro hK hG hT;clear Y2;generalize w.drew=w at *;refine U122 ?_;refine U413 ?_;refine U196 ?_;refine U200 ?_;intro w b90 F90 Cy0;refine U592 ?_;intro sz0 hE;refine U125 ?_;intro hc O2 hK hG hT;have D7:=F90.blk;refine L.nil (.inl ⟨rfl,_,.inl rfl,⟨hK,hG,O2⟩,?_⟩);refine FP.A9 rfl rfl ?_;refine L.z6 (B:=p.B) (m:=1) rfl rfl underlying50 nu0 rfl (by decide) hT (news:=[.i c2.tn,.i c2.tg,.i c2.e,.i 0,.bool false]) rfl (fun q u hq=>?_) (fun u hu=>by simp at hu;rcases hu with rfl|rfl|rfl|rfl|rfl <;> rfl) (by omega) (by omega) hE.st.B (fun la2 lc2 w2 H8 I6 hwh=>?_)
   ·rw[Addr.add_lit]
    match q,hq with
    |0,hq=>cases hq;exact D7.q0 0 rfl
    |1,hq=>cases hq;exact D7.q0 1 rfl
    |2,hq=>cases hq;exact D7.q0 2 rfl
    |3,hq=>cases hq;exact D7.q0 3 rfl
    |4,hq=>cases hq;exact D7.q0 4 rfl
   refine U121 ?_;intro O2 hK hG hc;rename_i ss0;refine L.nil (.inl ⟨rfl,_,.inl rfl,⟨hK,hG,O2⟩,?_⟩);refine FP.nil ?_;refine U478 ?_;intro w G0 hg A2;refine U211 ?_;intro hE2 hc;refine U115 ?_;have hd:P4 i s1 c2=({s2 with log:=r6 s2.log i (s2.log i ++ [⟨c2.tn,c2.tg,c2.e,0,false⟩])}:HW):=by
    rw[sw0 h30,show R8 c2=⟨c2.tn,c2.tg,c2.e,0,false⟩by unfold R8;rw[hx,hok],hs2]
   rw[hd]at hc;exact⟨_,_,_,hE2,hc,by show(r6 s2.log i (s2.log i ++ [_]) i).length <=k+1;rw[Z2,List.length_append];exact Nat.succ_le_succ hl,fun F9=>by show s2.N0.length <=k+1;rw[hs2,List.length_append];exact Nat.succ_le_succ (G9 F9)⟩
  ·refine W.skip ?_;refine U34 ?_;refine U128 ?_;intro hK hG hT cj0;refine U399 ?_;intro Y2;refine U123 ?_;intro hE hc O2;refine U127 ?_;intro hK hG hT;clear Y2;generalize w.drew=w at *;refine U122 ?_;refine U189 ?_;refine U196 ?_;refine U200 ?_;intro w b90 F90 Cy0;refine U206 ?_;intro sz0 hE;refine U125 ?_;intro hc O2 hK hG hT;have D7:=F90.blk;refine L.nil (.inl ⟨rfl,_,.inl rfl,⟨hK,hG,O2⟩,?_⟩);refine FP.A9 rfl rfl ?_;refine L.z6 (B:=p.B) (m:=1) rfl rfl underlying50 nu0 rfl (by decide) hT (news:=[.i c2.tn,.i c2.tg,.i c2.e,.i 0,.bool false]) rfl (fun q u hq=>?_) (fun u hu=>by simp at hu;rcases hu with rfl|rfl|rfl|rfl|rfl <;> rfl) (by omega) (by omega) hE.st.B (fun la2 lc2 w2 H8 I6 hwh=>?_)
   ·rw[Addr.add_lit]
    match q,hq with
    |0,hq=>cases hq;exact D7.q0 0 rfl
    |1,hq=>cases hq;exact D7.q0 1 rfl
    |2,hq=>cases hq;exact D7.q0 2 rfl
    |3,hq=>cases hq;exact D7.q0 3 rfl
    |4,hq=>cases hq;exact D7.q0 4 rfl
   refine U121 ?_;intro O2 hK hG hc;rename_i ss0;refine L.nil (.inl ⟨rfl,_,.inl rfl,⟨hK,hG,O2⟩,?_⟩);refine FP.nil ?_;refine U477 ?_;intro w G0 hg A2;refine U211 ?_;intro hE2 hc;refine U115 ?_;have hd:P4 i s1 c2=({s1 with log:=r6 s1.log i (s1.log i ++ [⟨c2.tn,c2.tg,c2.e,0,false⟩])}:HW):=by
    rw[dz0 h30,show R8 c2=⟨c2.tn,c2.tg,c2.e,0,false⟩by unfold R8;rw[hx,hok]]
   rw[hd]at hc;exact⟨_,_,_,hE2,hc,by show(r6 s1.log i (s1.log i ++ [_]) i).length <=k+1;rw[Z2,List.length_append];exact Nat.succ_le_succ hl,fun F9=>Nat.le_succ_of_le (G9 F9)⟩
 ·have Y2:Below w.heap.size w w.drew:=(Below.refl w.heap.size w).drew;have hE:=hE.j0 Y2;have hc:=hc.j0 Y2;have j3:=j3.j0 Y2;have O2:=O2.j0 Y2;have hPK:=hPK.j0 Y2;clear Y2;generalize w.drew=w at *;refine U319 ?_;refine U484 ?_;refine U445 ?_;refine FP.A9 rfl rfl ?_;refine L.alloc (cs:=#[.i 0,.i 0]) sb0 rfl (fun w b7 F7=>?_);have lt7:=Nat.le_refl w.heap.size;have n7:=hE.fresh (Nat.le_of_eq F7.here.symm);have hE:=hE.j0 F7.below;have hc:=hc.j0 F7.below;have j3:=j3.j0 F7.below;have O2:=O2.j0 F7.below;have hPK:=hPK.j0 F7.below;have hB7:=F7.blk;refine L.nil (.inl ⟨rfl,_,.inl rfl,⟨hPK,j3⟩,?_⟩);refine FP.A9 rfl rfl ?_;have C8:=Fc0 hp F9 hE hc ho hk1;refine L.Q6 rfl (n3 rfl rfl rfl func22 rfl Kr0 rfl) C8 ?_ ?_ (fun _ h=>h)
  rotate_left
  ·rintro ch u ⟨hra,hh⟩;exact .inr ⟨ch,rfl,hra,hh.at (hc.os.trans sy0.symm) (hc.output.trans ou0.symm)⟩
  rintro _ w ⟨c2,m1,r1,s1,hE1,hc1,hl1,kv0,hOw,hx,hok,rfl⟩;obtain⟨j3,n5⟩:=hOw.blk j3 (by decide) n5;obtain⟨O2,n6⟩:=hOw.blk O2 (by decide) n6;obtain⟨hB7,n7⟩:=hOw.blk hB7 (by decide) n7;clear hE hc hl G9 hOw C8;have hE:=hE1;have hc:=hc1;have hl:=hl1;have G9:=kv0;clear hE1 hc1 hl1 kv0;have hPK:eh0 p w:=⟨_,_,hE.st.rm.hK⟩
  refine L.nil (.inl ⟨rfl,_,.inl rfl,⟨hPK,j3⟩,?_⟩);refine U348 ?_;refine FP.A9 rfl rfl ?_;refine L.pu 0 [.i c2.tn,.i c2.tg] #[.i c2.tn,.i c2.tg] X5 hB7 (fun w G0 hg A2=>?_);have Y1:=F1.E5 hB7 hg;have hE:=hE.V2 hg n7;have hc:=hc.V2 hg trivial;have j3:=j3.mod Y1 rfl;have O2:=O2.mod Y1 rfl;have hPK:=hPK.mod Y1 rfl;have hB7:=G0;clear Y1;refine L.nil (.inl ⟨rfl,_,.inl rfl,⟨hPK,j3⟩,?_⟩);refine U157 ?_;refine U5 ?_;refine U424 ?_;refine U144 ?_;intro Y2 hE;refine U154 ?_;intro hc O2;have hB7:=hB7.j0 Y2;clear Y2;generalize w.drew=w at *;refine U463 ?_;refine U561 ?_;rintro _ w1 ⟨rfl,hw⟩;refine U10 ?_;refine L.nil ⟨rfl,hB7,?_⟩;refine U15 ?_;refine U472 ?_;intro w G0 hg A2;refine U169 ?_;intro Y1 hE hc;have hB7:=hB7.mod Y1 rfl;have O2:=G0;refine U58 ?_;refine U489 ?_;refine U149 ?_;refine W.y6 rfl (fun h30=>?_) (fun h30=>?_)
  ·have hK:=hE.st.rm.hK;have hT:=hE.st.rm.hT;have cj0:=G6 hT;have ml1:=G9 F9;refine U404 ?_;intro Y2;refine U123 ?_;intro hE hc O2;have hB7:=hB7.j0 Y2;have hK:=hK.j0 Y2;have hT:=hT.j0 Y2;clear Y2;generalize w.drew=w at *;refine U345 ?_;refine U418 ?_;refine U566 ?_;intro w b37 F37;refine U604 ?_;intro ah1 ai1;have hE:=hE.j0 F37.below;have hc:=hc.j0 F37.below;have O2:=O2.j0 F37.below;have hB7:=hB7.j0 F37.below;have hK:=hK.j0 F37.below;have hT:=hT.j0 F37.below;have Nl0:=F37.blk;refine L.nil (.inl ⟨rfl,_,.inl rfl,⟨hK,hB7⟩,?_⟩);refine FP.A9 rfl rfl ?_;refine L.z6 (B:=p.B) (m:=1) rfl rfl underlying46 Yi0 rfl (by decide) hT (news:=[.i c2.tn,.i c2.tg]) rfl (fun q u hq=>?_) (fun u hu=>by simp at hu;rcases hu with rfl|rfl <;> rfl) (by omega) (by omega) hE.st.B (fun ta2 tc2 w2 H8 I6 hwh=>?_)
   ·rw[Addr.add_lit]
    match q,hq with
    |0,hq=>cases hq;exact Nl0.q0 0 rfl
    |1,hq=>cases hq;exact Nl0.q0 1 rfl
   refine U497 ?_;intro n6 hB7;have O2:=V0.app O2 hT I6 (by decide);have hK:=V0.app hK hT I6 (by decide);have hc:=hc.V2 I6 trivial;rename_i ss0;refine L.nil (.inl ⟨rfl,_,.inl rfl,⟨hK,hB7⟩,?_⟩);refine U157 ?_;refine L.va (K1 rfl) ?_;refine U420 ?_;intro w G0 hg A2;have Y1:=F1.E5 hK hg;have hc:=hc.V2 hg trivial;have O2:=O2.mod Y1 rfl;have hB7:=hB7.mod Y1 rfl;have hK:=G0;refine U48 ?_;have hE2:=hE.Wj0 (c2.tn,c2.tg) H8 I6 hwh hK hg;obtain⟨s2,hs2⟩:∃s2,s2=({s1 with N0:=s1.N0 ++ [(c2.tn,c2.tg)]}:HW):=⟨_,rfl⟩
   obtain⟨r2,hr2⟩:∃r2,r2=({r1 with ta:=ta2,tc:=tc2}:T6):=⟨_,rfl⟩
   rw[<- hs2,<- hr2]at hE2;rw[<- hr2]at n6;have hl2:(s2.log i).length <=k:=by rw[hs2];exact hl
   clear hE hK H8 I6 hwh G0 hg hB7 n7;have hE:=hE2;have hl:=hl2;clear hE2 hl2;refine U34 ?_;refine U128 ?_;intro hK hG hT cj0;refine U398 ?_;intro Y2;refine U123 ?_;intro hE hc O2;refine U127 ?_;intro hK hG hT;clear Y2;generalize w.drew=w at *;refine U122 ?_;refine U413 ?_;refine U196 ?_;refine U200 ?_;intro w b90 F90 Cy0;refine U592 ?_;intro sz0 hE;refine U125 ?_;intro hc O2 hK hG hT;have D7:=F90.blk;refine L.nil (.inl ⟨rfl,_,.inl rfl,⟨hK,hG,O2⟩,?_⟩);refine FP.A9 rfl rfl ?_;refine L.z6 (B:=p.B) (m:=1) rfl rfl underlying50 nu0 rfl (by decide) hT (news:=[.i c2.tn,.i c2.tg,.i c2.e,.i 0,.bool false]) rfl (fun q u hq=>?_) (fun u hu=>by simp at hu;rcases hu with rfl|rfl|rfl|rfl|rfl <;> rfl) (by omega) (by omega) hE.st.B (fun la2 lc2 w2 H8 I6 hwh=>?_)
   ·rw[Addr.add_lit]
    match q,hq with
    |0,hq=>cases hq;exact D7.q0 0 rfl
    |1,hq=>cases hq;exact D7.q0 1 rfl
    |2,hq=>cases hq;exact D7.q0 2 rfl
    |3,hq=>cases hq;exact D7.q0 3 rfl
    |4,hq=>cases hq;exact D7.q0 4 rfl
   refine U121 ?_;intro O2 hK hG hc;rename_i ss0;refine L.nil (.inl ⟨rfl,_,.inl rfl,⟨hK,hG,O2⟩,?_⟩);refine FP.nil ?_;refine U478 ?_;intro w G0 hg A2;refine U211 ?_;intro hE2 hc;refine U115 ?_;have hd:P4 i s1 c2=({s2 with log:=r6 s2.log i (s2.log i ++ [⟨c2.tn,c2.tg,c2.e,0,false⟩])}:HW):=by
    rw[sw0 h30,show R8 c2=⟨c2.tn,c2.tg,c2.e,0,false⟩by unfold R8;rw[hx,hok],hs2]
   rw[hd]at hc;exact⟨_,_,_,hE2,hc,by show(r6 s2.log i (s2.log i ++ [_]) i).length <=k+1;rw[Z2,List.length_append];exact Nat.succ_le_succ hl,fun F9=>by show s2.N0.length <=k+1;rw[hs2,List.length_append];exact Nat.succ_le_succ (G9 F9)⟩
  ·refine W.skip ?_;refine U34 ?_;refine U128 ?_;intro hK hG hT cj0;refine U399 ?_;intro Y2;refine U123 ?_;intro hE hc O2;refine U127 ?_;intro hK hG hT;clear Y2;generalize w.drew=w at *;refine U122 ?_;refine U189 ?_;refine U196 ?_;refine U200 ?_;intro w b90 F90 Cy0;refine U206 ?_;intro sz0 hE;refine U125 ?_;intro hc O2 hK hG hT;have D7:=F90.blk;refine L.nil (.inl ⟨rfl,_,.inl rfl,⟨hK,hG,O2⟩,?_⟩);refine FP.A9 rfl rfl ?_;refine L.z6 (B:=p.B) (m:=1) rfl rfl underlying50 nu0 rfl (by decide) hT (news:=[.i c2.tn,.i c2.tg,.i c2.e,.i 0,.bool false]) rfl (fun q u hq=>?_) (fun u hu=>by simp at hu;rcases hu with rfl|rfl|rfl|rfl|rfl <;> rfl) (by omega) (by omega) hE.st.B (fun la2 lc2 w2 H8 I6 hwh=>?_)
   ·rw[Addr.add_lit]
    match q,hq with
    |0,hq=>cases hq;exact D7.q0 0 rfl
    |1,hq=>cases hq;exact D7.q0 1 rfl
    |2,hq=>cases hq;exact D7.q0 2 rfl
    |3,hq=>cases hq;exact D7.q0 3 rfl
    |4,hq=>cases hq;exact D7.q0 4 rfl
   refine U121 ?_;intro O2 hK hG hc;rename_i ss0;refine L.nil (.inl ⟨rfl,_,.inl rfl,⟨hK,hG,O2⟩,?_⟩);refine FP.nil ?_;refine U477 ?_;intro w G0 hg A2;refine U211 ?_;intro hE2 hc;refine U115 ?_;have hd:P4 i s1 c2=({s1 with log:=r6 s1.log i (s1.log i ++ [⟨c2.tn,c2.tg,c2.e,0,false⟩])}:HW):=by
    rw[dz0 h30,show R8 c2=⟨c2.tn,c2.tg,c2.e,0,false⟩by unfold R8;rw[hx,hok]]
   rw[hd]at hc;exact⟨_,_,_,hE2,hc,by show(r6 s1.log i (s1.log i ++ [_]) i).length <=k+1;rw[Z2,List.length_append];exact Nat.succ_le_succ hl,fun F9=>Nat.le_succ_of_le (G9 F9)⟩
set_option maxHeartbeats 4000000 in
theorem aj1 {p:j4} {fb:Nat->FuncId} {q:PR (V1 p)} {p5:World} {i cb:Nat} {top:List Frame} (hp:n4 p) {s:HW} {m:Gm} {r:T6} {k:Nat} {o:X8} (w0:World) (hE:HSo p (A3 p fb q p5 i cb top) w0 s m r) (hc:CSt (A3 p fb q p5 i cb top) w0 (Z0 (p.bo i) i k s)) (ho:(p.bo i)[k]? =some o) (hl:(s.log i).length <=k) (G9:i=0->s.N0.length <=k) (hk:k<100000) (him:i<p.m) (hk1:o.kind=2) (F9:i=0) :
  @Calls prog (O1 (A3 p fb q p5 i cb top)) 26 #[.p p.pk,.p cb,.agg #[.i o.kind,.i o.val,.i o.u5,.i o.rn,.i o.rg]] w0 (X3 (A3 p fb q p5 i cb top) w0 fun _ u=>∃s1 m1 r1,HSo p (A3 p fb q p5 i cb top) u s1 m1 r1/\CSt (A3 p fb q p5 i cb top) u (Z0 (p.bo i) i (k+1) s1)/\(s1.log i).length <=k+1/\(i=0->s1.N0.length <=k+1)):=by
 letI:Ctx prog:=O1 (A3 p fb q p5 i cb top);refine U248 ?_;intro sy0;have ou0:=hc.output;have hK:=hE.st.rm.hK;refine U0 ?_;refine U208 ?_;intro w b5 F5 lt5;refine U374 ?_;intro n5 hK;refine U264 ?_;intro hE hc;have j3:=F5.blk;refine U59 ?_;refine U218 ?_;intro w b6 F6 lt6;refine U375 ?_;intro n6 hK;have hE:=hE.j0 F6.below;refine U260 ?_;intro hc j3;have O2:=F6.blk;refine U42 ?_;refine U202 ?_;refine U13 ?_;refine U47 ?_;refine U344 ?_;refine U356 ?_;refine W.fl 11 [10] [0,1,2,3,4,5,6,7,8,9,10] (fun w'=>V0 w' p.pk #[.slice none 0 0,.slice none 0 0,.slice none 0 0,.slice none 0 0,.bool false,.i 0,.p p.hp,.slice (pt p.l7) p.m p.m,.slice r.ta s.N0.length r.tc] 48/\V0 w' b5 #[.i o.kind,.i o.val,.i o.u5,.i o.rn,.i o.rg] 84) (by kernel_rfl) (by kernel_rfl) (by kernel_rfl) (by kernel_rfl) (by kernel_rfl) (⟨hK.j0 (Below.refl w.heap.size w).drew,j3.j0 (Below.refl w.heap.size w).drew⟩) ?_;have Y2:Below w.heap.size w w.drew:=(Below.refl w.heap.size w).drew;have hK:=hK.j0 Y2;have hE:=hE.j0 Y2;have hc:=hc.j0 Y2;have j3:=j3.j0 Y2;have O2:=O2.j0 Y2;clear Y2;generalize w.drew=w at *;refine U24 ?_;refine F.va rfl rfl (fun w' J0=>(E0 rfl underlying48 rfl Yd0 (by decide))) ?_;refine F.va rfl rfl (fun w' J0=>(B0 rfl underlying25 rfl (J0.1.q0 6 (v:=.p p.hp) rfl))) ?_;refine U350 ?_;refine F.va rfl rfl (fun w' J0=>(E0 rfl underlying48 rfl Bl0 (by decide))) ?_;refine F.va rfl rfl (fun w' J0=>(B0 rfl underlying46 rfl (J0.1.q0 8 (v:=.slice r.ta s.N0.length r.tc) rfl))) ?_;refine U412 ?_;refine L.call (W1 rfl rfl func52 rfl Yl0 rfl) (sx0 _ _ _ s.N0 o w hE.st.rm.hT) ?_;rintro _ w ⟨rfl,D1⟩;have hK:=hK.j0 D1;have hE:=hE.j0 D1;have hc:=hc.j0 D1;have j3:=j3.j0 D1;have O2:=O2.j0 D1;refine L.nil ⟨rfl,⟨hK,j3⟩,?_⟩;refine U15 ?_;have C8:=af1 hp F9 hE hc ho hk1 hl G9;refine L.Q6 rfl (n3 rfl rfl rfl func24 rfl ek1 rfl) C8 ?_ ?_ (fun _ h=>h)
 rotate_left
 ·rintro ch u ⟨hra,hh⟩;exact⟨hra,hh.at (hc.os.trans sy0.symm) (hc.output.trans ou0.symm)⟩
 rintro _ w ⟨c2,m1,r1,s1,hE1,hc1,hl1,kv0,hOw,⟨hx1,hx2,hx3,hx4⟩,rfl⟩;obtain⟨j3,n5⟩:=hOw.blk j3 (by decide) n5;obtain⟨O2,n6⟩:=hOw.blk O2 (by decide) n6;clear hK;clear hE hc hl G9 hOw C8;have hE:=hE1;have hc:=hc1;have hl:=hl1;have G9:=kv0;clear hE1 hc1 hl1 kv0;refine L.va (E0 rfl underlying122 rfl sz4 (by decide)) ?_;refine L.pu 4 [.bool c2.ok] #[.i 0,.i 0,.i 0,.i 0,.bool c2.ok] sz4 O2 (fun w G0 hg A2=>?_);refine U169 ?_;intro Y1 hE hc;have O2:=G0;refine U316 ?_;refine U128 ?_;intro hK hG hT cj0;refine W.fp 17 [15,16] [] [0,1,2,3,4,5,6,7,8,9,10,11,12,13,14,15,16] (fun ch u=>z7 ch/\P8 (A3 p fb q p5 i cb top) w0 u) (fun w'=>V0 w' p.pk #[.slice none 0 0,.slice none 0 0,.slice none 0 0,.slice none 0 0,.bool false,.i 0,.p p.hp,.slice (pt p.l7) p.m p.m,.slice r1.ta s1.N0.length r1.tc] 48/\V0 w' p.l7 (arr p.m fun j=>.slice (r1.la j) (s1.log j).length (r1.lc j)) 50/\V0 w' b6 #[.i 0,.i 0,.i 0,.i 0,.bool c2.ok] 122) (by kernel_rfl) (by kernel_rfl) (by kernel_rfl) (by kernel_rfl) (by kernel_rfl) (by kernel_rfl) (fun _ _ _ h=>h) (⟨hK.j0 (Below.refl w.heap.size w).drew,hG.j0 (Below.refl w.heap.size w).drew,O2.j0 (Below.refl w.heap.size w).drew⟩) ?_;refine U144 ?_;intro Y2 hE;refine U154 ?_;intro hc O2;refine U127 ?_;intro hK hG hT;clear Y2;generalize w.drew=w at *;refine U122 ?_;refine U189 ?_;refine FP.va rfl rfl (fun w' J0=>(Q0 (cs:=[.i 0,.i 0,.i 0,.i 0,.bool c2.ok]) rfl underlying122 rfl ee0 rfl (J0.2.2.B4 rfl))) ?_;refine FP.A9 rfl rfl ?_;refine L.Q7 (cs:=#[.i 0,.i 0,.i 0,.i 0,.bool c2.ok]) rfl rfl underlying50 ee0 rfl ⟨_,ur0⟩ (by decide) (fun w b90 F90=>?_);have Cy0:=Nat.le_refl w.heap.size;refine U206 ?_;intro sz0 hE;refine U125 ?_;intro hc O2 hK hG hT;have D7:=F90.blk;refine L.nil (.inl ⟨rfl,_,.inl rfl,⟨hK,hG,O2⟩,?_⟩);refine FP.A9 rfl rfl ?_;refine L.z6 (B:=p.B) (m:=1) rfl rfl underlying50 nu0 rfl (by decide) hT (news:=[.i 0,.i 0,.i 0,.i 0,.bool c2.ok]) rfl (fun q u hq=>?_) (fun u hu=>by simp at hu;rcases hu with rfl|rfl|rfl|rfl|rfl <;> rfl) (by omega) (by omega) hE.st.B (fun la2 lc2 w2 H8 I6 hwh=>?_)
 ·rw[Addr.add_lit]
  match q,hq with
  |0,hq=>cases hq;exact D7.q0 0 rfl
  |1,hq=>cases hq;exact D7.q0 1 rfl
  |2,hq=>cases hq;exact D7.q0 2 rfl
  |3,hq=>cases hq;exact D7.q0 3 rfl
  |4,hq=>cases hq;exact D7.q0 4 rfl
 refine U121 ?_;intro O2 hK hG hc;rename_i ss0;refine L.nil (.inl ⟨rfl,_,.inl rfl,⟨hK,hG,O2⟩,?_⟩);refine FP.nil ?_;refine U198 ?_;refine L.put (b:=p.l7) (o:=0+i*1) (vs:=[.slice la2 ((s1.log i).length+1) lc2]) _ rfl rfl rfl nt0 rfl rfl hG (by rw[D5];omega) (fj0 ⟨0,0,0,0,c2.ok⟩) (fun w G0 hg A2=>?_);have hE2:=hE.Cx0 him ⟨0,0,0,0,c2.ok⟩ H8 I6 hwh G0 hg;have hc:=hc.V2 hg trivial;refine U115 ?_;have hd:P4 i s1 c2=({s1 with log:=r6 s1.log i (s1.log i ++ [⟨0,0,0,0,c2.ok⟩])}:HW):=by
  rw[dz0 (by omega),show R8 c2=⟨0,0,0,0,c2.ok⟩by unfold R8;rw[hx1,hx2,hx3,hx4]]
 rw[hd]at hc;exact⟨_,_,_,hE2,hc,by show(r6 s1.log i (s1.log i ++ [_]) i).length <=k+1;rw[Z2,List.length_append];exact Nat.succ_le_succ hl,fun F9=>Nat.le_succ_of_le (G9 F9)⟩
set_option maxHeartbeats 4000000 in
theorem ak1 {p:j4} {fb:Nat->FuncId} {q:PR (V1 p)} {p5:World} {i cb:Nat} {top:List Frame} (hp:n4 p) {s:HW} {m:Gm} {r:T6} {k:Nat} {o:X8} (w0:World) (hE:HSo p (A3 p fb q p5 i cb top) w0 s m r) (hc:CSt (A3 p fb q p5 i cb top) w0 (Z0 (p.bo i) i k s)) (ho:(p.bo i)[k]? =some o) (hl:(s.log i).length <=k) (G9:i=0->s.N0.length <=k) (hk:k<100000) (him:i<p.m) (hk1:o.kind=3) :
  @Calls prog (O1 (A3 p fb q p5 i cb top)) 26 #[.p p.pk,.p cb,.agg #[.i o.kind,.i o.val,.i o.u5,.i o.rn,.i o.rg]] w0 (X3 (A3 p fb q p5 i cb top) w0 fun _ u=>∃s1 m1 r1,HSo p (A3 p fb q p5 i cb top) u s1 m1 r1/\CSt (A3 p fb q p5 i cb top) u (Z0 (p.bo i) i (k+1) s1)/\(s1.log i).length <=k+1/\(i=0->s1.N0.length <=k+1)):=by
 letI:Ctx prog:=O1 (A3 p fb q p5 i cb top);refine U248 ?_;intro sy0;have ou0:=hc.output;have hK:=hE.st.rm.hK;refine U0 ?_;refine U208 ?_;intro w b5 F5 lt5;refine U374 ?_;intro n5 hK;refine U264 ?_;intro hE hc;have j3:=F5.blk;refine U59 ?_;refine U218 ?_;intro w b6 F6 lt6;refine U375 ?_;intro n6 hK;have hE:=hE.j0 F6.below;refine U260 ?_;intro hc j3;have O2:=F6.blk;refine U42 ?_;refine U202 ?_;refine U13 ?_;refine U47 ?_;refine U344 ?_;refine U47 ?_;refine U344 ?_;refine U356 ?_;refine W.fp 17 [10,11,16] [11] [0,1,2,3,4,5,6,7,8,9,10,11,12,13,14,15,16] (fun ch u=>z7 ch/\P8 (A3 p fb q p5 i cb top) w0 u) (fun w'=>V0 w' p.pk #[.slice none 0 0,.slice none 0 0,.slice none 0 0,.slice none 0 0,.bool false,.i 0,.p p.hp,.slice (pt p.l7) p.m p.m,.slice r.ta s.N0.length r.tc] 48/\V0 w' b5 #[.i o.kind,.i o.val,.i o.u5,.i o.rn,.i o.rg] 84) (by kernel_rfl) (by kernel_rfl) (by kernel_rfl) (by kernel_rfl) (by kernel_rfl) (by kernel_rfl) (fun _ _ _ h=>h) (⟨hK.j0 (Below.refl w.heap.size w).drew,j3.j0 (Below.refl w.heap.size w).drew⟩) ?_;have Y2:Below w.heap.size w w.drew:=(Below.refl w.heap.size w).drew;have hK:=hK.j0 Y2;have hE:=hE.j0 Y2;have hc:=hc.j0 Y2;have j3:=j3.j0 Y2;have O2:=O2.j0 Y2;clear Y2;generalize w.drew=w at *;refine U319 ?_;refine FP.va rfl rfl (fun w' J0=>(B0 rfl underlying25 rfl (J0.1.q0 6 (v:=.p p.hp) rfl))) ?_;refine U345 ?_;refine FP.va rfl rfl (fun w' J0=>(B0 rfl underlying46 rfl (J0.1.q0 8 (v:=.slice r.ta s.N0.length r.tc) rfl))) ?_;refine FP.va rfl rfl (fun w' J0=>(Q0 (cs:=[.i o.kind,.i o.val,.i o.u5,.i o.rn,.i o.rg]) rfl underlying84 rfl up0 rfl (J0.2.B4 rfl))) ?_;refine FP.A9 rfl rfl ?_;refine L.call (W1 rfl rfl func52 rfl Yl0 rfl) (sx0 _ _ _ s.N0 o w hE.st.rm.hT) ?_;rintro _ w ⟨rfl,D1⟩;have hK:=hK.j0 D1;have hE:=hE.j0 D1;have hc:=hc.j0 D1;have j3:=j3.j0 D1;have O2:=O2.j0 D1;refine L.nil (.inl ⟨rfl,_,.inl rfl,⟨hK,j3⟩,?_⟩);refine FP.A9 rfl rfl ?_;have C8:=ho1 hp hE hc ho hk1 hl G9;refine L.Q6 rfl (n3 rfl rfl rfl func23 rfl Re0 rfl) C8 ?_ ?_ (fun _ h=>h)
 rotate_left
 ·rintro ch u ⟨hra,hh⟩;exact .inr ⟨ch,rfl,hra,hh.at (hc.os.trans sy0.symm) (hc.output.trans ou0.symm)⟩
 rintro _ w ⟨c2,m1,r1,s1,hE1,hc1,hl1,kv0,hOw,⟨hx1,hx2,hx3⟩,rfl⟩;obtain⟨j3,n5⟩:=hOw.blk j3 (by decide) n5;obtain⟨O2,n6⟩:=hOw.blk O2 (by decide) n6;clear hK;clear hE hc hl G9 hOw C8;have hE:=hE1;have hc:=hc1;have hl:=hl1;have G9:=kv0;clear hE1 hc1 hl1 kv0;refine L.nil (.inl ⟨rfl,(fun w'=>True),.inr rfl,trivial,?_⟩);refine U348 ?_;refine FP.va rfl rfl (fun w' J0=>(E0 rfl underlying122 rfl sz2 (by decide))) ?_;refine FP.A9 rfl rfl ?_;refine L.pu 3 [.i c2.x] #[.i 0,.i 0,.i 0,.i c2.x,.bool false] sz2 O2 (fun w G0 hg A2=>?_);refine U169 ?_;intro Y1 hE hc;have O2:=G0;clear Y1;refine L.nil (.inl ⟨rfl,_,.inl rfl,trivial,?_⟩);refine U157 ?_;refine L.va (E0 rfl underlying122 rfl sz4 (by decide)) ?_;refine L.pu 4 [.bool c2.ok] #[.i 0,.i 0,.i 0,.i c2.x,.bool c2.ok] sz4 O2 (fun w G0 hg A2=>?_);refine U169 ?_;intro Y1 hE hc;have O2:=G0;refine U316 ?_;refine U128 ?_;intro hK hG hT cj0;refine W.fp 17 [15,16] [] [0,1,2,3,4,5,6,7,8,9,10,11,12,13,14,15,16] (fun ch u=>z7 ch/\P8 (A3 p fb q p5 i cb top) w0 u) (fun w'=>V0 w' p.pk #[.slice none 0 0,.slice none 0 0,.slice none 0 0,.slice none 0 0,.bool false,.i 0,.p p.hp,.slice (pt p.l7) p.m p.m,.slice r1.ta s1.N0.length r1.tc] 48/\V0 w' p.l7 (arr p.m fun j=>.slice (r1.la j) (s1.log j).length (r1.lc j)) 50/\V0 w' b6 #[.i 0,.i 0,.i 0,.i c2.x,.bool c2.ok] 122) (by kernel_rfl) (by kernel_rfl) (by kernel_rfl) (by kernel_rfl) (by kernel_rfl) (by kernel_rfl) (fun _ _ _ h=>h) (⟨hK.j0 (Below.refl w.heap.size w).drew,hG.j0 (Below.refl w.heap.size w).drew,O2.j0 (Below.refl w.heap.size w).drew⟩) ?_;refine U144 ?_;intro Y2 hE;refine U154 ?_;intro hc O2;refine U127 ?_;intro hK hG hT;clear Y2;generalize w.drew=w at *;refine U122 ?_;refine U189 ?_;refine FP.va rfl rfl (fun w' J0=>(Q0 (cs:=[.i 0,.i 0,.i 0,.i c2.x,.bool c2.ok]) rfl underlying122 rfl ee0 rfl (J0.2.2.B4 rfl))) ?_;refine FP.A9 rfl rfl ?_;refine L.Q7 (cs:=#[.i 0,.i 0,.i 0,.i c2.x,.bool c2.ok]) rfl rfl underlying50 ee0 rfl ⟨_,ur0⟩ (by decide) (fun w b90 F90=>?_);have Cy0:=Nat.le_refl w.heap.size;refine U206 ?_;intro sz0 hE;refine U125 ?_;intro hc O2 hK hG hT;have D7:=F90.blk;refine L.nil (.inl ⟨rfl,_,.inl rfl,⟨hK,hG,O2⟩,?_⟩);refine FP.A9 rfl rfl ?_;refine L.z6 (B:=p.B) (m:=1) rfl rfl underlying50 nu0 rfl (by decide) hT (news:=[.i 0,.i 0,.i 0,.i c2.x,.bool c2.ok]) rfl (fun q u hq=>?_) (fun u hu=>by simp at hu;rcases hu with rfl|rfl|rfl|rfl|rfl <;> rfl) (by omega) (by omega) hE.st.B (fun la2 lc2 w2 H8 I6 hwh=>?_)
 ·rw[Addr.add_lit]
  match q,hq with
  |0,hq=>cases hq;exact D7.q0 0 rfl
  |1,hq=>cases hq;exact D7.q0 1 rfl
  |2,hq=>cases hq;exact D7.q0 2 rfl
  |3,hq=>cases hq;exact D7.q0 3 rfl
  |4,hq=>cases hq;exact D7.q0 4 rfl
 refine U121 ?_;intro O2 hK hG hc;rename_i ss0;refine L.nil (.inl ⟨rfl,_,.inl rfl,⟨hK,hG,O2⟩,?_⟩);refine FP.nil ?_;refine U198 ?_;refine L.put (b:=p.l7) (o:=0+i*1) (vs:=[.slice la2 ((s1.log i).length+1) lc2]) _ rfl rfl rfl nt0 rfl rfl hG (by rw[D5];omega) (fj0 ⟨0,0,0,(c2.x),c2.ok⟩) (fun w G0 hg A2=>?_);have hE2:=hE.Cx0 him ⟨0,0,0,(c2.x),c2.ok⟩ H8 I6 hwh G0 hg;have hc:=hc.V2 hg trivial;refine U115 ?_;have hd:P4 i s1 c2=({s1 with log:=r6 s1.log i (s1.log i ++ [⟨0,0,0,c2.x,c2.ok⟩])}:HW):=by
  rw[dz0 (by omega),show R8 c2=⟨0,0,0,c2.x,c2.ok⟩by unfold R8;rw[hx1,hx2,hx3]]
 rw[hd]at hc;exact⟨_,_,_,hE2,hc,by show(r6 s1.log i (s1.log i ++ [_]) i).length <=k+1;rw[Z2,List.length_append];exact Nat.succ_le_succ hl,fun F9=>Nat.le_succ_of_le (G9 F9)⟩
theorem al1 {p:j4} {fb:Nat->FuncId} {q:PR (V1 p)} {p5:World} {i cb:Nat} {top:List Frame} (hp:n4 p) {s:HW} {m:Gm} {r:T6} {k:Nat} {o:X8} (w0:World) (hE:HSo p (A3 p fb q p5 i cb top) w0 s m r) (hc:CSt (A3 p fb q p5 i cb top) w0 (Z0 (p.bo i) i k s)) (ho:(p.bo i)[k]? =some o) (hl:(s.log i).length <=k) (G9:i=0->s.N0.length <=k) (hk:k<100000) (_him:i<p.m) (hk1:o.kind≠1/\o.kind≠2/\o.kind≠3) :
  @Calls prog (O1 (A3 p fb q p5 i cb top)) 26 #[.p p.pk,.p cb,.agg #[.i o.kind,.i o.val,.i o.u5,.i o.rn,.i o.rg]] w0 (X3 (A3 p fb q p5 i cb top) w0 fun _ u=>∃s1 m1 r1,HSo p (A3 p fb q p5 i cb top) u s1 m1 r1/\CSt (A3 p fb q p5 i cb top) u (Z0 (p.bo i) i (k+1) s1)/\(s1.log i).length <=k+1/\(i=0->s1.N0.length <=k+1)):=by
 letI:Ctx prog:=O1 (A3 p fb q p5 i cb top);refine U248 ?_;intro sy0;have ou0:=hc.output;have hK:=hE.st.rm.hK;refine U0 ?_;refine U208 ?_;intro w b5 F5 lt5;refine U264 ?_;intro hE hc;have j3:=F5.blk;refine U59 ?_;refine U218 ?_;intro w b6 F6 lt6;have hE:=hE.j0 F6.below;refine U260 ?_;intro hc j3;refine U42 ?_;refine U202 ?_;refine U13 ?_;refine U47 ?_;refine W.G5 (rb (decide_eq_false hk1.1)) ?_;refine U0 ?_;refine U47 ?_;refine W.G5 (rb (decide_eq_false hk1.2.1)) ?_;refine U0 ?_;refine U47 ?_;refine W.G5 (rb (decide_eq_false hk1.2.2)) ?_;refine U365 ?_;rw[v5 ho,show m5 s o=none by unfold m5;rw[if_neg hk1.1,if_neg hk1.2.1,if_neg hk1.2.2]]at hc;exact⟨s,m,r,hE,hc,Nat.le_succ_of_le hl,fun F9=>Nat.le_succ_of_le (G9 F9)⟩
theorem am1 {p:j4} {fb:Nat->FuncId} {q:PR (V1 p)} {p5:World} {i cb:Nat} {top:List Frame} (hp:n4 p) {s:HW} {m:Gm} {r:T6} {k:Nat} {o:X8} (w0:World) (hE:HSo p (A3 p fb q p5 i cb top) w0 s m r) (hc:CSt (A3 p fb q p5 i cb top) w0 (Z0 (p.bo i) i k s)) (ho:(p.bo i)[k]? =some o) (hl:(s.log i).length <=k) (G9:i=0->s.N0.length <=k) (hk:k<100000) (him:i<p.m) :
  @Calls prog (O1 (A3 p fb q p5 i cb top)) 26 #[.p p.pk,.p cb,.agg #[.i o.kind,.i o.val,.i o.u5,.i o.rn,.i o.rg]] w0 (X3 (A3 p fb q p5 i cb top) w0 fun _ u=>∃s1 m1 r1,HSo p (A3 p fb q p5 i cb top) u s1 m1 r1/\CSt (A3 p fb q p5 i cb top) u (Z0 (p.bo i) i (k+1) s1)/\(s1.log i).length <=k+1/\(i=0->s1.N0.length <=k+1)):=by
 have h0:o.kind=1\/o.kind=2->i=0:=fun h=>by
  rcases Nat.eq_zero_or_pos i with z|z
  ·exact z
  ·have:=hp.kinds i z o (List.mem_of_getElem? ho);rcases h with h|h
   ·exact absurd h this.1
   ·exact absurd h this.2
 by_cases h1:o.kind=1
 ·exact ag1 hp w0 hE hc ho hl G9 hk him h1 (h0 (.inl h1))
 by_cases h2:o.kind=2
 ·exact aj1 hp w0 hE hc ho hl G9 hk him h2 (h0 (.inr h2))
 by_cases h3:o.kind=3
 ·exact ak1 hp w0 hE hc ho hl G9 hk him h3
 ·exact al1 hp w0 hE hc ho hl G9 hk him ⟨h1,h2,h3⟩
structure ic0 (w:World) (oa:Option Addr) (ops:List X8):Prop where
 sl:SL oa ops.length
 cell:∀(k:Nat) (o:X8),ops[k]? =some o->∀(j:Nat) (v:Value),(Cw0 o)[j]? =some v->w.cell? ⟨ab oa,ao oa+k*5+j,none⟩=some v
theorem ic0.j0 {w w':World} {oa:Option Addr} {ops:List X8} (h:ic0 w oa ops) (hb:Below w.heap.size w w'):ic0 w' oa ops:=⟨h.sl,fun k o ho j v hj=>y4 (h.cell k o ho j v hj) hb⟩
structure vt0 (p:j4) (i ob bp:Nat) (oa:Option Addr) (oc:Nat):Prop where
 rob:p.RO ob
 rbp:p.RO bp
 roa:0<(p.bo i).length->p.RO (ab oa)
 hob:V0 p.wI ob #[.slice oa (p.bo i).length oc] 80
 hbp:V0 p.wI bp #[.p p.pk] 33
 ops:ic0 p.wI oa (p.bo i)
 len:(p.bo i).length <=100000
section
variable {p:j4}{K:N9 prog}{w:World}{s:HW}{m:Gm}{r:T6}{i ob bp oc:Nat}{oa:Option Addr}
theorem vt0.ob_ (h:vt0 p i ob bp oa oc) (hE:HSo p K w s m r):V0 w ob #[.slice oa (p.bo i).length oc] 80:=(hE.st.rm.ro ob h.rob).trans h.hob
theorem vt0.bp_ (h:vt0 p i ob bp oa oc) (hE:HSo p K w s m r):V0 w bp #[.p p.pk] 33:=(hE.st.rm.ro bp h.rbp).trans h.hbp
theorem vt0.mm1 (h:vt0 p i ob bp oa oc) (hE:HSo p K w s m r):ic0 w oa (p.bo i):=⟨h.ops.sl,fun k o ho j v hj=>by
 have hl:0<(p.bo i).length:=by have:=(List.getElem?_eq_some_iff.1 ho).1;omega
 rw[(H7 (u:=p.wI) (u':=w) (a:=⟨ab oa,ao oa+k*5+j,none⟩) (hE.st.rm.ro _ (h.roa hl))).1];exact h.ops.cell k o ho j v hj⟩
end
theorem Hl0 {K:N9 prog} {f:FuncId} {args:Array Value} {u:World} (hf:K.Jz0=f) (h:@Calls prog (O1 K) f args u (fun e w=>∃F,K.Gi0 w F e)):o9 K (G (Frame.enter prog f args .normal) K.top) u :=
 h (o9 K) rfl K.top fun _e _w' _fr he h3 h4=>.done (h3.trans hf.symm) h4 he.choose_spec
theorem an1 {p:j4} {fb:Nat->FuncId} {q:PR (V1 p)} {p5:World} {i cb:Nat} {top:List Frame} (hp:n4 p) {sI:HW} {mI:Gm} {rI:T6} {ob bp oc:Nat} {oa:Option Addr} (hD:vt0 p i ob bp oa oc) (him:i<p.m) (w0:World) (hE:HSo p (A3 p fb q p5 i cb top) w0 sI mI rI) (hc:CSt (A3 p fb q p5 i cb top) w0 (Z0 (p.bo i) i 0 sI)) (hl:(sI.log i).length <=0) (G9:i=0->sI.N0.length <=0) :
  @Calls prog (O1 (A3 p fb q p5 i cb top)) 25 #[.p cb,.p ob,.p bp] w0 (fun e u=>∃F',(A3 p fb q p5 i cb top).Gi0 u F' e):=by
 letI:Ctx prog:=O1 (A3 p fb q p5 i cb top);refine Calls.ch0 (n:=18) func25 rfl rfl ?_;refine U0 ?_;refine U216 ?_;refine W.loop (fun k e w=>∃j:Nat,∃s:HW,∃m:Gm,∃r:T6,k=(p.bo i).length-j/\e 0= .p cb/\e 1= .p ob/\e 2= .p bp/\e 4= .i (j:Nat)/\HSo p (A3 p fb q p5 i cb top) w s m r/\CSt (A3 p fb q p5 i cb top) w (Z0 (p.bo i) i j s)/\(s.log i).length <=j/\(i=0->s.N0.length <=j)/\j <=(p.bo i).length) _ ⟨0,sI,mI,rI,rfl,rfl,rfl,rfl,rfl,hE,hc,hl,G9,Nat.zero_le _⟩ ?_;rintro k e w ⟨j,s,m,r,hk,s0,s1,s2,s4,hE,hc,hl,G9,hjn⟩;rw[L0 s0,L0 s1,L0 s2,L0 s4];clear s0 s1 s2 s4;have hOb:=hD.ob_ hE;have hBp:=hD.bp_ hE;have ao1:=hD.mm1 hE;have hlen:=hD.len;refine U18 ?_;refine L.va (B0 rfl underlying80 rfl (hOb.q0 0 (v:=.slice oa ((p.bo i).length) oc) rfl)) ?_;refine L.va (V4 rfl underlying80 rfl) ?_;refine U29 ?_;refine W.y6 rfl (fun h8=>?_) (fun h8=>?_)
 ·refine W.skip ?_;show W _ _ _ _ _ _;refine U414 ?_;obtain⟨o,ho⟩:∃o,(p.bo i)[j]? =some o:=⟨_,List.getElem?_eq_getElem (by omega)⟩
  refine W.jc0 6 (fun w'=>Below w.heap.size w w') (by kernel_rfl) (by kernel_rfl) (by kernel_rfl) (by kernel_rfl) ((Below.refl w.heap.size w).drew) ?_;refine D.va (fun w' J0=>(B0 rfl underlying33 rfl ((hBp.j0 J0).q0 0 (v:=.p p.pk) rfl))) ?_;refine D.va (fun w' J0=>(Y3 rfl)) ?_;refine D.va (fun w' J0=>(B0 rfl underlying80 rfl ((hOb.j0 J0).q0 0 (v:=.slice oa ((p.bo i).length) oc) rfl))) ?_;refine D.va (fun w' J0=>(K2 rfl)) ?_;refine D.va (fun w' J0=>(u4 (i:=j) rfl rfl underlying80 up0 ao1.sl (by omega))) ?_;refine D.va (fun w' J0=>(Q0 (cs:=Cw0 o) rfl underlying84 rfl up0 rfl (fun q v hq=>(ao1.j0 J0).cell j o ho q v hq))) ?_;refine D.nil (fun w D1=>?_);have hE:=hE.j0 D1;have hc:=hc.j0 D1;clear D1;have C8:=am1 hp w hE hc ho hl G9 (by omega) him;refine L.Q6 rfl (n3 rfl rfl rfl func26 rfl kk1 rfl) C8 ?_ ?_ (fun _ h=>h)
  rotate_left
  ·rintro ch u ⟨hra,hh⟩;exact hh.done (Sys.kok (ae1 hp)) hra hc.os hc.output
  rintro _ w ⟨s1,m1,r1,hE1,hc1,hl1,kv0⟩;clear C8 hE hc hl G9 hOb hBp ao1;refine L.nil ?_;refine U39 ?_;exact⟨_,by omega,⟨j+1,s1,m1,r1,rfl,rfl,rfl,rfl,rfl,hE1,hc1,hl1,kv0,by omega⟩⟩
 ·refine W.exit ?_;refine U132 ?_;refine U44 ?_;rw[C7 (by omega)]at hc;exact hE.st.done hc
section
variable [Ctx prog]
end
section
theorem Tf0 (x0:Option Addr) (x1:Int) (x2:Int) (x3:Option Addr):prog.built 95 [(0,.pointer x0),(1,.i x1),(2,.i x2),(3,.pointer x3)]=some #[.pointer x0,.i x1,.i x2,.pointer x3,.pointer none]:=by kernel_rfl
end
section
variable [Ctx prog]
theorem Tg0 (wb:Nat) (obj most:Int) (w0:World) (h:most<1\/1048576<most):C prog 7 #[.p wb,.i obj,.i most] w0 fun v w=>v= .tuple #[.pointer none,.i 2]/\w=w0:=by
 refine C.enter (n:=30) func7 rfl rfl ?_;refine U0 ?_;refine U73 ?_;refine U18 ?_;refine U145 ?_;refine L.g7 3 [11,12,13,14] 14 (.bool true) (tj:=11) rfl (fun Nm0=>?_) (fun Nm0=>?_) (fun f=>?_)
 ·refine L.off rfl ?_;refine L.off rfl ?_;refine U55 ?_;refine⟨rfl,congrArg Value.bool rfl,?_⟩;exact A0.upd rfl (A0.upd rfl (A0.upd rfl (A0.upd rfl (A0.refl _ _))))
 ·refine L.on rfl ?_;refine U27 ?_;refine U240 ?_;refine⟨rfl,congrArg Value.bool (decide_eq_true (by have:=of_decide_eq_false Nm0;omega)),?_⟩;exact A0.upd rfl (A0.upd rfl (A0.upd rfl (A0.upd rfl (A0.refl _ _))))
 refine U87 ?_;refine U0 ?_;refine U73 ?_;refine U97 ?_;exact⟨rfl,rfl⟩
theorem ta0 (B wb:Nat) (obj most:Int) (w0:World) (J5:B <=w0.heap.size) (hW:V0 w0 wb #[.bool false] 99) (h:¬(most<1\/1048576<most)):C prog 7 #[.p wb,.i obj,.i most] w0 fun v w=>∃hp pb Ly,v= .tuple #[.p hp,.i 0]/\M3 w B hp wb pb obj most ⟨[],[]⟩ Ly/\Canon Ly.la/\Canon Ly.pa/\Below w0.heap.size w0 w/\w0.heap.size <=hp/\w0.heap.size <=pb:=by
 refine C.enter (n:=30) func7 rfl rfl ?_;refine U7 ?_;intro hb;refine U73 ?_;refine U18 ?_;refine U145 ?_;refine L.g7 3 [11,12,13,14] 14 (.bool false) (tj:=11) rfl (fun Nm0=>?_) (fun Nm0=>?_) (fun f=>?_)
 ·exact absurd (of_decide_eq_true Nm0) (by omega)
 ·refine L.on rfl ?_;refine U27 ?_;refine U240 ?_;refine⟨rfl,congrArg Value.bool (decide_eq_false (by omega)),?_⟩;exact A0.upd rfl (A0.upd rfl (A0.upd rfl (A0.upd rfl (A0.refl _ _))))
 refine U26 ?_;refine U112 ?_;refine L.va (K2 rfl) ?_;refine U83 ?_;refine L.call (bl0 rfl rfl rfl rfl func20 rfl ki1 rfl) (gv1 wb obj 0 none 0 0 _) ?_;rintro _ w ⟨pb,rfl,ltp,hP,D1⟩;have ltp:=Nat.le_trans hb.size ltp;have hb:=O0 hb D1;have hW:=hW.j0 D1;refine L.va (Z1 (parts:=[(0,.tmp 15),(1,.tmp 16),(2,.tmp 17),(3,.tmp 20)]) rfl (Tf0 ((pt wb)) obj most ((pt pb)))) ?_;refine L.box (cs:=#[.p wb,.i obj,.i most,.p pb,.pointer none]) rfl rfl (fun w b22 F22=>?_);have mn1:=F22.lq hb.size;have hb:=O0 hb F22.below;have hW:=hW.j0 F22.below;have hP:=hP.j0 F22.below;have vu0:=F22.blk;refine U9 ?_;refine U313 ?_;refine L.rw0 underlying97 Kn0 (fun w b26 F26=>?_);have Th0:=F26.lq hb.size;have hb:=O0 hb F26.below;have hW:=hW.j0 F26.below;have hP:=hP.j0 F26.below;have vu0:=vu0.j0 F26.below;have id0:=F26.blk;refine L.box (cs:=#[.slice (pt b26) 0 0]) rfl rfl (fun w b27 F27=>?_);have nx1:=F27.lq hb.size;have hb:=O0 hb F27.below;have hW:=hW.j0 F27.below;have hP:=hP.j0 F27.below;have vu0:=vu0.j0 F27.below;have id0:=id0.j0 F27.below;have Ti0:=F27.blk;refine L.call (W1 rfl rfl func21 rfl ej1 rfl) (vh0 b22 b27 _ _ _ _ _ _ _ vu0 Ti0) ?_;rintro _ w ⟨G0,hg⟩;have Y1:=F1.E5 vu0 hg;have hb:=G4 hb hb.size hg mn1;have hW:=hW.mod Y1 rfl;have hP:=hP.mod Y1 rfl;have id0:=id0.mod Y1 rfl;have Ti0:=Ti0.mod Y1 rfl;have vu0:=G0;refine U11 ?_;refine U3 ?_;refine U73 ?_;refine U97 ?_;exact⟨b22,pb,⟨some ⟨b26,0,none⟩,0,b27,none,0,fun _=>0⟩,rfl,⟨vu0,hW,hP,Ti0,⟨rfl,.inr ⟨b26,0,#[],rfl,by omega,id0,Nat.le_refl _,by simp[maxLen],rfl,rfl⟩⟩,fun i hi=>absurd hi (Nat.not_lt_zero i),fun i hi=>absurd hi (Nat.not_lt_zero i),fun i j hi=>absurd hi (Nat.not_lt_zero i),⟨SL.zero _,(fun _ h=>by cases h),fun _=>⟨rfl,rfl⟩,Nat.le_refl _,fun h=>absurd rfl h⟩,by show B <=b27;omega⟩,(fun x hx=>by cases hx;rfl),(fun x hx=>by cases hx),hb,by omega,ltp⟩
theorem Ff0 (B hp wb pb:Nat) (obj most:Int) (H:Hs) (Ly:I5) (w0:World) (hM:M3 w0 B hp wb pb obj most H Ly):C prog 33 #[.p hp] w0 fun v w=>v= .i (H.Y0.length:Int)/\Below w0.heap.size w0 w:=by
 refine C.enter (n:=12) func33 rfl rfl ?_;have hb:Below w0.heap.size w0 w0:=Below.refl _ _;obtain⟨hH,hW,hP,hL,hO,hX,leX,gw1,I3,lL⟩:=hM;have hn:H.Y0.length <=9223372036854775807:=by
  rcases Nat.eq_zero_or_pos H.Y0.length with h0|h0
  ·omega
  ·obtain⟨cur,_,_,h1,h2,_⟩:=hO.row (hO.p8 h0);simp only[maxLen]at h2;omega
 refine U0 ?_;refine U126 ?_;refine U135 ?_;rintro _ w1 ⟨rfl,hw⟩;refine U177 ?_;refine L.va (V4 rfl underlying97 rfl) ?_;refine U5 ?_;exact U31
theorem qu0 (B hp wb pb:Nat) (obj most:Int) (H:Hs) (Ly:I5) (w0:World) (hM:M3 w0 B hp wb pb obj most H Ly):C prog 35 #[.p hp] w0 fun v w=>v= .i (H.pool.length:Int)/\Below w0.heap.size w0 w:=by
 refine C.enter (n:=11) func35 rfl rfl ?_;have hb:Below w0.heap.size w0 w0:=Below.refl _ _;have hH:=hM.hH;refine U0 ?_;refine U126 ?_;refine U190 ?_;refine L.call (W1 rfl rfl func45 rfl Go0 rfl) (Er0 pb wb obj 0 Ly.pa H.pool.length Ly.pc _ hM.hP hM.hW) ?_;rintro _ w ⟨rfl,D1⟩;have hb:=O0 hb D1;refine L.va (V4 rfl underlying23 rfl) ?_;refine U5 ?_;exact U31
theorem Tj0 (B hp wb pb:Nat) (obj most:Int) (H:Hs) (Ly:I5) (w0:World) (hM:M3 w0 B hp wb pb obj most H Ly) (h1:H.Y0.length <=4611686018427387904) (h2:H.pool.length <=4611686018427387904):C prog 34 #[.p hp] w0 fun v w=>v= .i ((H.Y0.length:Int)-(H.pool.length:Int))/\Below w0.heap.size w0 w:=by
 refine C.enter (n:=8) func34 rfl rfl ?_;refine U7 ?_;intro hb;refine U5 ?_;refine U3 ?_;refine L.call (X4 rfl func33 rfl eo1 rfl) (Ff0 B hp wb pb obj most H Ly _ hM) ?_;rintro _ w ⟨rfl,D1⟩;have hb:=O0 hb D1;have hM:=hM.j0 D1;refine L.va (Y3 rfl) ?_;refine L.call (X4 rfl func35 rfl ep1 rfl) (qu0 B hp wb pb obj most H Ly _ hM) ?_;rintro _ w ⟨rfl,D1⟩;have hb:=O0 hb D1;refine L.va (kh0 rfl rfl (by omega)) ?_;refine U5 ?_;exact U31
end
theorem M3.mod {w w':World} {B hp wb pb:Nat} {obj most:Int} {H:Hs} {L:I5} (h:M3 w B hp wb pb obj most H L) {B':Nat} {TS:List TypeId} (hm:F1 w w' B' TS) (hT:(([95,99,135,97,140,193,3]:List TypeId).all fun t=>!TS.contains t)=true):M3 w' B hp wb pb obj most H L:=by
 simp only[List.all_cons,List.all_nil,Bool.and_true,Bool.and_eq_true,Bool.not_eq_true']at hT;obtain⟨t1,t2,t3,t4,t5,t6,t7⟩:=hT;exact⟨h.hH.mod hm t1,h.hW.mod hm t2,h.hP.mod hm t3,h.hL.mod hm t4,h.hO.mod hm t5,fun i hi=>(h.hX i hi).mod hm t6,h.leX,h.inj,⟨h.I3.sl,h.I3.canon,h.I3.nil,h.I3.le,fun ha=>let⟨cs,h1,h2,h3⟩:=h.I3.bl ha;⟨cs,h1.mod hm t7,h2,h3⟩⟩,h.lL⟩
theorem M3.Tk0 {w:World} {B hp wb pb:Nat} {obj most:Int} {H:Hs} {L:I5} (h:M3 w B hp wb pb obj most H L) {b:Nat} (hb:w.heap.size <=b):¬HF hp wb pb H.Y0.length L b:=fun z=>by have:=(h.vis z).1;omega
theorem M3.ap1 {w w':World} {B hp wb pb:Nat} {obj most:Int} {H:Hs} {L:I5} (h:M3 w B hp wb pb obj most H L) {b:Nat} (hg:w.grownBy w' (some b)) (hn:¬HF hp wb pb H.Y0.length L b):M3 w' B hp wb pb obj most H L:=h.congr fun k hk=>hg.block k (h.vis hk).1 fun e=>hn (by cases e;exact hk)
theorem V9 {w w':World} {B s n c:Nat} {E:TypeId} {a:Option Addr} {xs:List Value} {TS:List TypeId} (h:Own w B E s a n c xs) (hg:w.grownBy w' (Value.ownBlock (.slice a n c))) (hB:B <=w.heap.size) (hT:TS.contains E=true):F1 w w' B TS:=by
 cases a with
 |none=>exact⟨hg.os,hg.tape,hg.output,hg.size,fun k hk=>hg.block k (by omega) (by simp[Value.ownBlock]),fun k cs T h2 _=>h2.grown hg (by simp[Value.ownBlock])⟩
 |some x=>
  have cj0:=G6 h;rw[sv0 cj0,if_neg (by simp)]at hg;obtain⟨cur,hc,h2,_⟩:=h.row (by simp);exact F1.put hc hg h2 hT
section
variable [Ctx prog]
end
section
theorem Fg0 (x0:Int) (x1:Bool) (x2:Int):prog.built 145 [(0,.i x0),(1,.bool x1),(2,.i x2)]=some #[.i x0,.bool x1,.i x2]:=by kernel_rfl
theorem Fh0 (x0:Int) (x1:Int):prog.built 82 [(0,.i x0),(1,.i x1)]=some #[.i x0,.i x1]:=by kernel_rfl
theorem Tl0:prog.built 82 []=some #[.i 0,.i 0]:=by kernel_rfl
theorem Tm0:prog.built 145 []=some #[.i 0,.bool false,.i 0]:=by kernel_rfl
theorem Tn0 (x0:Int):prog.built 145 [(0,.i x0)]=some #[.i x0,.bool false,.i 0]:=by kernel_rfl
end
section
variable [Ctx prog]
theorem tb0 (B hp wb pb:Nat) (obj most:Int) (H:Hs) (Ly:I5) (w0:World) (hM:M3 w0 B hp wb pb obj most H Ly) (i:Nat) (hi:i<H.Y0.length) (rg:Int) :
  C prog 23 #[.p hp,.pointer none,.agg #[.i ((i:Int)+1),.i rg]] w0 fun v w=>v= .tuple #[.i (V3 H ((i:Int)+1) rg).1,.bool (V3 H ((i:Int)+1) rg).2]/\Below w0.heap.size w0 w:=by
 refine C.enter (n:=37) func23 rfl rfl ?_;refine U7 ?_;intro hb;refine L.box (cs:=#[.i ((i:Nat)+1),.i rg]) rfl rfl (fun w b5 F5=>?_);refine U171 ?_;intro lt5 hb hM;have j3:=F5.blk;refine U46 ?_;refine U0 ?_;refine U116 ?_;refine U3 ?_;refine U519 ?_;rintro _ w1 ⟨rfl,hw⟩;refine U178 ?_;refine U3 ?_;refine U471 ?_;rintro _ w ⟨rfl,D1⟩;have hb:=O0 hb D1;have j3:=j3.j0 D1;refine L.alloc (cs:=#[.i 0,.bool false,.i 0]) lm0 rfl (fun w b10 F10=>?_);have Hd0:=F10.lq hb.size;have hb:=O0 hb F10.below;have j3:=j3.j0 F10.below;have T5:=F10.blk;refine L.pu 0 [.i ((o3 H i).g),.bool ((o3 H i).l),.i ((o3 H i).v)] #[.i ((o3 H i).g),.bool ((o3 H i).l),.i ((o3 H i).v)] af0 T5 (fun w G0 hg A2=>?_);have Y1:=F1.E5 T5 hg;have hb:=G4 hb hb.size hg Hd0;have j3:=j3.mod Y1 rfl;have T5:=G0;refine U11 ?_;refine U222 ?_;refine L.va (B0 rfl underlying4 rfl (T5.q0 1 (v:=.bool ((o3 H i).l)) rfl)) ?_;refine U231 ?_;refine L.g7 6 [27,28,29,30,31,32,33] 33 (.bool (!decide ((o3 H i).l=true/\(o3 H i).g=rg))) (tj:=27) rfl (fun or0=>?_) (fun or0=>?_) (fun f=>?_)
 ·refine L.off rfl ?_;refine U165 ?_;refine⟨rfl,congrArg Value.bool (by simp only[Bool.not_eq_true']at or0;simp[or0]),?_⟩;exact A0.upd rfl (A0.upd rfl (A0.upd rfl (A0.upd rfl (A0.upd rfl (A0.upd rfl (A0.upd rfl (A0.refl _ _)))))))
 ·refine L.on rfl ?_;refine U215 ?_;refine L.va (B0 rfl underlying3 rfl (T5.q0 0 (v:=.i ((o3 H i).g)) rfl)) ?_;refine U217 ?_;refine L.on rfl ?_;refine L.va (B0 rfl underlying3 rfl (j3.q0 1 (v:=.i rg) rfl)) ?_;refine U233 ?_;refine U25 ?_;refine⟨rfl,congrArg Value.bool (by simp only[Bool.not_eq_false']at or0;simp[or0]),?_⟩;exact A0.upd rfl (A0.upd rfl (A0.upd rfl (A0.upd rfl (A0.upd rfl (A0.upd rfl (A0.upd rfl (A0.refl _ _)))))))
 refine U1 ?_;refine W.cond rfl (fun h33=>?_) (fun h33=>?_)
 ·refine W.seq ?_;refine W.region rfl ?_;refine L.va (K2 rfl) ?_;refine U93 ?_;exact⟨by rw[by0 hi,if_neg (fun h9=>by simp[h9]at h33)];rfl,hb⟩
 ·refine W.skip ?_;show W _ _ _ _ _ _;refine U608 ?_;refine L.va (B0 rfl underlying2 rfl (T5.q0 2 (v:=.i ((o3 H i).v)) rfl)) ?_;refine U93 ?_;exact⟨by rw[by0 hi,if_pos (by simpa using h33)];rfl,hb⟩
set_option maxHeartbeats 1000000 in
theorem vv0 (B hp wb pb:Nat) (obj most:Int) (H:Hs) (Ly:I5) (w0:World) (hM:M3 w0 B hp wb pb obj most H Ly) (J5:B <=w0.heap.size) (hpb:B <=pb) (p0:List Int) (i:Nat) (hpz:H.pool=p0 ++ [(i:Int)+1]) (hpl:p0.length <=1000000) (hi:i<H.Y0.length) (v:Int) :
  C prog 22 #[.p hp,.pointer none,.i v] w0 fun r w=>∃Ly',r= .tuple #[.agg #[.i ((i:Int)+1),.i (o3 H i).g],.i 0]/\M3 w B hp wb pb obj most (({H with pool:=p0}:Hs).set ((i:Int)+1) ⟨(o3 H i).g,true,v⟩) Ly'/\F1 w0 w B [95,135,193,97,140]:=by
 refine C.enter (n:=102) func22 rfl rfl ?_;refine U372 ?_;intro hm hH;have hpn:H.pool.length=p0.length+1:=by rw[hpz];simp
 have hpc:=hM.I3.le;rw[hpn]at hpc;refine U238 ?_;intro w b6 F6;have lt6:=F6.lq hm.size;have hm:=hm.step F6.below (Nat.le_trans J5 hm.size);have hH:=hH.j0 F6.below;have hM:=hM.j0 F6.below;have O2:=F6.blk;refine U126 ?_;refine U190 ?_;refine U450 ?_;rintro _ w ⟨rfl,D1⟩;refine U96 ?_;intro hm hH;have hM:=hM.j0 D1;have O2:=O2.j0 D1;refine U28 ?_;refine U17 ?_;refine U41 ?_;refine L.va (Dv0 (m:=p0.length) rfl rfl (by omega)) ?_;refine U5 ?_;refine U20 ?_;refine L.va (le0 rfl rfl) ?_;refine U1 ?_;refine U347 ?_;refine U56 ?_;refine L.va (u4 (i:=p0.length) rfl rfl underlying23 c5 (by rw[<- hpn];exact hM.I3.sl) (Nat.lt_succ_self _)) ?_;have hz9:=hM.I3.cell (j:=p0.length) (by rw[hpn];exact Nat.lt_succ_self _);rw[hpz,show((p0 ++ [(i:Int)+1])[p0.length]?).getD 0=(i:Int)+1 by simp]at hz9;refine L.va (B0 (v:=.i ((i:Int)+1)) rfl underlying3 rfl hz9) ?_;clear hz9;refine U5 ?_;refine U520 ?_;rintro _ w1 ⟨rfl,hw⟩;refine U515 ?_;refine U468 ?_;refine U6 ?_;refine U457 ?_;refine D.va (fun w' J0=>(Y3 rfl)) ?_;refine U100 ?_;refine D.va (fun w' J0=>(K2 rfl)) ?_;refine D.va (fun w' J0=>iw0 (k:=p0.length) (m:=p0.length) rfl rfl rfl underlying23 c5 (Nat.le_refl _) (by omega)) ?_;refine D.nil (fun w D1=>?_);refine U241 ?_;intro hm hM;have O2:=O2.j0 D1;clear D1;refine L.call (n3 rfl rfl rfl func47 rfl Rf0 rfl) (We0 pb wb obj 0 Ly.pa p0.length p0.length _ _ _ _ hM.hP hM.hW) ?_;rintro _ w ⟨G0,hg⟩;have hm:=hm.trans (F1.put hM.hP hg (by first|omega|exact hM.leX _ (by omega)|exact hpb) rfl);have O2:=O2.other hg (V0.ne O2 hM.hP (by decide));have hM1:=hM.mn0 (pool:=p0) G0 hg (hM.I3.pre hpz rfl);clear hM G0 hg;have hM:=hM1;clear hM1;refine U1 ?_;refine U112 ?_;refine L.call (W1 rfl rfl func32 rfl Ks0 rfl) (sr0 B hp wb pb obj most _ _ _ hM i hi) ?_;rintro _ w ⟨rfl,D1⟩;refine U241 ?_;intro hm hM;have O2:=O2.j0 D1;refine U5 ?_;refine U3 ?_;refine U83 ?_;refine L.va (K2 rfl) ?_;refine L.va (Z1 (parts:=[(0,.tmp 52),(1,.const (.bool true)),(2,.tmp 53)]) rfl (Fg0 ((o3 H i).g) true v)) ?_;refine L.call (n3 rfl rfl rfl func48 rfl Gq0 rfl) (Mw0 (Ly.X i) wb obj _ (o3 H i).g true v (o3 H i).g (o3 H i).l (o3 H i).v _ (hM.hX i hi) hM.hW) ?_;rintro _ w ⟨G0,hg⟩;have hm:=hm.trans (F1.put (hM.hX i hi) hg (by first|omega|exact hM.leX _ (by omega)|exact hpb) rfl);have O2:=O2.other hg (V0.ne O2 (hM.hX i hi) (by decide));have hM1:=hM.setNode (d:=⟨(o3 H i).g,true,v⟩) hi G0 hg;clear hM G0 hg;have hM:=hM1;clear hM1;refine U124 ?_;refine L.va (K2 rfl) ?_;refine L.va (Z1 (parts:=[(0,.tmp 56),(1,.tmp 57)]) rfl (Fh0 ((i:Int)+1) ((o3 H i).g))) ?_;refine L.pu 0 [.i ((i:Int)+1),.i ((o3 H i).g)] #[.i ((i:Int)+1),.i ((o3 H i).g)] X5 O2 (fun w G0 hg A2=>?_);have Y1:=F1.E5 O2 hg;have hm:=hm.own hg lt6 J5;have hM:=hM.mod Y1 rfl;have O2:=G0;refine U60 ?_;refine U43 ?_;refine ends.dq0 (cs:=#[.i ((i:Int)+1),.i ((o3 H i).g)]) (.inr rfl) rfl rfl underlying82 rfl X5 O2 ?_;exact⟨_,rfl,hM,hm⟩
theorem vw0 (B hp wb pb:Nat) (obj most:Int) (H:Hs) (Ly:I5) (w0:World) (hM:M3 w0 B hp wb pb obj most H Ly) (_hBs:B <=w0.heap.size) (hpz:H.pool=[]) (hf:¬(H.Y0.length:Int)<most) (v:Int) :
  C prog 22 #[.p hp,.pointer none,.i v] w0 fun r w=>r= .tuple #[.agg #[.i 0,.i 0],.i 5]/\Below w0.heap.size w0 w:=by
 refine C.enter (n:=102) func22 rfl rfl ?_;have hb:Below w0.heap.size w0 w0:=Below.refl _ _;have hH:=hM.hH;have hL:=hM.hL;have hpn:H.pool.length=0:=by rw[hpz];rfl
 refine U238 ?_;intro w b6 F6;have lt6:=F6.lq hb.size;have hb:=O0 hb F6.below;have hH:=hH.j0 F6.below;have hL:=hL.j0 F6.below;have hM:=hM.j0 F6.below;have O2:=F6.blk;refine U126 ?_;refine U190 ?_;refine U450 ?_;rintro _ w ⟨rfl,D1⟩;have hb:=O0 hb D1;have hH:=hH.j0 D1;have hL:=hL.j0 D1;have O2:=O2.j0 D1;refine U28 ?_;refine U17 ?_;refine L.va (w7 rfl) ?_;refine U311 ?_;refine U5 ?_;refine U325 ?_;refine U26 ?_;refine U14 ?_;refine U135 ?_;rintro _ w1 ⟨rfl,hw⟩;refine U177 ?_;refine L.alloc (cs:=#[.slice none 0 0]) Yk0 rfl (fun w b13 F13=>?_);have Hg0:=F13.lq hb.size;have hb:=O0 hb F13.below;have hH:=hH.j0 F13.below;have O2:=O2.j0 F13.below;have R4:=F13.blk;refine U633 ?_;intro w G0 hg A2 Y1;have hb:=G4 hb hb.size hg Hg0;have hH:=hH.mod Y1 rfl;have O2:=O2.mod Y1 rfl;have R4:=G0;refine U11 ?_;refine U75 ?_;refine U449 ?_;refine U6 ?_;refine U352 ?_;refine U30 ?_;intro w D1 hb;have O2:=O2.j0 D1;refine U22 ?_;refine U347 ?_;refine L.va (Z1 (parts:=[]) rfl Tl0) ?_;refine L.pu 0 [.i 0,.i 0] #[.i 0,.i 0] X5 O2 (fun w G0 hg A2=>?_);have Y1:=F1.E5 O2 hg;have hb:=G4 hb hb.size hg lt6;have O2:=G0;refine U60 ?_;refine U544 ?_;exact⟨rfl,hb⟩
set_option maxHeartbeats 1000000 in
theorem Cz0 (B hp wb pb:Nat) (obj most:Int) (H:Hs) (Ly:I5) (w0:World) (hM:M3 w0 B hp wb pb obj most H Ly) (J5:B <=w0.heap.size) (hhp:B <=hp) (hpz:H.pool=[]) (hf:(H.Y0.length:Int)<most) (Wi0:most <=1048576) (v:Int) :
  C prog 22 #[.p hp,.pointer none,.i v] w0 fun r w=>∃Ly',r= .tuple #[.agg #[.i ((H.Y0.length:Int)+1),.i 1],.i 0]/\M3 w B hp wb pb obj most {H with Y0:=H.Y0 ++ [⟨1,true,v⟩]} Ly'/\F1 w0 w B [95,135,193,97,140]:=by
 refine C.enter (n:=102) func22 rfl rfl ?_;refine U372 ?_;intro hm hH;have hL:=hM.hL;have hO:=hM.hO;have hBu:=hM.but;have hM0:=hM;have hpn:H.pool.length=0:=by rw[hpz];rfl
 refine U238 ?_;intro w b6 F6;have lt6:=F6.lq hm.size;have hm:=hm.step F6.below (Nat.le_trans J5 hm.size);have hH:=hH.j0 F6.below;have hL:=hL.j0 F6.below;have hO:=hO.j0 F6.below;have hBu:=hBu.j0 F6.below;have O2:=F6.blk;refine U126 ?_;refine U245 ?_;refine L.call (W1 rfl rfl func45 rfl Go0 rfl) ((by have h9:=Er0 pb wb obj 0 Ly.pa H.pool.length Ly.pc _ hBu.hP hBu.hW;rw[hpn]at h9;exact h9)) ?_;rintro _ w ⟨rfl,D1⟩;refine U96 ?_;intro hm hH;have hL:=hL.j0 D1;have hO:=hO.j0 D1;have hBu:=hBu.j0 D1;have O2:=O2.j0 D1;refine U28 ?_;refine U17 ?_;refine L.va (w7 rfl) ?_;refine U311 ?_;refine U5 ?_;refine U325 ?_;refine U26 ?_;refine U14 ?_;refine U135 ?_;rintro _ w1 ⟨rfl,hw⟩;refine U177 ?_;refine L.alloc (cs:=#[.slice none 0 0]) Yk0 rfl (fun w b13 F13=>?_);have Hg0:=F13.lq hm.size;have hm:=hm.step F13.below (Nat.le_trans J5 hm.size);have hH:=hH.j0 F13.below;have hO:=hO.j0 F13.below;have hBu:=hBu.j0 F13.below;have O2:=O2.j0 F13.below;have R4:=F13.blk;refine U633 ?_;intro w G0 hg A2 Y1;have hm:=hm.own hg Hg0 J5;have hH:=hH.mod Y1 rfl;have hO:=hO.mod Y1 rfl;have hBu:=hBu.mod Y1 rfl;have O2:=O2.mod Y1 rfl;have R4:=G0;refine U11 ?_;refine U75 ?_;refine U449 ?_;refine U6 ?_;refine U352 ?_;refine U90 ?_;intro w D1 hm hH;have hO:=hO.j0 D1;have hBu:=hBu.j0 D1;have O2:=O2.j0 D1;have R4:=R4.j0 D1;refine U22 ?_;refine W.G5 (rb (decide_eq_false (by omega))) ?_;refine U81 ?_;refine U0 ?_;refine L.va (B0 rfl underlying97 rfl (R4.q0 0 (v:=.slice Ly.la H.Y0.length Ly.lc) rfl)) ?_;refine U569 ?_;refine U5 ?_;refine U464 ?_;refine U6 ?_;refine U454 ?_;refine U6 ?_;refine U456 ?_;refine D.va (fun w' J0=>(K2 rfl)) ?_;refine D.va (fun w' J0=>(Z1 (parts:=[]) rfl Tm0)) ?_;refine U90 ?_;intro w D1 hm hH;have hO:=hO.j0 D1;have hBu:=hBu.j0 D1;have O2:=O2.j0 D1;have R4:=R4.j0 D1;clear D1;refine L.call (bl0 rfl rfl rfl rfl func50 rfl er1 rfl) (Wg0 wb obj _ 0 false 0 w) ?_;rintro _ w ⟨xb,rfl,hxl,hXb,D1⟩;have Wk0:=hm.size;have hxl:w0.heap.size <=xb:=Nat.le_trans Wk0 hxl;have hxX:∀i,i<H.Y0.length->Ly.X i≠xb:=fun i hi e=>by have:=(hM0.vis (.inr (.inr (.inr (.inr (.inr (.inr ⟨i,hi,rfl⟩))))))).1;omega
 refine U96 ?_;intro hm hH;have hO:=hO.j0 D1;have hBu:=hBu.j0 D1;have O2:=O2.j0 D1;have R4:=R4.j0 D1;clear D1 Wk0;refine U9 ?_;refine U3 ?_;refine U83 ?_;refine L.va (Z1 (parts:=[(0,.const (.i 1)),(1,.const (.bool true)),(2,.tmp 89)]) rfl (Fg0 1 true v)) ?_;refine L.call (n3 rfl rfl rfl func48 rfl Gq0 rfl) (Mw0 xb wb obj _ 1 true v 0 false 0 _ hXb hBu.hW) ?_;rintro _ w ⟨G0,hg⟩;have Y1:=F1.E5 hXb hg;have hm:=hm.own hg hxl J5;have O2:=O2.mod Y1 rfl;have R4:=R4.mod Y1 rfl;have hH:=hH.mod Y1 rfl;have hO:=Own.mod hO Y1 rfl;have hBu:fh0 w B wb pb obj H Ly:=⟨hBu.hW.mod Y1 rfl,hBu.hP.mod Y1 rfl,fun i hi=>(hBu.hX i hi).other hg (hxX i hi),hBu.leX,hBu.inj,hBu.I3.sl,hBu.I3.canon,hBu.I3.nil,hBu.I3.le,fun ha=>let⟨cs,g1,g2,g3⟩:=hBu.I3.bl ha;⟨cs,g1.mod Y1 rfl,g2,g3⟩⟩
 have hXb:=G0;clear G0 hg Y1;refine U59 ?_;refine L.va (B0 rfl underlying97 rfl (R4.q0 0 (v:=.slice Ly.la H.Y0.length Ly.lc) rfl)) ?_;refine U602 ?_;intro w b94 F94;have mh1:=F94.lq hm.size;have hm:=hm.step F94.below (Nat.le_trans J5 hm.size);have hH:=hH.j0 F94.below;have hO:=hO.j0 F94.below;have hBu:=hBu.j0 F94.below;have O2:=O2.j0 F94.below;have R4:=R4.j0 F94.below;have hXb:=hXb.j0 F94.below;have Nh0:=F94.blk;refine L.z6 (B:=B) (m:=1) rfl rfl underlying97 Vi0 rfl (by decide) hO (news:=[.p xb]) rfl (fun q u hq=>?_) (fun u hu=>by simp at hu;subst hu;rfl) (by omega) (by omega) (Nat.le_trans J5 hm.size) (fun la2 lc2 w2 H8 I6 hwh=>?_)
 ·rw[Addr.add_lit]
  match q,hq with
  |0,hq=>cases hq;exact Nh0.q0 0 rfl
 have O2:=V0.app O2 hO I6 (by decide);have R4:=V0.app R4 hO I6 (by decide);have hXb:=V0.app hXb hO I6 (by decide);have hH:=V0.app hH hO I6 (by decide);have hBu:=hBu.app hO I6;have hm:=hm.trans (V9 (TS:=[95,135,193,97,140]) hO I6 (Nat.le_trans J5 hm.size) rfl);clear I6 hO Nh0;rename_i ss0;refine L.pu 0 [.slice la2 (H.Y0.length+1) lc2] #[.slice la2 (H.Y0.length+1) lc2] Kj0 R4 (fun w G0 hg A2=>?_);have Y1:=F1.E5 R4 hg;have hm:=hm.own hg Hg0 J5;have hH:=hH.mod Y1 rfl;have hBu:=hBu.mod Y1 rfl;have O2:=O2.mod Y1 rfl;have hXb:=hXb.mod Y1 rfl;have H8:=H8.mod Y1 rfl;have R4:=G0;refine U11 ?_;refine U526 ?_;rintro _ w ⟨G0,hg⟩;have Y1:=F1.E5 hH hg;have hm:=hm.trans (F1.put hH hg hhp rfl);have O2:=O2.mod Y1 rfl;have R4:=R4.mod Y1 rfl;have hXb:=hXb.mod Y1 rfl;have H8:=Own.mod H8 Y1 rfl;have hBu:=hBu.mod Y1 rfl;have hM1:=hBu.more G0 R4 H8 hXb (by omega) (by omega) hxX (d:=⟨1,true,v⟩);clear hH hBu H8 hXb G0 hg Y1;refine U124 ?_;refine L.va (Z1 (parts:=[(0,.tmp 100),(1,.const (.i 1))]) rfl (Fh0 ((H.Y0.length:Int)+1) 1)) ?_;refine L.pu 0 [.i ((H.Y0.length:Int)+1),.i 1] #[.i ((H.Y0.length:Int)+1),.i 1] X5 O2 (fun w G0 hg A2=>?_);have Y1:=F1.E5 O2 hg;have hm:=hm.own hg lt6 J5;have hM1:=hM1.mod Y1 rfl;have O2:=G0;refine U60 ?_;refine U43 ?_;refine ends.dq0 (cs:=#[.i ((H.Y0.length:Int)+1),.i 1]) (.inr rfl) rfl rfl underlying82 rfl X5 O2 ?_;exact⟨_,rfl,hM1,hm⟩
set_option maxHeartbeats 1000000 in
theorem Nn0 (B hp wb pb:Nat) (obj most:Int) (H:Hs) (Ly:I5) (w0:World) (hM:M3 w0 B hp wb pb obj most H Ly) (J5:B <=w0.heap.size) (hpb:B <=pb) (i:Nat) (hi:i<H.Y0.length) (qn0:H.pool.length <=1000000) (hl:(o3 H i).l=true) :
  C prog 24 #[.p hp,.pointer none,.agg #[.i ((i:Int)+1),.i (o3 H i).g]] w0 fun r w=>∃Ly',r= .bool true/\M3 w B hp wb pb obj most {H.set ((i:Int)+1) ⟨IntKind.i64.wrap ((o3 H i).g+1),false,0⟩with pool:=H.pool ++ [(i:Int)+1]} Ly'/\F1 w0 w B [95,135,193,97,140]:=by
 refine C.enter (n:=65) func24 rfl rfl ?_;refine U372 ?_;intro hm hH;refine U0 ?_;refine L.box (cs:=#[.i ((i:Nat)+1),.i ((o3 H i).g)]) rfl rfl (fun w b5 F5=>?_);have lt5:=F5.lq hm.size;refine U364 ?_;intro hm hH;have hM:=hM.j0 F5.below;have j3:=F5.blk;refine U12 ?_;refine U226 ?_;refine U3 ?_;refine U519 ?_;rintro _ w1 ⟨rfl,hw⟩;refine U178 ?_;refine U3 ?_;refine U471 ?_;rintro _ w ⟨rfl,D1⟩;refine U96 ?_;intro hm hH;have hM:=hM.j0 D1;have j3:=j3.j0 D1;refine L.alloc (cs:=#[.i 0,.bool false,.i 0]) lm0 rfl (fun w b8 F8=>?_);have lt8:=F8.lq hm.size;have hm:=hm.step F8.below (Nat.le_trans J5 hm.size);have hH:=hH.j0 F8.below;have hM:=hM.j0 F8.below;have j3:=j3.j0 F8.below;have hB8:=F8.blk;refine L.pu 0 [.i ((o3 H i).g),.bool ((o3 H i).l),.i ((o3 H i).v)] #[.i ((o3 H i).g),.bool ((o3 H i).l),.i ((o3 H i).v)] af0 hB8 (fun w G0 hg A2=>?_);have Y1:=F1.E5 hB8 hg;have hm:=hm.own hg lt8 J5;have hH:=hH.mod Y1 rfl;have hM:=hM.mod Y1 rfl;have j3:=j3.mod Y1 rfl;have hB8:=G0;refine U11 ?_;refine U222 ?_;refine L.va (B0 rfl underlying4 rfl (hB8.q0 1 (v:=.bool ((o3 H i).l)) rfl)) ?_;refine U231 ?_;refine L.g7 6 [25,26,27,28,29,30,31] 31 (.bool false) (tj:=25) rfl (fun vk0=>?_) (fun vk0=>?_) (fun f=>?_)
 ·simp[hl]at vk0
 ·refine L.on rfl ?_;refine U215 ?_;refine L.va (B0 rfl underlying3 rfl (hB8.q0 0 (v:=.i ((o3 H i).g)) rfl)) ?_;refine U217 ?_;refine L.on rfl ?_;refine L.va (B0 rfl underlying3 rfl (j3.q0 1 (v:=.i ((o3 H i).g)) rfl)) ?_;refine U233 ?_;refine U25 ?_;refine⟨rfl,congrArg Value.bool (by simp),?_⟩;exact A0.upd rfl (A0.upd rfl (A0.upd rfl (A0.upd rfl (A0.upd rfl (A0.upd rfl (A0.upd rfl (A0.refl _ _)))))))
 refine U26 ?_;refine U613 ?_;refine L.va (B0 rfl underlying3 rfl (hB8.q0 0 (v:=.i ((o3 H i).g)) rfl)) ?_;refine L.va (ld0 (κ:=.i64) (m:=(o3 H i).g) (k:=1) rfl rfl) ?_;refine L.va (Z1 (parts:=[(0,.tmp 36)]) rfl (Tn0 (IntKind.i64.wrap ((o3 H i).g+1)))) ?_;refine L.call (n3 rfl rfl rfl func48 rfl Gq0 rfl) (Mw0 (Ly.X i) wb obj _ (IntKind.i64.wrap ((o3 H i).g+1)) false 0 (o3 H i).g (o3 H i).l (o3 H i).v _ (hM.hX i hi) hM.hW) ?_;rintro _ w ⟨G0,hg⟩;have hm:=hm.trans (F1.put (hM.hX i hi) hg (by first|omega|exact hM.leX _ (by omega)|exact hpb) rfl);have hH:=hH.other hg (V0.ne hH (hM.hX i hi) (by decide));have j3:=j3.other hg (V0.ne j3 (hM.hX i hi) (by decide));have hM1:=hM.setNode (d:=⟨IntKind.i64.wrap ((o3 H i).g+1),false,0⟩) hi G0 hg;clear hM G0 hg;obtain⟨H1,hH1⟩:∃H1,H1=H.set ((i:Int)+1) ⟨IntKind.i64.wrap ((o3 H i).g+1),false,0⟩:=⟨_,rfl⟩
 rw[<- hH1]at hM1;have hM:=hM1;clear hM1;have hpn:H1.pool.length=H.pool.length:=by rw[hH1];rfl
 have hpp:H1.pool=H.pool:=by rw[hH1];rfl
 refine U1 ?_;refine U14 ?_;refine U245 ?_;refine L.call (W1 rfl rfl func45 rfl Go0 rfl) ((by have h9:=Er0 pb wb obj 0 Ly.pa H1.pool.length Ly.pc _ hM.hP hM.hW;rw[hpn]at h9;exact h9)) ?_;rintro _ w ⟨rfl,D1⟩;refine U96 ?_;intro hm hH;have hM:=hM.j0 D1;have j3:=j3.j0 D1;refine U92 ?_;refine U41 ?_;refine U643 ?_;refine L.Dx0 (m:=H.pool.length) (c:=H.pool.length+1) rfl rfl underlying23 in3 rfl (by decide) (by omega) (by omega) (by omega) (fun w b50 F50=>?_);have ny1:=hm.size;have mc1:=F50.lq hm.size;have Wl0:=hM.Tk0 (Nat.le_of_eq F50.here.symm);have hm:=hm.step F50.below (Nat.le_trans J5 hm.size);have hH:=hH.j0 F50.below;have hM:=hM.j0 F50.below;have j3:=j3.j0 F50.below;have ac0:=F50.blk;rw[Nat.mul_one,Du0]at ac0;have ab1:B <=b50:=by have:=F50.here;omega
 refine U92 ?_;refine U106 ?_;have I3:=hM.I3;refine L.copy (dl:=H.pool.length) (m:=H.pool.length) (g:=fun j=>.i ((H.pool[j]?).getD 0)) rfl rfl underlying23 c5 ac0 (Nat.le_refl _) (by omega) (hpn▸I3.sl) (fun h=>by rw[<- hpn];exact I3.nil h) (fun j hj=>by have h9:=I3.cell (j:=j) (by rw[hpn];exact hj);rw[hpp]at h9;exact h9) (fun _ _=>rfl) (fun w G0 hg A2=>?_);clear I3;have Y1:=F1.E5 ac0 hg;have hm:=hm.own hg (by have:=F50.here;omega) J5;have hM:=hM.ap1 hg Wl0;have hH:=hH.mod Y1 rfl;have j3:=j3.mod Y1 rfl;have ac0:=G0;clear Y1 G0 hg;refine U253 ?_;refine W.fl 10 [8,9] [0,1,2,3,4,5,6,7,8,9] (fun w'=>V0 w' hp #[.p wb,.i obj,.i most,.p pb,.p Ly.lb] 95/\V0 w' b5 #[.i ((i:Nat)+1),.i ((o3 H i).g)] 82) (by kernel_rfl) (by kernel_rfl) (by kernel_rfl) (by kernel_rfl) (by kernel_rfl) (⟨hH.j0 (Below.refl w.heap.size w).drew,j3.j0 (Below.refl w.heap.size w).drew⟩) ?_;refine U351 ?_;intro Y2 hm hH;have hM:=hM.j0 Y2;have j3:=j3.j0 Y2;have ac0:=ac0.j0 Y2;clear Y2;generalize w.drew=w at *;refine U24 ?_;refine U446 ?_;refine U539 ?_;refine U441 ?_;refine U580 ?_;intro w b62 F62;have md1:=F62.lq hm.size;have hm:=hm.step F62.below (Nat.le_trans J5 hm.size);have hH:=hH.j0 F62.below;have hM:=hM.j0 F62.below;have j3:=j3.j0 F62.below;have ac0:=ac0.j0 F62.below;have St0:=F62.blk;refine L.nil ⟨rfl,⟨hH,j3⟩,?_⟩;refine F.A9 rfl rfl ?_;refine L.oo0 (k:=H.pool.length) (v:=.i ((i:Int)+1)) rfl rfl underlying23 c5 ac0 (St0.q0 0 rfl) rfl (Nat.le_refl _) (Nat.le_refl _) (fun w G0 hg A2=>?_);have Y1:=F1.E5 ac0 hg;have hm:=hm.own hg (by have:=F50.here;omega) J5;have hM:=hM.ap1 hg Wl0;have hH:=hH.mod Y1 rfl;have j3:=j3.mod Y1 rfl;clear St0;have ac0:=G0;clear Y1 G0 hg;refine L.nil ⟨rfl,⟨hH,j3⟩,?_⟩;refine U15 ?_;have hpm:=N1.more (pool:=H.pool) (z:=(i:Int)+1) (V0.Ah0 ac0 (fun j hj=>by by_cases h1:j=H.pool.length <;> simp[h1])) ab1;refine L.call (n3 rfl rfl rfl func47 rfl Rf0 rfl) (We0 pb wb obj 0 (pt b50) (H.pool.length+1) (H.pool.length+1) _ _ _ _ hM.hP hM.hW) ?_;rintro _ w ⟨G0,hg⟩;have hm:=hm.trans (F1.put hM.hP hg (by first|omega|exact hM.leX _ (by omega)|exact hpb) rfl);have hM1:=hM.mn0 (pa:=some ⟨b50,0,none⟩) (pc:=H.pool.length+1) (pool:=H.pool ++ [(i:Int)+1]) (by rw[List.length_append,List.length_singleton];exact G0) hg hpm;clear hM G0 hg hpm;refine U1 ?_;refine U40 ?_;refine U33 ?_;exact⟨_,rfl,by rw[<- hH1];exact hM1,hm⟩
end
section
variable [Ctx prog]
end
section
theorem mo1:prog.stoodInHeld 82=false:=by kernel_rfl
theorem mp1:prog.eqGuardType prog.depth 82=false:=by kernel_rfl
theorem hu1 {ρ:Operand->Value} {w:World} {d:Option Nat} {ty T':TypeId} {ps:String} {af:Array Edge} {g:Option (Nat×Bool)} {x y:Operand} (a b a' b':Int) {r:Bool} (hr:decide (a=a'/\b=b')=r) (hx:ρ x= .agg #[.i a,.i b]) (hy:ρ y= .agg #[.i a',.i b']) :
  Does prog (execOp ρ ⟨d,.binOp .eql 82 x y T',ty,ps,af,g⟩) w (.val (.bool r)) w:=by
 rw[<- hr];exact ng0 hx hy underlying82 ⟨by decide,rfl,rfl⟩ ⟨by decide,rfl,rfl⟩ underlying3 mo1 mp1
theorem Fi0 (x0:Int) (x1:Int):prog.built 82 [(0,.i x0),(1,.i x1)]=some #[.i x0,.i x1]:=by kernel_rfl
end
section
variable [Ctx prog]
theorem hv1 (B hp wb pb:Nat) (Ly:I5) (w:World) (hM:M3 w B hp wb pb 5 1 ⟨[],[]⟩ Ly) (J5:B <=w.heap.size) (hhp:B <=hp) :
  C prog 22 #[.p hp,.pointer none,.i 7] w fun r w'=>∃Ly',r= .tuple #[.agg #[.i 1,.i 1],.i 0]/\M3 w' B hp wb pb 5 1 ⟨[⟨1,true,7⟩],[]⟩ Ly'/\F1 w w' B [95,135,193,97,140]:=Cz0 B hp wb pb 5 1 ⟨[],[]⟩ Ly w hM J5 hhp rfl (by decide) (by decide) 7
theorem aq1 (B hp wb pb:Nat) (Ly:I5) (w:World) (hM:M3 w B hp wb pb 5 1 ⟨[⟨1,true,7⟩],[]⟩ Ly) :
  C prog 23 #[.p hp,.pointer none,.agg #[.i 1,.i 1]] w fun v w'=>v= .tuple #[.i 7,.bool true]/\Below w.heap.size w w':=tb0 B hp wb pb 5 1 ⟨[⟨1,true,7⟩],[]⟩ Ly w hM 0 (by decide) 1
theorem ar1 (B hp wb pb:Nat) (Ly:I5) (w:World) (hM:M3 w B hp wb pb 5 1 ⟨[⟨1,true,7⟩],[]⟩ Ly) (J5:B <=w.heap.size) :
  C prog 22 #[.p hp,.pointer none,.i 8] w fun r w'=>r= .tuple #[.agg #[.i 0,.i 0],.i 5]/\Below w.heap.size w w':=vw0 B hp wb pb 5 1 ⟨[⟨1,true,7⟩],[]⟩ Ly w hM J5 rfl (by decide) 8
theorem as1 (B hp wb pb:Nat) (Ly:I5) (w:World) (hM:M3 w B hp wb pb 5 1 ⟨[⟨1,true,7⟩],[]⟩ Ly) (J5:B <=w.heap.size) (hpb:B <=pb) :
  C prog 24 #[.p hp,.pointer none,.agg #[.i 1,.i 1]] w fun r w'=>∃Ly',r= .bool true/\M3 w' B hp wb pb 5 1 ⟨[⟨2,false,0⟩],[1]⟩ Ly'/\F1 w w' B [95,135,193,97,140]:=Nn0 B hp wb pb 5 1 ⟨[⟨1,true,7⟩],[]⟩ Ly w hM J5 hpb 0 (by decide) (by decide) rfl
theorem at1 (B hp wb pb:Nat) (Ly:I5) (w:World) (hM:M3 w B hp wb pb 5 1 ⟨[⟨2,false,0⟩],[1]⟩ Ly) (J5:B <=w.heap.size) (hpb:B <=pb) :
  C prog 22 #[.p hp,.pointer none,.i 9] w fun r w'=>∃Ly',r= .tuple #[.agg #[.i 1,.i 2],.i 0]/\M3 w' B hp wb pb 5 1 ⟨[⟨2,true,9⟩],[]⟩ Ly'/\F1 w w' B [95,135,193,97,140]:=vv0 B hp wb pb 5 1 ⟨[⟨2,false,0⟩],[1]⟩ Ly w hM J5 hpb [] 0 rfl (by decide) (by decide) 9
theorem au1 (B hp wb pb:Nat) (Ly:I5) (w:World) (hM:M3 w B hp wb pb 5 1 ⟨[⟨2,true,9⟩],[]⟩ Ly) :
  C prog 23 #[.p hp,.pointer none,.agg #[.i 1,.i 1]] w fun v w'=>v= .tuple #[.i 0,.bool false]/\Below w.heap.size w w':=tb0 B hp wb pb 5 1 ⟨[⟨2,true,9⟩],[]⟩ Ly w hM 0 (by decide) 1
theorem av1 (B hp wb pb:Nat) (Ly:I5) (w:World) (hM:M3 w B hp wb pb 5 1 ⟨[⟨2,true,9⟩],[]⟩ Ly) :
  C prog 23 #[.p hp,.pointer none,.agg #[.i 1,.i 2]] w fun v w'=>v= .tuple #[.i 9,.bool true]/\Below w.heap.size w w':=tb0 B hp wb pb 5 1 ⟨[⟨2,true,9⟩],[]⟩ Ly w hM 0 (by decide) 2
set_option maxHeartbeats 1000000 in
theorem No0 (w0:World):C prog 9 #[] w0 fun v w=>v= .bool true/\Below w0.heap.size w0 w:=by
 refine C.enter (n:=108) func9 rfl rfl ?_;obtain⟨Bs,hBe⟩:∃x,x=w0.heap.size:=⟨_,rfl⟩
 have J5:Bs <=w0.heap.size:=Nat.le_of_eq hBe;have hm:F1 w0 w0 Bs [95,135,193,97,140,82]:=F1.refl _ _ _;refine U40 ?_;refine U622 ?_;rintro _ w ⟨wb,rfl,_,hW,D1⟩;have hm:=hm.step D1 (Nat.le_trans J5 hm.size);refine L.call (n3 rfl rfl rfl func7 rfl nm7 rfl) (ta0 Bs wb 5 1 _ (Nat.le_trans J5 hm.size) hW (by decide)) ?_;rintro _ w ⟨hp,pb,Ly,rfl,hM,_,_,D1,hhp,hpb⟩;have hhp:=Nat.le_trans (Nat.le_trans J5 hm.size) hhp;have hpb:=Nat.le_trans (Nat.le_trans J5 hm.size) hpb;have hm:=hm.step D1 (Nat.le_trans J5 hm.size);refine U21 ?_;refine U73 ?_;refine U620 ?_;rintro _ w1 ⟨rfl,hw⟩;refine U573 ?_;refine U244 ?_;refine U607 ?_;refine U26 ?_;refine U3 ?_;refine L.call (n3 rfl rfl rfl func22 rfl Kr0 rfl) (hv1 Bs hp wb pb Ly w hM (Nat.le_trans J5 hm.size) hhp) ?_;rintro _ w ⟨Ly1,rfl,hM1,r9⟩;have hm:=hm.trans (r9.wide rfl);clear r9;have hM:M3 w Bs hp wb pb 5 1 ⟨[⟨1,true,7⟩],[]⟩ Ly1:=hM1;clear hM1;refine U21 ?_;refine L.alloc (cs:=#[.i 0,.i 0]) sb0 rfl (fun w b3 F3=>?_);refine U107 ?_;intro lt3 hm;have hM:=hM.j0 F3.below;have C1:=F3.blk;refine L.pu 0 [.i 1,.i 1] #[.i 1,.i 1] X5 C1 (fun w G0 hg A2=>?_);refine U415 ?_;intro Y1 hm;have hM:=hM.mod Y1 rfl;have C1:=G0;refine U60 ?_;refine U317 ?_;refine L.call (n3 rfl rfl rfl func23 rfl Re0 rfl) (aq1 Bs hp wb pb Ly1 w hM) ?_;rintro _ w ⟨rfl,D1⟩;refine U241 ?_;intro hm hM;have C1:=C1.j0 D1;refine U21 ?_;refine U46 ?_;refine U3 ?_;refine L.call (n3 rfl rfl rfl func22 rfl Kr0 rfl) (ar1 Bs hp wb pb Ly1 w hM (Nat.le_trans J5 hm.size)) ?_;rintro _ w ⟨rfl,D1⟩;refine U241 ?_;intro hm hM;have C1:=C1.j0 D1;refine U21 ?_;refine L.alloc (cs:=#[.i 0,.i 0]) sb0 rfl (fun w b7 F7=>?_);have lt7:=F7.lq hm.size;have aw1:=F7.ne C1;have hm:=hm.step F7.below (Nat.le_trans J5 hm.size);have hM:=hM.j0 F7.below;have C1:=C1.j0 F7.below;have hB7:=F7.blk;refine L.pu 0 [.i 0,.i 0] #[.i 0,.i 0] X5 hB7 (fun w G0 hg A2=>?_);have Y1:=F1.E5 hB7 hg;have hm:=hm.own hg lt7 J5;have hM:=hM.mod Y1 rfl;have C1:=C1.other hg aw1;refine U60 ?_;refine U317 ?_;refine L.call (n3 rfl rfl rfl func24 rfl ek1 rfl) (as1 Bs hp wb pb Ly1 w hM (Nat.le_trans J5 hm.size) hpb) ?_;rintro _ w ⟨Ly2,rfl,hM1,r9⟩;have hm:=hm.trans (r9.wide rfl);have C1:=C1.mod r9 rfl;clear r9;have hM:M3 w Bs hp wb pb 5 1 ⟨[⟨2,false,0⟩],[1]⟩ Ly2:=hM1;clear hM1;refine U12 ?_;refine U3 ?_;refine L.call (n3 rfl rfl rfl func22 rfl Kr0 rfl) (at1 Bs hp wb pb Ly2 w hM (Nat.le_trans J5 hm.size) hpb) ?_;rintro _ w ⟨Ly3,rfl,hM1,r9⟩;have hm:=hm.trans (r9.wide rfl);have C1:=C1.mod r9 rfl;clear r9;have hM:M3 w Bs hp wb pb 5 1 ⟨[⟨2,true,9⟩],[]⟩ Ly3:=hM1;clear hM1;refine U21 ?_;refine L.alloc (cs:=#[.i 0,.i 0]) sb0 rfl (fun w b10 F10=>?_);have Hd0:=F10.lq hm.size;have To0:=F10.ne C1;have hm:=hm.step F10.below (Nat.le_trans J5 hm.size);have C1:=C1.j0 F10.below;have hM:=hM.j0 F10.below;have T5:=F10.blk;refine L.pu 0 [.i 1,.i 2] #[.i 1,.i 2] X5 T5 (fun w G0 hg A2=>?_);have Y1:=F1.E5 T5 hg;have hm:=hm.own hg Hd0 J5;have C1:=C1.other hg To0;have hM:=hM.mod Y1 rfl;have T5:=G0;refine U60 ?_;refine U317 ?_;refine L.call (n3 rfl rfl rfl func23 rfl Re0 rfl) (au1 Bs hp wb pb Ly3 w hM) ?_;rintro _ w ⟨rfl,D1⟩;have hm:=hm.step D1 (Nat.le_trans J5 hm.size);have C1:=C1.j0 D1;have hM:=hM.j0 D1;have T5:=T5.j0 D1;refine U21 ?_;refine U46 ?_;refine U3 ?_;refine L.va (Q0 (cs:=[.i 1,.i 2]) rfl underlying82 rfl X5 rfl (T5.B4 rfl)) ?_;refine L.call (n3 rfl rfl rfl func23 rfl Re0 rfl) (av1 Bs hp wb pb Ly3 w hM) ?_;rintro _ w ⟨rfl,D1⟩;have hm:=hm.step D1 (Nat.le_trans J5 hm.size);have C1:=C1.j0 D1;have T5:=T5.j0 D1;refine U21 ?_;refine U46 ?_;refine U20 ?_;refine L.call (X4 rfl func10 rfl Kq0 rfl) (vs0 _ w) ?_;rintro _ w1 ⟨rfl,hw⟩;refine U10 ?_;refine L.va (A1 (r:=true) (by decide) (S1 (m:=0) (k:=0) rfl rfl)) ?_;refine U23 ?_;refine L.va (Q0 (cs:=[.i 1,.i 1]) rfl underlying82 rfl X5 rfl (C1.B4 rfl)) ?_;refine L.on rfl ?_;refine L.va (Z1 (parts:=[(0,.const (.i 1)),(1,.const (.i 1))]) rfl (Fi0 1 1)) ?_;refine L.on rfl ?_;refine L.va (hu1 1 1 1 1 (r:=true) (by decide) rfl rfl) ?_;refine U380 ?_;refine U65 ?_;refine U27 ?_;refine L.va (A1 (r:=true) (by decide) (S1 (m:=7) (k:=7) rfl rfl)) ?_;refine U65 ?_;refine U140 ?_;rintro _ w1 ⟨rfl,hw⟩;refine U10 ?_;refine L.on rfl ?_;refine L.va (A1 (r:=true) (by decide) (S1 (m:=5) (k:=5) rfl rfl)) ?_;refine U380 ?_;refine U65 ?_;refine U140 ?_;rintro _ w1 ⟨rfl,hw⟩;refine U10 ?_;refine U550 ?_;refine U65 ?_;refine L.va (Q0 (cs:=[.i 1,.i 2]) rfl underlying82 rfl X5 rfl (T5.B4 rfl)) ?_;refine L.on rfl ?_;refine L.va (Z1 (parts:=[(0,.const (.i 1)),(1,.const (.i 2))]) rfl (Fi0 1 2)) ?_;refine L.on rfl ?_;refine L.va (hu1 1 2 1 2 (r:=true) (by decide) rfl rfl) ?_;refine U65 ?_;refine U23 ?_;refine L.va (au0 rfl) ?_;refine U380 ?_;refine U65 ?_;refine U27 ?_;refine L.va (A1 (r:=true) (by decide) (S1 (m:=9) (k:=9) rfl rfl)) ?_;refine U242 ?_;refine U33 ?_;exact⟨rfl,hm.toBelow hBe⟩
end
end Go.Vy.Sc
end
section
namespace Go.Vc
open Go Go.RowKit
end Go.Vc
namespace Go.Vy
open Go Go.Conc Go.Yc Go.RowKit
open Go.Vc
theorem Own.Wm0 {w:World} {B s n c b:Nat} {E T:TypeId} {a:Option Addr} {xs:List Value} {cs:Array Value} {f:Nat×Nat} (h:Own w B E s a n c xs) (hb:X1 w b cs T f) (C3:E≠T):a≠none->ab a≠b:=fun ha=>by
 obtain⟨cur,hc,_⟩:=h.row ha;have hc:X1 w (ab a) cur E (0,0):=hc;exact hc.ne hb C3
end Go.Vy
end
section
namespace Go.Vy
open Go Go.Conc Go.Yc Go.RowKit
open Go.Vc
section
variable {P:Program}
theorem jx0 {t:TypeId} {fs:Array Field} {s off:Nat} {cs:Array Value} (hT:P.underlying t=some (.struct fs)) (hs:(P.info? t).map (·.size)=some s) (w:World):(part t cs off).run P w= .ok (.agg (cs.extract off (off+s))) w:=by
 have h0:cp0 (.struct fs)=false:=rfl;simp[part,Go.Vc.cq0 hT,Go.Vc.run_sizeOf hs,h0]
theorem jy0 {d:Nat} {xs:Array Value} (w:World):(Op.eqFields d xs xs []).run P w= .ok true w:=rfl
theorem V5 {d:Nat} {xs:Array Value} {f:Field} {fs:List Field} {v:Value} (hn:f.name≠ "_") (hp:∀w,(part f.type xs f.offset).run P w= .ok v w) (he:∀w,(Op.equalIn d f.type v v).run P w= .ok true w) (hr:∀w,(Op.eqFields d xs xs fs).run P w= .ok true w) (w:World):(Op.eqFields d xs xs (f::fs)).run P w= .ok true w:=by
 simp[Op.eqFields,hn,hp,he,hr]
theorem eq_int {d:Nat} {t:TypeId} {κ κ':IntKind} {a:Int} (h:P.underlying t=some (.int κ')) (w:World):(Op.equalIn (d+1) t (.int κ a) (.int κ a)).run P w= .ok true w:=by
 rw[run_equalIn_int w d t κ κ' a a h];simp
theorem Tp0 {d:Nat} {t:TypeId} {a:Bool} (h:P.underlying t=some .bool) (w:World):(Op.equalIn (d+1) t (.bool a) (.bool a)).run P w= .ok true w:=by
 rw[run_equalIn_bool' w d t a a h];simp
theorem ax1 {d:Nat} {t:TypeId} {a:ByteArray} (h:P.underlying t=some .string) (w:World):(Op.equalIn (d+1) t (.string a) (.string a)).run P w= .ok true w:=by
 rw[run_equalIn_string w d t a a h];simp
theorem df0 {d:Nat} {t:TypeId} {xs:Array Value} {fs:Array Field} (ht:P.underlying t=some (.struct fs)) (hp:P.stoodInHeld t=false) (h:∀w,(Op.eqFields d xs xs fs.toList).run P w= .ok true w) (w:World):(Op.equalIn (d+1) t (.agg xs) (.agg xs)).run P w= .ok true w:=by
 have hf:P.fieldsOf t=fs:=by unfold Program.fieldsOf;rw[ht]
 rw[run_equalIn_struct w d t xs xs (by rw[hf];exact ht) hp,hf];exact h w
end
section
variable {P:Program}{ρ:Operand->Value}{w:World}{d:Option Nat}{ty:TypeId}{ps:String}{af:Array Edge}{g:Option (Nat×Bool)}{x y:Operand}{T T':TypeId}
theorem fu0 {cs:Array Value} (hx:ρ x= .agg cs) (hy:ρ y= .agg cs) (he:∀w,(Op.equalIn (9999+1) T (.agg cs) (.agg cs)).run P w= .ok true w) (hg:P.eqGuardType P.depth T=false) (hb:∀c∈cs,B5 c=true) :
  Does P (execOp ρ ⟨d,.binOp .neq T x y T',ty,ps,af,g⟩) w (.val (.bool false)) w :=
 .j1 (Jp0 hg hb hx hy) rfl rfl fun τ d=>by
  simp only[execOp,hx,hy,Sem.run_bind,run_eqGuard_agg (P:=P) (w:=P2 w τ d) .neq T x y _ _ hg,Result.andThen_ok,run_neq_struct];rw[he];rfl
theorem pn0 {a:Bool} (hx:ρ x= .bool a) (hy:ρ y= .bool a) (hT:P.underlying T=some .bool):Does P (execOp ρ ⟨d,.binOp .neq T x y T',ty,ps,af,g⟩) w (.val (.bool false)) w:=by
 have h1:∀w:World,(binOp .neq T (.bool a) (.bool a)).run P w= .ok (.bool false) w:=fun w=>by
  have h2:=run_equal_bool (P:=P) w T a a hT;simp[binOp,h2]
 have h3:E1 P (binOp .neq T (.bool a) (.bool a)):=mi0 (m9 (n:=9999) rfl) rfl;refine .j1 (aj0 hx hy (dp0 (fun _ h=>by cases h) (fun h=>by cases h)) h3) rfl rfl fun τ d=>?_;have h2:∀w:World,(eqGuard .neq T x y (.bool a) (.bool a)).run P w= .ok () w:=fun w=>by simp[eqGuard]
 simp only[execOp,hx,hy,Sem.run_bind,h2,h1,Result.andThen_ok];rfl
end
end Go.Vy
end
section
namespace Go.Vy.Sc
open Go Go.Conc Go.Yc Go.RowKit Go.Proofs Go.Proofs.Ytgadhljgilblbaa Try
open Go.Vc Go.Wg
theorem D4.Tq0 {B j:Nat} {x:Int} {w:World} {R:Rn} (h:D4 w B R) (hj:R.ends[j]? =some x):w.cell? ⟨R.eb,j,none⟩=some (.i x):=by
 have h1:V0 w R.eb (R.ends.map (Value.int .i64)).toArray 3:=h.ends;exact h1.q0 j (by simp[hj])
theorem D4.ay1 {B j k:Nat} {x:Stp} {v:Value} {w:World} {R:Rn} (h:D4 w B R) (hj:R.I4[j]? =some x) (hv:(spC x)[k]? =some v):w.cell? ⟨R.wb,j*3+k,none⟩=some v:=by
 have h1:V0 w R.wb (R.I4.flatMap spC).toArray 77:=h.I4;refine h1.q0 (j*3+k) ?_;rw[List.getElem?_toArray];have hkl:k<3:=(List.getElem?_eq_some_iff.1 hv).1;have key:∀(l:List Stp) (j:Nat),l[j]? =some x->(l.flatMap spC)[j*3+k]? =some v:=by
  intro l
  induction l with
  |nil=>intro j h;cases h
  |cons a l ih=>
   intro j h;cases j with
   |zero=>
    cases h;rw[List.flatMap_cons,List.getElem?_append_left (by simpa [spC]using hkl)];simpa using hv
   |succ j=>
    rw[List.flatMap_cons,List.getElem?_append_right (by simp[spC];omega)];have:(j+1)*3+k-(spC a).length=j*3+k:=by simp[spC];omega
    rw[this];exact ih j (by simpa using h)
 exact key _ _ hj
theorem D4.az1 {B i k:Nat} {x:Nat×Stp} {v:Value} {w:World} {R:Rn} (h:D4 w B R) (hi:R.evs[i]? =some x) (hv:(evC x)[k]? =some v):w.cell? ⟨ab R.ea,ao R.ea+i*4+k,none⟩=some v:=by
 have hkl:k<4:=(List.getElem?_eq_some_iff.1 hv).1;have key:∀(l:List (Nat×Stp)) (i:Nat),l[i]? =some x->(l.flatMap evC)[i*4+k]? =some v:=by
  intro l
  induction l with
  |nil=>intro i h;cases h
  |cons a l ih=>
   intro i h;cases i with
   |zero=>
    cases h;rw[List.flatMap_cons,List.getElem?_append_left (by simpa [evC]using hkl)];simpa using hv
   |succ i=>
    rw[List.flatMap_cons,List.getElem?_append_right (by simp[evC];omega)];have:(i+1)*4+k-(evC a).length=i*4+k:=by simp[evC];omega
    rw[this];exact ih i (by simpa using h)
 rw[h.evs.off,Nat.zero_add];exact h.evs.cell (key _ _ hi)
structure dg0 (w:World) (ea na za wa:Option Addr) (m:Nat) (evs:List (Nat×Stp)) (j2:List (Nat×Nat×Nte)) (ends:List Int) (I4:List Stp):Prop where
 esl:SL ea evs.length
 nsl:SL na j2.length
 zsl:SL za m
 wsl:SL wa m
 hz:ends.length=m
 hw:I4.length=m
 ev:∀(i:Nat) x (k:Nat) v,evs[i]? =some x->(evC x)[k]? =some v->w.cell? ⟨ab ea,ao ea+i*4+k,none⟩=some v
 nt:∀(i:Nat) x (k:Nat) v,j2[i]? =some x->(ntC x)[k]? =some v->w.cell? ⟨ab na,ao na+i*4+k,none⟩=some v
 en:∀(i:Nat) (x:Int),ends[i]? =some x->w.cell? ⟨ab za,ao za+i*1,none⟩=some (.i x)
 wt:∀(i:Nat) x (k:Nat) v,I4[i]? =some x->(spC x)[k]? =some v->w.cell? ⟨ab wa,ao wa+i*3+k,none⟩=some v
section
variable {w w':World}{ea na za wa:Option Addr}{m B:Nat}{evs:List (Nat×Stp)}{j2:List (Nat×Nat×Nte)}{ends:List Int}{I4:List Stp}{R:Rn}
theorem dg0.j0 (h:dg0 w ea na za wa m evs j2 ends I4) (hb:Below w.heap.size w w'):dg0 w' ea na za wa m evs j2 ends I4 :=
 ⟨h.esl,h.nsl,h.zsl,h.wsl,h.hz,h.hw,fun i x k v h1 h2=>y4 (h.ev i x k v h1 h2) hb,fun i x k v h1 h2=>y4 (h.nt i x k v h1 h2) hb,fun i x h1=>y4 (h.en i x h1) hb,fun i x k v h1 h2=>y4 (h.wt i x k v h1 h2) hb⟩
theorem D4.ba1 {i k:Nat} {x:Nat×Nat×Nte} {v:Value} (h:D4 w B R) (hi:R.j2[i]? =some x) (hv:(ntC x)[k]? =some v):w.cell? ⟨ab R.na,ao R.na+i*4+k,none⟩=some v:=by
 have hkl:k<4:=(List.getElem?_eq_some_iff.1 hv).1;have key:∀(l:List (Nat×Nat×Nte)) (i:Nat),l[i]? =some x->(l.flatMap ntC)[i*4+k]? =some v:=by
  intro l
  induction l with
  |nil=>intro i h;cases h
  |cons a l ih=>
   intro i h;cases i with
   |zero=>
    cases h;rw[List.flatMap_cons,List.getElem?_append_left (by simpa [ntC]using hkl)];simpa using hv
   |succ i=>
    rw[List.flatMap_cons,List.getElem?_append_right (by simp[ntC];omega)];have:(i+1)*4+k-(ntC a).length=i*4+k:=by simp[ntC];omega
    rw[this];exact ih i (by simpa using h)
 rw[h.j2.off,Nat.zero_add];exact h.j2.cell (key _ _ hi)
theorem D4.Np0 (h:D4 w B R):dg0 w R.ea R.na (pt R.eb) (pt R.wb) R.m R.evs R.j2 R.ends R.I4:=by
 refine⟨h.evs.sl,h.j2.sl,SL.mk _ _ _,SL.mk _ _ _,h.eo0,h.jf0,fun i x k v h1 h2=>h.az1 h1 h2,fun i x k v h1 h2=>h.ba1 h1 h2,fun i x h1=>?_,fun i x k v h1 h2=>?_⟩
 ·show w.cell? ⟨R.eb,0+i*1,none⟩=_;rw[Nat.zero_add,Nat.mul_one];exact h.Tq0 h1
 ·show w.cell? ⟨R.wb,0+i*3+k,none⟩=_;rw[Nat.zero_add];exact h.ay1 h1 h2
end
theorem ck0 {d:Nat} {a:Int} (w:World):(Op.equalIn (d+1) 3 (.i a) (.i a)).run prog w= .ok true w:=eq_int underlying3 w
theorem n8:prog.plainKey 3=true:=by kernel_rfl
theorem Nq0:prog.plainKey 9=true:=by kernel_rfl
theorem Wn0 (d:Nat) (a b c:Int) (w:World):(Op.equalIn (d+2) 77 (.agg #[.i a,.i b,.i c]) (.agg #[.i a,.i b,.i c])).run prog w= .ok true w :=
 df0 underlying77 (by kernel_rfl) (V5 (by decide) (fun w=>run_part_plain w n8 rfl) ck0 (V5 (by decide) (fun w=>run_part_plain w n8 rfl) ck0 (V5 (by decide) (fun w=>run_part_plain w n8 rfl) ck0 jy0))) w
theorem mq1 (d:Nat) (a b c e:Int) (w:World):(Op.equalIn (d+3) 79 (.agg #[.i a,.i b,.i c,.i e]) (.agg #[.i a,.i b,.i c,.i e])).run prog w= .ok true w :=
 df0 underlying79 (by kernel_rfl) (V5 (by decide) (fun w=>run_part_plain w n8 rfl) ck0 (V5 (v:=.agg #[.i b,.i c,.i e]) (by decide) (fun w=>jx0 underlying77 k8 w) (Wn0 d b c e) jy0)) w
theorem mr1 (d:Nat) (a b c:Int) (s:ByteArray) (w:World):(Op.equalIn (d+2) 120 (.agg #[.i a,.i b,.i c,.string s]) (.agg #[.i a,.i b,.i c,.string s])).run prog w= .ok true w :=
 df0 underlying120 (by kernel_rfl) (V5 (by decide) (fun w=>run_part_plain w n8 rfl) ck0 (V5 (by decide) (fun w=>run_part_plain w n8 rfl) ck0 (V5 (by decide) (fun w=>run_part_plain w n8 rfl) ck0 (V5 (by decide) (fun w=>run_part_plain w Nq0 rfl) (ax1 underlying9) jy0)))) w
theorem Tr0 {a b c:Value} (h:B5 a=true/\B5 b=true/\B5 c=true):∀x∈#[a,b,c],B5 x=true:=fun x hx=>by
 simp at hx;rcases hx with rfl|rfl|rfl
 ·exact h.1
 ·exact h.2.1
 ·exact h.2.2
theorem Fj0 {a b c d:Value} (h:B5 a=true/\B5 b=true/\B5 c=true/\B5 d=true):∀x∈#[a,b,c,d],B5 x=true:=fun x hx=>by
 simp at hx;rcases hx with rfl|rfl|rfl|rfl
 ·exact h.1
 ·exact h.2.1
 ·exact h.2.2.1
 ·exact h.2.2.2
section
variable [Ctx prog]
set_option maxHeartbeats 1000000 in
theorem bb1 {m:Nat} {evs:List (Nat×Stp)} {j2:List (Nat×Nat×Nte)} {ens:List Int} {I4:List Stp} {ea na za wa ea' na' za' wa':Option Addr} {ec nc zc wc ec' nc' zc' wc':Nat} {st:Bool} {us:Int} (w0:World) (hl:evs.length <=1000000000000/\j2.length <=1000000000000/\m <=1000000000000) (h1:dg0 w0 ea na za wa m evs j2 ens I4) (h2:dg0 w0 ea' na' za' wa' m evs j2 ens I4) :
  C prog 13 #[.agg #[.slice ea evs.length ec,.slice na j2.length nc,.slice za m zc,.slice wa m wc,.bool st,.i us],.agg #[.slice ea' evs.length ec',.slice na' j2.length nc',.slice za' m zc',.slice wa' m wc',.bool st,.i us]] w0 fun v w=>v= .bool true/\Below w0.heap.size w0 w:=by
 refine C.enter (n:=123) func13 rfl rfl ?_;refine U7 ?_;intro hb;refine L.box (cs:=#[.slice ea evs.length ec,.slice na j2.length nc,.slice za m zc,.slice wa m wc,.bool st,.i us]) rfl rfl (fun w b2 F2=>?_);refine U119 ?_;intro lt2 hb;have h1:=h1.j0 F2.below;have h2:=h2.j0 F2.below;have hB2:=F2.blk;refine L.box (cs:=#[.slice ea' evs.length ec',.slice na' j2.length nc',.slice za' m zc',.slice wa' m wc',.bool st,.i us]) rfl rfl (fun w b3 F3=>?_);refine U63 ?_;intro lt3 hb;have h1:=h1.j0 F3.below;have h2:=h2.j0 F3.below;have hB2:=hB2.j0 F3.below;have C1:=F3.blk;refine U12 ?_;refine U17 ?_;refine U480 ?_;refine L.va (V4 rfl underlying36 rfl) ?_;refine L.va (E0 rfl underlying40 rfl pj0 (by decide)) ?_;refine L.va (B0 rfl underlying36 rfl (C1.q0 0 (v:=.slice ea' evs.length ec') rfl)) ?_;refine L.va (V4 rfl underlying36 rfl) ?_;refine L.va (A1 (r:=false) (decide_eq_false (fun h=>h rfl)) (ad0 (m:=(evs.length:Int)) (k:=(evs.length:Int)) rfl rfl)) ?_;refine U23 ?_;refine U596 ?_;refine L.va (B0 rfl underlying37 rfl (hB2.q0 1 (v:=.slice na j2.length nc) rfl)) ?_;refine U635 ?_;refine L.on rfl ?_;refine U596 ?_;refine L.va (B0 rfl underlying37 rfl (C1.q0 1 (v:=.slice na' j2.length nc') rfl)) ?_;refine U635 ?_;refine L.on rfl ?_;refine L.va (A1 (r:=false) (decide_eq_false (fun h=>h rfl)) (ad0 (m:=(j2.length:Int)) (k:=(j2.length:Int)) rfl rfl)) ?_;refine L.va (O6 rfl) ?_;refine U23 ?_;refine U334 ?_;refine L.va (B0 rfl underlying23 rfl (hB2.q0 2 (v:=.slice za m zc) rfl)) ?_;refine L.on rfl ?_;refine U227 ?_;refine U334 ?_;refine L.va (B0 rfl underlying23 rfl (C1.q0 2 (v:=.slice za' m zc') rfl)) ?_;refine L.on rfl ?_;refine U227 ?_;refine U491 ?_;refine U23 ?_;refine U597 ?_;refine L.va (B0 rfl underlying38 rfl (hB2.q0 3 (v:=.slice wa m wc) rfl)) ?_;refine U636 ?_;refine L.on rfl ?_;refine U597 ?_;refine L.va (B0 rfl underlying38 rfl (C1.q0 3 (v:=.slice wa' m wc') rfl)) ?_;refine U636 ?_;refine L.on rfl ?_;refine U491 ?_;refine U23 ?_;refine U599 ?_;refine L.va (B0 rfl underlying4 rfl (hB2.q0 4 (v:=.bool st) rfl)) ?_;refine L.on rfl ?_;refine U599 ?_;refine L.va (B0 rfl underlying4 rfl (C1.q0 4 (v:=.bool st) rfl)) ?_;refine L.on rfl ?_;refine L.va (pn0 rfl rfl underlying4) ?_;refine L.va (O6 rfl) ?_;refine U23 ?_;refine U335 ?_;refine L.va (B0 rfl underlying3 rfl (hB2.q0 5 (v:=.i us) rfl)) ?_;refine L.on rfl ?_;refine U335 ?_;refine L.va (B0 rfl underlying3 rfl (C1.q0 5 (v:=.i us) rfl)) ?_;refine L.on rfl ?_;refine L.va (A1 (r:=false) (decide_eq_false (fun h=>h rfl)) (ad0 (m:=(us:Int)) (k:=(us:Int)) rfl rfl)) ?_;refine L.va (O6 rfl) ?_;refine U26 ?_;refine U57 ?_;refine W.loop (fun k e w=>∃(i:Nat),k=evs.length-i/\e 2= .p b2/\e 3= .p b3/\e 5= .i (i:Int)/\i <=evs.length/\dg0 w ea na za wa m evs j2 ens I4/\dg0 w ea' na' za' wa' m evs j2 ens I4/\V0 w b2 #[.slice ea evs.length ec,.slice na j2.length nc,.slice za m zc,.slice wa m wc,.bool st,.i us] 40/\V0 w b3 #[.slice ea' evs.length ec',.slice na' j2.length nc',.slice za' m zc',.slice wa' m wc',.bool st,.i us] 40/\Below w0.heap.size w0 w) _ ⟨0,rfl,rfl,rfl,rfl,Nat.zero_le _,h1,h2,hB2,C1,hb⟩ ?_;rintro k e w ⟨i,hk,s2,s3,s5,hi,h1,h2,hB2,C1,hb⟩;rw[L0 s2,L0 s3,L0 s5];clear s2 s3 s5;refine U18 ?_;refine U480 ?_;refine L.va (V4 rfl underlying36 rfl) ?_;refine U29 ?_;refine W.y6 rfl (fun h60=>?_) (fun h60=>?_)
 ·have D2:i<evs.length:=by omega
  obtain⟨x,hx⟩:∃x,evs[i]? =some x:=⟨_,List.getElem?_eq_getElem D2⟩
  refine U269 ?_;refine D.va (fun w' J0=>(E0 rfl underlying40 rfl pj0 (by decide))) ?_;refine D.va (fun w' J0=>(B0 rfl underlying36 rfl ((hB2.j0 J0).q0 0 (v:=.slice ea evs.length ec) rfl))) ?_;refine D.va (fun w' J0=>(K2 rfl)) ?_;refine D.va (fun w' J0=>(u4 (i:=i) rfl rfl underlying36 Gn0 h1.esl D2)) ?_;refine D.va (fun w' J0=>(Q0 (cs:=[.i (x.1:Int),.i x.2.kind,.i x.2.obj,.i x.2.num]) rfl underlying79 rfl Gn0 rfl (fun j v hv=>(h1.j0 J0).ev i x j v hx hv))) ?_;refine D.va (fun w' J0=>(E0 rfl underlying40 rfl pj0 (by decide))) ?_;refine D.va (fun w' J0=>(B0 rfl underlying36 rfl ((C1.j0 J0).q0 0 (v:=.slice ea' evs.length ec') rfl))) ?_;refine D.va (fun w' J0=>(K2 rfl)) ?_;refine D.va (fun w' J0=>(u4 (i:=i) rfl rfl underlying36 Gn0 h2.esl D2)) ?_;refine D.va (fun w' J0=>(Q0 (cs:=[.i (x.1:Int),.i x.2.kind,.i x.2.obj,.i x.2.num]) rfl underlying79 rfl Gn0 rfl (fun j v hv=>(h2.j0 J0).ev i x j v hx hv))) ?_;refine D.va (fun w' J0=>(fu0 rfl rfl (mq1 9997 _ _ _ _) (by kernel_rfl) (Fj0 ⟨rfl,rfl,rfl,rfl⟩))) ?_;refine U30 ?_;intro w D1 hb;have h1:=h1.j0 D1;have h2:=h2.j0 D1;have hB2:=hB2.j0 D1;have C1:=C1.j0 D1;refine U167 ?_;exact U323
 ·refine W.exit ?_;refine U38 ?_;refine U57 ?_;refine W.loop (fun k e w=>∃(i:Nat),k=j2.length-i/\e 2= .p b2/\e 3= .p b3/\e 6= .i (i:Int)/\i <=j2.length/\dg0 w ea na za wa m evs j2 ens I4/\dg0 w ea' na' za' wa' m evs j2 ens I4/\V0 w b2 #[.slice ea evs.length ec,.slice na j2.length nc,.slice za m zc,.slice wa m wc,.bool st,.i us] 40/\V0 w b3 #[.slice ea' evs.length ec',.slice na' j2.length nc',.slice za' m zc',.slice wa' m wc',.bool st,.i us] 40/\Below w0.heap.size w0 w) _ ⟨0,rfl,rfl,rfl,rfl,Nat.zero_le _,h1,h2,hB2,C1,hb⟩ ?_;rintro k e w ⟨i,hk,s2,s3,s6,hi,h1,h2,hB2,C1,hb⟩;rw[L0 s2,L0 s3,L0 s6];clear s2 s3 s6;refine U18 ?_;refine L.va (E0 rfl underlying40 rfl Rc0 (by decide)) ?_;refine L.va (B0 rfl underlying37 rfl (hB2.q0 1 (v:=.slice na j2.length nc) rfl)) ?_;refine L.va (V4 rfl underlying37 rfl) ?_;refine U29 ?_;refine W.y6 rfl (fun h78=>?_) (fun h78=>?_)
  ·have D2:i<j2.length:=by omega
   obtain⟨x,hx⟩:∃x,j2[i]? =some x:=⟨_,List.getElem?_eq_getElem D2⟩
   refine U269 ?_;refine D.va (fun w' J0=>(E0 rfl underlying40 rfl Rc0 (by decide))) ?_;refine D.va (fun w' J0=>(B0 rfl underlying37 rfl ((hB2.j0 J0).q0 1 (v:=.slice na j2.length nc) rfl))) ?_;refine D.va (fun w' J0=>(K2 rfl)) ?_;refine D.va (fun w' J0=>(u4 (i:=i) rfl rfl underlying37 Ef0 h1.nsl D2)) ?_;refine D.va (fun w' J0=>(Q0 (cs:=[.i (x.1:Int),.i (x.2.1:Int),.i x.2.2.kind,.string x.2.2.text]) rfl underlying120 rfl Ef0 rfl (fun j v hv=>(h1.j0 J0).nt i x j v hx hv))) ?_;refine D.va (fun w' J0=>(E0 rfl underlying40 rfl Rc0 (by decide))) ?_;refine D.va (fun w' J0=>(B0 rfl underlying37 rfl ((C1.j0 J0).q0 1 (v:=.slice na' j2.length nc') rfl))) ?_;refine D.va (fun w' J0=>(K2 rfl)) ?_;refine D.va (fun w' J0=>(u4 (i:=i) rfl rfl underlying37 Ef0 h2.nsl D2)) ?_;refine D.va (fun w' J0=>(Q0 (cs:=[.i (x.1:Int),.i (x.2.1:Int),.i x.2.2.kind,.string x.2.2.text]) rfl underlying120 rfl Ef0 rfl (fun j v hv=>(h2.j0 J0).nt i x j v hx hv))) ?_;refine D.va (fun w' J0=>(fu0 rfl rfl (mr1 9998 _ _ _ _) (by kernel_rfl) (Fj0 ⟨rfl,rfl,rfl,rfl⟩))) ?_;refine U30 ?_;intro w D1 hb;have h1:=h1.j0 D1;have h2:=h2.j0 D1;have hB2:=hB2.j0 D1;have C1:=C1.j0 D1;refine U167 ?_;exact U323
  ·refine W.exit ?_;refine U38 ?_;refine U57 ?_;refine W.loop (fun k e w=>∃(i:Nat),k=m-i/\e 2= .p b2/\e 3= .p b3/\e 7= .i (i:Int)/\i <=m/\dg0 w ea na za wa m evs j2 ens I4/\dg0 w ea' na' za' wa' m evs j2 ens I4/\V0 w b2 #[.slice ea evs.length ec,.slice na j2.length nc,.slice za m zc,.slice wa m wc,.bool st,.i us] 40/\V0 w b3 #[.slice ea' evs.length ec',.slice na' j2.length nc',.slice za' m zc',.slice wa' m wc',.bool st,.i us] 40/\Below w0.heap.size w0 w) _ ⟨0,rfl,rfl,rfl,rfl,Nat.zero_le _,h1,h2,hB2,C1,hb⟩ ?_;rintro k e w ⟨i,hk,s2,s3,s7,hi,h1,h2,hB2,C1,hb⟩;rw[L0 s2,L0 s3,L0 s7];clear s2 s3 s7;refine U18 ?_;refine L.va (E0 rfl underlying40 rfl O8 (by decide)) ?_;refine L.va (B0 rfl underlying23 rfl (hB2.q0 2 (v:=.slice za m zc) rfl)) ?_;refine L.va (V4 rfl underlying23 rfl) ?_;refine U29 ?_;refine W.y6 rfl (fun h96=>?_) (fun h96=>?_)
   ·have D2:i<m:=by omega
    obtain⟨x,hx⟩:∃x,ens[i]? =some x:=⟨_,List.getElem?_eq_getElem (by rw[h1.hz];exact D2)⟩
    obtain⟨y,hy⟩:∃y,I4[i]? =some y:=⟨_,List.getElem?_eq_getElem (by rw[h1.hw];exact D2)⟩
    refine U269 ?_;refine D.va (fun w' J0=>(E0 rfl underlying40 rfl O8 (by decide))) ?_;refine D.va (fun w' J0=>(B0 rfl underlying23 rfl ((hB2.j0 J0).q0 2 (v:=.slice za m zc) rfl))) ?_;refine D.va (fun w' J0=>(K2 rfl)) ?_;refine D.va (fun w' J0=>(u4 (i:=i) rfl rfl underlying23 c5 h1.zsl D2)) ?_;refine D.va (fun w' J0=>(B0 (v:=.i x) rfl underlying3 rfl ((h1.j0 J0).en i x hx))) ?_;refine D.va (fun w' J0=>(E0 rfl underlying40 rfl O8 (by decide))) ?_;refine D.va (fun w' J0=>(B0 rfl underlying23 rfl ((C1.j0 J0).q0 2 (v:=.slice za' m zc') rfl))) ?_;refine D.va (fun w' J0=>(K2 rfl)) ?_;refine D.va (fun w' J0=>(u4 (i:=i) rfl rfl underlying23 c5 h2.zsl D2)) ?_;refine D.va (fun w' J0=>(B0 (v:=.i x) rfl underlying3 rfl ((h2.j0 J0).en i x hx))) ?_;refine D.va (fun w' J0=>(A1 (r:=false) (decide_eq_false (fun h=>h rfl)) (ad0 (m:=(x:Int)) (k:=(x:Int)) rfl rfl))) ?_;refine U103 ?_;refine U540 ?_;refine D.va (fun w' J0=>(B0 rfl underlying38 rfl ((hB2.j0 J0).q0 3 (v:=.slice wa m wc) rfl))) ?_;refine U389 ?_;refine D.va (fun w' J0=>(u4 (i:=i) rfl rfl underlying38 k8 h1.wsl D2)) ?_;refine D.on rfl ?_;refine D.va (fun w' J0=>(Q0 (cs:=[.i y.kind,.i y.obj,.i y.num]) rfl underlying77 rfl k8 rfl (fun j v hv=>(h1.j0 J0).wt i y j v hy hv))) ?_;refine D.on rfl ?_;refine U540 ?_;refine D.va (fun w' J0=>(B0 rfl underlying38 rfl ((C1.j0 J0).q0 3 (v:=.slice wa' m wc') rfl))) ?_;refine U389 ?_;refine D.va (fun w' J0=>(u4 (i:=i) rfl rfl underlying38 k8 h2.wsl D2)) ?_;refine D.on rfl ?_;refine D.va (fun w' J0=>(Q0 (cs:=[.i y.kind,.i y.obj,.i y.num]) rfl underlying77 rfl k8 rfl (fun j v hv=>(h2.j0 J0).wt i y j v hy hv))) ?_;refine D.on rfl ?_;refine D.va (fun w' J0=>(fu0 rfl rfl (Wn0 9998 _ _ _) (by kernel_rfl) (Tr0 ⟨rfl,rfl,rfl⟩))) ?_;refine D.va (fun w' J0=>(O6 rfl)) ?_;refine U30 ?_;intro w D1 hb;have h1:=h1.j0 D1;have h2:=h2.j0 D1;have hB2:=hB2.j0 D1;have C1:=C1.j0 D1;refine U167 ?_;exact U323
   ·refine W.exit ?_;refine U38 ?_;refine U40 ?_;exact U31
end
structure ei0 (w:World) (a:Option Addr) (l:List jv0):Prop where
 sl:SL a l.length
 cell:∀(i:Nat) (x:jv0),l[i]? =some x->∀(k:Nat) (v:Value),(k9 x)[k]? =some v->w.cell? ⟨ab a,ao a+i*5+k,none⟩=some v
theorem ei0.j0 {w w':World} {a:Option Addr} {l:List jv0} (h:ei0 w a l) (hb:Below w.heap.size w w'):ei0 w' a l:=⟨h.sl,fun i x hx k v hv=>y4 (h.cell i x hx k v hv) hb⟩
theorem ei0.own {w:World} {B c:Nat} {E:TypeId} {a:Option Addr} {l:List jv0} (h:Own w B E 5 a l.length c (l.flatMap k9)):ei0 w a l:=⟨h.sl,fun i x hx k v hv=>by
 rw[h.off,Nat.zero_add];exact h.cell (D9 k9 5 (fun _=>rfl) l i x k v hx hv)⟩
theorem Nr0:prog.plainKey 2=true:=by kernel_rfl
theorem Hm0:prog.plainKey 4=true:=by kernel_rfl
theorem hy1 {d:Nat} {a:Int} (w:World):(Op.equalIn (d+1) 2 (.i a) (.i a)).run prog w= .ok true w:=eq_int underlying2 w
theorem ia1 (d:Nat) (a b:Int) (w:World):(Op.equalIn (d+2) 82 (.agg #[.i a,.i b]) (.agg #[.i a,.i b])).run prog w= .ok true w :=
 df0 underlying82 (by kernel_rfl) (V5 (by decide) (fun w=>run_part_plain w n8 rfl) ck0 (V5 (by decide) (fun w=>run_part_plain w n8 rfl) ck0 jy0)) w
theorem ib1 (d:Nat) (a b c e:Int) (o:Bool) (w:World):(Op.equalIn (d+3) 122 (.agg #[.i a,.i b,.i c,.i e,.bool o]) (.agg #[.i a,.i b,.i c,.i e,.bool o])).run prog w= .ok true w :=
 df0 underlying122 (by kernel_rfl) (V5 (v:=.agg #[.i a,.i b]) (by decide) (fun w=>jx0 underlying82 X5 w) (ia1 d a b) (V5 (by decide) (fun w=>run_part_plain w n8 rfl) ck0 (V5 (by decide) (fun w=>run_part_plain w Nr0 rfl) hy1 (V5 (by decide) (fun w=>run_part_plain w Hm0 rfl) (Tp0 underlying4) jy0)))) w
theorem Ts0 {a b c d f:Value} (h:B5 a=true/\B5 b=true/\B5 c=true/\B5 d=true/\B5 f=true):∀x∈#[a,b,c,d,f],B5 x=true:=fun x hx=>by
 simp at hx;rcases hx with rfl|rfl|rfl|rfl|rfl
 ·exact h.1
 ·exact h.2.1
 ·exact h.2.2.1
 ·exact h.2.2.2.1
 ·exact h.2.2.2.2
section
variable [Ctx prog]
theorem Hn0 {l:List jv0} {a a':Option Addr} {c c':Nat} (w0:World) (hl:l.length <=1000000000000) (h1:ei0 w0 a l) (h2:ei0 w0 a' l) :
  C prog 14 #[.slice a l.length c,.slice a' l.length c'] w0 fun v w=>v= .bool true/\Below w0.heap.size w0 w:=by
 refine C.enter (n:=26) func14 rfl rfl ?_;refine U7 ?_;intro hb;refine U12 ?_;refine U17 ?_;refine U341 ?_;refine U341 ?_;refine L.va (A1 (r:=false) (decide_eq_false (fun h=>h rfl)) (ad0 (m:=(l.length:Int)) (k:=(l.length:Int)) rfl rfl)) ?_;refine U26 ?_;refine U57 ?_;refine W.loop (fun k e w=>∃(i:Nat),k=l.length-i/\e 0= .slice a l.length c/\e 1= .slice a' l.length c'/\e 5= .i (i:Int)/\i <=l.length/\ei0 w a l/\ei0 w a' l/\Below w0.heap.size w0 w) _ ⟨0,rfl,rfl,rfl,rfl,Nat.zero_le _,h1,h2,hb⟩ ?_;rintro k e w ⟨i,hk,s0,s1,s5,hi,h1,h2,hb⟩;rw[L0 s0,L0 s1,L0 s5];clear s0 s1 s5;refine U18 ?_;refine U341 ?_;refine U29 ?_;refine W.y6 rfl (fun h14=>?_) (fun h14=>?_)
 ·have D2:i<l.length:=by omega
  obtain⟨x,hx⟩:∃x,l[i]? =some x:=⟨_,List.getElem?_eq_getElem D2⟩
  refine U269 ?_;refine U100 ?_;refine D.va (fun w' J0=>(u4 (i:=i) rfl rfl underlying50 ee0 h1.sl D2)) ?_;refine D.va (fun w' J0=>(Q0 (cs:=k9 x) rfl underlying122 rfl ee0 rfl (fun j v hv=>(h1.j0 J0).cell i x hx j v hv))) ?_;refine U100 ?_;refine D.va (fun w' J0=>(u4 (i:=i) rfl rfl underlying50 ee0 h2.sl D2)) ?_;refine D.va (fun w' J0=>(Q0 (cs:=k9 x) rfl underlying122 rfl ee0 rfl (fun j v hv=>(h2.j0 J0).cell i x hx j v hv))) ?_;refine D.va (fun w' J0=>(fu0 rfl rfl (ib1 9997 _ _ _ _ _) (by kernel_rfl) (Ts0 ⟨rfl,rfl,rfl,rfl,rfl⟩))) ?_;refine U30 ?_;intro w D1 hb;have h1:=h1.j0 D1;have h2:=h2.j0 D1;refine U167 ?_;refine U39 ?_;exact⟨_,by omega,⟨i+1,rfl,rfl,rfl,rfl,(by omega),h1,h2,hb⟩⟩
 ·refine W.exit ?_;refine U38 ?_;refine U40 ?_;exact U31
end
structure qv0 (w:World) (hb:Nat) (obj most:Int) (H:Hs) (na:Option Addr) (nc:Nat) (pa:Option Addr) (pc:Nat):Prop where
 hH:V0 w hb #[.i obj,.i most,.slice na H.Y0.length nc,.slice pa H.pool.length pc] 113
 nsl:SL na H.Y0.length
 nd:∀i,i<H.Y0.length->w.cell? ⟨ab na,ao na+i*3,none⟩=some (.i (o3 H i).g)/\w.cell? ⟨ab na,ao na+i*3+1,none⟩=some (.bool (o3 H i).l)/\w.cell? ⟨ab na,ao na+i*3+2,none⟩=some (.i (o3 H i).v)
 psl:SL pa H.pool.length
 pl:∀(j:Nat) (z:Int),H.pool[j]? =some z->w.cell? ⟨ab pa,ao pa+j*1,none⟩=some (.i z)
theorem qv0.j0 {w w':World} {hb:Nat} {obj most:Int} {H:Hs} {na:Option Addr} {nc:Nat} {pa:Option Addr} {pc:Nat} (h:qv0 w hb obj most H na nc pa pc) (hw:Below w.heap.size w w'):qv0 w' hb obj most H na nc pa pc :=
 ⟨h.hH.j0 hw,h.nsl,fun i hi=>⟨y4 (h.nd i hi).1 hw,y4 (h.nd i hi).2.1 hw,y4 (h.nd i hi).2.2 hw⟩,h.psl,fun j z hz=>y4 (h.pl j z hz) hw⟩
def lu0 (H:Hs) (i:Nat):Nat:=(H.Y0.take i).countP (·.l)
theorem ov0 {H:Hs} {i:Nat} (hi:i<H.Y0.length):lu0 H (i+1)=lu0 H i+(if(o3 H i).l=true then 1 else 0):=by
 unfold lu0 o3;rw[List.take_add_one,List.countP_append,List.getElem?_eq_getElem hi];congr 1;simp[List.countP_cons]
theorem Ns0 (H:Hs) (i:Nat):lu0 H i <=i:=Nat.le_trans List.countP_le_length (by rw[List.length_take];omega)
section
variable [Ctx prog]
set_option maxHeartbeats 1000000 in
theorem Nt0 (Bs hp wb pb:Nat) (obj most:Int) (H:Hs) (Ly:I5) (w0:World) (hM:M3 w0 Bs hp wb pb obj most H Ly) {H3:Nat} {bc1 Nu0:Int} {na pa:Option Addr} {nc pc:Nat} (hR:qv0 w0 H3 bc1 Nu0 H na nc pa pc) (h1:H.Y0.length <=4611686018427387904) (h2:H.pool.length <=4611686018427387904) (pr0:lu0 H H.Y0.length+H.pool.length=H.Y0.length) :
  C prog 15 #[.p hp,.p H3] w0 fun v w=>v= .bool true/\Below w0.heap.size w0 w:=by
 refine C.enter (n:=79) func15 rfl rfl ?_;have hb:Below w0.heap.size w0 w0:=Below.refl _ _;have hRH:=hR.hH;refine U40 ?_;refine U175 ?_;refine U57 ?_;refine W.loop (fun k e w=>∃(i:Nat),∃(x:Nat),k=H.Y0.length-i/\e 0= .p hp/\e 1= .p H3/\e 5= .i (x:Nat)/\e 6= .i (i:Nat)/\i <=H.Y0.length/\x=lu0 H i/\M3 w Bs hp wb pb obj most H Ly/\qv0 w H3 bc1 Nu0 H na nc pa pc/\V0 w H3 #[.i bc1,.i Nu0,.slice na H.Y0.length nc,.slice pa H.pool.length pc] 113/\Below w0.heap.size w0 w) _ ⟨0,0,rfl,rfl,rfl,rfl,rfl,Nat.zero_le _,rfl,hM,hR,hRH,hb⟩ ?_;rintro k e w ⟨i,x,hk,s0,s1,s5,s6,hi,hx,hM,hR,hRH,hb⟩;rw[L0 s0,L0 s1,L0 s5,L0 s6];clear s0 s1 s5 s6;refine U18 ?_;refine U45 ?_;refine U475 ?_;refine L.va (V4 rfl underlying111 rfl) ?_;refine U29 ?_;refine W.y6 rfl (fun h13=>?_) (fun h13=>?_)
 ·have D2:i<H.Y0.length:=by omega
  refine U49 ?_;refine U361 ?_;refine D.va (fun w' J0=>(K2 rfl)) ?_;refine D.va (fun w' J0=>(gk0 rfl rfl (by omega))) ?_;refine D.call (fun w' J0=>(W1 rfl rfl func32 rfl Ks0 rfl)) (fun w' J0=>((sr0 Bs hp wb pb obj most H Ly w' (hM.j0 J0) i D2).mono fun r w h=>⟨h.1,O0 J0 h.2⟩)) ?_;refine U6 ?_;refine U431 ?_;refine D.va (fun w' J0=>(K2 rfl)) ?_;refine D.va (fun w' J0=>(u4 (i:=i) rfl rfl underlying111 Q9 hR.nsl D2)) ?_;refine D.va (fun w' J0=>(E0 rfl underlying125 rfl c5 (by decide))) ?_;refine D.va (fun w' J0=>(B0 (v:=.i (o3 H i).g) rfl underlying3 rfl ((hR.j0 J0).nd i D2).1)) ?_;refine D.va (fun w' J0=>(A1 (r:=false) (decide_eq_false (fun h=>h rfl)) (ad0 (m:=(o3 H i).g) (k:=(o3 H i).g) rfl rfl))) ?_;refine U30 ?_;intro w D1 hb;have hM:=hM.j0 D1;have hR:=hR.j0 D1;have hRH:=hRH.j0 D1;refine U22 ?_;refine U82 ?_;refine U14 ?_;refine U475 ?_;refine L.va (K2 rfl) ?_;refine L.va (u4 (i:=i) rfl rfl underlying111 Q9 hR.nsl D2) ?_;refine L.va (E0 rfl underlying125 rfl sz4 (by decide)) ?_;refine L.va (B0 (v:=.bool (o3 H i).l) rfl underlying4 rfl (hR.nd i D2).2.1) ?_;refine U1 ?_;refine W.cond rfl (fun h36=>?_) (fun h36=>?_)
  ·have hls:=ov0 D2;have hll:=Ns0 H i;refine W.region rfl ?_;refine U396 ?_;refine U405 ?_;refine U39 ?_;exact⟨_,by omega,⟨i+1,x+1,rfl,rfl,rfl,rfl,rfl,(by omega),(by rw[hls,hx,if_pos h36]),hM,hR,hRH,hb⟩⟩
  ·have hls:=ov0 D2;refine W.skip ?_;refine U39 ?_;exact⟨_,by omega,⟨i+1,x,rfl,rfl,rfl,rfl,rfl,(by omega),(by rw[hls,hx,if_neg (by simp[h36])];rfl),hM,hR,hRH,hb⟩⟩
 ·refine W.exit ?_;refine U38 ?_;refine W.seq ?_;have hin:i=H.Y0.length:=by omega
  rw[hin]at hx;refine W.quiet (fun w'=>Below w.heap.size w w') (by kernel_rfl) (by kernel_rfl) ((Below.refl w.heap.size w).drew) ?_;refine D.va (fun w' J0=>(Y3 rfl)) ?_;refine D.call (fun w' J0=>(X4 rfl func33 rfl eo1 rfl)) (fun w' J0=>((Ff0 Bs hp wb pb obj most H Ly w' (hM.j0 J0)).mono fun r w h=>⟨h.1,O0 J0 h.2⟩)) ?_;refine U6 ?_;refine U431 ?_;refine D.va (fun w' J0=>(V4 rfl underlying111 rfl)) ?_;refine D.va (fun w' J0=>(A1 (r:=true) (decide_eq_true rfl) (S1 (m:=(H.Y0.length:Int)) (k:=(H.Y0.length:Int)) rfl rfl))) ?_;refine U103 ?_;refine U137 ?_;refine D.call (fun w' J0=>(X4 rfl func34 rfl kn1 rfl)) (fun w' J0=>((Tj0 Bs hp wb pb obj most H Ly w' (hM.j0 J0) h1 h2).mono fun r w h=>⟨h.1,O0 J0 h.2⟩)) ?_;refine U389 ?_;refine D.va (fun w' J0=>(A1 (r:=true) (decide_eq_true (by omega)) (S1 (m:=(H.Y0.length:Int)-(H.pool.length:Int)) (k:=(x:Int)) rfl rfl))) ?_;refine U648 ?_;refine U137 ?_;refine D.call (fun w' J0=>(X4 rfl func35 rfl ep1 rfl)) (fun w' J0=>((qu0 Bs hp wb pb obj most H Ly w' (hM.j0 J0)).mono fun r w h=>⟨h.1,O0 J0 h.2⟩)) ?_;refine U390 ?_;refine D.va (fun w' J0=>(E0 rfl underlying113 rfl O8 (by decide))) ?_;refine D.on rfl ?_;refine D.va (fun w' J0=>(B0 rfl underlying23 rfl ((hRH.j0 J0).q0 3 (v:=.slice pa H.pool.length pc) rfl))) ?_;refine D.on rfl ?_;refine D.va (fun w' J0=>(V4 rfl underlying23 rfl)) ?_;refine D.on rfl ?_;refine D.va (fun w' J0=>(A1 (r:=true) (decide_eq_true rfl) (S1 (m:=(H.pool.length:Int)) (k:=(H.pool.length:Int)) rfl rfl))) ?_;refine U648 ?_;refine U137 ?_;refine D.call (fun w' J0=>(W1 rfl rfl func32 rfl Ks0 rfl)) (fun w' J0=>((vi0 Bs hp wb pb obj most H Ly w' (hM.j0 J0) 0 (by omega)).mono fun r w h=>⟨h.1,O0 J0 h.2⟩)) ?_;refine D.on rfl ?_;refine U485 ?_;refine U103 ?_;refine U137 ?_;refine U251 ?_;refine U447 ?_;refine D.va (fun w' J0=>(B0 rfl underlying111 rfl ((hRH.j0 J0).q0 2 (v:=.slice na H.Y0.length nc) rfl))) ?_;refine D.on rfl ?_;refine D.va (fun w' J0=>(V4 rfl underlying111 rfl)) ?_;refine D.on rfl ?_;refine D.va (fun w' J0=>(ex0 (m:=(H.Y0.length:Int)) (k:=1) rfl rfl (by omega))) ?_;refine D.on rfl ?_;refine D.call (fun w' J0=>(W1 rfl rfl func32 rfl Ks0 rfl)) (fun w' J0=>((vi0 Bs hp wb pb obj most H Ly w' (hM.j0 J0) ((H.Y0.length:Int)+1) (by omega)).mono fun r w h=>⟨h.1,O0 J0 h.2⟩)) ?_;refine D.on rfl ?_;refine U485 ?_;refine U384 ?_;intro w D1 hb;refine U22 ?_;exact U31
end
end Go.Vy.Sc
end
section
namespace Go.Vy.Sc
def lv (H:Hs):Nat:=H.Y0.countP (·.l)
theorem Ho0 (H:Hs):lu0 H H.Y0.length=lv H:=by unfold lu0 lv;rw[List.take_length]
theorem Nv0 {H:Hs} {num:Int} {d:Nd} (h1:1 <=num) (h2:num <=(H.Y0.length:Int)):lv (H.set num d)+(if(B7 H num).l=true then 1 else 0)=lv H+(if d.l=true then 1 else 0):=by
 have hi:(num-1).toNat<H.Y0.length:=by omega
 have e:B7 H num=H.Y0[(num-1).toNat]:=by unfold B7;rw[List.getElem?_eq_getElem hi];rfl
 unfold lv Hs.set;rw[List.countP_set hi,e];have:=List.boole_getElem_le_countP (p:=fun d:Nd=>d.l) (l:=H.Y0) (i:=(num-1).toNat) (h:=hi);omega
structure fk0 (H:Hs) (e:Nat):Prop where
 bal:lv H+H.pool.length+e=H.Y0.length
 nd:H.pool.Nodup
 dead:∀x,x∈H.pool->(B7 H x).l=false
def Tr (H:Hs) (c:L1):Prop :=
 (c.at_=3/\((c.num=(H.Y0.length:Int)+1/\fk0 H 0)\/(1 <=c.num/\c.num <=(H.Y0.length:Int)/\(B7 H c.num).l=false/\c.num∉H.pool/\fk0 H 1))) \/
 (c.at_=5/\(B7 H c.num).l=true/\fk0 H 0) \/
 ((c.at_=6\/c.at_=7)/\(B7 H c.num).l=false/\c.num∉H.pool/\fk0 H 1) \/
 (c.at_≠3/\c.at_≠5/\c.at_≠6/\c.at_≠7/\fk0 H 0)
theorem Tr.free {H:Hs} {c:L1} (h:Tr H c) (h0:c.at_=0\/c.at_=1\/c.at_=2\/c.at_=4\/c.at_=8):fk0 H 0:=by
 rcases h with⟨h,_⟩|⟨h,_⟩|⟨h,_⟩|⟨_,_,_,_,h⟩
 ·omega
 ·omega
 ·omega
 ·exact h
theorem fk0.tr {H:Hs} {c:L1} (h:fk0 H 0) (k:Nat) (hk:c.at_=k) (h0:k≠3/\k≠5/\k≠6/\k≠7):Tr H c:=by
 subst hk;exact .inr (.inr (.inr ⟨h0.1,h0.2.1,h0.2.2.1,h0.2.2.2,h⟩))
theorem Tr.take {most:Int} {H:Hs} {c:L1} (hj:HJ H c) (h:Tr H c) (h9:c.at_≠0/\c.at_ <=8):Tr (W0 most H c).1 (W0 most H c).2:=by
 obtain⟨h0,h8⟩:=h9;have hc:c.at_=1\/c.at_=2\/c.at_=3\/c.at_=4\/c.at_=5\/c.at_=6\/c.at_=7\/c.at_=8:=by omega
 rcases hc with z|z|z|z|z|z|z|z
 ·have hp:=h.free (by omega);unfold W0;rw[if_pos z];split
  ·exact hp.tr 2 rfl (by decide)
  ·split
   ·exact .inl ⟨rfl,.inl ⟨rfl,hp⟩⟩
   ·exact hp.tr 0 rfl (by decide)
 ·have hp:=h.free (by omega);rw[js0 z];have hs:=hj.a2 z;have hr:=hj.pl c.num (by rw[hs];simp);have hnd:=hp.nd;rw[hs]at hnd;have hb:=hp.bal;rw[hs,List.length_append,List.length_singleton]at hb;refine .inl ⟨rfl,.inr ⟨hr.1,hr.2,hp.dead _ (by rw[hs];simp),?_,⟨by show lv H+c.seen.length+1=_;omega,?_,fun x hx=>hp.dead x (by rw[hs];exact List.mem_append_left _ hx)⟩⟩⟩
  ·intro hm;have hm:c.num∈c.seen:=hm;rw[List.nodup_append]at hnd;exact hnd.2.2 _ hm _ (by simp) rfl
  ·rw[List.nodup_append]at hnd;exact hnd.1
 ·rcases h with⟨_,h⟩|⟨y,_⟩|⟨y,_⟩|⟨y,_⟩
  rotate_left
  ·omega
  ·omega
  ·exact absurd z y
  rcases h with⟨hn,hp⟩|⟨r1,r2,r3,r4,hp⟩
  ·rw[ju0 z (by omega)];refine fk0.tr ⟨?_,hp.nd,fun x hx=>?_⟩ 0 rfl (by decide)
   ·have:=hp.bal;show(H.Y0 ++ [_]).countP _+H.pool.length+0=(H.Y0 ++ [_]).length;rw[List.countP_append,List.length_append];unfold lv at this;simp;omega
   ·have hr:=hj.pl x hx;have hd:=hp.dead x hx;unfold B7 at hd⊢;show(((H.Y0 ++ [_])[(x-1).toNat]?).getD _).l=false;rw[List.getElem?_append_left (by omega)];exact hd
  ·rw[jt0 z (by omega)];have hs:=Nv0 (H:=H) (d:=⟨(B7 H c.num).g,true,c.val⟩) r1 r2;rw[r3]at hs;refine fk0.tr ⟨?_,hp.nd,fun x hx=>?_⟩ 0 rfl (by decide)
   ·have:=hp.bal;show lv (H.set _ _)+H.pool.length+0=(H.set _ _).Y0.length;rw[Hs.o6];simp at hs;omega
   ·have hx:x∈H.pool:=hx;have hr:=hj.pl x hx;show(B7 (H.set _ _) x).l=false;rw[ls0 r1 hr.1 (fun e=>r4 (e▸hx))];exact hp.dead x hx
 ·have hp:=h.free (by omega);by_cases hl:(V3 H c.rn c.rg).2=true
  ·rw[ff0 z hl];refine .inr (.inl ⟨rfl,?_,hp⟩);have ha:=hj.a4 (.inl z);show(B7 H c.num).l=true;rw[ha.2.2];unfold V3 at hl;split at hl
   ·rename_i hx;exact hx.2.1
   ·cases hl
  ·rw[fg0 z (by simpa using hl)];exact hp.tr 0 rfl (by decide)
 ·rcases h with⟨y,_⟩|⟨_,hl,hp⟩|⟨y,_⟩|⟨_,y,_⟩
  ·omega
  rotate_left
  ·omega
  ·exact absurd z y
  have ha:=hj.a4 (.inr (.inl z));rw[jp0 z];have hs:=Nv0 (H:=H) (d:=⟨IntKind.i64.wrap (c.rg+1),false,0⟩) ha.1 ha.2.1;rw[hl]at hs;have hnp:c.num∉H.pool:=fun hm=>by have:=hp.dead _ hm;rw[hl]at this;cases this
  refine .inr (.inr (.inl ⟨.inl rfl,?_,hnp,⟨?_,hp.nd,fun x hx=>?_⟩⟩))
  ·show(B7 (H.set c.num _) c.num).l=false;rw[Mx0 ha.1 ha.2.1]
  ·have:=hp.bal;show lv (H.set _ _)+H.pool.length+1=(H.set _ _).Y0.length;rw[Hs.o6];simp at hs;omega
  ·have hx:x∈H.pool:=hx;have hr:=hj.pl x hx;show(B7 (H.set _ _) x).l=false;rw[ls0 ha.1 hr.1 (fun e=>hnp (e▸hx))];exact hp.dead x hx
 ·rcases h with⟨y,_⟩|⟨y,_⟩|⟨_,h⟩|⟨_,_,y,_⟩
  ·omega
  ·omega
  ·rw[jq0 z];exact .inr (.inr (.inl ⟨.inr rfl,h⟩))
  ·exact absurd z y
 ·rcases h with⟨y,_⟩|⟨y,_⟩|⟨_,h1,h2,hp⟩|⟨_,_,_,y,_⟩
  ·omega
  ·omega
  rotate_left
  ·exact absurd z y
  rw[jr0 z,hj.a7 z];refine fk0.tr ⟨?_,?_,fun x hx=>?_⟩ 0 rfl (by decide)
  ·have:=hp.bal;show lv H+(H.pool ++ [c.num]).length+0=H.Y0.length;rw[List.length_append,List.length_singleton];omega
  ·show(H.pool ++ [c.num]).Nodup;rw[List.nodup_append];exact⟨hp.nd,by simp,fun a ha b hb=>by simp at hb;subst hb;exact fun e=>h2 (e▸ha)⟩
  ·have hx:x∈H.pool ++ [c.num]:=hx;rw[List.mem_append]at hx;rcases hx with hx|hx
   ·exact hp.dead x hx
   ·simp at hx;subst hx;exact h1
 ·have hp:=h.free (by omega);rw[al0 z];exact hp.tr 0 rfl (by decide)
theorem Hp0 {s:HW} {o:X8} {c:L1} (h:m5 s o=some c) (C3:c.at_≠0):c.at_=1\/c.at_=4\/c.at_=8:=by
 unfold m5 at h;split at h
 ·cases h;exact .inl rfl
 split at h
 ·cases h;unfold T9 at C3⊢;split
  ·exact .inr (.inl rfl)
  ·rename_i hh;rw[if_neg hh]at C3;exact absurd rfl C3
 split at h
 ·cases h;unfold fe0 at C3⊢;split
  ·exact .inr (.inr rfl)
  ·rename_i hh;rw[if_neg hh]at C3;exact absurd rfl C3
 ·cases h
theorem ea0 (ops:List X8) (i:Nat):∀(n k:Nat) (s:HW),ops.length-k=n->(Z0 ops i k s).s.H=s.H/\∀l,(Z0 ops i k s).W3= .inl l->l.2.at_=1\/l.2.at_=4\/l.2.at_=8:=by
 intro n
 induction n with
 |zero=>intro k s h;rw[C7 (by omega)];exact⟨rfl,fun l hl=>by cases hl⟩
 |succ n ih=>
  intro k s h;obtain⟨o,ho⟩:∃o,ops[k]? =some o:=⟨_,List.getElem?_eq_getElem (by omega)⟩
  rw[v5 ho];split
  ·exact ih _ _ (by omega)
  ·rename_i c hc;split
   ·rename_i C3;refine⟨rfl,fun l hl=>?_⟩;have hl:(Sum.inl (k,c):(Nat×L1) ⊕ Nat)= .inl l:=hl;cases hl;exact Hp0 hc C3
   ·exact ih (k+1) (P4 i s c) (by omega)
theorem Nw0 {H:Hs} {c:L1} (h:fk0 H 0) (hc:c.at_=1\/c.at_=4\/c.at_=8):Tr H c:=.inr (.inr (.inr ⟨by omega,by omega,by omega,by omega,h⟩))
structure TOk (p:j4) (q:PR (V1 p)):Prop where
 lab:∀l,q.ft[0]? =some (.inl l)->Tr q.s.H l.2
 none:(∀l,q.ft[0]? ≠some (.inl l))->fk0 q.s.H 0
structure ms1 (p:j4) (q:PR (V1 p)):Prop where
 t:TOk p q
 j:∀(i:Nat) (l:Nat×L1),q.ft[i]? =some (.inl l)->HJ q.s.H l.2/\l.2.at_≠0/\l.2.at_ <=8/\(0<i->l.2.at_=8)
theorem tc0 {p:j4} (hp:n4 p) {q:PR (V1 p)} (hq:(V1 p).Reach q) (ht:TOk p q):ms1 p q:=⟨ht,fun i l h=>by
 have h1:=(st0 hp q hq)
 obtain⟨_,o,_,hk,_⟩:=(ft0 hp q hq).lab i l h;have:l.2.at_≠0/\l.2.at_ <=8:=by
  rcases hk with⟨_,hk⟩|⟨_,hk⟩|⟨_,hk⟩ <;> omega
 exact⟨h1.lab i l h,this.1,this.2,fun hi=>h1.get i l hi h⟩⟩
theorem Sys.bd1 {Y:Sys} (I:PR Y->Prop) (h0:I Y.p0) (hb:∀p,Y.Reach p->I p->p.ft.length<Y.m->I (Y.bgn p)) (ht:∀p i l,Y.Reach p->I p->p.ft.length=Y.m->p.ft[i]? =some (.inl l)->Y.rdy i l p.s=true->I (Y.o5 p i)):∀p,Y.Reach p->I p:=by
 have hB:∀n,n <=Y.m->I (Y.N4 n):=by
  intro n
  induction n with
  |zero=>exact fun _=>h0
  |succ n ih=>exact fun hn=>hb _ (.inl ⟨n,by omega,rfl⟩) (ih (by omega)) (by rw[Sys.S5];omega)
 have hP:∀(sc:Nat->Int) n,I (Y.pn sc n):=by
  intro sc n
  induction n with
  |zero=>exact hB Y.m (Nat.le_refl _)
  |succ n ih=>
   show I (Y.step (Y.pn sc n) (sc n));unfold Sys.step;split
   ·rename_i i hi;obtain⟨_,hr⟩:=Sys.mk0 hi;unfold Sys.j9 at hr;cases hx:(Y.pn sc n).ft[i]? with
    |none=>rw[hx]at hr;cases hr
    |some f=>
     cases f with
     |inl l=>rw[hx]at hr;exact ht _ i l (.inr ⟨sc,n,rfl⟩) ih (Sys.w8 sc n) hx hr
     |inr x=>rw[hx]at hr;cases hr
   ·exact ih
 rintro p (⟨n,hn,rfl⟩|⟨sc,n,rfl⟩)
 ·exact hB n hn
 ·exact hP sc n
theorem td0 {p:j4} (hp:n4 p):∀q,(V1 p).Reach q->TOk p q:=by
 refine Sys.bd1 (Y:=V1 p) (fun q=>TOk p q) ⟨(fun l h=>by cases h),fun _=>⟨rfl,List.nodup_nil,(fun x hx=>by cases hx)⟩⟩ (fun q hR hq _=>?_) (fun q i l hR hq _ hf _=>?_)
 ·have hb:(V1 p).bgn q={q with s:=(Z0 (p.bo q.ft.length) q.ft.length 0 q.s).s,ft:=q.ft ++ [(Z0 (p.bo q.ft.length) q.ft.length 0 q.s).W3],j2:=q.j2++tell q.ft.length q.evs.length (Z0 (p.bo q.ft.length) q.ft.length 0 q.s).j2,outs:=q.outs ++ [Z0 (p.bo q.ft.length) q.ft.length 0 q.s],who:=q.who ++ [none]}:=rfl;rw[hb];obtain⟨e,h1⟩:=ea0 (p.bo q.ft.length) q.ft.length _ 0 q.s rfl;have e:HW.H (Z0 (p.bo q.ft.length) q.ft.length 0 q.s).s=q.s.H:=e;refine⟨fun l h=>?_,fun h=>?_⟩
  ·show Tr (HW.H (Z0 _ _ 0 q.s).s) l.2;rw[e];have h:(q.ft ++ [(Z0 (p.bo q.ft.length) q.ft.length 0 q.s).W3])[0]? =some (.inl l):=h;rcases m8 h with h'|⟨hj,h'⟩
   ·exact hq.lab l h'
   ·exact Nw0 (hq.none fun l' c6=>by rw[List.getElem?_eq_none (by omega)]at c6;cases c6) (h1 l h')
  ·show fk0 (HW.H (Z0 _ _ 0 q.s).s) 0;rw[e];refine hq.none fun l' c6=>h l' ?_;show(q.ft ++ [_])[0]? =_;rw[List.getElem?_append_left (List.getElem?_eq_some_iff.1 c6).1];exact c6
 ·have hl:=(List.getElem?_eq_some_iff.1 hf).1;obtain⟨hj,h0,h8,hg⟩:=(tc0 hp hR hq).j i l hf;have ht:(V1 p).o5 q i={q with s:=(o7 p.most (p.bo i) i l q.s).s,ft:=q.ft.set i (o7 p.most (p.bo i) i l q.s).W3,evs:=q.evs ++ [(i,D3 5 l.2)],j2:=q.j2++tell i (q.evs.length+1) (o7 p.most (p.bo i) i l q.s).j2,outs:=q.outs ++ [o7 p.most (p.bo i) i l q.s],who:=q.who ++ [some i],used:=q.used+1}:=by
   unfold Sys.o5;rw[hf]
  rw[ht];obtain⟨eb,hb⟩:=ea0 (p.bo i) i _ (l.1+1) (P4 i {q.s with H:=(W0 p.most q.s.H l.2).1} (W0 p.most q.s.H l.2).2) rfl;have eb:HW.H (Z0 (p.bo i) i (l.1+1) (P4 i {q.s with H:=(W0 p.most q.s.H l.2).1} (W0 p.most q.s.H l.2).2)).s=(W0 p.most q.s.H l.2).1:=eb;have eH:HW.H (o7 p.most (p.bo i) i l q.s).s=(W0 p.most q.s.H l.2).1:=by
   unfold o7;split
   ·rfl
   ·exact eb
  by_cases hi:i=0
  ·subst hi;have hT:=Tr.take (most:=p.most) hj (hq.lab l hf) ⟨h0,h8⟩;have H9:∀l',(o7 p.most (p.bo 0) 0 l q.s).W3= .inl l'->Tr (W0 p.most q.s.H l.2).1 l'.2:=by
    intro l' h;unfold o7 at h;split at h
    ·have h:(Sum.inl (l.1,(W0 p.most q.s.H l.2).2):(Nat×L1) ⊕ Nat)= .inl l':=h;cases h;exact hT
    ·rename_i hz;exact Nw0 (hT.free (.inl (by simpa using hz))) (hb l' h)
   refine⟨fun l' h=>?_,fun h=>?_⟩
   ·show Tr (HW.H (o7 _ _ 0 l q.s).s) l'.2;rw[eH];have h:(q.ft.set 0 (o7 p.most (p.bo 0) 0 l q.s).W3)[0]? =some (.inl l'):=h;rw[List.getElem?_set_self hl]at h;exact H9 l' (Option.some.inj h)
   ·show fk0 (HW.H (o7 _ _ 0 l q.s).s) 0;rw[eH];by_cases hz:(W0 p.most q.s.H l.2).2.at_=0
    ·exact hT.free (.inl hz)
    ·exfalso;refine h (l.1,(W0 p.most q.s.H l.2).2) ?_;show(q.ft.set 0 (o7 p.most (p.bo 0) 0 l q.s).W3)[0]? =_;rw[List.getElem?_set_self hl];unfold o7;rw[if_pos hz]
  ·have h18:=hg (by omega);have e1:(W0 p.most q.s.H l.2).1=q.s.H:=by rw[al0 h18]
   have ef:∀x,(q.ft.set i x)[0]? =q.ft[0]?:=fun x=>List.getElem?_set_ne (fun e=>hi e);refine⟨fun l' h=>?_,fun h=>?_⟩
   ·show Tr (HW.H (o7 _ _ i l q.s).s) l'.2;rw[eH,e1];exact hq.lab l' ((ef _).symm.trans h)
   ·show fk0 (HW.H (o7 _ _ i l q.s).s) 0;rw[eH,e1];exact hq.none fun l' c6=>h l' ((ef _).trans c6)
end Go.Vy.Sc
end
section
namespace Go.Vy.Sc
open Go Go.Conc Go.Yc Go.RowKit Go.Proofs Go.Proofs.Ytgadhljgilblbaa Try
open Go.Vc Go.Wg
open Go.ConcN (sumTo)
structure M7 (w:World) (ba:Option Addr) (m:Nat) (bo:Nat->List X8) (oa:Nat->Option Addr) (oc:Nat->Nat):Prop where
 sl:SL ba m
 row:∀i,i<m->w.cell? ⟨ab ba,ao ba+i*1,none⟩=some (.slice (oa i) (bo i).length (oc i))
 ops:∀i,i<m->ic0 w (oa i) (bo i)
 len:∀i,i<m->(bo i).length <=1048576
theorem M7.j0 {w w':World} {ba:Option Addr} {m:Nat} {bo:Nat->List X8} {oa:Nat->Option Addr} {oc:Nat->Nat} (h:M7 w ba m bo oa oc) (hb:Below w.heap.size w w'):M7 w' ba m bo oa oc :=
 ⟨h.sl,fun i hi=>y4 (h.row i hi) hb,fun i hi=>(h.ops i hi).j0 hb,h.len⟩
structure be1 (most:Int) (m:Nat) (bo:Nat->List X8) (sn:Nat):Prop where
 m1:m <=16
 sum:sumTo m (fun i=>(bo i).length) <=2000
 kinds:∀i,0<i->i<m->∀o,o∈bo i->o.kind≠1/\o.kind≠2
 sn1:sn <=20000
 Wo0:1 <=most/\most <=1048576
theorem Fk0 {bo:Nat->List X8}:∀{i:Nat},(∀j,j<i->(bo j).length <=1048576)->sumTo i (fun j=>(bo j).length) <=i*1048576
 |0,_=>Nat.le_refl _
 |i+1,h=>by
  have h1:=Fk0 (bo:=bo) (i:=i) fun j hj=>h j (by omega);have h2:=h i (by omega);show sumTo i _+(bo i).length <=_;omega
theorem Nx0 {bo:Nat->List X8} {i m:Nat} {x:Int} (hl:∀j,j<m->(bo j).length <=1048576) (hi:i<m) (hx:i <=16->x=(sumTo i (fun j=>(bo j).length):Nat)) (h:i+1 <=16):IntKind.i64.wrap (x+((bo i).length:Int))=(sumTo (i+1) (fun j=>(bo j).length):Nat):=by
 have h1:=Fk0 (bo:=bo) (i:=i) fun j hj=>hl j (by omega);have h2:=hl i hi;have h3:=hx (by omega);have h4:i*1048576 <=16*1048576:=Nat.mul_le_mul_right _ (by omega);show _=((sumTo i (fun j=>(bo j).length)+(bo i).length:Nat):Int);rw[IntWalk.i64_in _ (by omega),h3];omega
theorem bf1 {bo:Nat->List X8} {i:Nat}:sumTo i (fun j=>(bo j).length) <=sumTo (i+1) (fun j=>(bo j).length):=Nat.le_add_right _ _
theorem Hq0 {bo:Nat->List X8} {i k:Nat} {x y:Int} (hx:i <=16->x=(sumTo i (fun j=>(bo j).length):Nat)) (hk:i <=16->x <=2000->∀j,0<j->j<i->∀o,o∈bo j->o.kind≠1/\o.kind≠2) (hy:i+1 <=16->y=(sumTo (i+1) (fun j=>(bo j).length):Nat))
  (hq:∀(q:Nat) o,q<k->(bo i)[q]? =some o->¬(0<i/\(o.kind=1\/o.kind=2))) (he:¬(k<(bo i).length/\y <=2000)):i+1 <=16->y <=2000->∀j,0<j->j<i+1->∀o,o∈bo j->o.kind≠1/\o.kind≠2:=by
 intro h1 h2 j hj S2 o ho;have h3:=hx (by omega);have h4:=hy h1;have h5:=bf1 (bo:=bo) (i:=i);by_cases e:j=i
 ·subst e;obtain⟨q,hq1⟩:=List.mem_iff_getElem?.1 ho;have hq2:=(List.getElem?_eq_some_iff.1 hq1).1;have:=hq q o (by omega) hq1;exact⟨fun z=>this ⟨hj,.inl z⟩,fun z=>this ⟨hj,.inr z⟩⟩
 ·exact hk (by omega) (by omega) j hj (by omega) o ho
section
variable [Ctx prog]
set_option maxHeartbeats 1000000 in
theorem ic1 {most:Int} {m bc sn scp:Nat} {bo:Nat->List X8} {ba sa:Option Addr} {oa:Nat->Option Addr} {oc:Nat->Nat} (w0:World) (hm:m <=1000000000000) (hsn:sn <=9223372036854775807) (hBo:M7 w0 ba m bo oa oc) :
  C prog 6 #[.i most,.slice ba m bc,.slice sa sn scp] w0 fun v w=>∃b,v= .bool b/\(b=true->be1 most m bo sn)/\Below w0.heap.size w0 w:=by
 refine C.enter (n:=80) func6 rfl rfl ?_;have hb:Below w0.heap.size w0 w0:=Below.refl _ _;have hlen:=hBo.len;refine U40 ?_;refine U175 ?_;refine U57 ?_;refine W.loop (fun k e w=>∃(i:Nat),∃(x:Int),k=m-i/\e 0= .i most/\e 1= .slice ba m bc/\e 2= .slice sa sn scp/\e 6= .bool false/\e 7= .i x/\e 8= .i (i:Nat)/\i <=m/\(i <=16->x=(sumTo i (fun j=>(bo j).length):Nat))/\(i <=16->x <=2000->∀j,0<j->j<i->∀o,o∈bo j->o.kind≠1/\o.kind≠2)/\M7 w ba m bo oa oc/\Below w0.heap.size w0 w) _ ⟨0,0,rfl,rfl,rfl,rfl,rfl,rfl,rfl,Nat.zero_le _,(fun _=>rfl),(fun _ _ j _ hj=>absurd hj (Nat.not_lt_zero _)),hBo,hb⟩ ?_;rintro k e w ⟨i,x,hk,s0,s1,s2,s6,s7,s8,hi,hx,hkd,hBo,hb⟩;rw[L0 s0,L0 s1,L0 s2,L0 s6,L0 s7,L0 s8];clear s0 s1 s2 s6 s7 s8;refine U18 ?_;refine U102 ?_;refine U29 ?_;refine W.y6 rfl (fun h13=>?_) (fun h13=>?_)
 ·have D2:i<m:=by omega
  have hle:=hlen i D2;refine U49 ?_;refine U20 ?_;refine U56 ?_;refine U644 ?_;refine L.va (ld0 (κ:=.i64) (m:=x) (k:=((bo i).length:Int)) rfl rfl) ?_;refine U256 ?_;refine U216 ?_;refine W.loop (fun k e w=>∃(k2:Nat),∃(y:Int),k=(bo i).length-k2/\e 0= .i most/\e 1= .slice ba m bc/\e 2= .slice sa sn scp/\e 6= .bool false/\e 7= .i y/\e 8= .i (i:Nat)/\e 9= .i (k2:Nat)/\(i+1 <=16->y=(sumTo (i+1) (fun j=>(bo j).length):Nat))/\k2 <=(bo i).length/\(∀(q:Nat) o,q<k2->(bo i)[q]? =some o->¬(0<i/\(o.kind=1\/o.kind=2)))/\M7 w ba m bo oa oc/\Below w0.heap.size w0 w) _ ⟨0,_,rfl,rfl,rfl,rfl,rfl,rfl,rfl,rfl,(Nx0 hlen D2 hx),Nat.zero_le _,(fun q o hq=>absurd hq (Nat.not_lt_zero _)),hBo,hb⟩ ?_;rintro k e w ⟨k2,y,hk,s0,s1,s2,s6,s7,s8,s9,hy,hkl,hq,hBo,hb⟩;rw[L0 s0,L0 s1,L0 s2,L0 s6,L0 s7,L0 s8,L0 s9];clear s0 s1 s2 s6 s7 s8 s9;refine U18 ?_;refine U56 ?_;refine U644 ?_;refine U145 ?_;refine L.g7 3 [30,31,32,33] 33 (.bool (decide (k2<(bo i).length/\y <=2000))) (tj:=30) rfl (fun bg1=>?_) (fun bg1=>?_) (fun f=>?_)
  ·refine L.on rfl ?_;refine U261 ?_;refine⟨rfl,congrArg Value.bool (by first|exact lg0 bg1|rfl|(simp_all;done)|(rw[Bool.eq_iff_iff];simp_all;omega)),?_⟩;exact A0.upd rfl (A0.upd rfl (A0.upd rfl (A0.upd rfl (A0.refl _ _))))
  ·refine L.off rfl ?_;refine U161 ?_;refine⟨rfl,congrArg Value.bool (by first|exact lf0 bg1|rfl|(simp_all;done)|(rw[Bool.eq_iff_iff];simp_all;omega)),?_⟩;exact A0.upd rfl (A0.upd rfl (A0.upd rfl (A0.upd rfl (A0.refl _ _))))
  refine U1 ?_;refine W.y6 rfl (fun h33=>?_) (fun h33=>?_)
  ·obtain⟨o,ho⟩:∃o,(bo i)[k2]? =some o:=⟨_,List.getElem?_eq_getElem h33.1⟩
   refine U49 ?_;refine U20 ?_;refine L.va (it0 rfl rfl) ?_;refine L.va (v7 rfl) ?_;refine L.g7 21 [38,39,40,41,42,43,44,45,46,47,48,49,50,51,52,53,54,55,56,57,58,59] 59 (.bool (decide (0<i/\(o.kind=1\/o.kind=2)))) (tj:=38) rfl (fun bh1=>?_) (fun bh1=>?_) (fun f=>?_)
   ·refine L.on rfl ?_;refine U69 ?_;refine U581 ?_;refine U500 ?_;refine L.on rfl ?_;refine U27 ?_;refine U527 ?_;refine U332 ?_;refine U507 ?_;refine L.va (S1 (m:=o.kind) (k:=1) rfl rfl) ?_;refine L.on rfl ?_;refine L.va (v7 rfl) ?_;refine L.g7 10 [48,49,50,51,52,53,54,55,56,57,58] 58 (.bool (decide (o.kind=1\/o.kind=2))) (tj:=48) rfl (fun bi1=>?_) (fun bi1=>?_) (fun f=>?_)
    ·refine L.off rfl ?_;refine U257 ?_;refine L.on rfl ?_;refine U55 ?_;refine⟨rfl,congrArg Value.bool (by first|exact jl1 bi1|rfl|(simp_all;done)|(rw[Bool.eq_iff_iff];simp_all;omega)),?_⟩;exact A0.upd rfl (A0.upd rfl (A0.upd rfl (A0.upd rfl (A0.upd rfl (A0.upd rfl (A0.upd rfl (A0.upd rfl (A0.upd rfl (A0.upd rfl (A0.upd rfl (A0.refl _ _)))))))))))
    ·refine L.on rfl ?_;refine U69 ?_;refine U581 ?_;refine U500 ?_;refine L.on rfl ?_;refine U27 ?_;refine U527 ?_;refine U332 ?_;refine U507 ?_;refine L.va (S1 (m:=o.kind) (k:=2) rfl rfl) ?_;refine L.on rfl ?_;refine U25 ?_;refine⟨rfl,congrArg Value.bool (by first|exact jm1 bi1|rfl|(simp_all;done)|(rw[Bool.eq_iff_iff];simp_all;omega)),?_⟩;exact A0.upd rfl (A0.upd rfl (A0.upd rfl (A0.upd rfl (A0.upd rfl (A0.upd rfl (A0.upd rfl (A0.upd rfl (A0.upd rfl (A0.upd rfl (A0.upd rfl (A0.refl _ _)))))))))))
    refine U55 ?_;refine⟨rfl,congrArg Value.bool (by first|exact lg0 bh1|rfl|(simp_all;done)|(rw[Bool.eq_iff_iff];simp_all;omega)),?_⟩;exact A0.upd rfl (A0.upd rfl (A0.hav rfl (A0.upd rfl (A0.upd rfl (A0.upd rfl (A0.upd rfl (A0.upd rfl (A0.upd rfl (A0.upd rfl (A0.upd rfl (A0.upd rfl (A0.upd rfl (A0.upd rfl (A0.refl _ _))))))))))))))
   ·refine L.off rfl ?_;refine U257 ?_;refine U257 ?_;refine U62 ?_;refine U161 ?_;refine⟨rfl,congrArg Value.bool (by first|exact lf0 bh1|rfl|(simp_all;done)|(rw[Bool.eq_iff_iff];simp_all;omega)),?_⟩;exact A0.upd rfl (A0.upd rfl (A0.upd rfl (A0.upd rfl (A0.upd rfl (A0.upd rfl (A0.upd rfl (A0.upd rfl (A0.upd rfl (A0.upd rfl (A0.upd rfl (A0.upd rfl (A0.upd rfl (A0.upd rfl (A0.upd rfl (A0.upd rfl (A0.upd rfl (A0.upd rfl (A0.upd rfl (A0.upd rfl (A0.upd rfl (A0.upd rfl (A0.refl _ _))))))))))))))))))))))
   refine U1 ?_;refine W.y6 rfl (fun h59=>?_) (fun h59=>?_)
   ·refine W.seq ?_;refine U382 ?_;exact⟨false,rfl,(fun h=>by cases h),hb⟩
   ·refine W.skip ?_;refine U39 ?_;exact⟨_,by omega,⟨k2+1,y,rfl,rfl,rfl,rfl,rfl,rfl,rfl,rfl,hy,h33.1,(fun q o2 hq2 hq3=>by
     rcases Nat.lt_or_eq_of_le (Nat.le_of_lt_succ hq2)with z|z
     ·exact hq q o2 z hq3
     ·subst z;rw[ho]at hq3;cases hq3;exact h59),hBo,hb⟩⟩
  ·refine W.exit ?_;refine U132 ?_;refine U39 ?_;exact⟨_,by omega,⟨i+1,y,rfl,rfl,rfl,rfl,rfl,rfl,rfl,(by omega),hy,(Hq0 hx hkd hy hq h33),hBo,hb⟩⟩
 ·have him:i=m:=by omega
  refine W.exit ?_;refine U38 ?_;refine U20 ?_;refine L.va (Ds0 rfl rfl) ?_;refine L.va (v7 rfl) ?_;refine L.g7 4 [62,63,64,65,66] 66 (.bool (decide (x <=2000/\m <=16))) (tj:=62) rfl (fun bj1=>?_) (fun bj1=>?_) (fun f=>?_)
  ·refine L.on rfl ?_;refine U69 ?_;refine L.va (V4 rfl underlying22 rfl) ?_;refine L.on rfl ?_;refine U219 ?_;refine⟨rfl,congrArg Value.bool (by first|exact lg0 bj1|rfl|(simp_all;done)|(rw[Bool.eq_iff_iff];simp_all;omega)),?_⟩;exact A0.upd rfl (A0.upd rfl (A0.upd rfl (A0.upd rfl (A0.upd rfl (A0.refl _ _)))))
  ·refine L.off rfl ?_;refine U62 ?_;refine U25 ?_;refine⟨rfl,congrArg Value.bool (by first|exact lf0 bj1|rfl|(simp_all;done)|(rw[Bool.eq_iff_iff];simp_all;omega)),?_⟩;exact A0.upd rfl (A0.upd rfl (A0.upd rfl (A0.upd rfl (A0.upd rfl (A0.refl _ _)))))
  refine L.va (v7 rfl) ?_;refine L.g7 4 [67,68,69,70,71] 71 (.bool (decide ((x <=2000/\m <=16)/\sn <=20000))) (tj:=67) rfl (fun bk1=>?_) (fun bk1=>?_) (fun f=>?_)
  ·refine L.on rfl ?_;refine U69 ?_;refine U227 ?_;refine U219 ?_;refine⟨rfl,congrArg Value.bool (by first|exact lg0 bk1|rfl|(simp_all;done)|(rw[Bool.eq_iff_iff];simp_all;omega)),?_⟩;exact A0.upd rfl (A0.upd rfl (A0.upd rfl (A0.upd rfl (A0.upd rfl (A0.refl _ _)))))
  ·refine L.off rfl ?_;refine U62 ?_;refine U25 ?_;refine⟨rfl,congrArg Value.bool (by first|exact lf0 bk1|rfl|(simp_all;done)|(rw[Bool.eq_iff_iff];simp_all;omega)),?_⟩;exact A0.upd rfl (A0.upd rfl (A0.upd rfl (A0.upd rfl (A0.upd rfl (A0.refl _ _)))))
  refine L.va (v7 rfl) ?_;refine L.g7 3 [72,73,74,75] 75 (.bool (decide (((x <=2000/\m <=16)/\sn <=20000)/\1 <=most))) (tj:=72) rfl (fun bl1=>?_) (fun bl1=>?_) (fun f=>?_)
  ·refine L.on rfl ?_;refine U27 ?_;refine L.va (le0 rfl rfl) ?_;refine U55 ?_;refine⟨rfl,congrArg Value.bool (by first|exact lg0 bl1|rfl|(simp_all;done)|(rw[Bool.eq_iff_iff];simp_all;omega)),?_⟩;exact A0.upd rfl (A0.upd rfl (A0.upd rfl (A0.upd rfl (A0.refl _ _))))
  ·refine L.off rfl ?_;refine U161 ?_;refine⟨rfl,congrArg Value.bool (by first|exact lf0 bl1|rfl|(simp_all;done)|(rw[Bool.eq_iff_iff];simp_all;omega)),?_⟩;exact A0.upd rfl (A0.upd rfl (A0.upd rfl (A0.upd rfl (A0.refl _ _))))
  refine L.va (v7 rfl) ?_;refine L.g7 3 [76,77,78,79] 79 (.bool (decide ((((x <=2000/\m <=16)/\sn <=20000)/\1 <=most)/\most <=1048576))) (tj:=76) rfl (fun bm1=>?_) (fun bm1=>?_) (fun f=>?_)
  ·refine L.on rfl ?_;refine U261 ?_;refine⟨rfl,congrArg Value.bool (by first|exact lg0 bm1|rfl|(simp_all;done)|(rw[Bool.eq_iff_iff];simp_all;omega)),?_⟩;exact A0.upd rfl (A0.upd rfl (A0.upd rfl (A0.upd rfl (A0.refl _ _))))
  ·refine L.off rfl ?_;refine U161 ?_;refine⟨rfl,congrArg Value.bool (by first|exact lf0 bm1|rfl|(simp_all;done)|(rw[Bool.eq_iff_iff];simp_all;omega)),?_⟩;exact A0.upd rfl (A0.upd rfl (A0.upd rfl (A0.upd rfl (A0.refl _ _))))
  refine U377 ?_;refine⟨_,rfl,fun h=>?_,hb⟩;obtain⟨⟨⟨⟨g1,g2⟩,g3⟩,g4⟩,g5⟩:=of_decide_eq_true h;subst him;have hs:=hx g2;exact⟨g2,by omega,fun j hj S2 o ho=>hkd g2 g1 j hj S2 o ho,g3,g4,g5⟩
end
theorem te0 {f:Nat->Nat}:∀{m i:Nat},i<m->f i <=sumTo m f
 |m+1,i,h=>by
  show f i <=sumTo m f+f m;rcases Nat.lt_or_eq_of_le (Nat.le_of_lt_succ h)with z|z
  ·have:=te0 (f:=f) z;omega
  ·subst z;omega
theorem Wp0 {p:j4}:∀q,(V1 p).Reach q->q.j2=[]:=by
 refine Sys.bd1 (Y:=V1 p) (fun q=>q.j2=[]) rfl (fun q _ h _=>?_) (fun q i l _ h _ hf _=>?_)
 ·show q.j2++tell _ _ (Z0 (p.bo q.ft.length) q.ft.length 0 q.s).j2=[];rw[h,dy0 _ _ _ _ _ rfl];rfl
 ·unfold Sys.o5;rw[hf];show q.j2++tell _ _ (o7 p.most (p.bo i) i l q.s).j2=[];rw[h,Tb0];rfl
def fvH (b1:Nat->Nat) (bp k:Nat):Value:=.func (.func 25) #[] #[.pointer (some ⟨b1 k,0,none⟩),.p bp]
theorem Hr0 {m x bp:Nat} {b1:Nat->Nat}:(List.range (m+1)).map (fvH (r6 b1 m x) bp)=(List.range m).map (fvH b1 bp) ++ [.func (.func 25) #[] #[.p x,.p bp]]:=by
 rw[List.range_succ,List.map_append];congr 1
 ·apply List.map_congr_left;intro i hi;have:i≠m:=by have:i<m:=(by simpa using hi);omega
  unfold fvH;rw[J3 this]
 ·simp[fvH,Z2]
structure bd0 (w:World) (s1 m:Nat) (bo:Nat->List X8) (oa:Nat->Option Addr) (oc b1:Nat->Nat):Prop where
 le:∀i,i<m->s1 <=b1 i
 blk:∀i,i<m->V0 w (b1 i) #[.slice (oa i) (bo i).length (oc i)] 80
section
variable {w w':World}{s1 m:Nat}{bo:Nat->List X8}{oa:Nat->Option Addr}{oc b1:Nat->Nat}
theorem bd0.j0 (h:bd0 w s1 m bo oa oc b1) (hb:Below w.heap.size w w'):bd0 w' s1 m bo oa oc b1:=⟨h.le,fun i hi=>(h.blk i hi).j0 hb⟩
theorem bd0.mod {B:Nat} {TS:List TypeId} (h:bd0 w s1 m bo oa oc b1) (hm:F1 w w' B TS) (hT:TS.contains 80=false):bd0 w' s1 m bo oa oc b1:=⟨h.le,fun i hi=>(h.blk i hi).mod hm hT⟩
theorem bd0.snoc {x:Nat} (h:bd0 w s1 m bo oa oc b1) (hx:V0 w x #[.slice (oa m) (bo m).length (oc m)] 80) (lx:s1 <=x):bd0 w s1 (m+1) bo oa oc (r6 b1 m x):=by
 have key:∀i,i<m+1->i≠m->i<m:=fun i hi hn=>by omega
 refine⟨fun i hi=>?_,fun i hi=>?_⟩ <;> by_cases hn:i=m
 ·subst hn;rw[Z2];exact lx
 ·rw[J3 hn];exact h.le i (key i hi hn)
 ·subst hn;rw[Z2];exact hx
 ·rw[J3 hn];exact h.blk i (key i hi hn)
end
abbrev hS (p:j4) (sc:Nat->Int) (sn:Nat):HW:=((V1 p).pn sc sn).s
structure ag0 (p:j4) (sc:Nat->Int) (sn B:Nat) (w:World) (R:Rn) (Ly:I5) (r:T6):Prop where
 lg:V0 w p.l7 (arr p.m fun i=>.slice (r.la i) ((hS p sc sn).log i).length (r.lc i)) 50
 ans:∀i,i<p.m->Own w p.B 122 5 (r.la i) ((hS p sc sn).log i).length (r.lc i) (((hS p sc sn).log i).flatMap k9)
 mem:M3 w p.B p.hp p.wb p.pb 5 p.most (hS p sc sn).H Ly
 run:gc0 (V1 p) sc sn B R w
 nfp:¬R.fp p.pk
 dis:¬HF p.hp p.wb p.pb (hS p sc sn).H.Y0.length Ly p.pk
section
variable {p:j4}{sc:Nat->Int}{sn B:Nat}{w w':World}{R:Rn}{Ly:I5}{r:T6}
theorem ag0.j0 (h:ag0 p sc sn B w R Ly r) (hb:Below w.heap.size w w'):ag0 p sc sn B w' R Ly r :=
 ⟨h.lg.j0 hb,fun i hi=>Own.congr (h.ans i hi) fun ha=>hb.block _ ((h.ans i hi).lt ha),h.mem.j0 hb,h.run.j0 hb,h.nfp,h.dis⟩
theorem ag0.store (h:ag0 p sc sn B w R Ly r) {cs:Array Value} (hK:V0 w p.pk cs 48) (hg:w.grownBy w' (some p.pk)):ag0 p sc sn B w' R Ly r :=
 ⟨h.lg.other hg (V0.ne h.lg hK (by decide)),fun i hi=>(h.ans i hi).V2 hg (Own.Wm0 (h.ans i hi) (G3 hK) (by decide)),h.mem.ap1 hg h.dis,h.run.V2 hg h.nfp,h.nfp,h.dis⟩
end
theorem Ny0 {w:World} {a:Addr} {v:Value} (h:w.cell? a=some v):w.heap[a.block]? ≠some nothing:=by
 unfold World.cell? at h;intro e;rw[e]at h;simp[nothing]at h
set_option maxHeartbeats 1000000 in
theorem Da0 {lb:Nat} {pl:Nat->p7} {most:Int} {m sn lc scp hp wb pb pk l7 bp s1:Nat} {bo:Nat->List X8} {sc:Nat->Int} {ba l sa:Option Addr} {oa:Nat->Option Addr} {oc b1:Nat->Nat} {Ly:I5} {w0 w:World} (hBo:M7 w0 ba m bo oa oc) (hz:∀i,m <=i->bo i=[]) (hSc:pl0 w0 sa sn scp sc) (hF:be1 most m bo sn) (hb:Below w0.heap.size w0 w)
  (hl:Own w s1 108 1 l m lc ((List.range m).map (fvH b1 bp))) (hM:M3 w w0.heap.size hp wb pb 5 most ⟨[],[]⟩ Ly) (c1:Canon Ly.la) (c2:Canon Ly.pa) (hFb:∀b,HF hp wb pb 0 Ly b->w0.heap.size <=b/\b<s1)
  (hK:V0 w pk #[.slice none 0 0,.slice none 0 0,.slice none 0 0,.slice none 0 0,.bool false,.i 0,.p hp,.slice (pt l7) m m,.slice none 0 0] 48) (hG:V0 w l7 (arr m fun _=>.slice none 0 0) 50) (hbp:V0 w bp #[.p pk] 33) (hx:bd0 w s1 m bo oa oc b1) (l1:s1 <=pk/\s1 <=l7/\s1 <=bp) (hs1:w0.heap.size <=s1) :
  @C prog (C9 lb pl) 27 #[.slice l m lc,.slice sa sn scp] w fun v w'=>∃(p:j4) (R:Rn) (Ly':I5) (r:T6),v= .tuple #[Rr0 R,.i 0]/\(p.m=m/\p.most=most/\p.bo=bo/\p.pk=pk/\p.hp=hp/\p.l7=l7)/\n4 p/\ag0 p sc sn w0.heap.size w' R Ly' r /\
   V0 w' pk #[.slice none 0 0,.slice none 0 0,.slice none 0 0,.slice none 0 0,.bool false,.i 0,.p hp,.slice (pt l7) m m,.slice r.ta (hS p sc sn).N0.length r.tc] 48/\V0 w' bp #[.p pk] 33/\Below w0.heap.size w0 w':=by
 classical
 let RO:Nat->Prop:=fun b=>b=bp\/(∃i,i<m/\b=b1 i)\/∃i,i<m/\0<(bo i).length/\b=ab (oa i)
 let p:j4:=⟨m,most,bo,hp,wb,pb,pk,l7,RO,w,w0.heap.size,lb,pl⟩
 have hop:∀i,i<m->0<(bo i).length->∃v,w0.cell? ⟨ab (oa i),ao (oa i)+0*5+0,none⟩=some v:=fun i hi G9=>by
  obtain⟨o,ho⟩:∃o,(bo i)[0]? =some o:=⟨_,List.getElem?_eq_getElem G9⟩
  exact⟨_,(hBo.ops i hi).cell 0 o ho 0 _ rfl⟩
 have oj0:∀i,i<m->0<(bo i).length->ab (oa i)<w0.heap.size:=fun i hi G9=>by
  obtain⟨v,hv⟩:=hop i hi G9;exact jj0 hv
 have hP:n4 p:=by
  refine⟨?_,?_,?_,hF.Wo0.2⟩
  ·rintro b (h|⟨i,hi,h⟩|⟨i,hi,h0,h⟩)
   ·rw[h];exact k7 hbp (by decide)
   ·rw[h];exact k7 (hx.blk i hi) (by decide)
   ·obtain⟨v,hv⟩:=hop i hi h0;have hv':=y4 hv hb;rw[h];exact⟨jj0 hv',Ny0 hv'⟩
  ·rintro b (h|⟨i,hi,h⟩|⟨i,hi,h0,h⟩)
   ·rw[h];exact .inr ⟨_,_,hbp,by decide,by decide,by decide,by decide⟩
   ·rw[h];exact .inr ⟨_,_,hx.blk i hi,by decide,by decide,by decide,by decide⟩
   ·rw[h];exact .inl (oj0 i hi h0)
  ·intro i hi o ho;rcases Nat.lt_or_ge i m with z|z
   ·exact hF.kinds i hi z o ho
   ·rw[show p.bo i=[] from hz i z]at ho;cases ho
 have hlen:∀i,i<m->(bo i).length <=100000:=fun i hi=>by
  have h1:=te0 (f:=fun i=>(bo i).length) hi;have h2:=hF.sum;have h1:(bo i).length <=sumTo m fun i=>(bo i).length:=h1;omega
 have hD:∀i,i<m->vt0 p i (b1 i) bp (oa i) (oc i):=fun i hi=>⟨.inr (.inl ⟨i,hi,rfl⟩),.inl rfl,fun h0=>.inr (.inr ⟨i,hi,h0,rfl⟩),hx.blk i hi,hbp,(hBo.ops i hi).j0 hb,hlen i hi⟩
 have hO:lr0 (V1 p) (fun _=>25) (fun i=>#[.pointer (some ⟨b1 i,0,none⟩),.p bp]) (fvH b1 bp) l sa sn sc:=by
  refine⟨ae1 hP,hF.m1,Nat.le_trans hF.sn1 (by decide),hl.sl,hSc.sl,fun i hi=>.inr ⟨rfl,rfl,_,func25,rfl,kj1⟩,?_,fun base i cb top u F hi _ hs=>?_⟩
  ·rw[Wp0 _ (.inr ⟨sc,sn,rfl⟩)];exact Nat.zero_le _
  ·obtain⟨s,m1,r,hE,hc,hlg,htd⟩:=HSt.start hs hP;exact Hl0 rfl (an1 hP (hD i hi) hi u hE hc (by rw[hlg];exact Nat.le_refl _) (fun h=>by rw[htd h];exact Nat.le_refl _))
 let r0:T6:=⟨none,0,fun _=>none,fun _=>0⟩
 have e0:lay (laid (fun _=>0) Ly 0)=Ly:=jk0 _ 0 c1 c2;have hR0:pm0 w w0.heap.size hp pk l7 m RO w hw0 r0:=⟨hK,Own.nil _ _ _ _,hG,fun i hi=>Own.nil _ _ _ _,fun i j _ _ _ h=>absurd rfl h,fun _ _=>rfl,by omega,by omega⟩
 have mt1:∀b,HF hp wb pb 0 Ly b->¬RF pk l7 m RO r0 b:=fun b H3 hr=>by
  have h9:=hFb b H3;rcases hr with h|h|⟨ha,_⟩|⟨i,_,ha,_⟩|h|⟨i,hi,h⟩|⟨i,hi,h0,h⟩
  ·omega
  ·omega
  ·exact ha rfl
  ·exact ha rfl
  ·omega
  ·have:=hx.le i hi;omega
  ·have:=oj0 i hi h0;omega
 have hinv:ad1 p hw0 (laid (fun _=>0) Ly 0) w (fun b=>HF hp wb pb 0 Ly b\/RF pk l7 m RO r0 b):=⟨RF pk l7 m RO r0,by
  show _=fun b=>HF hp wb pb 0 (lay (laid (fun _=>0) Ly 0)) b\/_;rw[e0],by
  show M3 w w0.heap.size hp wb pb 5 most ⟨[],[]⟩ (lay (laid (fun _=>0) Ly 0));rw[e0];exact hM,rfl,⟨r0,rfl,hR0⟩,by
  show ∀b,HF hp wb pb 0 (lay (laid (fun _=>0) Ly 0)) b->_;rw[e0];exact mt1⟩
 have hlF:0<m->¬(HF hp wb pb 0 Ly (ab l)\/RF pk l7 m RO r0 (ab l)):=fun hm hh=>by
  obtain⟨cur,hc,hle,_⟩:=hl.row (hl.p8 hm);rcases hh with h|h|h|⟨ha,_⟩|⟨i,_,ha,_⟩|h|⟨i,hi,h⟩|⟨i,hi,h0,h⟩
  ·have:=hFb _ h;omega
  ·exact V0.ne hc hK (by decide) h
  ·exact V0.ne hc hG (by decide) h
  ·exact ha rfl
  ·exact ha rfl
  ·exact V0.ne hc hbp (by decide) h
  ·exact V0.ne hc (hx.blk i hi) (by decide) h
  ·have:=oj0 i hi h0;omega
 have Wq0:∀b,b<w0.heap.size->(HF hp wb pb 0 Ly b\/RF pk l7 m RO r0 b)->RO b:=fun b D2 hh=>by
  rcases hh with h|h|h|⟨ha,_⟩|⟨i,_,ha,_⟩|h
  ·have:=hFb _ h;omega
  ·omega
  ·omega
  ·exact absurd rfl ha
  ·exact absurd rfl ha
  ·exact h
 have hsF:0<sn->¬(HF hp wb pb 0 Ly (ab sa)\/RF pk l7 m RO r0 (ab sa))\/∀s m w' F',(V1 p).Inv s m w' F'->w'.heap[ab sa]? =w.heap[ab sa]?:=fun h0=>by
  by_cases hr:RO (ab sa)
  ·refine .inr fun s m w' F' hI=>?_;obtain⟨FR,_,_,_,⟨r,_,hr'⟩,_⟩:=hI;exact hr'.ro _ hr
  ·exact .inl fun hh=>hr (Wq0 _ (jj0 (hSc.cell 0 h0)) hh)
 have key:=Sl0 (Y:=V1 p) (lc:=lc) hO hinv (fun j hj=>by
  have hj:j<m:=hj;rw[hl.off,Nat.zero_add,Nat.mul_one];exact hl.cell (by simp[hj])) hlF (hSc.j0 hb) hsF
 refine @Calls.mono _ (C9 lb pl) _ _ _ _ _ key fun e w' he=>?_;cases e with
 |panicked ch=>exact he.elim
 |outgrown=>exact he.elim
 |returned v=>
  obtain⟨R,rfl,hX,⟨m',F',hI,hdR⟩,hos,W8,id1,A2,bx0⟩:=he;obtain⟨FR,rfl,hM',_,⟨r,rfl,hR'⟩,O5⟩:=hI;refine⟨p,R,lay m',r,rfl,⟨rfl,rfl,rfl,rfl,rfl,rfl⟩,hP,⟨hR'.hG,hR'.hL,hM',hX.down hb.size,hdR _ (.inr (.inl rfl)),fun z=>O5 _ z (.inl rfl)⟩,hR'.hK,(hR'.ro bp (.inl rfl)).trans hbp,hb.trans ⟨hos,id1,W8,A2,fun k hk=>?_⟩⟩;by_cases hkF:HF hp wb pb 0 Ly k\/RF pk l7 m RO r0 k
  ·exact hR'.ro k (Wq0 k hk hkF)
  ·exact bx0 k (Nat.lt_of_lt_of_le hk hb.size) hkF
end Go.Vy.Sc
end
section
namespace Go.Vy.Sc
open Go Go.Conc Go.Yc Go.RowKit Go.Proofs Go.Proofs.Ytgadhljgilblbaa Try
open Go.Vc Go.Wg
theorem Fl0 (m:Nat) (v:Value):Array.replicate (m*1) v=arr m fun _=>v:=by
 rw[Nat.mul_one];apply Array.toList_inj.1;simp[arr,List.map_const']
theorem M3.low {w w0:World} {hp wb pb:Nat} {obj most:Int} {L:I5} (h:M3 w w0.heap.size hp wb pb obj most ⟨[],[]⟩ L) (h1:w0.heap.size <=hp) (h2:w0.heap.size <=wb) (h3:w0.heap.size <=pb) {b:Nat} (hb:HF hp wb pb 0 L b):w0.heap.size <=b:=by
 rcases hb with e|e|e|e|⟨ha,e⟩|⟨ha,e⟩|⟨i,hi,_⟩
 ·omega
 ·omega
 ·omega
 ·have:=h.lL;omega
 ·obtain⟨cur,_,hle,_⟩:=h.hO.row ha;omega
 ·obtain⟨cs,_,hle,_⟩:=h.I3.bl ha;omega
 ·exact absurd hi (Nat.not_lt_zero _)
abbrev ie1 (R:Rn) (hp l7 m:Nat) (r:T6) (n:Nat):Array Value:=#[.slice R.ea R.evs.length R.ec,.slice R.na R.j2.length R.nc,.slice (pt R.eb) R.m R.m,.slice (pt R.wb) R.m R.m,.bool R.stuck,.i (R.used:Int),.p hp,.slice (pt l7) m m,.slice r.ta n r.tc]
theorem ag0.V2 {p:j4} {sc:Nat->Int} {sn B b:Nat} {w w':World} {R:Rn} {Ly:I5} {r:T6} (h:ag0 p sc sn B w R Ly r) (hg:w.grownBy w' (some b)) (hn:p.pk=b/\∃cs,V0 w b cs 48):ag0 p sc sn B w' R Ly r:=by
 obtain⟨rfl,cs,hK⟩:=hn;exact h.store hK hg
section
theorem Tt0 (x0:Option Addr) (x1:Option Addr) (x2:Nat) (x3:Nat):prog.built 48 [(1,.pointer x0),(2,.slice x1 x2 x3)]=some #[.slice none 0 0,.slice none 0 0,.slice none 0 0,.slice none 0 0,.bool false,.i 0,.pointer x0,.slice x1 x2 x3,.slice none 0 0]:=by kernel_rfl
set_option maxHeartbeats 1000000 in
theorem Nz0 {lb:Nat} {pl:Nat->p7} {most:Int} {m bc sn scp:Nat} {bo:Nat->List X8} {sc:Nat->Int} {ba sa:Option Addr} {oa:Nat->Option Addr} {oc:Nat->Nat} (w0:World) (hBo:M7 w0 ba m bo oa oc) (hz:∀i,m <=i->bo i=[]) (hSc:pl0 w0 sa sn scp sc) (hF:be1 most m bo sn) :
  @C prog (C9 lb pl) 11 #[.i most,.slice ba m bc,.slice sa sn scp] w0 fun v w=>∃(p:j4) (R:Rn) (Ly:I5) (r:T6),v= .tuple #[.p p.pk,.bool true]/\(p.m=m/\p.most=most/\p.bo=bo)/\n4 p/\ag0 p sc sn w0.heap.size w R Ly r/\V0 w p.pk (ie1 R p.hp p.l7 m r (hS p sc sn).N0.length) 48/\Below w0.heap.size w0 w:=by
 letI:Ctx prog:=C9 lb pl;refine C.enter (n:=63) func11 rfl rfl ?_;have hb:Below w0.heap.size w0 w0:=Below.refl _ _;have if1:=hF.m1;have Wi0:=hF.Wo0;refine U0 ?_;refine L.va (lc0 rfl) ?_;refine U12 ?_;refine U622 ?_;rintro _ w ⟨wb,rfl,hwb,hW,D1⟩;have hwb:=Nat.le_trans hb.size hwb;have hb:=O0 hb D1;refine L.va (K2 rfl) ?_;refine L.call (n3 rfl rfl rfl func7 rfl nm7 rfl) (ta0 w0.heap.size wb 5 most _ hb.size hW (by omega)) ?_;rintro _ w ⟨hp,pb,Ly,rfl,hM,c1,c2,D1,hhp,hpb⟩;have hhp:=Nat.le_trans hb.size hhp;have hpb:=Nat.le_trans hb.size hpb;have hb:=O0 hb D1;refine U21 ?_;refine U73 ?_;refine U620 ?_;rintro _ w1 ⟨rfl,hw⟩;refine U573 ?_;refine U244 ?_;refine U607 ?_;refine U26 ?_;refine U3 ?_;refine U102 ?_;obtain⟨s1,hs1⟩:∃s1,s1=w.heap.size:=⟨_,rfl⟩
 have hFb:∀b,HF hp wb pb 0 Ly b->w0.heap.size <=b/\b<s1:=fun b H3=>⟨hM.low hhp hwb hpb H3,by rw[hs1];exact(hM.vis H3).1⟩
 have hs0:w0.heap.size <=s1:=by rw[hs1];exact hb.size
 refine L.make (m:=m) rfl rfl underlying45 dx1 (z0:=.slice none 0 0) rfl (by decide) (by omega) (by omega) (fun w b32 F32=>?_);have l32:s1 <=b32:=by have:=F32.here;omega
 clear hs1;have Rx0:=F32.lq hb.size;have hb:=O0 hb F32.below;have hM:=hM.j0 F32.below;have ga0:=F32.blk;have hG:V0 w b32 (arr m fun _=>.slice none 0 0) 50:=by have h9:=ga0;rw[Fl0]at h9;exact h9
 clear ga0;refine L.va (Z1 (parts:=[(1,.tmp 29),(2,.tmp 32)]) rfl (Tt0 ((some (⟨hp,0,none⟩))) (pt b32) m m)) ?_;refine L.box (cs:=#[.slice none 0 0,.slice none 0 0,.slice none 0 0,.slice none 0 0,.bool false,.i 0,.p hp,.slice (pt b32) m m,.slice none 0 0]) rfl rfl (fun w b34 F34=>?_);have Oa0:=F34.lq hb.size;have l34:s1 <=b34:=by have:=F34.here;have:=(G3 hG).lt;omega
 have hb:=O0 hb F34.below;have hM:=hM.j0 F34.below;have hG:=hG.j0 F34.below;have o8:=F34.blk;refine L.alloc (cs:=#[.pointer none]) ka1 rfl (fun w b10 F10=>?_);have Hd0:=F10.lq hb.size;have l1:s1 <=b34/\s1 <=b32/\s1 <=b10:=⟨l34,l32,by have:=F10.here;have:=(G3 o8).lt;omega⟩
 have hb:=O0 hb F10.below;have hM:=hM.j0 F10.below;have hG:=hG.j0 F10.below;have o8:=o8.j0 F10.below;have T5:=F10.blk;refine L.pu 0 [.p b34] #[.p b34] jz1 T5 (fun w G0 hg A2=>?_);have Y1:=F1.E5 T5 hg;have hb:=G4 hb hb.size hg Hd0;have hM:=hM.mod Y1 rfl;have hG:=hG.mod Y1 rfl;have o8:=o8.mod Y1 rfl;have T5:=G0;refine U58 ?_;refine U28 ?_;refine U57 ?_;refine W.loop (fun k e w=>∃(i:Nat),∃(l:Option Addr),∃(lc:Nat),∃(b1:Nat->Nat),k=m-i/\e 1= .slice ba m bc/\e 2= .slice sa sn scp/\e 10= .p b10/\e 11= .slice l i lc/\e 12= .i (i:Nat)/\i <=m/\Own w s1 108 1 l i lc ((List.range i).map (fvH b1 b10))/\bd0 w s1 i bo oa oc b1/\M3 w w0.heap.size hp wb pb 5 most ⟨[],[]⟩ Ly/\V0 w b32 (arr m fun _=>.slice none 0 0) 50/\V0 w b34 #[.slice none 0 0,.slice none 0 0,.slice none 0 0,.slice none 0 0,.bool false,.i 0,.p hp,.slice (pt b32) m m,.slice none 0 0] 48/\V0 w b10 #[.p b34] 33/\Below w0.heap.size w0 w) _ ⟨0,none,0,(fun _=>0),rfl,rfl,rfl,rfl,rfl,rfl,Nat.zero_le _,Own.nil _ _ _ _,⟨fun i hi=>absurd hi (Nat.not_lt_zero _),fun i hi=>absurd hi (Nat.not_lt_zero _)⟩,hM,hG,o8,T5,hb⟩ ?_;rintro k e w ⟨i,l,lc,b1,hk,s1,s2,s10,s11,s12,hi,hl,hx,hM,hG,o8,T5,hb⟩;rw[L0 s1,L0 s2,L0 s10,L0 s11,L0 s12];clear s1 s2 s10 s11 s12;refine U18 ?_;refine U102 ?_;refine U29 ?_;refine W.y6 rfl (fun h38=>?_) (fun h38=>?_)
 ·have D2:i<m:=by omega
  refine U49 ?_;refine U0 ?_;refine U56 ?_;refine L.va (u4 (i:=i) rfl rfl underlying22 Bm0 hBo.sl D2) ?_;refine L.va (B0 (v:=.slice (oa i) (bo i).length (oc i)) rfl underlying80 rfl ((hBo.j0 hb).row i D2)) ?_;have ig1:=hl;have ih1:=hx;have vx0:=hM;have ii1:=hG;have ow0:=o8;have ox0:=T5;have vy0:=hb;refine L.alloc (cs:=#[.slice none 0 0]) kb1 rfl (fun w b13 F13=>?_);have Hg0:=F13.lq hb.size;have l13:s1 <=b13:=by have:=F13.here;have:=(G3 o8).lt;have:=l1.1;omega
  have R4:=F13.blk;refine L.pa [.slice (oa i) ((bo i).length) (oc i)] Bm0 R4 (fun w G0 hg A2=>?_);have hbA:=G4 F13.below F13.below.size hg (by have:=F13.here;omega);have hl:=ig1.j0 hbA;have hx:=ih1.j0 hbA;have hM:=vx0.j0 hbA;have hG:=ii1.j0 hbA;have o8:=ow0.j0 hbA;have T5:=ox0.j0 hbA;have hb:=O0 vy0 hbA;have R4:=G0;clear G0 hg A2 hbA F13 ig1 ih1 vx0 ii1 ow0 ox0 vy0;refine U1 ?_;refine U148 ?_;refine L.va (A8 (l:=[.tmp 13,.tmp 10]) (vs:=[.p b13,.p b10]) rfl) ?_;refine L.Q7 (cs:=#[.func (.func 25) #[] #[.p b13,.p b10]]) rfl rfl underlying105 Vh0 rfl ⟨_,ee1⟩ (by decide) (fun w b47 F47=>?_);have mu1:=F47.lq hb.size;have hb:=O0 hb F47.below;have hl:=hl.j0 F47.below;have hx:=hx.j0 F47.below;have hM:=hM.j0 F47.below;have hG:=hG.j0 F47.below;have o8:=o8.j0 F47.below;have T5:=T5.j0 F47.below;have R4:=R4.j0 F47.below;have Tu0:=F47.blk;have hsw:s1 <=w.heap.size:=by have:=(G3 o8).lt;have:=l1.1;omega
  refine L.N5 (B:=s1) (m:=1) rfl rfl underlying105 ef1 rfl (by decide) hl (fun h=>by cases h) (news:=[.func (.func 25) #[] #[.p b13,.p b10]]) rfl (fun ad had j u hj=>by
   cases had;rw[Addr.add_lit]
   match j,hj with
   |0,hj=>cases hj;exact Tu0.q0 0 rfl) (fun u hu=>by simp only[List.mem_cons,List.not_mem_nil,or_false]at hu;subst hu;rfl) (by omega) (by omega) hsw (fun l2 lc2 w2 H8 u9 J6 _=>?_)
  have r9:F1 w w2 s1 [108]:=F1.app hl u9 J6 rfl H8;have hb:=hb.trans (J6.mono hs0);have hx:=hx.mod r9 rfl;have hM:=hM.mod r9 rfl;have hG:=hG.mod r9 rfl;have o8:=o8.mod r9 rfl;have T5:=T5.mod r9 rfl;have R4:=R4.mod r9 rfl;clear r9 u9 J6 hl hsw
  rename World=>w
  refine U236 ?_;refine U39 ?_;exact⟨_,by omega,⟨i+1,l2,lc2,(r6 b1 i b13),rfl,rfl,rfl,rfl,rfl,rfl,(by omega),(by rw[Hr0];exact H8),(hx.snoc R4 l13),hM,hG,o8,T5,hb⟩⟩
 ·obtain rfl:m=i:=by omega
  refine W.exit ?_;refine U38 ?_;refine U0 ?_;refine U106 ?_;refine L.call (W1 rfl rfl func27 rfl kl1 rfl) (Da0 hBo hz hSc hF hb hl hM c1 c2 hFb o8 hG T5 hx l1 hs0) ?_;rintro _ w1 ⟨p,R,Ly1,r1,rfl,⟨pm,pmo,pbo,ppk,php,plg⟩,hP,hY,hK2,hT2,D1⟩;have hb:=D1;have o8:=hK2;have T5:=hT2;clear D1 hK2 hT2 hl hM hG hx
  rename World=>w
  refine U21 ?_;have Ob0:=hY;have ow0:=o8;have ox0:=T5;have vy0:=hb;refine L.alloc (cs:=#[.slice none 0 0,.slice none 0 0,.slice none 0 0,.slice none 0 0,.bool false,.i 0]) Ki0 rfl (fun w b14 F14=>?_);have nz1:=F14.lq hb.size;have bn1:=F14.blk;refine L.pa [.slice R.ea R.evs.length R.ec,.slice R.na R.j2.length R.nc,.slice (pt R.eb) R.m R.m,.slice (pt R.wb) R.m R.m,.bool R.stuck,.i (R.used:Int)] da0 bn1 (fun w G0 hg A2=>?_);have hbA:=G4 F14.below F14.below.size hg (by have:=F14.here;omega);have hY:=Ob0.j0 hbA;have o8:=ow0.j0 hbA;have T5:=ox0.j0 hbA;have hb:=O0 vy0 hbA;have bn1:=G0;clear G0 hg A2 hbA F14 Ob0 ow0 ox0 vy0;refine U256 ?_;refine L.va (B0 rfl underlying33 rfl (T5.q0 0 (v:=.p b34) rfl)) ?_;refine L.va (Q0 (cs:=[.slice R.ea R.evs.length R.ec,.slice R.na R.j2.length R.nc,.slice (pt R.eb) R.m R.m,.slice (pt R.wb) R.m R.m,.bool R.stuck,.i (R.used:Int)]) rfl underlying40 rfl da0 rfl (bn1.B4 rfl)) ?_;refine L.va (K1 rfl) ?_;refine L.va (E0 rfl underlying48 rfl da0 (by decide)) ?_;refine L.pu 0 [.slice R.ea R.evs.length R.ec,.slice R.na R.j2.length R.nc,.slice (pt R.eb) R.m R.m,.slice (pt R.wb) R.m R.m,.bool R.stuck,.i (R.used:Int)] #[.slice R.ea R.evs.length R.ec,.slice R.na R.j2.length R.nc,.slice (pt R.eb) R.m R.m,.slice (pt R.wb) R.m R.m,.bool R.stuck,.i (R.used:Int),.p hp,.slice (pt b32) m m,.slice r1.ta ((hS p sc sn).N0.length) r1.tc] da0 o8 (fun w G0 hg A2=>?_);have Y1:=F1.E5 o8 hg;have hb:=G4 hb hb.size hg Oa0;have hY:=hY.V2 hg ⟨ppk,_,o8⟩;have T5:=T5.mod Y1 rfl;have o8:=G0;refine U11 ?_;refine W.seq ?_;refine W.fl 5 [2] [0,1,2,3,4] (fun w'=>V0 w' b10 #[.p b34] 33) (by kernel_rfl) (by kernel_rfl) (by kernel_rfl) (by kernel_rfl) (by kernel_rfl) (T5.j0 (Below.refl w.heap.size w).drew) ?_;have Y2:Below w.heap.size w w.drew:=(Below.refl w.heap.size w).drew;have hb:=O0 hb Y2;have hY:=hY.j0 Y2;have o8:=o8.j0 Y2;have T5:=T5.j0 Y2;clear Y2;generalize w.drew=w at *;refine F.va rfl rfl (fun w' J0=>(B0 rfl underlying33 rfl (J0.q0 0 (v:=.p b34) rfl))) ?_;refine F.va rfl rfl (fun w' J0=>(K2 rfl)) ?_;refine F.A9 rfl rfl ?_;refine L.call (X4 rfl func10 rfl Kq0 rfl) (vs0 _ w) ?_;rintro _ w1 ⟨rfl,hw⟩;refine U10 ?_;refine L.nil ⟨rfl,T5,?_⟩;refine F.va rfl rfl (fun w' J0=>(A1 (r:=true) (by decide) (S1 (m:=0) (k:=0) rfl rfl))) ?_;refine F.va rfl rfl (fun w' J0=>(lc0 rfl)) ?_;refine U15 ?_;refine U12 ?_;refine U97 ?_;exact⟨p,R,Ly1,r1,by rw[ppk];rfl,⟨pm,pmo,pbo⟩,hP,hY,by rw[ppk,php,plg];exact o8,hb⟩
end
theorem Db0:∀(vs old pre post:List Value),vs.length=old.length->setRow (pre++(old++post)).toArray pre.length vs=(pre++(vs++post)).toArray:=by
 intro vs
 induction vs with
 |nil=>intro old pre post h;have:old=[]:=List.length_eq_zero_iff.1 h.symm;subst this;rfl
 |cons v vs ih=>
  intro old pre post h;cases old with
  |nil=>cases h
  |cons o old=>
   have h:vs.length=old.length:=by simpa using h
   show setRow ((pre++(o::old++post)).toArray.setIfInBounds pre.length v) (pre.length+1) vs=_;have e1:(pre++(o::old++post)).toArray.setIfInBounds pre.length v=((pre ++ [v])++(old++post)).toArray:=by
    apply Array.toList_inj.1;simp
   rw[e1,show pre.length+1=(pre ++ [v]).length by simp,ih old (pre ++ [v]) post h];simp
theorem be0 {α:Type} {f:α->List Value} {k:Nat} (hf:∀x,(f x).length=k):∀l:List α,(l.flatMap f).length=l.length*k
 | []=>by simp
 |x::l=>by rw[List.flatMap_cons,List.length_append,hf,be0 hf l,List.length_cons,Nat.succ_mul];omega
theorem vz0 {α:Type} (f:α->List Value) (k:Nat) (hf:∀x,(f x).length=k) {l:List α} {i:Nat} (x:α) (hi:i<l.length) (post:List Value):setRow (l.flatMap f++post).toArray (i*k) (f x)=((l.set i x).flatMap f++post).toArray:=by
 have e1:l=l.take i++(l[i]::l.drop (i+1)):=by rw[<- List.drop_eq_getElem_cons hi,List.take_append_drop]
 have e2:l.set i x=l.take i++(x::l.drop (i+1)):=by rw[List.set_eq_take_append_cons_drop,if_pos hi]
 have e3:l.flatMap f++post=(l.take i).flatMap f++(f l[i]++((l.drop (i+1)).flatMap f++post)):=by
  have e6:l.flatMap f=(l.take i++(l[i]::l.drop (i+1))).flatMap f:=congrArg (fun z:List α=>z.flatMap f) e1;rw[e6,List.flatMap_append,List.flatMap_cons,List.append_assoc,List.append_assoc]
 have e4:(l.set i x).flatMap f++post=(l.take i).flatMap f++(f x++((l.drop (i+1)).flatMap f++post)):=by
  rw[e2];simp
 have e5:i*k=((l.take i).flatMap f).length:=by rw[be0 hf,List.length_take,Nat.min_eq_left (Nat.le_of_lt hi)]
 rw[e3,e4,e5];exact Db0 _ _ _ _ (by rw[hf,hf])
theorem qw0 {α:Type} (f:α->List Value) (k:Nat) (hf:∀x,(f x).length=k) {l:List α} {i:Nat} (x:α) (hi:i<l.length):setRow (l.flatMap f).toArray (0+i*k) (f x)=((l.set i x).flatMap f).toArray:=by
 have:=vz0 f k hf x hi [];rw[Nat.zero_add];simpa using this
theorem Own.over {w w':World} {B s c:Nat} {E:TypeId} {a:Option Addr} {α:Type} (f:α->List Value) (hf:∀x,(f x).length=s) {l:List α} {i:Nat} (x:α) (h:Own w B E s a l.length c (l.flatMap f)) (hi:i<l.length) {cur:Array Value} (kw0:V0 w (ab a) cur E) (hB:V0 w' (ab a) (setRow cur (0+i*s) (f x)) E):Own w' B E s a (l.set i x).length c ((l.set i x).flatMap f):=by
 rw[Nat.zero_add]at hB;have ha:=h.p8 (by omega);obtain⟨Dc0,V8,hle,hnc,hmx,hcs,ht⟩:=h.row ha;have:Dc0=cur:=by
  have h1:w.heap[ab a]? =some (.cells Dc0 E (0,0)):=V8;have h2:w.heap[ab a]? =some (.cells cur E (0,0)):=kw0;rw[h1]at h2;cases h2;rfl
 subst this;have ec:Dc0=(l.flatMap f++Dc0.toList.drop (l.length*s)).toArray:=by
  apply Array.toList_inj.1;show Dc0.toList=l.flatMap f++_;rw[<- ht,List.take_append_drop]
 have e2:=vz0 f s hf x hi (Dc0.toList.drop (l.length*s));rw[<- ec]at e2;rw[e2]at hB;have hl:((l.set i x).flatMap f).length=l.length*s:=by rw[be0 hf,List.length_set]
 refine⟨by rw[be0 hf],.inr ⟨ab a,c,_,?_,hle,hB,by rw[List.length_set];exact hnc,hmx,?_,?_⟩⟩
 ·rw[h.sl (by omega),h.off,List.length_set];rfl
 ·have h7:Dc0.toList.length=c*s:=by rw[Array.length_toList];exact hcs
  show((l.set i x).flatMap f++_).length=c*s;rw[List.length_append,hl,List.length_drop,h7];have:=Nat.mul_le_mul_right s hnc;omega
 ·show List.take _ ((l.set i x).flatMap f++_)=_;rw[List.length_set];exact List.take_left' hl
structure DL where
 na:Option Addr
 nc:Nat
 pa:Option Addr
 pc:Nat
def nd3 (d:Nd):List Value:=[.i d.g,.bool d.l,.i d.v]
structure Dc where
 c:L1
 a:Option Addr
 k:Nat
def dcC (d:Dc):List Value:=[.i (d.c.at_:Int),.i d.c.num,.i d.c.rn,.i d.c.rg,.i d.c.val,.slice d.a d.c.seen.length d.k,.i d.c.tn,.i d.c.tg,.i d.c.e,.i d.c.x,.bool d.c.ok]
def dc0:Dc:=⟨hc0,none,0⟩
structure DH (w:World) (B hb:Nat) (most:Int) (H:Hs) (L:DL):Prop where
 hH:V0 w hb #[.i 5,.i most,.slice L.na H.Y0.length L.nc,.slice L.pa H.pool.length L.pc] 113
 nO:Own w B 125 3 L.na H.Y0.length L.nc (H.Y0.flatMap nd3)
 pO:N1 w B L.pa L.pc H.pool
theorem N1.j0 {w w':World} {B:Nat} {pa:Option Addr} {pc:Nat} {l:List Int} (h:N1 w B pa pc l) (hb:Below w.heap.size w w'):N1 w' B pa pc l :=
 ⟨h.sl,h.canon,h.nil,h.le,fun ha=>let⟨cs,h1,h2,h3⟩:=h.bl ha;⟨cs,h1.j0 hb,h2,h3⟩⟩
theorem N1.mod {w w':World} {B B':Nat} {TS:List TypeId} {pa:Option Addr} {pc:Nat} {l:List Int} (h:N1 w B pa pc l) (hm:F1 w w' B' TS) (hT:TS.contains 3=false):N1 w' B pa pc l :=
 ⟨h.sl,h.canon,h.nil,h.le,fun ha=>let⟨cs,h1,h2,h3⟩:=h.bl ha;⟨cs,h1.mod hm hT,h2,h3⟩⟩
theorem N1.off {w w':World} {B b:Nat} {pa:Option Addr} {pc:Nat} {l:List Int} (h:N1 w B pa pc l) (hg:w.grownBy w' (some b)) (hb:b<B):N1 w' B pa pc l :=
 ⟨h.sl,h.canon,h.nil,h.le,fun ha=>let⟨cs,h1,h2,h3⟩:=h.bl ha;⟨cs,h1.other hg (by omega),h2,h3⟩⟩
theorem N1.down {w:World} {B B':Nat} {pa:Option Addr} {pc:Nat} {l:List Int} (h:N1 w B pa pc l) (hB:B' <=B):N1 w B' pa pc l :=
 ⟨h.sl,h.canon,h.nil,h.le,fun ha=>let⟨cs,h1,h2,h3⟩:=h.bl ha;⟨cs,h1,by omega,h3⟩⟩
theorem N1.zero (w:World) (B:Nat):N1 w B none 0 []:=⟨SL.zero _,(fun _ h=>by cases h),fun _=>⟨rfl,rfl⟩,Nat.le_refl _,fun h=>absurd rfl h⟩
theorem N1.own {w:World} {B n c:Nat} {a:Option Addr} {l:List Int} (h:Own w B 3 1 a n c (l.map (Value.int .i64))) (hn:n=l.length):N1 w B a c l:=by
 subst hn;refine⟨h.sl,G6 h,fun ha=>?_,?_,fun ha=>?_⟩
 ·subst ha;have h0:=fi0 h;refine⟨h0,?_⟩;rcases h.2 with⟨hv,_⟩|⟨g,cap,cur,hv,_⟩
  ·exact(Value.slice.inj hv).2.2
  ·cases(Value.slice.inj hv).1
 ·rcases h.2 with⟨hv,h0⟩|⟨g,cap,cur,hv,_,_,hn,_⟩
  ·have:=(Value.slice.inj hv).2.1;omega
  ·have:=(Value.slice.inj hv).2.2;omega
 ·obtain⟨cur,h1,h2,_,_,_,h5⟩:=h.row ha;refine⟨cur,h1,h2,fun j z hj=>?_⟩;have hl:=(List.getElem?_eq_some_iff.1 hj).1;have h6:(cur.toList.take (l.length*1))[j]? =some (.i z):=by rw[h5,List.getElem?_map,hj];rfl
  rw[List.getElem?_take,if_pos (by omega)]at h6;rw[<- Array.getElem?_toList];exact h6
theorem N1.src {w:World} {B:Nat} {pa:Option Addr} {pc:Nat} {l:List Int} (h:N1 w B pa pc l) (ad:Addr) (had:pa=some ad) (j:Nat) (u:Value) (hj:(l.map (Value.int .i64))[j]? =some u):w.cell? (ad.add j)=some u:=by
 rw[List.getElem?_map]at hj;cases hz:l[j]? with
 |none=>rw[hz]at hj;cases hj
 |some z=>
  rw[hz]at hj;cases hj;obtain⟨cs,h1,_,h3⟩:=h.bl (by rw[had];simp);have e:=h.canon ad had;rw[had]at h1;have h1:V0 w ad.block cs 3:=h1;rw[e,Addr.add_lit,Nat.zero_add];exact h1.q0 j (h3 j z hz)
section
variable {w w':World}{B hb:Nat}{most:Int}{H:Hs}{L:DL}
theorem DH.j0 (h:DH w B hb most H L) (hw:Below w.heap.size w w'):DH w' B hb most H L :=
 ⟨h.hH.j0 hw,Own.congr h.nO fun ha=>hw.block _ (h.nO.lt ha),h.pO.j0 hw⟩
theorem DH.mod {B':Nat} {TS:List TypeId} (h:DH w B hb most H L) (hm:F1 w w' B' TS) (hT:(([113,125,3]:List TypeId).all fun t=>!TS.contains t)=true):DH w' B hb most H L:=by
 simp only[List.all_cons,List.all_nil,Bool.and_true,Bool.and_eq_true,Bool.not_eq_true']at hT;exact⟨h.hH.mod hm hT.1,h.nO.mod hm hT.2.1,h.pO.mod hm hT.2.2⟩
theorem DH.off {b:Nat} (h:DH w B hb most H L) (hg:w.grownBy w' (some b)) (V7:b<B) (h1:hb≠b):DH w' B hb most H L :=
 ⟨h.hH.other hg h1,Own.congr h.nO fun ha=>by
  obtain⟨cur,hc,hle,_⟩:=h.nO.row ha;exact hg.block _ (G3 hc).lt fun e=>by have:=Option.some.inj e;omega,h.pO.off hg V7⟩
theorem DH.nd (h:DH w B hb most H L) {i:Nat} (hi:i<H.Y0.length):∀(j:Nat) (v:Value),(nd3 (o3 H i))[j]? =some v->w.cell? ⟨ab L.na,ao L.na+i*3+j,none⟩=some v:=fun j v hj=>by
 rw[h.nO.off,Nat.zero_add];exact h.nO.cell (D9 nd3 3 (fun _=>rfl) H.Y0 i (o3 H i) j v (by unfold o3;rw[List.getElem?_eq_getElem hi];rfl) hj)
theorem DH.ij1 (h:DH w B hb most H L):qv0 w hb 5 most H L.na L.nc L.pa L.pc :=
 ⟨h.hH,h.nO.sl,fun i hi=>⟨h.nd hi 0 _ rfl,h.nd hi 1 _ rfl,h.nd hi 2 _ rfl⟩,h.pO.sl,fun j z hj=>by
  have hl:=(List.getElem?_eq_some_iff.1 hj).1;obtain⟨cs,h1,_,h3⟩:=h.pO.bl (by rw[h.pO.sl (by omega)];simp);have e:ao L.pa=0:=by
   have h9:=h.pO.sl (by omega);exact congrArg Addr.off (h.pO.canon _ h9)
  rw[e,Nat.zero_add,Nat.mul_one];exact h1.q0 j (h3 j z hj)⟩
end
theorem Hs0 {w:World} {Bs k:Nat} {a:Option Addr} {p0:List Int} {z:Int} (h:N1 w Bs a k (p0 ++ [z])):w.cell? ⟨ab a,ao a+p0.length*1,none⟩=some (.i z):=by
 have h9:=h.sl (by simp);obtain⟨cs,h1,_,h3⟩:=h.bl (by rw[h9];simp);have e:ao a=0:=congrArg Addr.off (h.canon _ h9);rw[e,Nat.zero_add,Nat.mul_one];exact h1.q0 _ (h3 _ z (by simp))
theorem N1.low {w w':World} {Bs k N:Nat} {a:Option Addr} {l:List Int} (h:N1 w Bs a k l) (D2:a≠none->ab a<N) (hb:Below N w w'):N1 w' Bs a k l :=
 ⟨h.sl,h.canon,h.nil,h.le,fun ha=>let⟨cs,h1,h2,h3⟩:=h.bl ha;⟨cs,(hb.block _ (D2 ha)).trans h1,h2,h3⟩⟩
section
variable [Ctx prog]
end
section
theorem Tv0 (x0:Int) (x1:Int) (x2:Int):prog.built 77 [(0,.i x0),(1,.i x1),(2,.i x2)]=some #[.i x0,.i x1,.i x2]:=by kernel_rfl
theorem Tw0 (x0:Int) (x1:Int):prog.built 117 [(0,.i x0),(3,.i x1)]=some #[.i x0,.i 0,.i 0,.i 0,.i x1,.slice none 0 0,.i 0,.i 0,.i 0,.i 0,.bool false]:=by kernel_rfl
theorem Tx0:prog.built 117 []=some #[.i 0,.i 0,.i 0,.i 0,.i 0,.slice none 0 0,.i 0,.i 0,.i 0,.i 0,.bool false]:=by kernel_rfl
theorem Fm0 (x0:Int) (x1:Int) (x2:Int) (x3:Int):prog.built 117 [(0,.i x0),(1,.i x1),(2,.agg #[.i x2,.i x3])]=some #[.i x0,.i x1,.i x2,.i x3,.i 0,.slice none 0 0,.i 0,.i 0,.i 0,.i 0,.bool false]:=by kernel_rfl
end
section
variable [Ctx prog]
theorem Fn0 {Bs H3:Nat} {most:Int} {H:Hs} {Lx:DL} (w0:World) (hD:DH w0 Bs H3 most H Lx) (num:Int):C prog 84 #[.p H3,.i num] w0 fun v w=>v= .bool (ci0 H num)/\Below w0.heap.size w0 w:=by
 refine C.enter (n:=16) func84 rfl rfl ?_;refine U391 ?_;intro hb hH;refine U40 ?_;refine U20 ?_;refine U229 ?_;refine L.g7 8 [7,8,9,10,11,12,13,14,15] 15 (.bool (decide (1 <=num/\num <=(H.Y0.length:Int)))) (tj:=7) rfl (fun hb7=>?_) (fun hb7=>?_) (fun f=>?_)
 ·refine L.on rfl ?_;refine U27 ?_;refine U287 ?_;refine U451 ?_;refine L.va (E0 rfl underlying113 rfl gn0 (by decide)) ?_;refine L.on rfl ?_;refine L.va (B0 rfl underlying111 rfl (hH.q0 2 (v:=.slice Lx.na H.Y0.length Lx.nc) rfl)) ?_;refine L.on rfl ?_;refine L.va (V4 rfl underlying111 rfl) ?_;refine L.on rfl ?_;refine U219 ?_;refine⟨rfl,congrArg Value.bool (by first|exact lg0 hb7|rfl|(simp_all;done)|(rw[Bool.eq_iff_iff];simp_all;omega)),?_⟩;exact A0.upd rfl (A0.upd rfl (A0.upd rfl (A0.upd rfl (A0.upd rfl (A0.upd rfl (A0.upd rfl (A0.upd rfl (A0.upd rfl (A0.refl _ _)))))))))
 ·refine L.off rfl ?_;refine U105 ?_;refine U62 ?_;refine U25 ?_;refine⟨rfl,congrArg Value.bool (by first|exact lf0 hb7|rfl|(simp_all;done)|(rw[Bool.eq_iff_iff];simp_all;omega)),?_⟩;exact A0.upd rfl (A0.upd rfl (A0.upd rfl (A0.upd rfl (A0.upd rfl (A0.upd rfl (A0.upd rfl (A0.upd rfl (A0.upd rfl (A0.refl _ _)))))))))
 refine U377 ?_;refine⟨(?_:Value.bool (decide (1 <=num/\num <=(H.Y0.length:Int)))=_),hb⟩;simp[ci0]
theorem wa0 {Bs H3:Nat} {most:Int} {H:Hs} {Lx:DL} (w0:World) (hD:DH w0 Bs H3 most H Lx) (num:Int) (hn:ci0 H num=false):C prog 84 #[.p H3,.i num] w0 fun v w=>v= .bool false/\Below w0.heap.size w0 w:=by
 have h:=Fn0 w0 hD num;rw[hn]at h;exact h
theorem qx0 {Bs H3:Nat} {most:Int} {H:Hs} {Lx:DL} (w0:World) (hD:DH w0 Bs H3 most H Lx) (num:Int) (hn:ci0 H num=true):C prog 84 #[.p H3,.i num] w0 fun v w=>v= .bool true/\Below w0.heap.size w0 w:=by
 have h:=Fn0 w0 hD num;rw[hn]at h;exact h
theorem jz0 {Bs H3:Nat} {most:Int} {H:Hs} {Lx:DL} (w0:World) (hD:DH w0 Bs H3 most H Lx) (k num:Int):C prog 62 #[.p H3,.i k,.i num] w0 fun v w=>v= .agg #[.i k,.i 5,.i num]/\Below w0.heap.size w0 w:=by
 refine C.enter (n:=14) func62 rfl rfl ?_;refine U391 ?_;intro hb hH;refine U0 ?_;refine L.alloc (cs:=#[.i 0,.i 0,.i 0]) dy1 rfl (fun w b6 F6=>?_);have lt6:=F6.lq hb.size;have hb:=O0 hb F6.below;have hH:=hH.j0 F6.below;have O2:=F6.blk;refine U124 ?_;refine U45 ?_;refine L.va (E0 rfl underlying113 rfl c5 (by decide)) ?_;refine L.va (B0 rfl underlying3 rfl (hH.q0 0 (v:=.i 5) rfl)) ?_;refine L.va (K2 rfl) ?_;refine L.va (Z1 (parts:=[(0,.tmp 7),(1,.tmp 11),(2,.tmp 12)]) rfl (Tv0 k 5 num)) ?_;refine L.pu 0 [.i k,.i 5,.i num] #[.i k,.i 5,.i num] k8 O2 (fun w G0 hg A2=>?_);have Y1:=F1.E5 O2 hg;have hb:=G4 hb hb.size hg lt6;have O2:=G0;refine U35 ?_;refine ends.cell (cs:=#[.i k,.i 5,.i num]) (.inr rfl) rfl rfl underlying77 rfl k8 O2 ?_;exact⟨rfl,hb⟩
theorem Oc0 {Bs H3:Nat} {most:Int} {H:Hs} {Lx:DL} (w0:World) (hD:DH w0 Bs H3 most H Lx) (num rn rg val tn tg er x:Int) (a:Option Addr) (sn sk:Nat) (ok:Bool):C prog 29 #[.p H3,.agg #[.i 1,.i num,.i rn,.i rg,.i val,.slice a sn sk,.i tn,.i tg,.i er,.i x,.bool ok]] w0 fun v w=>v= .agg #[.i 8,.i 5,.i 0]/\Below w0.heap.size w0 w:=by
 refine U68 ?_;intro hb;refine U205 ?_;intro w b3 F3 lt3 hb;have hD:=hD.j0 F3.below;have C1:=F3.blk;refine U80 ?_;intro w b4 F4 lt4 hb hD C1 B1;refine U214 ?_;refine U78 ?_;refine U210 ?_;refine U392 ?_;refine U562 ?_;rintro _ w ⟨rfl,D1⟩;refine U50 ?_;intro hb B1;refine L.pu 0 [.i 8,.i 5,.i 0] #[.i 8,.i 5,.i 0] k8 B1 (fun w G0 hg A2=>?_);refine U19 ?_;intro hb B1;exact U528
theorem Od0 {Bs H3:Nat} {most:Int} {H:Hs} {Lx:DL} (w0:World) (hD:DH w0 Bs H3 most H Lx) (num rn rg val tn tg er x:Int) (a:Option Addr) (sn sk:Nat) (ok:Bool):C prog 29 #[.p H3,.agg #[.i 6,.i num,.i rn,.i rg,.i val,.slice a sn sk,.i tn,.i tg,.i er,.i x,.bool ok]] w0 fun v w=>v= .agg #[.i 8,.i 5,.i 0]/\Below w0.heap.size w0 w:=by
 refine U68 ?_;intro hb;refine L.box (cs:=#[.i 6,.i num,.i rn,.i rg,.i val,.slice a sn sk,.i tn,.i tg,.i er,.i x,.bool ok]) rfl rfl (fun w b3 F3=>?_);refine U37 ?_;intro lt3 hb hD;have C1:=F3.blk;refine U80 ?_;intro w b4 F4 lt4 hb hD C1 B1;refine U589 ?_;refine U78 ?_;refine L.va (A1 (r:=false) (by decide) (S1 (m:=6) (k:=1) rfl rfl)) ?_;refine U16 ?_;refine U575 ?_;refine U562 ?_;rintro _ w ⟨rfl,D1⟩;refine U50 ?_;intro hb B1;refine L.pu 0 [.i 8,.i 5,.i 0] #[.i 8,.i 5,.i 0] k8 B1 (fun w G0 hg A2=>?_);refine U19 ?_;intro hb B1;exact U528
theorem Oe0 {Bs H3:Nat} {most:Int} {H:Hs} {Lx:DL} (w0:World) (hD:DH w0 Bs H3 most H Lx) (num rn rg val tn tg er x:Int) (a:Option Addr) (sn sk:Nat) (ok:Bool):C prog 29 #[.p H3,.agg #[.i 2,.i num,.i rn,.i rg,.i val,.slice a sn sk,.i tn,.i tg,.i er,.i x,.bool ok]] w0 fun v w=>v= .agg #[.i 9,.i 5,.i 0]/\Below w0.heap.size w0 w:=by
 refine U68 ?_;intro hb;refine L.box (cs:=#[.i 2,.i num,.i rn,.i rg,.i val,.slice a sn sk,.i tn,.i tg,.i er,.i x,.bool ok]) rfl rfl (fun w b3 F3=>?_);refine U37 ?_;intro lt3 hb hD;have C1:=F3.blk;refine U80 ?_;intro w b4 F4 lt4 hb hD C1 B1;refine U590 ?_;refine U78 ?_;refine L.va (A1 (r:=false) (by decide) (S1 (m:=2) (k:=1) rfl rfl)) ?_;refine U16 ?_;refine L.va (A1 (r:=false) (by decide) (S1 (m:=2) (k:=6) rfl rfl)) ?_;refine U53 ?_;refine U578 ?_;refine U392 ?_;refine U563 ?_;rintro _ w ⟨rfl,D1⟩;refine U50 ?_;intro hb B1;refine L.pu 0 [.i 9,.i 5,.i 0] #[.i 9,.i 5,.i 0] k8 B1 (fun w G0 hg A2=>?_);refine U19 ?_;intro hb B1;exact U529
theorem Of0 {Bs H3:Nat} {most:Int} {H:Hs} {Lx:DL} (w0:World) (hD:DH w0 Bs H3 most H Lx) (num rn rg val tn tg er x:Int) (a:Option Addr) (sn sk:Nat) (ok:Bool):C prog 29 #[.p H3,.agg #[.i 7,.i num,.i rn,.i rg,.i val,.slice a sn sk,.i tn,.i tg,.i er,.i x,.bool ok]] w0 fun v w=>v= .agg #[.i 9,.i 5,.i 0]/\Below w0.heap.size w0 w:=by
 refine U68 ?_;intro hb;refine L.box (cs:=#[.i 7,.i num,.i rn,.i rg,.i val,.slice a sn sk,.i tn,.i tg,.i er,.i x,.bool ok]) rfl rfl (fun w b3 F3=>?_);refine U37 ?_;intro lt3 hb hD;have C1:=F3.blk;refine U80 ?_;intro w b4 F4 lt4 hb hD C1 B1;refine U588 ?_;refine U78 ?_;refine L.va (A1 (r:=false) (by decide) (S1 (m:=7) (k:=1) rfl rfl)) ?_;refine U16 ?_;refine L.va (A1 (r:=false) (by decide) (S1 (m:=7) (k:=6) rfl rfl)) ?_;refine U53 ?_;refine L.va (A1 (r:=false) (by decide) (S1 (m:=7) (k:=2) rfl rfl)) ?_;refine U16 ?_;refine U577 ?_;refine U563 ?_;rintro _ w ⟨rfl,D1⟩;refine U50 ?_;intro hb B1;refine L.pu 0 [.i 9,.i 5,.i 0] #[.i 9,.i 5,.i 0] k8 B1 (fun w G0 hg A2=>?_);refine U19 ?_;intro hb B1;exact U529
theorem Og0 {Bs H3:Nat} {most:Int} {H:Hs} {Lx:DL} (w0:World) (hD:DH w0 Bs H3 most H Lx) (num rn rg val tn tg er x:Int) (a:Option Addr) (sn sk:Nat) (ok:Bool):C prog 29 #[.p H3,.agg #[.i 3,.i num,.i rn,.i rg,.i val,.slice a sn sk,.i tn,.i tg,.i er,.i x,.bool ok]] w0 fun v w=>v= .agg #[.i 9,.i 5,.i num]/\Below w0.heap.size w0 w:=by
 refine U68 ?_;intro hb;refine L.box (cs:=#[.i 3,.i num,.i rn,.i rg,.i val,.slice a sn sk,.i tn,.i tg,.i er,.i x,.bool ok]) rfl rfl (fun w b3 F3=>?_);refine U37 ?_;intro lt3 hb hD;have C1:=F3.blk;refine U80 ?_;intro w b4 F4 lt4 hb hD C1 B1;refine U333 ?_;refine U78 ?_;refine L.va (A1 (r:=false) (by decide) (S1 (m:=3) (k:=1) rfl rfl)) ?_;refine U16 ?_;refine L.va (A1 (r:=false) (by decide) (S1 (m:=3) (k:=6) rfl rfl)) ?_;refine U53 ?_;refine L.va (A1 (r:=false) (by decide) (S1 (m:=3) (k:=2) rfl rfl)) ?_;refine U16 ?_;refine L.va (A1 (r:=false) (by decide) (S1 (m:=3) (k:=7) rfl rfl)) ?_;refine U53 ?_;refine U330 ?_;refine U392 ?_;refine U3 ?_;refine U558 ?_;rintro _ w ⟨rfl,D1⟩;refine U50 ?_;intro hb B1;refine L.pu 0 [.i 9,.i 5,.i num] #[.i 9,.i 5,.i num] k8 B1 (fun w G0 hg A2=>?_);refine U19 ?_;intro hb B1;exact U523
theorem Oh0 {Bs H3:Nat} {most:Int} {H:Hs} {Lx:DL} (w0:World) (hD:DH w0 Bs H3 most H Lx) (num rn rg val tn tg er x:Int) (a:Option Addr) (sn sk:Nat) (ok:Bool):C prog 29 #[.p H3,.agg #[.i 5,.i num,.i rn,.i rg,.i val,.slice a sn sk,.i tn,.i tg,.i er,.i x,.bool ok]] w0 fun v w=>v= .agg #[.i 9,.i 5,.i num]/\Below w0.heap.size w0 w:=by
 refine U68 ?_;intro hb;refine L.box (cs:=#[.i 5,.i num,.i rn,.i rg,.i val,.slice a sn sk,.i tn,.i tg,.i er,.i x,.bool ok]) rfl rfl (fun w b3 F3=>?_);refine U37 ?_;intro lt3 hb hD;have C1:=F3.blk;refine U80 ?_;intro w b4 F4 lt4 hb hD C1 B1;refine U585 ?_;refine U78 ?_;refine L.va (A1 (r:=false) (by decide) (S1 (m:=5) (k:=1) rfl rfl)) ?_;refine U16 ?_;refine L.va (A1 (r:=false) (by decide) (S1 (m:=5) (k:=6) rfl rfl)) ?_;refine U53 ?_;refine L.va (A1 (r:=false) (by decide) (S1 (m:=5) (k:=2) rfl rfl)) ?_;refine U16 ?_;refine L.va (A1 (r:=false) (by decide) (S1 (m:=5) (k:=7) rfl rfl)) ?_;refine U53 ?_;refine L.va (A1 (r:=false) (by decide) (S1 (m:=5) (k:=3) rfl rfl)) ?_;refine U16 ?_;refine U576 ?_;refine U3 ?_;refine U558 ?_;rintro _ w ⟨rfl,D1⟩;refine U50 ?_;intro hb B1;refine L.pu 0 [.i 9,.i 5,.i num] #[.i 9,.i 5,.i num] k8 B1 (fun w G0 hg A2=>?_);refine U19 ?_;intro hb B1;exact U523
theorem Oi0 {Bs H3:Nat} {most:Int} {H:Hs} {Lx:DL} (w0:World) (hD:DH w0 Bs H3 most H Lx) (num rn rg val tn tg er x:Int) (a:Option Addr) (sn sk:Nat) (ok:Bool):C prog 29 #[.p H3,.agg #[.i 4,.i num,.i rn,.i rg,.i val,.slice a sn sk,.i tn,.i tg,.i er,.i x,.bool ok]] w0 fun v w=>v= .agg #[.i 8,.i 5,.i num]/\Below w0.heap.size w0 w:=by
 refine U68 ?_;intro hb;refine U616 ?_;intro w b3 F3 lt3 hb hD;have C1:=F3.blk;refine U80 ?_;intro w b4 F4 lt4 hb hD C1 B1;refine U587 ?_;refine U78 ?_;refine L.va (A1 (r:=false) (by decide) (S1 (m:=4) (k:=1) rfl rfl)) ?_;refine U16 ?_;refine L.va (A1 (r:=false) (by decide) (S1 (m:=4) (k:=6) rfl rfl)) ?_;refine U53 ?_;refine L.va (A1 (r:=false) (by decide) (S1 (m:=4) (k:=2) rfl rfl)) ?_;refine U16 ?_;refine L.va (A1 (r:=false) (by decide) (S1 (m:=4) (k:=7) rfl rfl)) ?_;refine U53 ?_;refine L.va (A1 (r:=false) (by decide) (S1 (m:=4) (k:=3) rfl rfl)) ?_;refine U16 ?_;refine L.va (A1 (r:=false) (by decide) (S1 (m:=4) (k:=5) rfl rfl)) ?_;refine U131 ?_;refine W.skip ?_;refine U34 ?_;refine U3 ?_;refine U557 ?_;rintro _ w ⟨rfl,D1⟩;refine U50 ?_;intro hb B1;refine L.pu 0 [.i 8,.i 5,.i num] #[.i 8,.i 5,.i num] k8 B1 (fun w G0 hg A2=>?_);refine U19 ?_;intro hb B1;exact U524
theorem Oj0 {Bs H3:Nat} {most:Int} {H:Hs} {Lx:DL} (w0:World) (hD:DH w0 Bs H3 most H Lx) (num rn rg val tn tg er x:Int) (a:Option Addr) (sn sk:Nat) (ok:Bool):C prog 29 #[.p H3,.agg #[.i 8,.i num,.i rn,.i rg,.i val,.slice a sn sk,.i tn,.i tg,.i er,.i x,.bool ok]] w0 fun v w=>v= .agg #[.i 8,.i 5,.i num]/\Below w0.heap.size w0 w:=by
 refine U68 ?_;intro hb;refine U617 ?_;intro w b3 F3 lt3 hb hD;have C1:=F3.blk;refine U80 ?_;intro w b4 F4 lt4 hb hD C1 B1;refine U586 ?_;refine U78 ?_;refine L.va (A1 (r:=false) (by decide) (S1 (m:=8) (k:=1) rfl rfl)) ?_;refine U16 ?_;refine L.va (A1 (r:=false) (by decide) (S1 (m:=8) (k:=6) rfl rfl)) ?_;refine U53 ?_;refine L.va (A1 (r:=false) (by decide) (S1 (m:=8) (k:=2) rfl rfl)) ?_;refine U16 ?_;refine L.va (A1 (r:=false) (by decide) (S1 (m:=8) (k:=7) rfl rfl)) ?_;refine U53 ?_;refine L.va (A1 (r:=false) (by decide) (S1 (m:=8) (k:=3) rfl rfl)) ?_;refine U16 ?_;refine L.va (A1 (r:=false) (by decide) (S1 (m:=8) (k:=5) rfl rfl)) ?_;refine U131 ?_;refine W.skip ?_;refine U34 ?_;refine U3 ?_;refine U557 ?_;rintro _ w ⟨rfl,D1⟩;refine U50 ?_;intro hb B1;refine L.pu 0 [.i 8,.i 5,.i num] #[.i 8,.i 5,.i num] k8 B1 (fun w G0 hg A2=>?_);refine U19 ?_;intro hb B1;exact U524
theorem Ol0 {Bs H3:Nat} {most:Int} {H:Hs} {Lx:DL} (w0:World) (hD:DH w0 Bs H3 most H Lx) (d:Dc) (h0:d.c.at_≠0) (h8:d.c.at_ <=8):C prog 29 #[.p H3,.agg (dcC d).toArray] w0 fun v w=>v=gm0 (D3 5 d.c)/\Below w0.heap.size w0 w:=by
 have hc:d.c.at_=1\/d.c.at_=2\/d.c.at_=3\/d.c.at_=4\/d.c.at_=5\/d.c.at_=6\/d.c.at_=7\/d.c.at_=8:=by omega
 unfold dcC D3;rcases hc with e|e|e|e|e|e|e|e <;> rw[e]
 ·exact Oc0 w0 hD _ _ _ _ _ _ _ _ _ _ _ _
 ·exact Oe0 w0 hD _ _ _ _ _ _ _ _ _ _ _ _
 ·exact Og0 w0 hD _ _ _ _ _ _ _ _ _ _ _ _
 ·exact Oi0 w0 hD _ _ _ _ _ _ _ _ _ _ _ _
 ·exact Oh0 w0 hD _ _ _ _ _ _ _ _ _ _ _ _
 ·exact Od0 w0 hD _ _ _ _ _ _ _ _ _ _ _ _
 ·exact Of0 w0 hD _ _ _ _ _ _ _ _ _ _ _ _
 ·exact Oj0 w0 hD _ _ _ _ _ _ _ _ _ _ _ _
theorem Ht0 {Bs H3:Nat} {most:Int} {H:Hs} {Lx:DL} (w0:World) (hD:DH w0 Bs H3 most H Lx) (rn rg:Int) (hn:ci0 H rn=false):C prog 64 #[.p H3,.agg #[.i rn,.i rg]] w0 fun v w=>v= .tuple #[.i 0,.bool false]/\Below w0.heap.size w0 w:=by
 refine C.enter (n:=49) func64 rfl rfl ?_;refine U146 ?_;intro hb w b3 F3;refine U37 ?_;intro lt3 hb hD;have C1:=F3.blk;refine U46 ?_;refine U361 ?_;refine D.va (fun w' J0=>(E0 rfl underlying82 rfl c5 (by decide))) ?_;refine D.va (fun w' J0=>(B0 rfl underlying3 rfl ((C1.j0 J0).q0 0 (v:=.i rn) rfl))) ?_;refine D.call (fun w' J0=>(W1 rfl rfl func84 rfl Ri0 rfl)) (fun w' J0=>((wa0 w' (hD.j0 J0) rn hn).mono fun r w h=>⟨h.1,O0 J0 h.2⟩)) ?_;refine U591 ?_;refine U52 ?_;refine U52 ?_;refine U277 ?_;refine U637 ?_;refine D.va (fun w' J0=>(v7 rfl)) ?_;refine U52 ?_;refine U52 ?_;refine U52 ?_;refine U637 ?_;refine U30 ?_;intro w D1 hb;refine U22 ?_;refine W.Y5 rfl ?_;refine U0 ?_;refine U93 ?_;exact⟨rfl,hb⟩
theorem Hu0 {Bs H3:Nat} {most:Int} {H:Hs} {Lx:DL} (w0:World) (hD:DH w0 Bs H3 most H Lx) (i:Nat) (hi:i<H.Y0.length) (rg:Int):C prog 64 #[.p H3,.agg #[.i ((i:Int)+1),.i rg]] w0 fun v w=>v= .tuple #[.i (V3 H ((i:Int)+1) rg).1,.bool (V3 H ((i:Int)+1) rg).2]/\Below w0.heap.size w0 w:=by
 refine C.enter (n:=49) func64 rfl rfl ?_;refine U391 ?_;intro hb hH;have hn:ci0 H ((i:Int)+1)=true:=Q8.2 (by omega);have hlen:H.Y0.length <=9223372036854775807:=by
  obtain⟨cur,_,_,h1,h2,_⟩:=hD.nO.row (hD.nO.p8 (by omega));simp only[maxLen]at h2;omega
 refine U0 ?_;refine L.box (cs:=#[.i ((i:Nat)+1),.i rg]) rfl rfl (fun w b3 F3=>?_);refine U63 ?_;intro lt3 hb;have hH:=hH.j0 F3.below;have hD:=hD.j0 F3.below;have C1:=F3.blk;refine U46 ?_;refine U361 ?_;refine U448 ?_;refine D.call (fun w' J0=>(W1 rfl rfl func84 rfl Ri0 rfl)) (fun w' J0=>((qx0 w' (hD.j0 J0) ((i:Int)+1) hn).mono fun r w h=>⟨h.1,O0 J0 h.2⟩)) ?_;refine D.va (fun w' J0=>(au0 rfl)) ?_;refine U103 ?_;refine U251 ?_;refine U492 ?_;refine U320 ?_;refine U498 ?_;refine U542 ?_;refine U536 ?_;refine D.on rfl ?_;refine D.va (fun w' J0=>(E0 rfl underlying125 rfl sz4 (by decide))) ?_;refine D.on rfl ?_;refine D.va (fun w' J0=>(B0 (v:=.bool (o3 H i).l) rfl underlying4 rfl ((hD.j0 J0).nd hi 1 _ rfl))) ?_;refine D.on rfl ?_;refine U583 ?_;refine D.va (fun w' J0=>(v7 rfl)) ?_;refine D.g7 14 [24,25,26,27,28,29,30,31,32,33,34,35,36,37,38] 38 (.bool (!decide ((o3 H i).l=true/\(o3 H i).g=rg))) (tj:=24) rfl (fun Om0=>?_) (fun Om0=>?_) (fun f=>?_)
 ·refine D.off rfl ?_;refine U52 ?_;refine U52 ?_;refine U52 ?_;refine U638 ?_;refine⟨congrArg Value.bool (by simp only[Bool.not_eq_true']at Om0;simp[Om0]),?_⟩;exact A0.upd rfl (A0.upd rfl (A0.upd rfl (A0.upd rfl (A0.upd rfl (A0.upd rfl (A0.upd rfl (A0.upd rfl (A0.upd rfl (A0.upd rfl (A0.upd rfl (A0.upd rfl (A0.upd rfl (A0.upd rfl (A0.upd rfl (A0.refl _ _)))))))))))))))
 ·refine D.on rfl ?_;refine U251 ?_;refine U492 ?_;refine U320 ?_;refine U498 ?_;refine U542 ?_;refine U536 ?_;refine D.on rfl ?_;refine D.va (fun w' J0=>(E0 rfl underlying125 rfl c5 (by decide))) ?_;refine D.on rfl ?_;refine D.va (fun w' J0=>(B0 (v:=.i (o3 H i).g) rfl underlying3 rfl ((hD.j0 J0).nd hi 0 _ rfl))) ?_;refine U320 ?_;refine D.on rfl ?_;refine D.va (fun w' J0=>(B0 rfl underlying3 rfl ((C1.j0 J0).q0 1 (v:=.i rg) rfl))) ?_;refine D.on rfl ?_;refine D.va (fun w' J0=>(ad0 rfl rfl)) ?_;refine U639 ?_;refine⟨congrArg Value.bool (by simp only[Bool.not_eq_false']at Om0;simp[Om0]),?_⟩;exact A0.upd rfl (A0.upd rfl (A0.upd rfl (A0.upd rfl (A0.upd rfl (A0.upd rfl (A0.upd rfl (A0.upd rfl (A0.upd rfl (A0.upd rfl (A0.upd rfl (A0.upd rfl (A0.upd rfl (A0.upd rfl (A0.upd rfl (A0.refl _ _)))))))))))))))
 refine U30 ?_;intro w D1 hb;have hH:=hH.j0 D1;have hD:=hD.j0 D1;have C1:=C1.j0 D1;refine U22 ?_;refine W.cond rfl (fun h38=>?_) (fun h38=>?_)
 ·refine W.seq ?_;refine W.region rfl ?_;refine U93 ?_;refine⟨?_,hb⟩;rw[by0 hi,if_neg (fun h9=>by simp[h9]at h38)];rfl
 ·refine W.skip ?_;show W _ _ _ _ _ _;refine U120 ?_;refine U187 ?_;refine U448 ?_;refine D.va (fun w' J0=>(cd0 (r:=(i:Int)) (by omega) (by omega) rfl rfl)) ?_;refine D.va (fun w' J0=>(u4 (i:=i) rfl rfl underlying111 Q9 hD.nO.sl hi)) ?_;refine D.va (fun w' J0=>(E0 rfl underlying125 rfl sz2 (by decide))) ?_;refine D.va (fun w' J0=>(B0 (v:=.i (o3 H i).v) rfl underlying2 rfl ((hD.j0 J0).nd hi 2 _ rfl))) ?_;refine D.va (fun w' J0=>(gj0 rfl)) ?_;refine U384 ?_;intro w D1 hb;refine U22 ?_;refine U97 ?_;refine⟨?_,hb⟩;rw[by0 hi,if_pos (by simpa using h38)];rfl
theorem On0 {Bs H3:Nat} {most:Int} {H:Hs} {Lx:DL} (w0:World) (hD:DH w0 Bs H3 most H Lx) (rn rg:Int):C prog 64 #[.p H3,.agg #[.i rn,.i rg]] w0 fun v w=>v= .tuple #[.i (V3 H rn rg).1,.bool (V3 H rn rg).2]/\Below w0.heap.size w0 w:=by
 cases hn:ci0 H rn with
 |false=>
  have h:=Ht0 w0 hD rn rg hn;have e:V3 H rn rg=(0,false):=by unfold V3;rw[if_neg (fun z=>by rw[hn]at z;cases z.1)]
  rw[e];exact h
 |true=>
  have h1:=Q8.1 hn;obtain⟨i,rfl⟩:∃i:Nat,rn=(i:Int)+1:=⟨(rn-1).toNat,by omega⟩
  exact Hu0 w0 hD i (by omega) rg
theorem Hv0 (pz:Option Addr) (w0:World) (val:Int):C prog 59 #[.pointer pz,.i val] w0 fun v w=>v= .agg (dcC ⟨dw0 val,none,0⟩).toArray/\Below w0.heap.size w0 w:=by
 refine C.enter (n:=7) func59 rfl rfl ?_;refine U7 ?_;intro hb;refine L.alloc (cs:=#[.i 0,.i 0,.i 0,.i 0,.i 0,.slice none 0 0,.i 0,.i 0,.i 0,.i 0,.bool false]) Kl0 rfl (fun w b4 F4=>?_);refine U268 ?_;intro lt4 hb;have B1:=F4.blk;refine U124 ?_;refine L.va (Z1 (parts:=[(0,.const (.i 1)),(3,.tmp 5)]) rfl (Tw0 1 val)) ?_;refine L.pa [.i 1,.i 0,.i 0,.i 0,.i val,.slice none 0 0,.i 0,.i 0,.i 0,.i 0,.bool false] X2 B1 (fun w G0 hg A2=>?_);refine U19 ?_;intro hb B1;refine ends.cell (cs:=#[.i 1,.i 0,.i 0,.i 0,.i val,.slice none 0 0,.i 0,.i 0,.i 0,.i 0,.bool false]) (.inr rfl) rfl rfl underlying117 rfl X2 B1 ?_;exact⟨rfl,hb⟩
set_option maxHeartbeats 1000000 in
theorem Hw0 {Bs H3:Nat} {most:Int} {H:Hs} {Lx:DL} (w0:World) (hD:DH w0 Bs H3 most H Lx) (rn rg:Int) (hn:ci0 H rn=false):C prog 60 #[.p H3,.agg #[.i rn,.i rg]] w0 fun v w=>v= .agg (dcC ⟨T9 H rn rg,none,0⟩).toArray/\Below w0.heap.size w0 w:=by
 refine C.enter (n:=15) func60 rfl rfl ?_;refine U146 ?_;intro hb w b3 F3;refine U37 ?_;intro lt3 hb hD;refine U51 ?_;intro C1 w b4 F4 lt4;refine U88 ?_;intro hb hD C1 B1;refine U176 ?_;refine U570 ?_;rintro _ w ⟨rfl,D1⟩;refine U50 ?_;intro hb B1;refine L.va (au0 rfl) ?_;refine U87 ?_;refine U0 ?_;refine U543 ?_;intro w G0 hg A2;refine U499 ?_;intro hb B1;refine⟨?_,hb⟩;unfold T9;rw[if_neg (by rw[hn];decide)];rfl
set_option maxHeartbeats 1000000 in
theorem Dd0 {Bs H3:Nat} {most:Int} {H:Hs} {Lx:DL} (w0:World) (hD:DH w0 Bs H3 most H Lx) (rn rg:Int) (hn:ci0 H rn=true):C prog 60 #[.p H3,.agg #[.i rn,.i rg]] w0 fun v w=>v= .agg (dcC ⟨T9 H rn rg,none,0⟩).toArray/\Below w0.heap.size w0 w:=by
 refine C.enter (n:=15) func60 rfl rfl ?_;refine U146 ?_;intro hb w b3 F3;refine U37 ?_;intro lt3 hb hD;refine U51 ?_;intro C1 w b4 F4 lt4;refine U88 ?_;intro hb hD C1 B1;refine U176 ?_;refine U567 ?_;rintro _ w ⟨rfl,D1⟩;refine U181 ?_;intro hb C1 B1;refine L.va (au0 rfl) ?_;refine U94 ?_;refine U534 ?_;refine L.va (Z1 (parts:=[(0,.const (.i 4)),(1,.tmp 12),(2,.tmp 13)]) rfl (Fm0 4 rn rn rg)) ?_;refine L.pa [.i 4,.i rn,.i rn,.i rg,.i 0,.slice none 0 0,.i 0,.i 0,.i 0,.i 0,.bool false] X2 B1 (fun w G0 hg A2=>?_);refine U19 ?_;intro hb B1;refine ends.cell (cs:=#[.i 4,.i rn,.i rn,.i rg,.i 0,.slice none 0 0,.i 0,.i 0,.i 0,.i 0,.bool false]) (.inr rfl) rfl rfl underlying117 rfl X2 B1 ?_;refine⟨?_,hb⟩;have e9:T9 H rn rg=⟨4,rn,rn,rg,0,[],0,0,0,0,false,0⟩:=if_pos hn;rw[e9];exact(rfl:Value.agg #[.i 4,.i rn,.i rn,.i rg,.i 0,.slice none 0 0,.i 0,.i 0,.i 0,.i 0,.bool false]=_)
theorem Oo0 {Bs H3:Nat} {most:Int} {H:Hs} {Lx:DL} (w0:World) (hD:DH w0 Bs H3 most H Lx) (rn rg:Int):C prog 60 #[.p H3,.agg #[.i rn,.i rg]] w0 fun v w=>v= .agg (dcC ⟨T9 H rn rg,none,0⟩).toArray/\Below w0.heap.size w0 w:=by
 cases hn:ci0 H rn with
 |false=>exact Hw0 w0 hD rn rg hn
 |true=>exact Dd0 w0 hD rn rg hn
set_option maxHeartbeats 1000000 in
theorem De0 {Bs H3:Nat} {most:Int} {H:Hs} {Lx:DL} (w0:World) (hD:DH w0 Bs H3 most H Lx) (rn rg:Int) (hn:ci0 H rn=false):C prog 61 #[.p H3,.agg #[.i rn,.i rg]] w0 fun v w=>v= .agg (dcC ⟨fe0 H rn rg,none,0⟩).toArray/\Below w0.heap.size w0 w:=by
 refine C.enter (n:=15) func61 rfl rfl ?_;refine U146 ?_;intro hb w b3 F3;refine U37 ?_;intro lt3 hb hD;refine U51 ?_;intro C1 w b4 F4 lt4;refine U88 ?_;intro hb hD C1 B1;refine U176 ?_;refine U570 ?_;rintro _ w ⟨rfl,D1⟩;refine U50 ?_;intro hb B1;refine L.va (au0 rfl) ?_;refine U87 ?_;refine U0 ?_;refine U543 ?_;intro w G0 hg A2;refine U499 ?_;intro hb B1;refine⟨?_,hb⟩;unfold fe0;rw[if_neg (by rw[hn];decide)];rfl
set_option maxHeartbeats 1000000 in
theorem wb0 {Bs H3:Nat} {most:Int} {H:Hs} {Lx:DL} (w0:World) (hD:DH w0 Bs H3 most H Lx) (rn rg:Int) (hn:ci0 H rn=true):C prog 61 #[.p H3,.agg #[.i rn,.i rg]] w0 fun v w=>v= .agg (dcC ⟨fe0 H rn rg,none,0⟩).toArray/\Below w0.heap.size w0 w:=by
 refine C.enter (n:=15) func61 rfl rfl ?_;refine U146 ?_;intro hb w b3 F3;refine U37 ?_;intro lt3 hb hD;refine U51 ?_;intro C1 w b4 F4 lt4;refine U88 ?_;intro hb hD C1 B1;refine U176 ?_;refine U567 ?_;rintro _ w ⟨rfl,D1⟩;refine U181 ?_;intro hb C1 B1;refine L.va (au0 rfl) ?_;refine U94 ?_;refine U534 ?_;refine L.va (Z1 (parts:=[(0,.const (.i 8)),(1,.tmp 12),(2,.tmp 13)]) rfl (Fm0 8 rn rn rg)) ?_;refine L.pa [.i 8,.i rn,.i rn,.i rg,.i 0,.slice none 0 0,.i 0,.i 0,.i 0,.i 0,.bool false] X2 B1 (fun w G0 hg A2=>?_);refine U19 ?_;intro hb B1;refine ends.cell (cs:=#[.i 8,.i rn,.i rn,.i rg,.i 0,.slice none 0 0,.i 0,.i 0,.i 0,.i 0,.bool false]) (.inr rfl) rfl rfl underlying117 rfl X2 B1 ?_;refine⟨?_,hb⟩;have e9:fe0 H rn rg=⟨8,rn,rn,rg,0,[],0,0,0,0,false,0⟩:=if_pos hn;rw[e9];exact(rfl:Value.agg #[.i 8,.i rn,.i rn,.i rg,.i 0,.slice none 0 0,.i 0,.i 0,.i 0,.i 0,.bool false]=_)
theorem Hx0 {Bs H3:Nat} {most:Int} {H:Hs} {Lx:DL} (w0:World) (hD:DH w0 Bs H3 most H Lx) (rn rg:Int):C prog 61 #[.p H3,.agg #[.i rn,.i rg]] w0 fun v w=>v= .agg (dcC ⟨fe0 H rn rg,none,0⟩).toArray/\Below w0.heap.size w0 w:=by
 cases hn:ci0 H rn with
 |false=>exact De0 w0 hD rn rg hn
 |true=>exact wb0 w0 hD rn rg hn
theorem Op0 {Bs k:Nat} {a:Option Addr} {p0:List Int} {z:Int} (w:World) (hP:N1 w Bs a k (p0 ++ [z])) (hl:p0.length <=4611686018427):C prog 63 #[.slice a (p0.length+1) k] w fun v w'=>∃a2 c2,v= .tuple #[.slice a2 p0.length c2,.i z]/\N1 w' w.heap.size a2 c2 p0/\Below w.heap.size w w':=by
 refine C.enter (n:=17) func63 rfl rfl ?_;obtain⟨w0,hw0⟩:∃x,x=w:=⟨_,rfl⟩
 have hb:Below w0.heap.size w0 w:=hw0▸Below.refl _ _;have hsl:SL a (p0.length+1):=by have h9:=hP.sl;rw[List.length_append]at h9;exact h9
 have hle:p0.length+1 <=k:=by have h9:=hP.le;rw[List.length_append]at h9;exact h9
 have hnn:a=none->False:=fun h=>by have h9:=(hP.nil h).1;simp at h9
 have D2:a≠none->ab a<w0.heap.size:=fun ha=>by
  obtain⟨cs,h1,_⟩:=hP.bl ha;rw[hw0];exact(G3 h1).lt
 refine U0 ?_;refine L.va (nc0 rfl) ?_;refine U5 ?_;refine W.seq ?_;refine W.fl 14 [0,6] [1,2,3,4,5,7,8,9,10,11,12,0,6,13] (fun w'=>N1 w' Bs a k (p0 ++ [z])) (by kernel_rfl) (by kernel_rfl) (by kernel_rfl) (by kernel_rfl) (by kernel_rfl) (hP.j0 (Below.refl w.heap.size w).drew) ?_;have Y2:Below w.heap.size w w.drew:=(Below.refl w.heap.size w).drew;have hb:=O0 hb Y2;have hP:=hP.j0 Y2;clear Y2;generalize w.drew=w at *;refine U547 ?_;refine U473 ?_;refine F.va rfl rfl (fun w' J0=>(kj0 (k:=p0.length) rfl rfl underlying23 c5 (by omega))) ?_;refine U547 ?_;refine U473 ?_;refine F.va rfl rfl (fun w' J0=>(u4 (i:=p0.length) rfl rfl underlying23 c5 hsl (by omega))) ?_;refine F.va rfl rfl (fun w' J0=>(B0 (v:=.i z) rfl underlying3 rfl (Hs0 J0))) ?_;refine F.A9 rfl rfl ?_;refine L.rw0 underlying23 c5 (fun w b4 F4=>?_);refine U268 ?_;intro lt4 hb;have hP:=hP.j0 F4.below;have B1:=F4.blk;have hO:Own w w0.heap.size 3 1 (pt b4) 0 0 []:=Own.Jh0 (c:=0) B1 rfl lt4 (by decide) (by decide);clear B1;refine L.nil ⟨rfl,hP,?_⟩;refine F.A9 rfl rfl ?_;refine L.N5 (B:=w0.heap.size) (m:=p0.length) rfl rfl underlying23 in3 rfl (by decide) hO (fun h=>(hnn h).elim) (news:=p0.map (Value.int .i64)) (by simp) (fun ad had j u hj=>(N1.pre hP rfl rfl).src ad had j u hj) (fun u hu=>by obtain⟨j,_,rfl⟩:=List.mem_map.1 hu;rfl) (by omega) (by omega) hb.size (fun a2 c2 w2 H8 u9 J6 _=>?_);have hb:=hb.trans J6;have hPo:N1 w2 w0.heap.size a2 c2 p0:=N1.own H8 (by omega);have hP:=hP.low D2 J6;clear hO H8 u9 J6
 rename World=>w
 refine L.nil ⟨rfl,hP,?_⟩;refine F.va rfl rfl (fun w' J0=>(nc0 rfl)) ?_;refine U15 ?_;refine U5 ?_;refine U97 ?_;rw[<- hw0];refine⟨a2,c2,?_,hPo,hb⟩;show Value.tuple #[.slice a2 (0+p0.length) c2,.i z]=_;rw[Nat.zero_add]
end
end Go.Vy.Sc
end
section
namespace Go.Vy
open Go Go.Yc Go.RowKit
open Go.Vc
theorem Fo0 (σ:List Nat) (x y:Nat):(∀D,Pre σ D->D y=true->D x=true)\/(∀D,Pre σ D->D x=true->D y=true):=by
 by_cases hxy:∀D,Pre σ D->D y=true->D x=true
 ·exact .inl hxy
 ·refine .inr fun D hD hDx=>?_;cases hDy:D y with
  |true=>rfl
  |false=>
   exfalso;refine hxy fun D' hD' hy'=>?_;rcases hD.chain hD' with h9|h9
   ·exact h9 x hDx
   ·have:=h9 y hy';rw[hDy]at this;cases this
theorem W.fl3 {P:Program} [Ctx P] {n:Nat} {id:Nat} {l:List Oper} {Q:Exit->Env->World->Prop} {e:Env} {w:World} (k:Nat) (ch:List Nat) (x y z:Nat) (os os2 os3:List Nat) (K:World->Prop) (hm:P.follows .mixedOrders=true) (hB:iy0 n l.toArray k=true) (hA:gr0 l k=true) (hk:Nat.ble k l.length=true) (hO:ix0 l k (fun i=>ch.contains i) os [(z,x)]=true) (H8:ix0 l k (fun i=>ch.contains i) os2 [(x,z),(z,y)]=true) (hO3:ix0 l k (fun i=>ch.contains i) os3 [(x,z),(y,z)]=true)
  (hK:K w.drew) (h:FL P n l K (fun i=>ch.contains i) (fun e' w'=>L P n l.toArray Q (l.drop k) e' w') os e w.drew) (h2:FL P n l K (fun i=>ch.contains i) (fun e' w'=>L P n l.toArray Q (l.drop k) e' w') os2 e w.drew) (h3:FL P n l K (fun i=>ch.contains i) (fun e' w'=>L P n l.toArray Q (l.drop k) e' w') os3 e w.drew):W P n (.region id l.toArray true) Q e w:=by
 intro a ha;refine wp_region_draw fun t=>?_;simp only[Region.schedule,hm,Bool.true_or,if_true];have k4:=ev0 l.toArray l.toArray.size t (Array.replicate l.toArray.size false) (by simp) (by simp);unfold Region.linearise;generalize Region.linearise.go .any l.toArray l.toArray.size t (Array.replicate l.toArray.size false) []=σ at k4⊢;rcases Fo0 σ z x with hzx|hxz
 ·exact Dz0 (z9 hB) hA (Nat.le_of_ble_eq_true hk) (ax0 (Y4 k4) (fun p hp=>by simp at hp;subst hp;exact hzx) hO) k4 (Y4 k4) hK h ha
 ·rcases Fo0 σ z y with hzy|hyz
  ·exact Dz0 (z9 hB) hA (Nat.le_of_ble_eq_true hk) (ax0 (Y4 k4) (fun p hp=>by
    simp at hp;rcases hp with rfl|rfl
    ·exact hxz
    ·exact hzy) H8) k4 (Y4 k4) hK h2 ha
  ·exact Dz0 (z9 hB) hA (Nat.le_of_ble_eq_true hk) (ax0 (Y4 k4) (fun p hp=>by
    simp at hp;rcases hp with rfl|rfl
    ·exact hxz
    ·exact hyz) hO3) k4 (Y4 k4) hK h3 ha
end Go.Vy
end
section
namespace Go.Vy.Sc
open Go Go.Conc Go.Yc Go.RowKit Go.Proofs Go.Proofs.Ytgadhljgilblbaa Try
open Go.Vc Go.Wg
theorem fv0 {w w':World} {B B':Nat} {TS:List TypeId} (h:F1 w w' B TS) (hB:B' <=B):F1 w w' B' TS:=⟨h.os,h.tape,h.output,h.size,fun k hk=>h.low k (by omega),h.stay⟩
section
variable [Ctx prog]
theorem Oq0 {Bs k n:Nat} {a:Option Addr} {p0:List Int} {z:Int} (w:World) (hn:n=p0.length+1) (hP:N1 w Bs a k (p0 ++ [z])) (hl:p0.length <=4611686018427):C prog 63 #[.slice a n k] w fun v w'=>∃a2 c2,v= .tuple #[.slice a2 p0.length c2,.i z]/\N1 w' w.heap.size a2 c2 p0/\Below w.heap.size w w':=by
 subst hn;exact Op0 w hP hl
end
section
theorem Fp0 (x0:Int):prog.built 125 [(0,.i x0)]=some #[.i x0,.bool false,.i 0]:=by kernel_rfl
theorem Fq0 (x0:Int) (x1:Bool) (x2:Int):prog.built 125 [(0,.i x0),(1,.bool x1),(2,.i x2)]=some #[.i x0,.bool x1,.i x2]:=by kernel_rfl
theorem Fr0 (x0:Int) (x1:Int):prog.built 82 [(0,.i x0),(1,.i x1)]=some #[.i x0,.i x1]:=by kernel_rfl
end
section
variable [Ctx prog]
theorem Hy0 {Bs H3:Nat} {most:Int} {H:Hs} {Lx:DL} (w0:World) (hD:DH w0 Bs H3 most H Lx) (num rn rg val tn tg er x:Int) (a:Option Addr) (sn sk:Nat) (ok:Bool) {p0:List Int} {z:Int} (hpl:H.pool=p0 ++ [z]) (hpm:H.pool.length <=4611686018427):C prog 30 #[.p H3,.agg #[.i 1,.i num,.i rn,.i rg,.i val,.slice a sn sk,.i tn,.i tg,.i er,.i x,.bool ok]] w0 fun v w=>∃a2 c2,v= .agg #[.i 2,.i z,.i rn,.i rg,.i val,.slice a2 p0.length c2,.i tn,.i tg,.i er,.i x,.bool ok]/\N1 w w0.heap.size a2 c2 p0/\Below w0.heap.size w0 w:=by
 refine U101 ?_;intro hb;have hH:=hD.hH;have hln:H.pool.length=p0.length+1:=by rw[hpl];simp
 refine U0 ?_;refine U205 ?_;intro w b3 F3 lt3 hb;have hH:=hH.j0 F3.below;have hD:=hD.j0 F3.below;refine U51 ?_;intro C1 w b4 F4 lt4;have S8:=F4.ne C1;refine U254 ?_;intro hb hH;refine U283 ?_;intro hD C1;have B1:=F4.blk;refine U214 ?_;refine U13 ?_;refine U210 ?_;refine U14 ?_;refine U355 ?_;refine U149 ?_;refine W.Y5 (congrArg Value.bool (decide_eq_true (by omega))) ?_;refine U14 ?_;refine U276 ?_;refine L.call (X4 rfl func63 rfl kx1 rfl) (Oq0 _ hln (hpl▸hD.pO) (by omega)) ?_;rintro _ w ⟨a2,c2,rfl,hPn,D1⟩;have hPn:=hPn.down hb.size;refine U181 ?_;intro hb C1 B1;refine U21 ?_;refine L.va (E0 rfl underlying117 rfl O8 (by decide)) ?_;refine L.pu 5 [.slice a2 p0.length c2] #[.i 1,.i num,.i rn,.i rg,.i val,.slice a2 p0.length c2,.i tn,.i tg,.i er,.i x,.bool ok] O8 C1 (fun w G0 hg A2=>?_);refine U104 ?_;intro Y1 hb B1;have hPn:=hPn.mod Y1 rfl;have C1:=G0;clear Y1;refine L.va (E0 rfl underlying117 rfl c5 (by decide)) ?_;refine L.pu 1 [.i z] #[.i 1,.i z,.i rn,.i rg,.i val,.slice a2 p0.length c2,.i tn,.i tg,.i er,.i x,.bool ok] c5 C1 (fun w G0 hg A2=>?_);refine U104 ?_;intro Y1 hb B1;have hPn:=hPn.mod Y1 rfl;have C1:=G0;refine U77 ?_;refine L.pu 0 [.i 2] #[.i 2,.i z,.i rn,.i rg,.i val,.slice a2 p0.length c2,.i tn,.i tg,.i er,.i x,.bool ok] c5 C1 (fun w G0 hg A2=>?_);refine U104 ?_;intro Y1 hb B1;have hPn:=hPn.mod Y1 rfl;have C1:=G0;refine U32 ?_;refine L.va (Q0 (cs:=[.i 2,.i z,.i rn,.i rg,.i val,.slice a2 p0.length c2,.i tn,.i tg,.i er,.i x,.bool ok]) rfl underlying117 rfl X2 rfl (C1.B4 rfl)) ?_;refine L.pa [.i 2,.i z,.i rn,.i rg,.i val,.slice a2 p0.length c2,.i tn,.i tg,.i er,.i x,.bool ok] X2 B1 (fun w G0 hg A2=>?_);refine U133 ?_;intro Y1 hb;have hPn:=hPn.mod Y1 rfl;have B1:=G0;refine U35 ?_;refine ends.cell (cs:=#[.i 2,.i z,.i rn,.i rg,.i val,.slice a2 p0.length c2,.i tn,.i tg,.i er,.i x,.bool ok]) (.inr rfl) rfl rfl underlying117 rfl X2 B1 ?_;exact⟨a2,c2,rfl,hPn,hb⟩
theorem Hz0 {Bs H3:Nat} {most:Int} {H:Hs} {Lx:DL} (w0:World) (hD:DH w0 Bs H3 most H Lx) (num rn rg val tn tg er x:Int) (a:Option Addr) (sn sk:Nat) (ok:Bool) (hpl:H.pool.length=0) (D2:(H.Y0.length:Int)<most) (r9:most <=1048576):C prog 30 #[.p H3,.agg #[.i 1,.i num,.i rn,.i rg,.i val,.slice a sn sk,.i tn,.i tg,.i er,.i x,.bool ok]] w0 fun v w=>v= .agg #[.i 3,.i ((H.Y0.length:Int)+1),.i rn,.i rg,.i val,.slice a sn sk,.i tn,.i tg,.i er,.i x,.bool ok]/\Below w0.heap.size w0 w:=by
 refine U101 ?_;intro hb;have hH:=hD.hH;refine U0 ?_;refine U205 ?_;intro w b3 F3 lt3 hb;have hH:=hH.j0 F3.below;refine U51 ?_;intro C1 w b4 F4 lt4;have S8:=F4.ne C1;refine U254 ?_;intro hb hH;refine U79 ?_;intro C1 B1;refine U214 ?_;refine U13 ?_;refine U210 ?_;refine U14 ?_;refine U355 ?_;refine U601 ?_;refine U120 ?_;refine U318 ?_;refine U6 ?_;refine U650 ?_;refine U30 ?_;intro w D1 hb;have hH:=hH.j0 D1;refine U74 ?_;intro C1 B1;refine U22 ?_;refine W.Y5 (congrArg Value.bool (decide_eq_true D2)) ?_;refine U14 ?_;refine U470 ?_;refine L.va (V4 rfl underlying111 rfl) ?_;refine L.va (ex0 (m:=(H.Y0.length:Int)) (k:=1) rfl rfl (by omega)) ?_;refine L.va (E0 rfl underlying117 rfl c5 (by decide)) ?_;refine L.pu 1 [.i ((H.Y0.length:Int)+1)] #[.i 1,.i ((H.Y0.length:Int)+1),.i rn,.i rg,.i val,.slice a sn sk,.i tn,.i tg,.i er,.i x,.bool ok] c5 C1 (fun w G0 hg A2=>?_);refine U61 ?_;intro Y1 hb B1 C1;refine U77 ?_;refine L.pu 0 [.i 3] #[.i 3,.i ((H.Y0.length:Int)+1),.i rn,.i rg,.i val,.slice a sn sk,.i tn,.i tg,.i er,.i x,.bool ok] c5 C1 (fun w G0 hg A2=>?_);refine U61 ?_;intro Y1 hb B1 C1;refine U32 ?_;refine L.va (Q0 (cs:=[.i 3,.i ((H.Y0.length:Int)+1),.i rn,.i rg,.i val,.slice a sn sk,.i tn,.i tg,.i er,.i x,.bool ok]) rfl underlying117 rfl X2 rfl (C1.B4 rfl)) ?_;refine L.pa [.i 3,.i ((H.Y0.length:Int)+1),.i rn,.i rg,.i val,.slice a sn sk,.i tn,.i tg,.i er,.i x,.bool ok] X2 B1 (fun w G0 hg A2=>?_);refine U19 ?_;intro hb B1;refine ends.cell (cs:=#[.i 3,.i ((H.Y0.length:Int)+1),.i rn,.i rg,.i val,.slice a sn sk,.i tn,.i tg,.i er,.i x,.bool ok]) (.inr rfl) rfl rfl underlying117 rfl X2 B1 ?_;exact⟨rfl,hb⟩
theorem Ia0 {Bs H3:Nat} {most:Int} {H:Hs} {Lx:DL} (w0:World) (hD:DH w0 Bs H3 most H Lx) (num rn rg val tn tg er x:Int) (a:Option Addr) (sn sk:Nat) (ok:Bool) (hpl:H.pool.length=0) (D2:¬(H.Y0.length:Int)<most):C prog 30 #[.p H3,.agg #[.i 1,.i num,.i rn,.i rg,.i val,.slice a sn sk,.i tn,.i tg,.i er,.i x,.bool ok]] w0 fun v w=>v= .agg #[.i 0,.i num,.i rn,.i rg,.i val,.slice a sn sk,.i tn,.i tg,.i 5,.i x,.bool ok]/\Below w0.heap.size w0 w:=by
 refine U101 ?_;intro hb;have hH:=hD.hH;refine U0 ?_;refine U205 ?_;intro w b3 F3 lt3 hb;have hH:=hH.j0 F3.below;refine U51 ?_;intro C1 w b4 F4 lt4;have S8:=F4.ne C1;refine U254 ?_;intro hb hH;refine U79 ?_;intro C1 B1;refine U214 ?_;refine U13 ?_;refine U210 ?_;refine U14 ?_;refine U355 ?_;refine U601 ?_;refine U120 ?_;refine U318 ?_;refine U6 ?_;refine U650 ?_;refine U30 ?_;intro w D1 hb;refine U74 ?_;intro C1 B1;refine U22 ?_;refine W.G5 (congrArg Value.bool (decide_eq_false D2)) ?_;refine U223 ?_;refine L.pu 8 [.i 5] #[.i 1,.i num,.i rn,.i rg,.i val,.slice a sn sk,.i tn,.i tg,.i 5,.i x,.bool ok] c5 C1 (fun w G0 hg A2=>?_);refine U61 ?_;intro Y1 hb B1 C1;refine U77 ?_;refine L.pu 0 [.i 0] #[.i 0,.i num,.i rn,.i rg,.i val,.slice a sn sk,.i tn,.i tg,.i 5,.i x,.bool ok] c5 C1 (fun w G0 hg A2=>?_);refine U61 ?_;intro Y1 hb B1 C1;refine U32 ?_;refine L.va (Q0 (cs:=[.i 0,.i num,.i rn,.i rg,.i val,.slice a sn sk,.i tn,.i tg,.i 5,.i x,.bool ok]) rfl underlying117 rfl X2 rfl (C1.B4 rfl)) ?_;refine L.pa [.i 0,.i num,.i rn,.i rg,.i val,.slice a sn sk,.i tn,.i tg,.i 5,.i x,.bool ok] X2 B1 (fun w G0 hg A2=>?_);refine U19 ?_;intro hb B1;refine ends.cell (cs:=#[.i 0,.i num,.i rn,.i rg,.i val,.slice a sn sk,.i tn,.i tg,.i 5,.i x,.bool ok]) (.inr rfl) rfl rfl underlying117 rfl X2 B1 ?_;exact⟨rfl,hb⟩
theorem Or0 {Bs H3:Nat} {most:Int} {H:Hs} {Lx:DL} (w0:World) (hD:DH w0 Bs H3 most H Lx) (num rn rg val tn tg er x:Int) (a:Option Addr) (sn sk:Nat) (ok:Bool):C prog 30 #[.p H3,.agg #[.i 4,.i num,.i rn,.i rg,.i val,.slice a sn sk,.i tn,.i tg,.i er,.i x,.bool ok]] w0 fun v w=>(((V3 H rn rg).2=true/\v= .agg #[.i 5,.i num,.i rn,.i rg,.i val,.slice a sn sk,.i tn,.i tg,.i er,.i x,.bool ok])\/((V3 H rn rg).2=false/\v= .agg #[.i 0,.i num,.i rn,.i rg,.i val,.slice a sn sk,.i tn,.i tg,.i er,.i x,.bool ok]))/\Below w0.heap.size w0 w:=by
 refine U101 ?_;intro hb;have hH:=hD.hH;refine U0 ?_;refine U616 ?_;intro w b3 F3 lt3 hb hD;refine U51 ?_;intro C1 w b4 F4 lt4;have S8:=F4.ne C1;refine U88 ?_;intro hb hD C1 B1;refine U587 ?_;refine U13 ?_;refine L.va (A1 (r:=false) (by decide) (S1 (m:=4) (k:=1) rfl rfl)) ?_;refine U4 ?_;refine L.va (A1 (r:=false) (by decide) (S1 (m:=4) (k:=2) rfl rfl)) ?_;refine U4 ?_;refine L.va (A1 (r:=false) (by decide) (S1 (m:=4) (k:=3) rfl rfl)) ?_;refine U4 ?_;refine L.va (A1 (r:=true) (by decide) (S1 (m:=4) (k:=4) rfl rfl)) ?_;refine U64 ?_;refine U614 ?_;refine U465 ?_;rintro _ w ⟨rfl,D1⟩;refine U181 ?_;intro hb C1 B1;refine U21 ?_;refine U46 ?_;refine U223 ?_;refine L.pu 0 [.i 0] #[.i 0,.i num,.i rn,.i rg,.i val,.slice a sn sk,.i tn,.i tg,.i er,.i x,.bool ok] c5 C1 (fun w G0 hg A2=>?_);refine U61 ?_;intro Y1 hb B1 C1;refine U58 ?_;refine L.va (v7 rfl) ?_;refine U1 ?_;refine W.cond rfl (fun bo1=>?_) (fun bo1=>?_)
 ·refine W.region rfl ?_;refine L.va (E0 rfl underlying117 rfl c5 (by decide)) ?_;refine L.pu 0 [.i 5] #[.i 5,.i num,.i rn,.i rg,.i val,.slice a sn sk,.i tn,.i tg,.i er,.i x,.bool ok] c5 C1 (fun w G0 hg A2=>?_);refine U61 ?_;intro Y1 hb B1 C1;refine U32 ?_;refine L.va (Q0 (cs:=[.i 5,.i num,.i rn,.i rg,.i val,.slice a sn sk,.i tn,.i tg,.i er,.i x,.bool ok]) rfl underlying117 rfl X2 rfl (C1.B4 rfl)) ?_;refine L.pa [.i 5,.i num,.i rn,.i rg,.i val,.slice a sn sk,.i tn,.i tg,.i er,.i x,.bool ok] X2 B1 (fun w G0 hg A2=>?_);refine U19 ?_;intro hb B1;refine ends.cell (cs:=#[.i 5,.i num,.i rn,.i rg,.i val,.slice a sn sk,.i tn,.i tg,.i er,.i x,.bool ok]) (.inr rfl) rfl rfl underlying117 rfl X2 B1 ?_;exact⟨.inl ⟨bo1,rfl⟩,hb⟩
 ·refine W.skip ?_;refine U34 ?_;refine U0 ?_;refine L.va (Q0 (cs:=[.i 0,.i num,.i rn,.i rg,.i val,.slice a sn sk,.i tn,.i tg,.i er,.i x,.bool ok]) rfl underlying117 rfl X2 rfl (C1.B4 rfl)) ?_;refine L.pa [.i 0,.i num,.i rn,.i rg,.i val,.slice a sn sk,.i tn,.i tg,.i er,.i x,.bool ok] X2 B1 (fun w G0 hg A2=>?_);refine U19 ?_;intro hb B1;refine ends.cell (cs:=#[.i 0,.i num,.i rn,.i rg,.i val,.slice a sn sk,.i tn,.i tg,.i er,.i x,.bool ok]) (.inr rfl) rfl rfl underlying117 rfl X2 B1 ?_;exact⟨.inr ⟨bo1,rfl⟩,hb⟩
theorem Os0 {Bs H3:Nat} {most:Int} {H:Hs} {Lx:DL} (w0:World) (hD:DH w0 Bs H3 most H Lx) (num rn rg val tn tg er x:Int) (a:Option Addr) (sn sk:Nat) (ok:Bool):C prog 30 #[.p H3,.agg #[.i 8,.i num,.i rn,.i rg,.i val,.slice a sn sk,.i tn,.i tg,.i er,.i x,.bool ok]] w0 fun v w=>v= .agg #[.i 0,.i num,.i rn,.i rg,.i val,.slice a sn sk,.i tn,.i tg,.i er,.i (V3 H rn rg).1,.bool (V3 H rn rg).2]/\Below w0.heap.size w0 w:=by
 refine U101 ?_;intro hb;have hH:=hD.hH;refine U0 ?_;refine U617 ?_;intro w b3 F3 lt3 hb hD;refine U51 ?_;intro C1 w b4 F4 lt4;have S8:=F4.ne C1;refine U88 ?_;intro hb hD C1 B1;refine U586 ?_;refine U13 ?_;refine L.va (A1 (r:=false) (by decide) (S1 (m:=8) (k:=1) rfl rfl)) ?_;refine U4 ?_;refine L.va (A1 (r:=false) (by decide) (S1 (m:=8) (k:=2) rfl rfl)) ?_;refine U4 ?_;refine L.va (A1 (r:=false) (by decide) (S1 (m:=8) (k:=3) rfl rfl)) ?_;refine U4 ?_;refine L.va (A1 (r:=false) (by decide) (S1 (m:=8) (k:=4) rfl rfl)) ?_;refine U4 ?_;refine L.va (A1 (r:=false) (by decide) (S1 (m:=8) (k:=5) rfl rfl)) ?_;refine U4 ?_;refine L.va (A1 (r:=false) (by decide) (S1 (m:=8) (k:=6) rfl rfl)) ?_;refine U4 ?_;refine L.va (A1 (r:=false) (by decide) (S1 (m:=8) (k:=7) rfl rfl)) ?_;refine U4 ?_;refine L.va (A1 (r:=true) (by decide) (S1 (m:=8) (k:=8) rfl rfl)) ?_;refine U64 ?_;refine U614 ?_;refine U465 ?_;rintro _ w ⟨rfl,D1⟩;refine U181 ?_;intro hb C1 B1;refine U21 ?_;refine L.va (E0 rfl underlying117 rfl sz2 (by decide)) ?_;refine L.pu 9 [.i ((V3 H rn rg).1)] #[.i 8,.i num,.i rn,.i rg,.i val,.slice a sn sk,.i tn,.i tg,.i er,.i ((V3 H rn rg).1),.bool ok] sz2 C1 (fun w G0 hg A2=>?_);refine U61 ?_;intro Y1 hb B1 C1;clear Y1;refine L.va (E0 rfl underlying117 rfl sz4 (by decide)) ?_;refine L.pu 10 [.bool ((V3 H rn rg).2)] #[.i 8,.i num,.i rn,.i rg,.i val,.slice a sn sk,.i tn,.i tg,.i er,.i ((V3 H rn rg).1),.bool ((V3 H rn rg).2)] sz4 C1 (fun w G0 hg A2=>?_);refine U61 ?_;intro Y1 hb B1 C1;refine U77 ?_;refine L.pu 0 [.i 0] #[.i 0,.i num,.i rn,.i rg,.i val,.slice a sn sk,.i tn,.i tg,.i er,.i ((V3 H rn rg).1),.bool ((V3 H rn rg).2)] c5 C1 (fun w G0 hg A2=>?_);refine U61 ?_;intro Y1 hb B1 C1;refine U32 ?_;refine L.va (Q0 (cs:=[.i 0,.i num,.i rn,.i rg,.i val,.slice a sn sk,.i tn,.i tg,.i er,.i ((V3 H rn rg).1),.bool ((V3 H rn rg).2)]) rfl underlying117 rfl X2 rfl (C1.B4 rfl)) ?_;refine L.pa [.i 0,.i num,.i rn,.i rg,.i val,.slice a sn sk,.i tn,.i tg,.i er,.i ((V3 H rn rg).1),.bool ((V3 H rn rg).2)] X2 B1 (fun w G0 hg A2=>?_);refine U19 ?_;intro hb B1;refine ends.cell (cs:=#[.i 0,.i num,.i rn,.i rg,.i val,.slice a sn sk,.i tn,.i tg,.i er,.i ((V3 H rn rg).1),.bool ((V3 H rn rg).2)]) (.inr rfl) rfl rfl underlying117 rfl X2 B1 ?_;exact⟨rfl,hb⟩
theorem Ot0 {Bs H3:Nat} {most:Int} {H:Hs} {Lx:DL} (w0:World) (hD:DH w0 Bs H3 most H Lx) (num rn rg val tn tg er x:Int) (a:Option Addr) (sn sk:Nat) (ok:Bool) (hpm:H.pool.length <=4611686018427):C prog 30 #[.p H3,.agg #[.i 6,.i num,.i rn,.i rg,.i val,.slice a sn sk,.i tn,.i tg,.i er,.i x,.bool ok]] w0 fun v w=>∃a2 c2,v= .agg #[.i 7,.i num,.i rn,.i rg,.i val,.slice a2 H.pool.length c2,.i tn,.i tg,.i er,.i x,.bool ok]/\N1 w w0.heap.size a2 c2 H.pool/\Below w0.heap.size w0 w:=by
 refine U101 ?_;intro hb;have hH:=hD.hH;refine U0 ?_;refine L.box (cs:=#[.i 6,.i num,.i rn,.i rg,.i val,.slice a sn sk,.i tn,.i tg,.i er,.i x,.bool ok]) rfl rfl (fun w b3 F3=>?_);refine U63 ?_;intro lt3 hb;have hH:=hH.j0 F3.below;have hD:=hD.j0 F3.below;refine U51 ?_;intro C1 w b4 F4 lt4;have S8:=F4.ne C1;refine U254 ?_;intro hb hH;refine U283 ?_;intro hD C1;have B1:=F4.blk;refine U589 ?_;refine U13 ?_;refine L.va (A1 (r:=false) (by decide) (S1 (m:=6) (k:=1) rfl rfl)) ?_;refine U4 ?_;refine L.va (A1 (r:=false) (by decide) (S1 (m:=6) (k:=2) rfl rfl)) ?_;refine U4 ?_;refine L.va (A1 (r:=false) (by decide) (S1 (m:=6) (k:=3) rfl rfl)) ?_;refine U4 ?_;refine L.va (A1 (r:=false) (by decide) (S1 (m:=6) (k:=4) rfl rfl)) ?_;refine U4 ?_;refine L.va (A1 (r:=false) (by decide) (S1 (m:=6) (k:=5) rfl rfl)) ?_;refine U4 ?_;refine U575 ?_;refine U0 ?_;refine L.rw0 underlying23 c5 (fun w mv1 Df0=>?_);have ik1:=Df0.lq hb.size;have hb:=O0 hb Df0.below;have hH:=hH.j0 Df0.below;have hD:=hD.j0 Df0.below;have C1:=C1.j0 Df0.below;have B1:=B1.j0 Df0.below;have Wr0:=Df0.blk;have hO:Own w w0.heap.size 3 1 (pt mv1) 0 0 []:=Own.Jh0 (c:=0) Wr0 rfl ik1 (by decide) (by decide);clear Wr0;refine U45 ?_;refine U276 ?_;refine L.N5 (B:=w0.heap.size) (m:=H.pool.length) rfl rfl underlying23 in3 rfl (by decide) hO hD.pO.nil (news:=H.pool.map (Value.int .i64)) (by simp) (fun ad had j u hj=>hD.pO.src ad had j u hj) (fun u hu=>by obtain⟨j,_,rfl⟩:=List.mem_map.1 hu;rfl) (by omega) (by omega) hb.size (fun a2 c2 w2 H8 u9 J6 _=>?_);have hPn:N1 w2 w0.heap.size a2 c2 H.pool:=N1.own H8 (by omega);have r9:F1 w w2 w0.heap.size [3]:=F1.app hO u9 J6 rfl H8;have hb:=hb.trans J6;refine U109 ?_;intro C1 B1;clear hO H8 u9 J6 r9
 rename World=>w
 refine L.va (E0 rfl underlying117 rfl O8 (by decide)) ?_;refine L.pu 5 [.slice a2 (0+H.pool.length) c2] #[.i 6,.i num,.i rn,.i rg,.i val,.slice a2 (0+H.pool.length) c2,.i tn,.i tg,.i er,.i x,.bool ok] O8 C1 (fun w G0 hg A2=>?_);refine U104 ?_;intro Y1 hb B1;have hPn:=hPn.mod Y1 rfl;have C1:=G0;refine U77 ?_;refine L.pu 0 [.i 7] #[.i 7,.i num,.i rn,.i rg,.i val,.slice a2 (0+H.pool.length) c2,.i tn,.i tg,.i er,.i x,.bool ok] c5 C1 (fun w G0 hg A2=>?_);refine U104 ?_;intro Y1 hb B1;have hPn:=hPn.mod Y1 rfl;have C1:=G0;refine U32 ?_;refine L.va (Q0 (cs:=[.i 7,.i num,.i rn,.i rg,.i val,.slice a2 (0+H.pool.length) c2,.i tn,.i tg,.i er,.i x,.bool ok]) rfl underlying117 rfl X2 rfl (C1.B4 rfl)) ?_;refine L.pa [.i 7,.i num,.i rn,.i rg,.i val,.slice a2 (0+H.pool.length) c2,.i tn,.i tg,.i er,.i x,.bool ok] X2 B1 (fun w G0 hg A2=>?_);refine U133 ?_;intro Y1 hb;have hPn:=hPn.mod Y1 rfl;have B1:=G0;refine U35 ?_;refine ends.cell (cs:=#[.i 7,.i num,.i rn,.i rg,.i val,.slice a2 (0+H.pool.length) c2,.i tn,.i tg,.i er,.i x,.bool ok]) (.inr rfl) rfl rfl underlying117 rfl X2 B1 ?_;refine⟨a2,c2,(?_:Value.agg #[.i 7,.i num,.i rn,.i rg,.i val,.slice a2 (0+H.pool.length) c2,.i tn,.i tg,.i er,.i x,.bool ok]=_),hPn,hb⟩;rw[Nat.zero_add]
theorem Ou0 {Bs B2 H3:Nat} {most:Int} {H:Hs} {Lx:DL} (w0:World) (hD:DH w0 B2 H3 most H Lx) (J5:Bs <=w0.heap.size) (hhb:Bs <=H3) (hB2:Bs <=B2) (_hB3s:B2 <=w0.heap.size) (num rn rg val tn tg er x:Int) (a:Option Addr) (seen:List Int) (sk:Nat) (ok:Bool) (hS:N1 w0 B2 a sk seen):C prog 30 #[.p H3,.agg #[.i 2,.i num,.i rn,.i rg,.i val,.slice a seen.length sk,.i tn,.i tg,.i er,.i x,.bool ok]] w0 fun v w=>v= .agg #[.i 3,.i num,.i rn,.i rg,.i val,.slice a seen.length sk,.i tn,.i tg,.i er,.i x,.bool ok]/\DH w B2 H3 most {H with pool:=seen} ⟨Lx.na,Lx.nc,a,sk⟩/\N1 w B2 a sk seen/\F1 w0 w Bs [113,125]:=by
 refine U142 ?_;intro hm;obtain⟨hH,hN,I3⟩:=hD;refine U0 ?_;refine L.box (cs:=#[.i 2,.i num,.i rn,.i rg,.i val,.slice a seen.length sk,.i tn,.i tg,.i er,.i x,.bool ok]) rfl rfl (fun w b3 F3=>?_);refine U107 ?_;intro lt3 hm;refine U163 ?_;intro hH hN;have hS:=hS.j0 F3.below;refine U95 ?_;intro C1 w b4 F4;have lt4:=F4.lq hm.size;have S8:=F4.ne C1;refine U168 ?_;intro hm hH hN;have hS:=hS.j0 F4.below;refine U79 ?_;intro C1 B1;refine U590 ?_;refine U13 ?_;refine L.va (A1 (r:=false) (by decide) (S1 (m:=2) (k:=1) rfl rfl)) ?_;refine U4 ?_;refine U578 ?_;refine U3 ?_;refine L.va (E0 rfl underlying117 rfl O8 (by decide)) ?_;refine L.va (B0 rfl underlying23 rfl (C1.q0 5 (v:=.slice a seen.length sk) rfl)) ?_;refine L.va (K1 rfl) ?_;refine L.va (E0 rfl underlying113 rfl O8 (by decide)) ?_;refine L.pu 3 [.slice a seen.length sk] #[.i 5,.i most,.slice Lx.na H.Y0.length Lx.nc,.slice a seen.length sk] O8 hH (fun w G0 hg A2=>?_);refine U147 ?_;intro Y1 hm;have hN:=hN.mod Y1 rfl;have hS:=hS.mod Y1 rfl;refine U89 ?_;intro C1 B1;have hH:=G0;refine U77 ?_;refine L.pu 0 [.i 3] #[.i 3,.i num,.i rn,.i rg,.i val,.slice a seen.length sk,.i tn,.i tg,.i er,.i x,.bool ok] c5 C1 (fun w G0 hg A2=>?_);refine U86 ?_;intro Y1 hm hH;have hN:=hN.mod Y1 rfl;have hS:=hS.mod Y1 rfl;have B1:=B1.other hg (Ne.symm S8);have C1:=G0;refine U32 ?_;refine L.va (Q0 (cs:=[.i 3,.i num,.i rn,.i rg,.i val,.slice a seen.length sk,.i tn,.i tg,.i er,.i x,.bool ok]) rfl underlying117 rfl X2 rfl (C1.B4 rfl)) ?_;refine L.pa [.i 3,.i num,.i rn,.i rg,.i val,.slice a seen.length sk,.i tn,.i tg,.i er,.i x,.bool ok] X2 B1 (fun w G0 hg A2=>?_);refine U91 ?_;intro Y1 hm hH;have hN:=hN.mod Y1 rfl;have hS:=hS.mod Y1 rfl;have B1:=G0;refine U35 ?_;refine ends.cell (cs:=#[.i 3,.i num,.i rn,.i rg,.i val,.slice a seen.length sk,.i tn,.i tg,.i er,.i x,.bool ok]) (.inr rfl) rfl rfl underlying117 rfl X2 B1 ?_;exact⟨rfl,⟨hH,hN,hS⟩,hS,hm⟩
set_option maxHeartbeats 1000000 in
theorem Ib0 {Bs B2 H3:Nat} {most:Int} {H:Hs} {Lx:DL} (w0:World) (hD:DH w0 B2 H3 most H Lx) (J5:Bs <=w0.heap.size) (hhb:Bs <=H3) (hB2:Bs <=B2) (ka0:B2 <=w0.heap.size) (rn rg val tn tg er x:Int) (a:Option Addr) (sn sk:Nat) (ok:Bool) (hln:H.Y0.length <=1048576):C prog 30 #[.p H3,.agg #[.i 3,.i ((H.Y0.length:Int)+1),.i rn,.i rg,.i val,.slice a sn sk,.i tn,.i tg,.i er,.i x,.bool ok]] w0 fun v w=>∃na2 nc2,v= .agg #[.i 0,.i ((H.Y0.length:Int)+1),.i rn,.i rg,.i val,.slice a sn sk,.i ((H.Y0.length:Int)+1),.i 1,.i er,.i x,.bool ok]/\DH w B2 H3 most {H with Y0:=H.Y0 ++ [⟨1,true,val⟩]} ⟨na2,nc2,Lx.pa,Lx.pc⟩/\F1 w0 w Bs [113,125]:=by
 refine U142 ?_;intro hm;obtain⟨hH,hN,I3⟩:=hD;have hL1:(H.Y0 ++ [(⟨1,false,0⟩:Nd)]).length=H.Y0.length+1:=by simp
 have hi9:H.Y0.length<(H.Y0 ++ [(⟨1,false,0⟩:Nd)]).length:=by simp
 have hi8:H.Y0.length<H.Y0.length+1:=Nat.lt_succ_self _;refine U0 ?_;refine L.box (cs:=#[.i 3,.i ((H.Y0.length:Nat)+1),.i rn,.i rg,.i val,.slice a sn sk,.i tn,.i tg,.i er,.i x,.bool ok]) rfl rfl (fun w b3 F3=>?_);refine U107 ?_;intro lt3 hm;refine U163 ?_;intro hH hN;have I3:=I3.j0 F3.below;refine U95 ?_;intro C1 w b4 F4;have lt4:=F4.lq hm.size;have S8:=F4.ne C1;refine U168 ?_;intro hm hH hN;have I3:=I3.j0 F4.below;refine U79 ?_;intro C1 B1;refine U333 ?_;refine U13 ?_;refine U571 ?_;refine U572 ?_;refine U330 ?_;refine U75 ?_;refine U439 ?_;refine U6 ?_;refine U649 ?_;refine U90 ?_;intro w D1 hm hH;have hN:=hN.j0 D1;have I3:=I3.j0 D1;refine U74 ?_;intro C1 B1;refine U584 ?_;refine W.region rfl ?_;refine L.va (Y3 rfl) ?_;refine U45 ?_;refine U470 ?_;refine L.va (Z1 (parts:=[(0,.const (.i 1))]) rfl (Fp0 1)) ?_;refine L.Q7 (cs:=#[.i 1,.bool false,.i 0]) rfl rfl underlying111 Q9 rfl ⟨_,Km0⟩ (by decide) (fun w b73 F73=>?_);have oa1:=F73.lq hm.size;have hm:=hm.step F73.below (Nat.le_trans J5 hm.size);have hH:=hH.j0 F73.below;have hN:=hN.j0 F73.below;have I3:=I3.j0 F73.below;have C1:=C1.j0 F73.below;have B1:=B1.j0 F73.below;have bp1:=F73.blk;refine L.z6 (B:=B2) (m:=1) rfl rfl underlying111 eh1 rfl (by decide) hN (news:=[.i 1,.bool false,.i 0]) rfl (fun q u hq=>?_) (fun u hu=>by simp at hu;rcases hu with rfl|rfl|rfl <;> rfl) (by omega) (by omega) (Nat.le_trans ka0 hm.size) (fun na2 nc2 w2 hN2 I6 hwh=>?_)
 ·rw[Addr.add_lit]
  match q,hq with
  |0,hq=>cases hq;exact bp1.q0 0 rfl
  |1,hq=>cases hq;exact bp1.q0 1 rfl
  |2,hq=>cases hq;exact bp1.q0 2 rfl
 have r9:=fv0 (V9 (TS:=[125]) hN I6 (Nat.le_trans ka0 hm.size) rfl) hB2;refine U252 ?_;intro hm hH;have I3:=I3.mod r9 rfl;refine U109 ?_;intro C1 B1;have hN:Own w2 B2 125 3 na2 (H.Y0.length+1) nc2 ((H.Y0 ++ [(⟨1,false,0⟩:Nd)]).flatMap nd3):=by rw[List.flatMap_append];exact hN2
 clear r9 hN2 I6 hwh
 rename World=>w
 refine L.va (K1 rfl) ?_;refine L.va (E0 rfl underlying113 rfl gn0 (by decide)) ?_;refine L.pu 2 [.slice na2 (H.Y0.length+1) nc2] #[.i 5,.i most,.slice na2 (H.Y0.length+1) nc2,.slice Lx.pa H.pool.length Lx.pc] gn0 hH (fun w G0 hg A2=>?_);refine U147 ?_;intro Y1 hm;have I3:=I3.mod Y1 rfl;refine U89 ?_;intro C1 B1;have hN:=hN.mod Y1 rfl;have hH:=G0;refine U11 ?_;refine W.seq ?_;refine W.fl 10 [9] [0,1,2,3,4,5,6,7,8,9] (fun w'=>V0 w' H3 #[.i 5,.i most,.slice na2 (H.Y0.length+1) nc2,.slice Lx.pa H.pool.length Lx.pc] 113/\V0 w' b3 #[.i 3,.i ((H.Y0.length:Nat)+1),.i rn,.i rg,.i val,.slice a sn sk,.i tn,.i tg,.i er,.i x,.bool ok] 117/\Own w' B2 125 3 na2 (H.Y0.length+1) nc2 ((H.Y0 ++ [(⟨1,false,0⟩:Nd)]).flatMap nd3)) (by kernel_rfl) (by kernel_rfl) (by kernel_rfl) (by kernel_rfl) (by kernel_rfl) (⟨hH.j0 (Below.refl w.heap.size w).drew,C1.j0 (Below.refl w.heap.size w).drew,hN.j0 (Below.refl w.heap.size w).drew⟩) ?_;refine U351 ?_;intro Y2 hm hH;have I3:=I3.j0 Y2;have C1:=C1.j0 Y2;have B1:=B1.j0 Y2;have hN:=hN.j0 Y2;clear Y2;generalize w.drew=w at *;refine U546 ?_;refine F.va rfl rfl (fun w' J0=>(B0 rfl underlying111 rfl (J0.1.q0 2 (v:=.slice na2 (H.Y0.length+1) nc2) rfl))) ?_;refine F.va rfl rfl (fun w' J0=>(E0 rfl underlying117 rfl c5 (by decide))) ?_;refine F.va rfl rfl (fun w' J0=>(B0 rfl underlying3 rfl (J0.2.1.q0 1 (v:=.i ((H.Y0.length:Nat)+1)) rfl))) ?_;refine F.va rfl rfl (fun w' J0=>(cd0 (r:=(H.Y0.length:Int)) (by omega) (by omega) rfl rfl)) ?_;refine F.va rfl rfl (fun w' J0=>(u4 (i:=H.Y0.length) rfl rfl underlying111 Q9 hN.sl hi8)) ?_;refine F.va rfl rfl (fun w' J0=>(Q0 (cs:=[.i 1,.bool false,.i 0]) rfl underlying125 rfl Q9 rfl (fun j v hj=>by rw[(J0.2.2).off,Nat.zero_add];exact(J0.2.2).cell (D9 nd3 3 (fun _=>rfl) _ H.Y0.length ⟨1,false,0⟩ j v (by simp) hj)))) ?_;refine F.A9 rfl rfl ?_;refine L.alloc (cs:=#[.i 0,.bool false,.i 0]) Km0 rfl (fun w b5 F5=>?_);have lt5:=F5.lq hm.size;have Ov0:na2≠none->ab na2≠b5:=fun h=>by have h8:=hN.lt h;have h9:=F5.here;omega
 refine U364 ?_;intro hm hH;have I3:=I3.j0 F5.below;have C1:=C1.j0 F5.below;have B1:=B1.j0 F5.below;have hN:=hN.j0 F5.below;have j3:=F5.blk;refine L.nil ⟨rfl,⟨hH,C1,hN⟩,?_⟩;refine U15 ?_;refine L.pu 0 [.i 1,.bool false,.i 0] #[.i 1,.bool false,.i 0] Q9 j3 (fun w G0 hg A2=>?_);have Y1:=F1.E5 j3 hg;have hm:=hm.own hg lt5 J5;have hH:=hH.mod Y1 rfl;have I3:=I3.mod Y1 rfl;refine U89 ?_;intro C1 B1;have hN:=hN.V2 hg Ov0;have j3:=G0;refine U11 ?_;refine U292 ?_;refine U6 ?_;refine D.va (fun w' J0=>(E0 rfl underlying113 rfl gn0 (by decide))) ?_;refine D.va (fun w' J0=>(B0 rfl underlying111 rfl ((hH.j0 J0).q0 2 (v:=.slice na2 (H.Y0.length+1) nc2) rfl))) ?_;refine U439 ?_;refine D.va (fun w' J0=>(cd0 (r:=(H.Y0.length:Int)) (by omega) (by omega) rfl rfl)) ?_;refine D.va (fun w' J0=>(E0 rfl underlying125 rfl c5 (by decide))) ?_;refine D.va (fun w' J0=>(B0 rfl underlying3 rfl ((j3.j0 J0).q0 0 (v:=.i 1) rfl))) ?_;refine U458 ?_;refine D.va (fun w' J0=>(Z1 (parts:=[(0,.tmp 94),(1,.const (.bool true)),(2,.tmp 96)]) rfl (Fq0 1 true val))) ?_;refine D.va (fun w' J0=>(u4 (i:=H.Y0.length) rfl rfl underlying111 Q9 hN.sl hi8)) ?_;refine U90 ?_;intro w D1 hm hH;have I3:=I3.j0 D1;refine U74 ?_;intro C1 B1;have hN:=hN.j0 D1;have j3:=j3.j0 D1;clear D1;rw[<- hL1]at hN;obtain⟨cur,kw0,hle,hnc,-,hcs,-⟩:=hN.row (hN.p8 (Nat.lt_of_le_of_lt (Nat.zero_le _) hi9));refine L.put (b:=ab na2) (o:=ao na2+H.Y0.length*3) (vs:=[.i 1,.bool true,.i val]) (setRow cur (ao na2+H.Y0.length*3) [.i 1,.bool true,.i val]) rfl rfl rfl Q9 rfl rfl kw0 (by rw[hN.off,hcs];have h9:=hi9;omega) rfl (fun w G0 hg A2=>?_);have j3:=j3.other hg (fun e=>Ov0 (hN.p8 (Nat.lt_of_le_of_lt (Nat.zero_le _) hi9)) e.symm);rw[hN.off]at G0;have r9:=F1.put (TS:=[125]) (B:=Bs) kw0 hg (Nat.le_trans hB2 hle) rfl;have hN:=Own.over nd3 (fun _=>rfl) (⟨1,true,val⟩:Nd) hN hi9 kw0 G0;refine U252 ?_;intro hm hH;have I3:=I3.mod r9 rfl;refine U109 ?_;intro C1 B1;refine U366 ?_;refine U223 ?_;refine L.va (B0 rfl underlying3 rfl (C1.q0 1 (v:=.i ((H.Y0.length:Nat)+1)) rfl)) ?_;refine L.va (E0 rfl underlying125 rfl c5 (by decide)) ?_;refine L.va (B0 rfl underlying3 rfl (j3.q0 0 (v:=.i 1) rfl)) ?_;refine L.va (Z1 (parts:=[(0,.tmp 100),(1,.tmp 102)]) rfl (Fr0 ((H.Y0.length:Nat)+1) 1)) ?_;refine L.va (E0 rfl underlying117 rfl X5 (by decide)) ?_;refine L.pu 6 [.i ((H.Y0.length:Nat)+1),.i 1] #[.i 3,.i ((H.Y0.length:Nat)+1),.i rn,.i rg,.i val,.slice a sn sk,.i ((H.Y0.length:Nat)+1),.i 1,.i er,.i x,.bool ok] X5 C1 (fun w G0 hg A2=>?_);refine U86 ?_;intro Y1 hm hH;refine U182 ?_;intro I3 B1 hN;have C1:=G0;refine U77 ?_;refine L.pu 0 [.i 0] #[.i 0,.i ((H.Y0.length:Nat)+1),.i rn,.i rg,.i val,.slice a sn sk,.i ((H.Y0.length:Nat)+1),.i 1,.i er,.i x,.bool ok] c5 C1 (fun w G0 hg A2=>?_);refine U86 ?_;intro Y1 hm hH;refine U182 ?_;intro I3 B1 hN;have C1:=G0;refine U32 ?_;refine L.va (Q0 (cs:=[.i 0,.i ((H.Y0.length:Nat)+1),.i rn,.i rg,.i val,.slice a sn sk,.i ((H.Y0.length:Nat)+1),.i 1,.i er,.i x,.bool ok]) rfl underlying117 rfl X2 rfl (C1.B4 rfl)) ?_;refine L.pa [.i 0,.i ((H.Y0.length:Nat)+1),.i rn,.i rg,.i val,.slice a sn sk,.i ((H.Y0.length:Nat)+1),.i 1,.i er,.i x,.bool ok] X2 B1 (fun w G0 hg A2=>?_);refine U91 ?_;intro Y1 hm hH;have I3:=I3.mod Y1 rfl;have hN:=hN.mod Y1 rfl;have B1:=G0;refine U35 ?_;refine ends.cell (cs:=#[.i 0,.i ((H.Y0.length:Nat)+1),.i rn,.i rg,.i val,.slice a sn sk,.i ((H.Y0.length:Nat)+1),.i 1,.i er,.i x,.bool ok]) (.inr rfl) rfl rfl underlying117 rfl X2 B1 ?_;have e9:(H.Y0 ++ [(⟨1,false,0⟩:Nd)]).set H.Y0.length ⟨1,true,val⟩=H.Y0 ++ [⟨1,true,val⟩]:=by simp
 rw[e9]at hN;refine⟨na2,nc2,rfl,⟨?_,hN,I3⟩,hm⟩;have h9:=hH;have e8:(H.Y0 ++ [(⟨1,true,val⟩:Nd)]).length=H.Y0.length+1:=by simp
 show V0 _ H3 #[_,_,.slice na2 (H.Y0 ++ [(⟨1,true,val⟩:Nd)]).length nc2,_] _;rw[e8];exact h9
set_option maxHeartbeats 1000000 in
theorem Ic0 {Bs B2 H3:Nat} {most:Int} {H:Hs} {Lx:DL} (w0:World) (hD:DH w0 B2 H3 most H Lx) (J5:Bs <=w0.heap.size) (_hhb:Bs <=H3) (hB2:Bs <=B2) (_hB3s:B2 <=w0.heap.size) (rn rg val tn tg er x:Int) (a:Option Addr) (sn sk:Nat) (ok:Bool) (i:Nat) (hi:i<H.Y0.length) (hln:H.Y0.length <=1048576):C prog 30 #[.p H3,.agg #[.i 3,.i ((i:Int)+1),.i rn,.i rg,.i val,.slice a sn sk,.i tn,.i tg,.i er,.i x,.bool ok]] w0 fun v w=>v= .agg #[.i 0,.i ((i:Int)+1),.i rn,.i rg,.i val,.slice a sn sk,.i ((i:Int)+1),.i (o3 H i).g,.i er,.i x,.bool ok]/\DH w B2 H3 most (H.set ((i:Int)+1) (⟨(o3 H i).g,true,val⟩:Nd)) Lx/\F1 w0 w Bs [113,125]:=by
 refine U142 ?_;intro hm;obtain⟨hH,hN,I3⟩:=hD;refine U0 ?_;refine L.box (cs:=#[.i 3,.i ((i:Nat)+1),.i rn,.i rg,.i val,.slice a sn sk,.i tn,.i tg,.i er,.i x,.bool ok]) rfl rfl (fun w b3 F3=>?_);refine U107 ?_;intro lt3 hm;refine U163 ?_;intro hH hN;have I3:=I3.j0 F3.below;refine U95 ?_;intro C1 w b4 F4;have lt4:=F4.lq hm.size;have S8:=F4.ne C1;refine U168 ?_;intro hm hH hN;have I3:=I3.j0 F4.below;refine U79 ?_;intro C1 B1;refine U333 ?_;refine U13 ?_;refine U571 ?_;refine U572 ?_;refine U330 ?_;refine U75 ?_;refine U410 ?_;refine U6 ?_;refine U649 ?_;refine U90 ?_;intro w D1 hm hH;have hN:=hN.j0 D1;have I3:=I3.j0 D1;refine U74 ?_;intro C1 B1;refine U582 ?_;refine U81 ?_;refine W.seq ?_;refine W.fl 10 [9] [0,1,2,3,4,5,6,7,8,9] (fun w'=>V0 w' H3 #[.i 5,.i most,.slice Lx.na H.Y0.length Lx.nc,.slice Lx.pa H.pool.length Lx.pc] 113/\V0 w' b3 #[.i 3,.i ((i:Nat)+1),.i rn,.i rg,.i val,.slice a sn sk,.i tn,.i tg,.i er,.i x,.bool ok] 117/\Own w' B2 125 3 Lx.na (H.Y0).length Lx.nc ((H.Y0).flatMap nd3)) (by kernel_rfl) (by kernel_rfl) (by kernel_rfl) (by kernel_rfl) (by kernel_rfl) (⟨hH.j0 (Below.refl w.heap.size w).drew,C1.j0 (Below.refl w.heap.size w).drew,hN.j0 (Below.refl w.heap.size w).drew⟩) ?_;refine U351 ?_;intro Y2 hm hH;have hN:=hN.j0 Y2;have I3:=I3.j0 Y2;have C1:=C1.j0 Y2;have B1:=B1.j0 Y2;clear Y2;generalize w.drew=w at *;refine U546 ?_;refine F.va rfl rfl (fun w' J0=>(B0 rfl underlying111 rfl (J0.1.q0 2 (v:=.slice Lx.na H.Y0.length Lx.nc) rfl))) ?_;refine F.va rfl rfl (fun w' J0=>(E0 rfl underlying117 rfl c5 (by decide))) ?_;refine F.va rfl rfl (fun w' J0=>(B0 rfl underlying3 rfl (J0.2.1.q0 1 (v:=.i ((i:Nat)+1)) rfl))) ?_;refine F.va rfl rfl (fun w' J0=>(cd0 (r:=(i:Int)) (by omega) (by omega) rfl rfl)) ?_;refine F.va rfl rfl (fun w' J0=>(u4 (i:=i) rfl rfl underlying111 Q9 hN.sl hi)) ?_;refine F.va rfl rfl (fun w' J0=>(Q0 (cs:=[.i ((o3 H i).g),.bool ((o3 H i).l),.i ((o3 H i).v)]) rfl underlying125 rfl Q9 rfl (fun j v hj=>by rw[(J0.2.2).off,Nat.zero_add];exact(J0.2.2).cell (D9 nd3 3 (fun _=>rfl) H.Y0 i (o3 H i) j v (by unfold o3;rw[List.getElem?_eq_getElem hi];rfl) hj)))) ?_;refine F.A9 rfl rfl ?_;refine L.alloc (cs:=#[.i 0,.bool false,.i 0]) Km0 rfl (fun w b5 F5=>?_);have lt5:=F5.lq hm.size;have Ov0:Lx.na≠none->ab Lx.na≠b5:=fun h=>by have h8:=hN.lt h;have h9:=F5.here;omega
 refine U364 ?_;intro hm hH;have hN:=hN.j0 F5.below;have I3:=I3.j0 F5.below;have C1:=C1.j0 F5.below;have B1:=B1.j0 F5.below;have j3:=F5.blk;refine L.nil ⟨rfl,⟨hH,C1,hN⟩,?_⟩;refine U15 ?_;refine L.pu 0 [.i ((o3 H i).g),.bool ((o3 H i).l),.i ((o3 H i).v)] #[.i ((o3 H i).g),.bool ((o3 H i).l),.i ((o3 H i).v)] Q9 j3 (fun w G0 hg A2=>?_);have Y1:=F1.E5 j3 hg;have hm:=hm.own hg lt5 J5;have hH:=hH.mod Y1 rfl;have hN:=hN.V2 hg Ov0;have I3:=I3.mod Y1 rfl;refine U89 ?_;intro C1 B1;have j3:=G0;refine U11 ?_;refine U292 ?_;refine U6 ?_;refine U187 ?_;refine U559 ?_;refine D.va (fun w' J0=>(E0 rfl underlying125 rfl c5 (by decide))) ?_;refine D.va (fun w' J0=>(B0 rfl underlying3 rfl ((j3.j0 J0).q0 0 (v:=.i ((o3 H i).g)) rfl))) ?_;refine U458 ?_;refine D.va (fun w' J0=>(Z1 (parts:=[(0,.tmp 94),(1,.const (.bool true)),(2,.tmp 96)]) rfl (Fq0 ((o3 H i).g) true val))) ?_;refine D.va (fun w' J0=>(u4 (i:=i) rfl rfl underlying111 Q9 hN.sl hi)) ?_;refine U90 ?_;intro w D1 hm hH;have hN:=hN.j0 D1;have I3:=I3.j0 D1;refine U74 ?_;intro C1 B1;have j3:=j3.j0 D1;clear D1;obtain⟨cur,kw0,hle,hnc,-,hcs,-⟩:=hN.row (hN.p8 (Nat.lt_of_le_of_lt (Nat.zero_le _) hi));refine L.put (b:=ab Lx.na) (o:=ao Lx.na+i*3) (vs:=[.i ((o3 H i).g),.bool true,.i val]) (setRow cur (ao Lx.na+i*3) [.i ((o3 H i).g),.bool true,.i val]) rfl rfl rfl Q9 rfl rfl kw0 (by rw[hN.off,hcs];have h9:=hi;omega) rfl (fun w G0 hg A2=>?_);have j3:=j3.other hg (fun e=>Ov0 (hN.p8 (Nat.lt_of_le_of_lt (Nat.zero_le _) hi)) e.symm);rw[hN.off]at G0;have r9:=F1.put (TS:=[125]) (B:=Bs) kw0 hg (Nat.le_trans hB2 hle) rfl;have hN:=Own.over nd3 (fun _=>rfl) (⟨(o3 H i).g,true,val⟩:Nd) hN hi kw0 G0;refine U252 ?_;intro hm hH;have I3:=I3.mod r9 rfl;refine U109 ?_;intro C1 B1;refine U366 ?_;refine U223 ?_;refine L.va (B0 rfl underlying3 rfl (C1.q0 1 (v:=.i ((i:Nat)+1)) rfl)) ?_;refine L.va (E0 rfl underlying125 rfl c5 (by decide)) ?_;refine L.va (B0 rfl underlying3 rfl (j3.q0 0 (v:=.i ((o3 H i).g)) rfl)) ?_;refine L.va (Z1 (parts:=[(0,.tmp 100),(1,.tmp 102)]) rfl (Fr0 ((i:Nat)+1) ((o3 H i).g))) ?_;refine L.va (E0 rfl underlying117 rfl X5 (by decide)) ?_;refine L.pu 6 [.i ((i:Nat)+1),.i ((o3 H i).g)] #[.i 3,.i ((i:Nat)+1),.i rn,.i rg,.i val,.slice a sn sk,.i ((i:Nat)+1),.i ((o3 H i).g),.i er,.i x,.bool ok] X5 C1 (fun w G0 hg A2=>?_);refine U86 ?_;intro Y1 hm hH;refine U182 ?_;intro I3 B1 hN;have C1:=G0;refine U77 ?_;refine L.pu 0 [.i 0] #[.i 0,.i ((i:Nat)+1),.i rn,.i rg,.i val,.slice a sn sk,.i ((i:Nat)+1),.i ((o3 H i).g),.i er,.i x,.bool ok] c5 C1 (fun w G0 hg A2=>?_);refine U86 ?_;intro Y1 hm hH;refine U182 ?_;intro I3 B1 hN;have C1:=G0;refine U32 ?_;refine L.va (Q0 (cs:=[.i 0,.i ((i:Nat)+1),.i rn,.i rg,.i val,.slice a sn sk,.i ((i:Nat)+1),.i ((o3 H i).g),.i er,.i x,.bool ok]) rfl underlying117 rfl X2 rfl (C1.B4 rfl)) ?_;refine L.pa [.i 0,.i ((i:Nat)+1),.i rn,.i rg,.i val,.slice a sn sk,.i ((i:Nat)+1),.i ((o3 H i).g),.i er,.i x,.bool ok] X2 B1 (fun w G0 hg A2=>?_);refine U91 ?_;intro Y1 hm hH;have I3:=I3.mod Y1 rfl;have hN:=hN.mod Y1 rfl;have B1:=G0;refine U35 ?_;refine ends.cell (cs:=#[.i 0,.i ((i:Nat)+1),.i rn,.i rg,.i val,.slice a sn sk,.i ((i:Nat)+1),.i ((o3 H i).g),.i er,.i x,.bool ok]) (.inr rfl) rfl rfl underlying117 rfl X2 B1 ?_;have e9:H.set ((i:Int)+1) (⟨(o3 H i).g,true,val⟩:Nd)={H with Y0:=H.Y0.set i (⟨(o3 H i).g,true,val⟩:Nd)}:=by
  unfold Hs.set;rw[show((i:Int)+1-1).toNat=i by omega]
 rw[e9];refine⟨rfl,⟨?_,hN,I3⟩,hm⟩;have h9:=hH;have e8:(H.Y0.set i (⟨(o3 H i).g,true,val⟩:Nd)).length=H.Y0.length:=List.length_set;show V0 _ H3 #[_,_,.slice Lx.na (H.Y0.set i (⟨(o3 H i).g,true,val⟩:Nd)).length Lx.nc,_] _;rw[e8];exact h9
set_option maxHeartbeats 1000000 in
theorem Ow0 {Bs B2 H3:Nat} {most:Int} {H:Hs} {Lx:DL} (w0:World) (hD:DH w0 B2 H3 most H Lx) (J5:Bs <=w0.heap.size) (_hhb:Bs <=H3) (hB2:Bs <=B2) (_hB3s:B2 <=w0.heap.size) (rn rg val tn tg er x:Int) (a:Option Addr) (sn sk:Nat) (ok:Bool) (i:Nat) (hi:i<H.Y0.length) (hln:H.Y0.length <=1048576):C prog 30 #[.p H3,.agg #[.i 5,.i ((i:Int)+1),.i rn,.i rg,.i val,.slice a sn sk,.i tn,.i tg,.i er,.i x,.bool ok]] w0 fun v w=>v= .agg #[.i 6,.i ((i:Int)+1),.i rn,.i rg,.i val,.slice a sn sk,.i tn,.i tg,.i er,.i x,.bool ok]/\DH w B2 H3 most (H.set ((i:Int)+1) (⟨IntKind.i64.wrap (rg+1),false,0⟩:Nd)) Lx/\F1 w0 w Bs [113,125]:=by
 refine U142 ?_;intro hm;obtain⟨hH,hN,I3⟩:=hD;refine U0 ?_;refine L.box (cs:=#[.i 5,.i ((i:Nat)+1),.i rn,.i rg,.i val,.slice a sn sk,.i tn,.i tg,.i er,.i x,.bool ok]) rfl rfl (fun w b3 F3=>?_);refine U107 ?_;intro lt3 hm;refine U163 ?_;intro hH hN;have I3:=I3.j0 F3.below;refine U95 ?_;intro C1 w b4 F4;have lt4:=F4.lq hm.size;have S8:=F4.ne C1;refine U168 ?_;intro hm hH hN;have I3:=I3.j0 F4.below;refine U79 ?_;intro C1 B1;refine U585 ?_;refine U13 ?_;refine L.va (A1 (r:=false) (by decide) (S1 (m:=5) (k:=1) rfl rfl)) ?_;refine U4 ?_;refine L.va (A1 (r:=false) (by decide) (S1 (m:=5) (k:=2) rfl rfl)) ?_;refine U4 ?_;refine L.va (A1 (r:=false) (by decide) (S1 (m:=5) (k:=3) rfl rfl)) ?_;refine U4 ?_;refine L.va (A1 (r:=false) (by decide) (S1 (m:=5) (k:=4) rfl rfl)) ?_;refine U4 ?_;refine U576 ?_;refine U292 ?_;refine U6 ?_;refine U187 ?_;refine U559 ?_;refine D.va (fun w' J0=>(E0 rfl underlying117 rfl X5 (by decide))) ?_;refine D.va (fun w' J0=>(E0 rfl underlying82 rfl c5 (by decide))) ?_;refine D.va (fun w' J0=>(B0 rfl underlying3 rfl ((C1.j0 J0).q0 3 (v:=.i rg) rfl))) ?_;refine D.va (fun w' J0=>(ld0 (κ:=.i64) (m:=rg) (k:=1) rfl rfl)) ?_;refine D.va (fun w' J0=>(Z1 (parts:=[(0,.tmp 130)]) rfl (Fp0 (IntKind.i64.wrap (rg+1))))) ?_;refine D.va (fun w' J0=>(u4 (i:=i) rfl rfl underlying111 Q9 hN.sl hi)) ?_;refine U90 ?_;intro w D1 hm hH;have hN:=hN.j0 D1;have I3:=I3.j0 D1;refine U74 ?_;intro C1 B1;clear D1;obtain⟨cur,kw0,hle,hnc,-,hcs,-⟩:=hN.row (hN.p8 (Nat.lt_of_le_of_lt (Nat.zero_le _) hi));refine L.put (b:=ab Lx.na) (o:=ao Lx.na+i*3) (vs:=[.i (IntKind.i64.wrap (rg+1)),.bool false,.i 0]) (setRow cur (ao Lx.na+i*3) [.i (IntKind.i64.wrap (rg+1)),.bool false,.i 0]) rfl rfl rfl Q9 rfl rfl kw0 (by rw[hN.off,hcs];have h9:=hi;omega) rfl (fun w G0 hg A2=>?_);rw[hN.off]at G0;have r9:=F1.put (TS:=[125]) (B:=Bs) kw0 hg (Nat.le_trans hB2 hle) rfl;have hN:=Own.over nd3 (fun _=>rfl) (⟨IntKind.i64.wrap (rg+1),false,0⟩:Nd) hN hi kw0 G0;refine U252 ?_;intro hm hH;have I3:=I3.mod r9 rfl;refine U109 ?_;intro C1 B1;refine U366 ?_;refine U273 ?_;refine L.pu 0 [.i 6] #[.i 6,.i ((i:Nat)+1),.i rn,.i rg,.i val,.slice a sn sk,.i tn,.i tg,.i er,.i x,.bool ok] c5 C1 (fun w G0 hg A2=>?_);refine U86 ?_;intro Y1 hm hH;refine U182 ?_;intro I3 B1 hN;have C1:=G0;refine U32 ?_;refine L.va (Q0 (cs:=[.i 6,.i ((i:Nat)+1),.i rn,.i rg,.i val,.slice a sn sk,.i tn,.i tg,.i er,.i x,.bool ok]) rfl underlying117 rfl X2 rfl (C1.B4 rfl)) ?_;refine L.pa [.i 6,.i ((i:Nat)+1),.i rn,.i rg,.i val,.slice a sn sk,.i tn,.i tg,.i er,.i x,.bool ok] X2 B1 (fun w G0 hg A2=>?_);refine U91 ?_;intro Y1 hm hH;have I3:=I3.mod Y1 rfl;have hN:=hN.mod Y1 rfl;have B1:=G0;refine U35 ?_;refine ends.cell (cs:=#[.i 6,.i ((i:Nat)+1),.i rn,.i rg,.i val,.slice a sn sk,.i tn,.i tg,.i er,.i x,.bool ok]) (.inr rfl) rfl rfl underlying117 rfl X2 B1 ?_;have e9:H.set ((i:Int)+1) (⟨IntKind.i64.wrap (rg+1),false,0⟩:Nd)={H with Y0:=H.Y0.set i (⟨IntKind.i64.wrap (rg+1),false,0⟩:Nd)}:=by
  unfold Hs.set;rw[show((i:Int)+1-1).toNat=i by omega]
 rw[e9];refine⟨rfl,⟨?_,hN,I3⟩,hm⟩;have h9:=hH;have e8:(H.Y0.set i (⟨IntKind.i64.wrap (rg+1),false,0⟩:Nd)).length=H.Y0.length:=List.length_set;show V0 _ H3 #[_,_,.slice Lx.na (H.Y0.set i (⟨IntKind.i64.wrap (rg+1),false,0⟩:Nd)).length Lx.nc,_] _;rw[e8];exact h9
set_option maxHeartbeats 1000000 in
theorem Ox0 {Bs B2 H3:Nat} {most:Int} {H:Hs} {Lx:DL} (w0:World) (hD:DH w0 B2 H3 most H Lx) (J5:Bs <=w0.heap.size) (hhb:Bs <=H3) (hB2:Bs <=B2) (ka0:B2 <=w0.heap.size) (num rn rg val tn tg er x:Int) (a:Option Addr) (seen:List Int) (sk:Nat) (ok:Bool) (hS:N1 w0 B2 a sk seen) (hsm:seen.length <=4611686018427):C prog 30 #[.p H3,.agg #[.i 7,.i num,.i rn,.i rg,.i val,.slice a seen.length sk,.i tn,.i tg,.i er,.i x,.bool ok]] w0 fun v w=>∃a2 c2,v= .agg #[.i 0,.i num,.i rn,.i rg,.i val,.slice a seen.length sk,.i tn,.i tg,.i er,.i x,.bool true]/\DH w B2 H3 most {H with pool:=seen ++ [num]} ⟨Lx.na,Lx.nc,a2,c2⟩/\N1 w B2 a sk seen/\F1 w0 w Bs [113,125]:=by
 refine U142 ?_;intro hm;obtain⟨hH,hN,I3⟩:=hD;have D2:a≠none->ab a<w0.heap.size:=fun ha=>by
  obtain⟨cs,h1,_⟩:=hS.bl ha;exact(G3 h1).lt
 refine U0 ?_;refine L.box (cs:=#[.i 7,.i num,.i rn,.i rg,.i val,.slice a seen.length sk,.i tn,.i tg,.i er,.i x,.bool ok]) rfl rfl (fun w b3 F3=>?_);refine U107 ?_;intro lt3 hm;refine U163 ?_;intro hH hN;have I3:=I3.j0 F3.below;have hS:=hS.j0 F3.below;refine U95 ?_;intro C1 w b4 F4;have lt4:=F4.lq hm.size;have S8:=F4.ne C1;refine U168 ?_;intro hm hH hN;have I3:=I3.j0 F4.below;have hS:=hS.j0 F4.below;refine U79 ?_;intro C1 B1;refine U588 ?_;refine U13 ?_;refine L.va (A1 (r:=false) (by decide) (S1 (m:=7) (k:=1) rfl rfl)) ?_;refine U4 ?_;refine L.va (A1 (r:=false) (by decide) (S1 (m:=7) (k:=2) rfl rfl)) ?_;refine U4 ?_;refine L.va (A1 (r:=false) (by decide) (S1 (m:=7) (k:=3) rfl rfl)) ?_;refine U4 ?_;refine L.va (A1 (r:=false) (by decide) (S1 (m:=7) (k:=4) rfl rfl)) ?_;refine U4 ?_;refine L.va (A1 (r:=false) (by decide) (S1 (m:=7) (k:=5) rfl rfl)) ?_;refine U4 ?_;refine L.va (A1 (r:=false) (by decide) (S1 (m:=7) (k:=6) rfl rfl)) ?_;refine U4 ?_;refine U577 ?_;refine W.seq ?_;refine W.fl3 9 [1,4,7,8] 1 4 7 [0,2,3,5,6,7,1,4,8] [0,2,3,5,6,1,7,4,8] [0,2,3,5,6,1,4,7,8] (fun w'=>V0 w' b3 #[.i 7,.i num,.i rn,.i rg,.i val,.slice a seen.length sk,.i tn,.i tg,.i er,.i x,.bool ok] 117) (by kernel_rfl) (by kernel_rfl) (by kernel_rfl) (by kernel_rfl) (by kernel_rfl) (by kernel_rfl) (by kernel_rfl) (C1.j0 (Below.refl w.heap.size w).drew) ?_ ?_ ?_
 ·have Y2:Below w.heap.size w w.drew:=(Below.refl w.heap.size w).drew;refine U224 ?_;intro hm hH;have hN:=hN.j0 Y2;have I3:=I3.j0 Y2;have hS:=hS.j0 Y2;have C1:=C1.j0 Y2;have B1:=B1.j0 Y2;clear Y2;generalize w.drew=w at *;refine U349 ?_;refine U285 ?_;refine U324 ?_;intro w Id0 T8;have Ws0:=T8.lq hm.size;refine U357 ?_;intro hm hH;have hN:=hN.j0 T8.below;have I3:=I3.j0 T8.below;have hS:=hS.j0 T8.below;have C1:=C1.j0 T8.below;have B1:=B1.j0 T8.below;have ej0:=T8.blk;refine L.nil ⟨rfl,C1,?_⟩;refine U381 ?_;intro w tf0 E7;have bq1:Id0≠tf0:=by have h8:=(G3 ej0).lt;have h9:=E7.here;omega
  have Fs0:=E7.lq hm.size;refine U358 ?_;intro hm hH;have hN:=hN.j0 E7.below;have I3:=I3.j0 E7.below;have hS:=hS.j0 E7.below;have C1:=C1.j0 E7.below;have B1:=B1.j0 E7.below;have ej0:=ej0.j0 E7.below;have kb0:=E7.blk;refine U322 ?_;intro hO;refine L.nil ⟨rfl,C1,?_⟩;refine F.A9 rfl rfl ?_;refine L.N5 (B:=w0.heap.size) (m:=seen.length) rfl rfl underlying23 in3 rfl (by decide) hO hS.nil (news:=seen.map (Value.int .i64)) (by simp) (fun ad had j u hj=>hS.src ad had j u hj) (fun u hu=>by obtain⟨j,_,rfl⟩:=List.mem_map.1 hu;rfl) (by omega) (by omega) hm.size (fun a2 c2 w2 H8 u9 J6 _=>?_);refine U129 ?_;intro r9 hm hH hN C1 B1 hS;have ej0:=ej0.grown u9 (fun e=>bq1 (Option.some.inj e));clear r9 hO u9 J6 I3;have hO:=H8;clear H8
  rename World=>w
  refine L.nil ⟨rfl,C1,?_⟩;refine F.A9 rfl rfl ?_;refine L.N5 (B:=w0.heap.size) (m:=1) rfl rfl underlying23 in3 rfl (by decide) hO (fun h=>by cases h) (news:=[.i num]) rfl (fun ad had j u hj=>by
   cases had;rw[Addr.add_lit]
   match j,hj with
   |0,hj=>cases hj;exact ej0.q0 0 rfl) (fun u hu=>by simp only[List.mem_cons,List.not_mem_nil,or_false]at hu;subst hu;rfl) (by omega) (by omega) hm.size (fun a3 c3 w2 H8 u9 J6 _=>?_)
  refine U129 ?_;intro r9 hm hH hN C1 B1 hS;refine U306 ?_;intro hPn
  rename World=>w
  refine L.nil ⟨rfl,C1,?_⟩;refine U237 ?_;refine U284 ?_;intro w G0 hg A2;refine U147 ?_;intro Y1 hm;have hN:=hN.mod Y1 rfl;refine U89 ?_;intro C1 B1;refine U85 ?_;intro hPn hS;have hH:=G0;refine U58 ?_;refine U290 ?_;intro w G0 hg A2;refine U130 ?_;intro Y1 hm hH hN B1 hPn hS;have C1:=G0;refine U11 ?_;refine U312 ?_;intro w G0 hg A2;refine U130 ?_;intro Y1 hm hH hN B1 hPn hS;have C1:=G0;refine U32 ?_;refine U279 ?_;intro w G0 hg A2;refine U91 ?_;intro Y1 hm hH;have hN:=hN.mod Y1 rfl;refine U85 ?_;intro hPn hS;have B1:=G0;refine U286 ?_;refine⟨a3,c3,rfl,⟨?_,hN,hPn.down ka0⟩,hS,hm⟩;have h9:=hH;have e8:(seen ++ [num]).length=0+seen.length+1:=by simp
  show V0 _ H3 #[_,_,_,.slice a3 (seen ++ [num]).length c3] _;rw[e8];exact h9
 ·have Y2:Below w.heap.size w w.drew:=(Below.refl w.heap.size w).drew;refine U224 ?_;intro hm hH;have hN:=hN.j0 Y2;have I3:=I3.j0 Y2;have hS:=hS.j0 Y2;have C1:=C1.j0 Y2;have B1:=B1.j0 Y2;clear Y2;generalize w.drew=w at *;refine U349 ?_;refine U285 ?_;refine U381 ?_;intro w tf0 E7;have Fs0:=E7.lq hm.size;refine U358 ?_;intro hm hH;have hN:=hN.j0 E7.below;have I3:=I3.j0 E7.below;have hS:=hS.j0 E7.below;have C1:=C1.j0 E7.below;have B1:=B1.j0 E7.below;have kb0:=E7.blk;refine U322 ?_;intro hO;refine L.nil ⟨rfl,C1,?_⟩;refine U324 ?_;intro w Id0 T8;have Ws0:=T8.lq hm.size;have bq1:Id0≠tf0:=fun e=>by have h8:=hO.lt (by simp);have h9:=T8.here;rw[e]at h9;have h8:tf0<_:=h8;omega
  refine U357 ?_;intro hm hH;have hN:=hN.j0 T8.below;have I3:=I3.j0 T8.below;have hS:=hS.j0 T8.below;have C1:=C1.j0 T8.below;have B1:=B1.j0 T8.below;have hO:=hO.j0 T8.below;have ej0:=T8.blk;refine L.nil ⟨rfl,C1,?_⟩;refine F.A9 rfl rfl ?_;refine L.N5 (B:=w0.heap.size) (m:=seen.length) rfl rfl underlying23 in3 rfl (by decide) hO hS.nil (news:=seen.map (Value.int .i64)) (by simp) (fun ad had j u hj=>hS.src ad had j u hj) (fun u hu=>by obtain⟨j,_,rfl⟩:=List.mem_map.1 hu;rfl) (by omega) (by omega) hm.size (fun a2 c2 w2 H8 u9 J6 _=>?_);refine U129 ?_;intro r9 hm hH hN C1 B1 hS;have ej0:=ej0.grown u9 (fun e=>bq1 (Option.some.inj e));clear r9 hO u9 J6 I3;have hO:=H8;clear H8
  rename World=>w
  refine L.nil ⟨rfl,C1,?_⟩;refine F.A9 rfl rfl ?_;refine L.N5 (B:=w0.heap.size) (m:=1) rfl rfl underlying23 in3 rfl (by decide) hO (fun h=>by cases h) (news:=[.i num]) rfl (fun ad had j u hj=>by
   cases had;rw[Addr.add_lit]
   match j,hj with
   |0,hj=>cases hj;exact ej0.q0 0 rfl) (fun u hu=>by simp only[List.mem_cons,List.not_mem_nil,or_false]at hu;subst hu;rfl) (by omega) (by omega) hm.size (fun a3 c3 w2 H8 u9 J6 _=>?_)
  refine U129 ?_;intro r9 hm hH hN C1 B1 hS;refine U306 ?_;intro hPn
  rename World=>w
  refine L.nil ⟨rfl,C1,?_⟩;refine U237 ?_;refine U284 ?_;intro w G0 hg A2;refine U147 ?_;intro Y1 hm;have hN:=hN.mod Y1 rfl;refine U89 ?_;intro C1 B1;refine U85 ?_;intro hPn hS;have hH:=G0;refine U58 ?_;refine U290 ?_;intro w G0 hg A2;refine U130 ?_;intro Y1 hm hH hN B1 hPn hS;have C1:=G0;refine U11 ?_;refine U312 ?_;intro w G0 hg A2;refine U130 ?_;intro Y1 hm hH hN B1 hPn hS;have C1:=G0;refine U32 ?_;refine U279 ?_;intro w G0 hg A2;refine U91 ?_;intro Y1 hm hH;have hN:=hN.mod Y1 rfl;refine U85 ?_;intro hPn hS;have B1:=G0;refine U286 ?_;refine⟨a3,c3,rfl,⟨?_,hN,hPn.down ka0⟩,hS,hm⟩;have h9:=hH;have e8:(seen ++ [num]).length=0+seen.length+1:=by simp
  show V0 _ H3 #[_,_,_,.slice a3 (seen ++ [num]).length c3] _;rw[e8];exact h9
 ·have Y2:Below w.heap.size w w.drew:=(Below.refl w.heap.size w).drew;refine U224 ?_;intro hm hH;have hN:=hN.j0 Y2;have I3:=I3.j0 Y2;have hS:=hS.j0 Y2;have C1:=C1.j0 Y2;have B1:=B1.j0 Y2;clear Y2;generalize w.drew=w at *;refine U349 ?_;refine U285 ?_;refine U381 ?_;intro w tf0 E7;have Fs0:=E7.lq hm.size;refine U358 ?_;intro hm hH;have hN:=hN.j0 E7.below;have I3:=I3.j0 E7.below;have hS:=hS.j0 E7.below;have C1:=C1.j0 E7.below;have B1:=B1.j0 E7.below;have kb0:=E7.blk;refine U322 ?_;intro hO;refine L.nil ⟨rfl,C1,?_⟩;refine F.A9 rfl rfl ?_;refine L.N5 (B:=w0.heap.size) (m:=seen.length) rfl rfl underlying23 in3 rfl (by decide) hO hS.nil (news:=seen.map (Value.int .i64)) (by simp) (fun ad had j u hj=>hS.src ad had j u hj) (fun u hu=>by obtain⟨j,_,rfl⟩:=List.mem_map.1 hu;rfl) (by omega) (by omega) hm.size (fun a2 c2 w2 H8 u9 J6 _=>?_);refine U129 ?_;intro r9 hm hH hN C1 B1 hS;clear r9 hO u9 J6 I3;have hO:=H8;clear H8
  rename World=>w
  refine L.nil ⟨rfl,C1,?_⟩;refine U324 ?_;intro w Id0 T8;have Ws0:=T8.lq hm.size;refine U357 ?_;intro hm hH;have hN:=hN.j0 T8.below;have C1:=C1.j0 T8.below;have B1:=B1.j0 T8.below;have hO:=hO.j0 T8.below;have hS:=hS.j0 T8.below;have ej0:=T8.blk;refine L.nil ⟨rfl,C1,?_⟩;refine F.A9 rfl rfl ?_;refine L.N5 (B:=w0.heap.size) (m:=1) rfl rfl underlying23 in3 rfl (by decide) hO (fun h=>by cases h) (news:=[.i num]) rfl (fun ad had j u hj=>by
   cases had;rw[Addr.add_lit]
   match j,hj with
   |0,hj=>cases hj;exact ej0.q0 0 rfl) (fun u hu=>by simp only[List.mem_cons,List.not_mem_nil,or_false]at hu;subst hu;rfl) (by omega) (by omega) hm.size (fun a3 c3 w2 H8 u9 J6 _=>?_)
  refine U129 ?_;intro r9 hm hH hN C1 B1 hS;refine U306 ?_;intro hPn
  rename World=>w
  refine L.nil ⟨rfl,C1,?_⟩;refine U237 ?_;refine U284 ?_;intro w G0 hg A2;refine U147 ?_;intro Y1 hm;have hN:=hN.mod Y1 rfl;refine U89 ?_;intro C1 B1;refine U85 ?_;intro hPn hS;have hH:=G0;refine U58 ?_;refine U290 ?_;intro w G0 hg A2;refine U130 ?_;intro Y1 hm hH hN B1 hPn hS;have C1:=G0;refine U11 ?_;refine U312 ?_;intro w G0 hg A2;refine U130 ?_;intro Y1 hm hH hN B1 hPn hS;have C1:=G0;refine U32 ?_;refine U279 ?_;intro w G0 hg A2;refine U91 ?_;intro Y1 hm hH;have hN:=hN.mod Y1 rfl;refine U85 ?_;intro hPn hS;have B1:=G0;refine U286 ?_;refine⟨a3,c3,rfl,⟨?_,hN,hPn.down ka0⟩,hS,hm⟩;have h9:=hH;have e8:(seen ++ [num]).length=0+seen.length+1:=by simp
  show V0 _ H3 #[_,_,_,.slice a3 (seen ++ [num]).length c3] _;rw[e8];exact h9
end
section
variable [Ctx prog]
theorem Oy0 {Bs B2 H3:Nat} {most:Int} {H:Hs} {Lx:DL} (w0:World) (hD:DH w0 B2 H3 most H Lx) (J5:Bs <=w0.heap.size) (hhb:Bs <=H3) (hB2:Bs <=B2) (ka0:B2 <=w0.heap.size) (d:Dc) (hS:N1 w0 B2 d.a d.k d.c.seen) (hJ:HJ H d.c) (h0:d.c.at_≠0) (h8:d.c.at_ <=8) (r9:most <=1048576) (hnl:H.Y0.length <=1048576) (hpl:H.pool.length <=1000000000) :
  C prog 30 #[.p H3,.agg (dcC d).toArray] w0 fun v w=>∃d' Lx',v= .agg (dcC d').toArray/\d'.c=(W0 most H d.c).2/\DH w B2 H3 most (W0 most H d.c).1 Lx'/\N1 w B2 d'.a d'.k d'.c.seen/\F1 w0 w Bs [113,125]:=by
 obtain⟨⟨at_,num,rn,rg,val,seen,tn,tg,e,x,ok,gg⟩,a,k⟩:=d;have hc:at_=1\/at_=2\/at_=3\/at_=4\/at_=5\/at_=6\/at_=7\/at_=8:=by
  have h0:at_≠0:=h0
  have h8:at_ <=8:=h8
  omega
 have hS:N1 w0 B2 a k seen:=hS;have look:∀{d':Dc} {v:Value} {w:World},v= .agg (dcC d').toArray->d'.c=(W0 most H ⟨at_,num,rn,rg,val,seen,tn,tg,e,x,ok,gg⟩).2->(W0 most H ⟨at_,num,rn,rg,val,seen,tn,tg,e,x,ok,gg⟩).1=H->N1 w B2 d'.a d'.k d'.c.seen->Below w0.heap.size w0 w->∃d' Lx',v= .agg (dcC d').toArray/\d'.c=(W0 most H ⟨at_,num,rn,rg,val,seen,tn,tg,e,x,ok,gg⟩).2/\DH w B2 H3 most (W0 most H ⟨at_,num,rn,rg,val,seen,tn,tg,e,x,ok,gg⟩).1 Lx'/\N1 w B2 d'.a d'.k d'.c.seen/\F1 w0 w Bs [113,125] :=
  fun{d' v w} h1 h2 h3 h4 hb=>⟨d',Lx,h1,h2,by rw[h3];exact hD.j0 hb,h4,F1.below hb J5 _⟩
 rcases hc with rfl|rfl|rfl|rfl|rfl|rfl|rfl|rfl
 ·rcases hl:H.pool.getLast? with _|z
  ·have hp:H.pool.length=0:=by rw[List.getLast?_eq_none_iff.1 hl];rfl
   by_cases D2:(H.Y0.length:Int)<most
   ·refine Calls.mono (Hz0 w0 hD num rn rg val tn tg e x a seen.length k ok hp D2 r9) fun ee w he=>?_;cases ee with
    |outgrown=>exact he.elim
    |panicked ch=>exact he.elim
    |returned v=>
     obtain⟨rfl,hb⟩:=he;have e1:W0 most H ⟨1,num,rn,rg,val,seen,tn,tg,e,x,ok,gg⟩=(H,⟨3,(H.Y0.length:Int)+1,rn,rg,val,seen,tn,tg,e,x,ok,gg⟩):=by simp[W0,hl,D2]
     exact look (d':=⟨⟨3,(H.Y0.length:Int)+1,rn,rg,val,seen,tn,tg,e,x,ok,gg⟩,a,k⟩) rfl (by rw[e1]) (by rw[e1]) (hS.j0 hb) hb
   ·refine Calls.mono (Ia0 w0 hD num rn rg val tn tg e x a seen.length k ok hp D2) fun ee w he=>?_;cases ee with
    |outgrown=>exact he.elim
    |panicked ch=>exact he.elim
    |returned v=>
     obtain⟨rfl,hb⟩:=he;have e1:W0 most H ⟨1,num,rn,rg,val,seen,tn,tg,e,x,ok,gg⟩=(H,⟨0,num,rn,rg,val,seen,tn,tg,5,x,ok,gg⟩):=by simp[W0,hl,D2]
     exact look (d':=⟨⟨0,num,rn,rg,val,seen,tn,tg,5,x,ok,gg⟩,a,k⟩) rfl (by rw[e1]) (by rw[e1]) (hS.j0 hb) hb
  ·obtain⟨ys,hys⟩:=List.getLast?_eq_some_iff.1 hl;refine Calls.mono (Hy0 w0 hD num rn rg val tn tg e x a seen.length k ok hys (by omega)) fun ee w he=>?_;cases ee with
   |outgrown=>exact he.elim
   |panicked ch=>exact he.elim
   |returned v=>
    obtain⟨a2,c2,rfl,hP,hb⟩:=he;have e1:W0 most H ⟨1,num,rn,rg,val,seen,tn,tg,e,x,ok,gg⟩=(H,⟨2,z,rn,rg,val,ys,tn,tg,e,x,ok,gg⟩):=by
     have:H.pool.dropLast=ys:=by rw[hys,List.dropLast_concat]
     simp[W0,hl,this]
    exact look (d':=⟨⟨2,z,rn,rg,val,ys,tn,tg,e,x,ok,gg⟩,a2,c2⟩) rfl (by rw[e1]) (by rw[e1]) (hP.down ka0) hb
 ·refine Calls.mono (Ou0 w0 hD J5 hhb hB2 ka0 num rn rg val tn tg e x a seen k ok hS) fun ee w he=>?_;cases ee with
  |outgrown=>exact he.elim
  |panicked ch=>exact he.elim
  |returned v=>
   obtain⟨rfl,hD',hS',hm⟩:=he;exact⟨⟨(W0 most H ⟨2,num,rn,rg,val,seen,tn,tg,e,x,ok,gg⟩).2,a,k⟩,_,rfl,rfl,hD',hS',hm⟩
 ·rcases hJ.a3 rfl with hn|⟨hn1,hn2,_⟩
  ·have hn:num=(H.Y0.length:Int)+1:=hn;subst hn;refine Calls.mono (Ib0 w0 hD J5 hhb hB2 ka0 rn rg val tn tg e x a seen.length k ok hnl) fun ee w he=>?_;cases ee with
   |outgrown=>exact he.elim
   |panicked ch=>exact he.elim
   |returned v=>
    obtain⟨na2,nc2,rfl,hD',hm⟩:=he;have e1:W0 most H ⟨3,(H.Y0.length:Int)+1,rn,rg,val,seen,tn,tg,e,x,ok,gg⟩=({H with Y0:=H.Y0 ++ [⟨1,true,val⟩]},⟨0,(H.Y0.length:Int)+1,rn,rg,val,seen,(H.Y0.length:Int)+1,1,e,x,ok,gg⟩):=ju0 rfl (by show(H.Y0.length:Int)<(H.Y0.length:Int)+1;omega);rw[e1];exact⟨⟨⟨0,(H.Y0.length:Int)+1,rn,rg,val,seen,(H.Y0.length:Int)+1,1,e,x,ok,gg⟩,a,k⟩,_,rfl,rfl,hD',hS.mod hm rfl,hm⟩
  ·have hn1:1 <=num:=hn1;have hn2:num <=(H.Y0.length:Int):=hn2;obtain⟨i,rfl⟩:∃i:Nat,num=(i:Int)+1:=⟨(num-1).toNat,by omega⟩
   refine Calls.mono (Ic0 w0 hD J5 hhb hB2 ka0 rn rg val tn tg e x a seen.length k ok i (by omega) hnl) fun ee w he=>?_;cases ee with
   |outgrown=>exact he.elim
   |panicked ch=>exact he.elim
   |returned v=>
    obtain⟨rfl,hD',hm⟩:=he;have e1:W0 most H ⟨3,(i:Int)+1,rn,rg,val,seen,tn,tg,e,x,ok,gg⟩=(H.set ((i:Int)+1) ⟨(o3 H i).g,true,val⟩,⟨0,(i:Int)+1,rn,rg,val,seen,(i:Int)+1,(o3 H i).g,e,x,ok,gg⟩):=by
     rw[jt0 rfl (by show ¬(H.Y0.length:Int)<(i:Int)+1;omega)];show(H.set ((i:Int)+1) ⟨(B7 H ((i:Int)+1)).g,true,val⟩,L1.mk 0 ((i:Int)+1) rn rg val seen ((i:Int)+1) (B7 H ((i:Int)+1)).g e x ok gg)=_;rw[oq0]
    rw[e1];exact⟨⟨⟨0,(i:Int)+1,rn,rg,val,seen,(i:Int)+1,(o3 H i).g,e,x,ok,gg⟩,a,k⟩,_,rfl,rfl,hD',hS.mod hm rfl,hm⟩
 ·refine Calls.mono (Or0 w0 hD num rn rg val tn tg e x a seen.length k ok) fun ee w he=>?_;cases ee with
  |outgrown=>exact he.elim
  |panicked ch=>exact he.elim
  |returned v=>
   obtain⟨h9,hb⟩:=he;rcases h9 with⟨hl,rfl⟩|⟨hl,rfl⟩
   ·have e1:W0 most H ⟨4,num,rn,rg,val,seen,tn,tg,e,x,ok,gg⟩=(H,⟨5,num,rn,rg,val,seen,tn,tg,e,x,ok,gg⟩):=ff0 rfl hl;exact look (d':=⟨⟨5,num,rn,rg,val,seen,tn,tg,e,x,ok,gg⟩,a,k⟩) rfl (by rw[e1]) (by rw[e1]) (hS.j0 hb) hb
   ·have e1:W0 most H ⟨4,num,rn,rg,val,seen,tn,tg,e,x,ok,gg⟩=(H,⟨0,num,rn,rg,val,seen,tn,tg,e,x,ok,gg⟩):=fg0 rfl hl;exact look (d':=⟨⟨0,num,rn,rg,val,seen,tn,tg,e,x,ok,gg⟩,a,k⟩) rfl (by rw[e1]) (by rw[e1]) (hS.j0 hb) hb
 ·obtain⟨hn1,hn2,_⟩:=hJ.a4 (.inr (.inl rfl));have hn1:1 <=num:=hn1;have hn2:num <=(H.Y0.length:Int):=hn2;obtain⟨i,rfl⟩:∃i:Nat,num=(i:Int)+1:=⟨(num-1).toNat,by omega⟩
  refine Calls.mono (Ow0 w0 hD J5 hhb hB2 ka0 rn rg val tn tg e x a seen.length k ok i (by omega) hnl) fun ee w he=>?_;cases ee with
  |outgrown=>exact he.elim
  |panicked ch=>exact he.elim
  |returned v=>
   obtain⟨rfl,hD',hm⟩:=he;exact⟨⟨(W0 most H ⟨5,(i:Int)+1,rn,rg,val,seen,tn,tg,e,x,ok,gg⟩).2,a,k⟩,_,rfl,rfl,hD',hS.mod hm rfl,hm⟩
 ·refine Calls.mono (Ot0 w0 hD num rn rg val tn tg e x a seen.length k ok (by omega)) fun ee w he=>?_;cases ee with
  |outgrown=>exact he.elim
  |panicked ch=>exact he.elim
  |returned v=>
   obtain⟨a2,c2,rfl,hP,hb⟩:=he;exact look (d':=⟨⟨7,num,rn,rg,val,H.pool,tn,tg,e,x,ok,gg⟩,a2,c2⟩) rfl rfl rfl (hP.down ka0) hb
 ·have hs:seen=H.pool:=hJ.a7 rfl;refine Calls.mono (Ox0 w0 hD J5 hhb hB2 ka0 num rn rg val tn tg e x a seen k ok hS (by rw[hs];omega)) fun ee w he=>?_;cases ee with
  |outgrown=>exact he.elim
  |panicked ch=>exact he.elim
  |returned v=>
   obtain⟨a2,c2,rfl,hD',hS',hm⟩:=he;exact⟨⟨(W0 most H ⟨7,num,rn,rg,val,seen,tn,tg,e,x,ok,gg⟩).2,a,k⟩,_,rfl,rfl,hD',hS',hm⟩
 ·refine Calls.mono (Os0 w0 hD num rn rg val tn tg e x a seen.length k ok) fun ee w he=>?_;cases ee with
  |outgrown=>exact he.elim
  |panicked ch=>exact he.elim
  |returned v=>
   obtain⟨rfl,hb⟩:=he;have e1:W0 most H ⟨8,num,rn,rg,val,seen,tn,tg,e,x,ok,gg⟩=(H,⟨0,num,rn,rg,val,seen,tn,tg,e,(V3 H rn rg).1,(V3 H rn rg).2,gg⟩):=al0 rfl;exact look (d':=⟨⟨0,num,rn,rg,val,seen,tn,tg,e,(V3 H rn rg).1,(V3 H rn rg).2,gg⟩,a,k⟩) rfl (by rw[e1]) (by rw[e1]) (hS.j0 hb) hb
end
structure Mx where
 wb:Nat
 hb:Nat
 pb:Nat
 nb:Nat
 gb:Nat
 rb:Nat
 eb:Nat
 xb:Nat
 zb:Nat
 L:DL
 ta:Option Addr
 tc:Nat
 la:Nat->Option Addr
 lc:Nat->Nat
 ea:Option Addr
 ec:Nat
 now:List Dc
 W9:List Nat
 evs:List (Nat×Stp)
 ends:List Int
 I4:List Stp
 used:Nat
 s:HW
def plV (k:Nat):Value:=.i (k:Int)
abbrev Mx.wC (ba:Option Addr) (bc m:Nat) (M:Mx):Array Value:=#[.p M.hb,.slice ba m bc,.slice (pt M.pb) m m,.slice (pt M.nb) m m,.slice M.ta M.s.N0.length M.tc,.slice (pt M.gb) m m]
abbrev Mx.rC (m:Nat) (M:Mx):Array Value:=#[.slice M.ea M.evs.length M.ec,.slice none 0 0,.slice (pt M.eb) m m,.slice (pt M.xb) m m,.bool false,.i (M.used:Int)]
structure RX (w0:World) (B2 m:Nat) (ba:Option Addr) (bc:Nat) (most:Int) (w:World) (M:Mx):Prop where
 hW:V0 w M.wb (M.wC ba bc m) 54
 hD:DH w B2 M.hb most M.s.H M.L
 hP:V0 w M.pb (M.W9.map plV).toArray 3
 hN:V0 w M.nb (M.now.flatMap dcC).toArray 117
 hG:V0 w M.gb (arr m fun i=>.slice (M.la i) (M.s.log i).length (M.lc i)) 50
 hR:V0 w M.rb (M.rC m) 40
 hE:V0 w M.eb (M.ends.map (Value.int .i64)).toArray 3
 hX:V0 w M.xb (M.I4.flatMap spC).toArray 77
 hZ:V0 w M.zb #[.slice none 0 0,.slice none 0 0,.slice none 0 0,.slice none 0 0,.bool false,.i 0] 40
 hT:Own w B2 82 2 M.ta M.s.N0.length M.tc (M.s.N0.flatMap gd0)
 hL:∀i,i<m->Own w B2 122 5 (M.la i) (M.s.log i).length (M.lc i) ((M.s.log i).flatMap k9)
 hV:Own w B2 79 4 M.ea M.evs.length M.ec (M.evs.flatMap evC)
 hS:∀(i:Nat) (d:Dc),M.now[i]? =some d->N1 w B2 d.a d.k d.c.seen
 inj:∀i j,i<m->j<m->i≠j->M.la i≠none->M.la j≠none->ab (M.la i)≠ab (M.la j)
 lp:M.W9.length=m
 ln:M.now.length=m
 le:M.ends.length=m
 lw:M.I4.length=m
 pe:M.pb≠M.eb
 zr:M.zb≠M.rb
 zl:M.zb<B2
 bs:B2 <=w.heap.size
 b0:w0.heap.size <=B2
 lo:(M.wb<B2/\M.hb<B2/\M.pb<B2/\M.nb<B2/\M.gb<B2/\M.rb<B2/\M.eb<B2/\M.xb<B2)
 hi:(w0.heap.size <=M.wb/\w0.heap.size <=M.hb/\w0.heap.size <=M.pb/\w0.heap.size <=M.nb/\w0.heap.size <=M.gb/\w0.heap.size <=M.rb/\w0.heap.size <=M.eb/\w0.heap.size <=M.xb)
 hb:Below w0.heap.size w0 w
section
variable {w0 w w':World}{B2 m bc:Nat}{ba:Option Addr}{most:Int}{M:Mx}
theorem RX.j0 (h:RX w0 B2 m ba bc most w M) (hb:Below w.heap.size w w'):RX w0 B2 m ba bc most w' M :=
 ⟨h.hW.j0 hb,h.hD.j0 hb,h.hP.j0 hb,h.hN.j0 hb,h.hG.j0 hb,h.hR.j0 hb,h.hE.j0 hb,h.hX.j0 hb,h.hZ.j0 hb,Own.congr h.hT fun ha=>hb.block _ (h.hT.lt ha),fun i hi=>Own.congr (h.hL i hi) fun ha=>hb.block _ ((h.hL i hi).lt ha),Own.congr h.hV fun ha=>hb.block _ (h.hV.lt ha),fun i d hd=>(h.hS i d hd).j0 hb,h.inj,h.lp,h.ln,h.le,h.lw,h.pe,h.zr,h.zl,Nat.le_trans h.bs hb.size,h.b0,h.lo,h.hi,O0 h.hb hb⟩
theorem RX.mw1 (h:RX w0 B2 m ba bc most w M) (i:Nat) (v:Stp) (G0:V0 w' M.xb ((M.I4.set i v).flatMap spC).toArray 77) (hg:w.grownBy w' (some M.xb)):RX w0 B2 m ba bc most w' {M with I4:=M.I4.set i v}:=by
 have hm:F1 w w' w0.heap.size [77]:=F1.put h.hX hg h.hi.2.2.2.2.2.2.2 rfl;exact⟨h.hW.mod hm rfl,h.hD.mod hm rfl,h.hP.mod hm rfl,h.hN.mod hm rfl,h.hG.mod hm rfl,h.hR.mod hm rfl,h.hE.mod hm rfl,G0,h.hZ.mod hm rfl,h.hT.mod hm rfl,fun i hi=>(h.hL i hi).mod hm rfl,h.hV.mod hm rfl,fun i d hd=>(h.hS i d hd).mod hm rfl,h.inj,h.lp,h.ln,h.le,by rw[List.length_set];exact h.lw,h.pe,h.zr,h.zl,Nat.le_trans h.bs hm.size,h.b0,h.lo,h.hi,Below.pf0 h.hb hm⟩
theorem RX.mx1 (h:RX w0 B2 m ba bc most w M) (i z:Nat) (G0:V0 w' M.pb ((M.W9.set i z).map plV).toArray 3) (hg:w.grownBy w' (some M.pb)):RX w0 B2 m ba bc most w' {M with W9:=M.W9.set i z}:=by
 have hm:F1 w w' w0.heap.size [3]:=F1.put h.hP hg h.hi.2.2.1 rfl;exact⟨h.hW.mod hm rfl,h.hD.off hg h.lo.2.2.1 (V0.ne h.hD.hH h.hP (by decide)),G0,h.hN.mod hm rfl,h.hG.mod hm rfl,h.hR.mod hm rfl,h.hE.other hg h.pe.symm,h.hX.mod hm rfl,h.hZ.mod hm rfl,h.hT.mod hm rfl,fun i hi=>(h.hL i hi).mod hm rfl,h.hV.mod hm rfl,fun i d hd=>(h.hS i d hd).off hg h.lo.2.2.1,h.inj,by rw[List.length_set];exact h.lp,h.ln,h.le,h.lw,h.pe,h.zr,h.zl,Nat.le_trans h.bs hm.size,h.b0,h.lo,h.hi,Below.pf0 h.hb hm⟩
theorem RX.Ky0 (h:RX w0 B2 m ba bc most w M) (i:Nat) (z:Int) (G0:V0 w' M.eb ((M.ends.set i z).map (Value.int .i64)).toArray 3) (hg:w.grownBy w' (some M.eb)):RX w0 B2 m ba bc most w' {M with ends:=M.ends.set i z}:=by
 have hm:F1 w w' w0.heap.size [3]:=F1.put h.hE hg h.hi.2.2.2.2.2.2.1 rfl;exact⟨h.hW.mod hm rfl,h.hD.off hg h.lo.2.2.2.2.2.2.1 (V0.ne h.hD.hH h.hE (by decide)),h.hP.other hg h.pe,h.hN.mod hm rfl,h.hG.mod hm rfl,h.hR.mod hm rfl,G0,h.hX.mod hm rfl,h.hZ.mod hm rfl,h.hT.mod hm rfl,fun i hi=>(h.hL i hi).mod hm rfl,h.hV.mod hm rfl,fun i d hd=>(h.hS i d hd).off hg h.lo.2.2.2.2.2.2.1,h.inj,h.lp,h.ln,by rw[List.length_set];exact h.le,h.lw,h.pe,h.zr,h.zl,Nat.le_trans h.bs hm.size,h.b0,h.lo,h.hi,Below.pf0 h.hb hm⟩
theorem RX.my1 (h:RX w0 B2 m ba bc most w M) (i:Nat) (d:Dc) (hd:N1 w B2 d.a d.k d.c.seen) (G0:V0 w' M.nb ((M.now.set i d).flatMap dcC).toArray 117) (hg:w.grownBy w' (some M.nb)):RX w0 B2 m ba bc most w' {M with now:=M.now.set i d}:=by
 have hm:F1 w w' w0.heap.size [117]:=F1.put h.hN hg h.hi.2.2.2.1 rfl;refine⟨h.hW.mod hm rfl,h.hD.mod hm rfl,h.hP.mod hm rfl,G0,h.hG.mod hm rfl,h.hR.mod hm rfl,h.hE.mod hm rfl,h.hX.mod hm rfl,h.hZ.mod hm rfl,h.hT.mod hm rfl,fun i hi=>(h.hL i hi).mod hm rfl,h.hV.mod hm rfl,fun j d' O5=>?_,h.inj,h.lp,by rw[List.length_set];exact h.ln,h.le,h.lw,h.pe,h.zr,h.zl,Nat.le_trans h.bs hm.size,h.b0,h.lo,h.hi,Below.pf0 h.hb hm⟩;have O5:(M.now.set i d)[j]? =some d':=O5;rw[List.getElem?_set]at O5;split at O5
 ·split at O5
  ·cases O5;exact hd.mod hm rfl
  ·cases O5
 ·exact(h.hS j d' O5).mod hm rfl
theorem RX.mz1 (h:RX w0 B2 m ba bc most w M) (z:Nat) (G0:V0 w' M.rb (Mx.rC m {M with used:=z}) 40) (hg:w.grownBy w' (some M.rb)):RX w0 B2 m ba bc most w' {M with used:=z}:=by
 have hm:F1 w w' w0.heap.size [40]:=F1.put h.hR hg h.hi.2.2.2.2.2.1 rfl;exact⟨h.hW.mod hm rfl,h.hD.mod hm rfl,h.hP.mod hm rfl,h.hN.mod hm rfl,h.hG.mod hm rfl,G0,h.hE.mod hm rfl,h.hX.mod hm rfl,h.hZ.other hg h.zr,h.hT.mod hm rfl,fun i hi=>(h.hL i hi).mod hm rfl,h.hV.mod hm rfl,fun i d hd=>(h.hS i d hd).mod hm rfl,h.inj,h.lp,h.ln,h.le,h.lw,h.pe,h.zr,h.zl,Nat.le_trans h.bs hm.size,h.b0,h.lo,h.hi,Below.pf0 h.hb hm⟩
theorem RX.heap (h:RX w0 B2 m ba bc most w M) {H':Hs} {L':DL} (hD:DH w' B2 M.hb most H' L') (hm:F1 w w' w0.heap.size [113,125]):RX w0 B2 m ba bc most w' {M with L:=L',s:={M.s with H:=H'}} :=
 ⟨h.hW.mod hm rfl,hD,h.hP.mod hm rfl,h.hN.mod hm rfl,h.hG.mod hm rfl,h.hR.mod hm rfl,h.hE.mod hm rfl,h.hX.mod hm rfl,h.hZ.mod hm rfl,h.hT.mod hm rfl,fun i hi=>(h.hL i hi).mod hm rfl,h.hV.mod hm rfl,fun i d hd=>(h.hS i d hd).mod hm rfl,h.inj,h.lp,h.ln,h.le,h.lw,h.pe,h.zr,h.zl,Nat.le_trans h.bs hm.size,h.b0,h.lo,h.hi,Below.pf0 h.hb hm⟩
theorem RX.uv0 {w1:World} {a':Option Addr} {c':Nat} (h:RX w0 B2 m ba bc most w M) (x:Nat×Stp) (I6:w.grownBy w1 (Value.ownBlock (.slice M.ea M.evs.length M.ec))) (hO:Own w1 B2 79 4 a' (M.evs.length+1) c' (M.evs.flatMap evC++evC x)) (G0:V0 w' M.rb (Mx.rC m {M with ea:=a',ec:=c',evs:=M.evs ++ [x]}) 40) (hg:w1.grownBy w' (some M.rb)):RX w0 B2 m ba bc most w' {M with ea:=a',ec:=c',evs:=M.evs ++ [x]}:=by
 have hm1:F1 w w1 w0.heap.size [79]:=fv0 (V9 (TS:=[79]) h.hV I6 h.bs rfl) h.b0;have hm2:F1 w1 w' w0.heap.size [40]:=F1.put (h.hR.mod hm1 rfl) hg h.hi.2.2.2.2.2.1 rfl;have hm:F1 w w' w0.heap.size [79,40]:=(hm1.wide rfl).trans (hm2.wide rfl);refine⟨h.hW.mod hm rfl,h.hD.mod hm rfl,h.hP.mod hm rfl,h.hN.mod hm rfl,h.hG.mod hm rfl,G0,h.hE.mod hm rfl,h.hX.mod hm rfl,(h.hZ.mod hm1 rfl).other hg h.zr,h.hT.mod hm rfl,fun i hi=>(h.hL i hi).mod hm rfl,?_,fun i d hd=>(h.hS i d hd).mod hm rfl,h.inj,h.lp,h.ln,h.le,h.lw,h.pe,h.zr,h.zl,Nat.le_trans h.bs hm.size,h.b0,h.lo,h.hi,Below.pf0 h.hb hm⟩;have h9:=hO.mod hm2 rfl;show Own w' B2 _ 4 a' (M.evs ++ [x]).length c' ((M.evs ++ [x]).flatMap evC);rw[List.length_append,List.flatMap_append];simpa using h9
theorem RX.Ty0 {w1:World} {a':Option Addr} {c':Nat} (h:RX w0 B2 m ba bc most w M) (x:Int×Int) (I6:w.grownBy w1 (Value.ownBlock (.slice M.ta M.s.N0.length M.tc))) (hO:Own w1 B2 82 2 a' (M.s.N0.length+1) c' (M.s.N0.flatMap gd0++gd0 x)) (G0:V0 w' M.wb (Mx.wC ba bc m {M with ta:=a',tc:=c',s:={M.s with N0:=M.s.N0 ++ [x]}}) 54) (hg:w1.grownBy w' (some M.wb)):RX w0 B2 m ba bc most w' {M with ta:=a',tc:=c',s:={M.s with N0:=M.s.N0 ++ [x]}}:=by
 have hm1:F1 w w1 w0.heap.size [82]:=fv0 (V9 (TS:=[82]) h.hT I6 h.bs rfl) h.b0;have hm2:F1 w1 w' w0.heap.size [54]:=F1.put (h.hW.mod hm1 rfl) hg h.hi.1 rfl;have hm:F1 w w' w0.heap.size [82,54]:=(hm1.wide rfl).trans (hm2.wide rfl);refine⟨G0,h.hD.mod hm rfl,h.hP.mod hm rfl,h.hN.mod hm rfl,h.hG.mod hm rfl,h.hR.mod hm rfl,h.hE.mod hm rfl,h.hX.mod hm rfl,h.hZ.mod hm rfl,?_,fun i hi=>(h.hL i hi).mod hm rfl,h.hV.mod hm rfl,fun i d hd=>(h.hS i d hd).mod hm rfl,h.inj,h.lp,h.ln,h.le,h.lw,h.pe,h.zr,h.zl,Nat.le_trans h.bs hm.size,h.b0,h.lo,h.hi,Below.pf0 h.hb hm⟩;have h9:=hO.mod hm2 rfl;show Own w' B2 _ 2 a' (M.s.N0 ++ [x]).length c' ((M.s.N0 ++ [x]).flatMap gd0);rw[List.length_append,List.flatMap_append];simpa using h9
theorem RX.br1 {w1:World} {a':Option Addr} {c' i:Nat} (h:RX w0 B2 m ba bc most w M) (hi:i<m) (x:jv0) (I6:w.grownBy w1 (Value.ownBlock (.slice (M.la i) (M.s.log i).length (M.lc i)))) (hwh:a'≠none->(M.la i≠none/\ab a'=ab (M.la i))\/w.heap.size <=ab a') (hO:Own w1 B2 122 5 a' ((M.s.log i).length+1) c' ((M.s.log i).flatMap k9++k9 x)) (G0:V0 w' M.gb (arr m fun j=>.slice (r6 M.la i a' j) (r6 M.s.log i (M.s.log i ++ [x]) j).length (r6 M.lc i c' j)) 50) (hg:w1.grownBy w' (some M.gb)):RX w0 B2 m ba bc most w' {M with la:=r6 M.la i a',lc:=r6 M.lc i c',s:={M.s with log:=r6 M.s.log i (M.s.log i ++ [x])}}:=by
 have hm1:F1 w w1 w0.heap.size [122]:=fv0 (V9 (TS:=[122]) (h.hL i hi) I6 h.bs rfl) h.b0;have hm2:F1 w1 w' w0.heap.size [50]:=F1.put (h.hG.mod hm1 rfl) hg h.hi.2.2.2.2.1 rfl;have hm:F1 w w' w0.heap.size [122,50]:=(hm1.wide rfl).trans (hm2.wide rfl);refine⟨h.hW.mod hm rfl,h.hD.mod hm rfl,h.hP.mod hm rfl,h.hN.mod hm rfl,G0,h.hR.mod hm rfl,h.hE.mod hm rfl,h.hX.mod hm rfl,h.hZ.mod hm rfl,h.hT.mod hm rfl,fun j hj=>?_,h.hV.mod hm rfl,fun i d hd=>(h.hS i d hd).mod hm rfl,fun j k hj hk hjk h1 h2=>?_,h.lp,h.ln,h.le,h.lw,h.pe,h.zr,h.zl,Nat.le_trans h.bs hm.size,h.b0,h.lo,h.hi,Below.pf0 h.hb hm⟩
 ·show Own w' B2 _ 5 (r6 M.la i a' j) (r6 M.s.log i (M.s.log i ++ [x]) j).length (r6 M.lc i c' j) ((r6 M.s.log i (M.s.log i ++ [x]) j).flatMap k9);by_cases S2:j=i
  ·subst S2;rw[Z2,Z2,Z2,List.length_append,List.flatMap_append];simpa using hO.mod hm2 rfl
  ·rw[J3 S2,J3 S2,J3 S2];refine Own.mod (Own.congr (h.hL j hj) fun ha=>?_) hm2 rfl;refine I6.block _ ((h.hL j hj).lt ha) fun e=>?_;obtain⟨hz,e2⟩:=sc0 e.symm;exact h.inj j i hj hi S2 ha hz e2
 ·have h1:r6 M.la i a' j≠none:=h1;have h2:r6 M.la i a' k≠none:=h2;show ab (r6 M.la i a' j)≠ab (r6 M.la i a' k);have key:∀j,j<m->j≠i->M.la j≠none->a'≠none->ab (M.la j)≠ab a':=fun j hj S2 ha hb e=>by
   rcases hwh hb with⟨z1,z2⟩|z
   ·exact h.inj j i hj hi S2 ha z1 (e.trans z2)
   ·have:=(h.hL j hj).lt ha;omega
  by_cases e1:j=i
  ·have e2:k≠i:=fun e=>hjk (e1.trans e.symm);rw[e1,Z2]at h1⊢;rw[J3 e2]at h2⊢;exact fun e=>key k hk e2 h2 h1 e.symm
  ·rw[J3 e1]at h1⊢;by_cases e2:k=i
   ·rw[e2,Z2]at h2⊢;exact key j hj e1 h1 h2
   ·rw[J3 e2]at h2⊢;exact h.inj j k hj hk hjk h1 h2
theorem RX.qy0 (h:RX w0 B2 m ba bc most w M) {k i:Nat} (hk:M.W9[k]? =some i):w.cell? ⟨M.pb,0+k*1,none⟩=some (.i (i:Int)):=by
 rw[Nat.zero_add,Nat.mul_one];exact h.hP.q0 k (by simp[hk,plV])
theorem RX.Oz0 (h:RX w0 B2 m ba bc most w M) {i:Nat} {d:Dc} (hd:M.now[i]? =some d):∀(j:Nat) (v:Value),(dcC d)[j]? =some v->w.cell? ⟨M.nb,0+i*11+j,none⟩=some v:=fun j v hj=>by
 rw[Nat.zero_add];exact h.hN.q0 _ (by rw[List.getElem?_toArray];exact D9 dcC 11 (fun _=>rfl) M.now i d j v hd hj)
end
section
variable [Ctx prog]{n:Nat}{Q:Exit->Env->World->Prop}{e:Env}{ops:Array Oper}{rest:List Oper}{ty:TypeId}{ps:String}{af:Array Edge}{T:TypeId}{x y:Operand}
variable {w0 w:World}{B2 m bc:Nat}{ba:Option Addr}{most:Int}{M:Mx}
theorem L.xP {i z:Nat} (h:RX w0 B2 m ba bc most w M) (hi:i<m) (hx:ev e x= .pointer (some ⟨M.pb,0+i*1,none⟩)) (hy:ev e y= .i (z:Int)) (hs:(prog.info? T).map (·.size)=some 1)
  (k:∀w1,RX w0 B2 m ba bc most w1 {M with W9:=M.W9.set i z}->w.grownBy w1 (some M.pb)->L prog n ops Q rest e w1):L prog n ops Q (⟨none,.store T x y,ty,ps,af,none⟩::rest) e w:=by
 refine L.put (vs:=[.i (z:Int)]) ((M.W9.set i z).map plV).toArray hx hy rfl hs rfl rfl h.hP (by rw[Nat.zero_add,Nat.mul_one];simp[h.lp];omega) ?_ (fun w1 G0 hg _=>k w1 (h.mx1 i z G0 hg) hg);rw[Nat.zero_add,Nat.mul_one];apply Array.toList_inj.1;simp[setRow,List.map_set,plV]
theorem L.xE {i:Nat} {z:Int} (h:RX w0 B2 m ba bc most w M) (hi:i<m) (hx:ev e x= .pointer (some ⟨M.eb,0+i*1,none⟩)) (hy:ev e y= .i z) (hs:(prog.info? T).map (·.size)=some 1)
  (k:∀w1,RX w0 B2 m ba bc most w1 {M with ends:=M.ends.set i z}->w.grownBy w1 (some M.eb)->L prog n ops Q rest e w1):L prog n ops Q (⟨none,.store T x y,ty,ps,af,none⟩::rest) e w:=by
 refine L.put (vs:=[.i z]) ((M.ends.set i z).map (Value.int .i64)).toArray hx hy rfl hs rfl rfl h.hE (by rw[Nat.zero_add,Nat.mul_one];simp[h.le];omega) ?_ (fun w1 G0 hg _=>k w1 (h.Ky0 i z G0 hg) hg);rw[Nat.zero_add,Nat.mul_one];apply Array.toList_inj.1;simp[setRow,List.map_set]
theorem L.xX {i:Nat} {z:Stp} (h:RX w0 B2 m ba bc most w M) (hi:i<m) (hx:ev e x= .pointer (some ⟨M.xb,0+i*3,none⟩)) (hy:ev e y=gm0 z) (hs:(prog.info? T).map (·.size)=some 3)
  (k:∀w1,RX w0 B2 m ba bc most w1 {M with I4:=M.I4.set i z}->w.grownBy w1 (some M.xb)->L prog n ops Q rest e w1):L prog n ops Q (⟨none,.store T x y,ty,ps,af,none⟩::rest) e w:=by
 have hln:(M.I4.flatMap spC).length=m*3:=by rw[be0 (f:=spC) (k:=3) (fun _=>rfl),h.lw]
 exact L.put (vs:=spC z) _ hx hy rfl hs rfl rfl h.hX (by simp only[List.size_toArray,hln];omega) (qw0 spC 3 (fun _=>rfl) z (by rw[h.lw];exact hi)) (fun w1 G0 hg _=>k w1 (h.mw1 i z G0 hg) hg)
theorem L.xN {i:Nat} {d:Dc} (h:RX w0 B2 m ba bc most w M) (hi:i<m) (hd:N1 w B2 d.a d.k d.c.seen) (hx:ev e x= .pointer (some ⟨M.nb,0+i*11,none⟩)) (hy:ev e y= .agg (dcC d).toArray) (hs:(prog.info? T).map (·.size)=some 11)
  (k:∀w1,RX w0 B2 m ba bc most w1 {M with now:=M.now.set i d}->w.grownBy w1 (some M.nb)->L prog n ops Q rest e w1):L prog n ops Q (⟨none,.store T x y,ty,ps,af,none⟩::rest) e w:=by
 have hln:(M.now.flatMap dcC).length=m*11:=by rw[be0 (f:=dcC) (k:=11) (fun _=>rfl),h.ln]
 exact L.put (vs:=dcC d) _ hx hy rfl hs rfl rfl h.hN (by simp only[List.size_toArray,hln];omega) (qw0 dcC 11 (fun _=>rfl) d (by rw[h.ln];exact hi)) (fun w1 G0 hg _=>k w1 (h.my1 i d hd G0 hg) hg)
theorem L.xU {z:Nat} (h:RX w0 B2 m ba bc most w M) (hx:ev e x= .pointer (some ⟨M.rb,5,none⟩)) (hy:ev e y= .i (z:Int)) (hs:(prog.info? T).map (·.size)=some 1)
  (k:∀w1,RX w0 B2 m ba bc most w1 {M with used:=z}->w.grownBy w1 (some M.rb)->L prog n ops Q rest e w1):L prog n ops Q (⟨none,.store T x y,ty,ps,af,none⟩::rest) e w :=
 L.put (vs:=[.i (z:Int)]) (Mx.rC m {M with used:=z}) hx hy rfl hs rfl rfl h.hR (Nat.le_of_ble_eq_true rfl) rfl (fun w1 G0 hg _=>k w1 (h.mz1 z G0 hg) hg)
theorem L.xEv {w1:World} {a':Option Addr} {c':Nat} (h:RX w0 B2 m ba bc most w M) (v:Nat×Stp) (I6:w.grownBy w1 (Value.ownBlock (.slice M.ea M.evs.length M.ec))) (hO:Own w1 B2 79 4 a' (M.evs.length+1) c' (M.evs.flatMap evC++evC v))
  (hx:ev e x= .p M.rb) (hy:ev e y= .slice a' (M.evs.length+1) c') (hs:(prog.info? T).map (·.size)=some 1)
  (k:∀w2,RX w0 B2 m ba bc most w2 {M with ea:=a',ec:=c',evs:=M.evs ++ [v]}->w1.grownBy w2 (some M.rb)->L prog n ops Q rest e w2):L prog n ops Q (⟨none,.store T x y,ty,ps,af,none⟩::rest) e w1:=by
 have hm1:F1 w w1 B2 [79]:=V9 h.hV I6 h.bs rfl;refine L.put (vs:=[.slice a' (M.evs.length+1) c']) (Mx.rC m {M with ea:=a',ec:=c',evs:=M.evs ++ [v]}) hx hy rfl hs rfl rfl (h.hR.mod hm1 rfl) (Nat.le_of_ble_eq_true rfl) ?_ (fun w2 G0 hg _=>k w2 (h.uv0 v I6 hO G0 hg) hg);simp[setRow]
theorem L.xT {w1:World} {a':Option Addr} {c':Nat} (h:RX w0 B2 m ba bc most w M) (v:Int×Int) (I6:w.grownBy w1 (Value.ownBlock (.slice M.ta M.s.N0.length M.tc))) (hO:Own w1 B2 82 2 a' (M.s.N0.length+1) c' (M.s.N0.flatMap gd0++gd0 v))
  (hx:ev e x= .pointer (some ⟨M.wb,4,none⟩)) (hy:ev e y= .slice a' (M.s.N0.length+1) c') (hs:(prog.info? T).map (·.size)=some 1)
  (k:∀w2,RX w0 B2 m ba bc most w2 {M with ta:=a',tc:=c',s:={M.s with N0:=M.s.N0 ++ [v]}}->w1.grownBy w2 (some M.wb)->L prog n ops Q rest e w2):L prog n ops Q (⟨none,.store T x y,ty,ps,af,none⟩::rest) e w1:=by
 have hm1:F1 w w1 B2 [82]:=V9 h.hT I6 h.bs rfl;refine L.put (vs:=[.slice a' (M.s.N0.length+1) c']) (Mx.wC ba bc m {M with ta:=a',tc:=c',s:={M.s with N0:=M.s.N0 ++ [v]}}) hx hy rfl hs rfl rfl (h.hW.mod hm1 rfl) (Nat.le_of_ble_eq_true rfl) ?_ (fun w2 G0 hg _=>k w2 (h.Ty0 v I6 hO G0 hg) hg);simp[setRow]
theorem L.xG {w1:World} {a':Option Addr} {c' i:Nat} (h:RX w0 B2 m ba bc most w M) (hi:i<m) (v:jv0) (I6:w.grownBy w1 (Value.ownBlock (.slice (M.la i) (M.s.log i).length (M.lc i)))) (hwh:a'≠none->(M.la i≠none/\ab a'=ab (M.la i))\/w.heap.size <=ab a') (hO:Own w1 B2 122 5 a' ((M.s.log i).length+1) c' ((M.s.log i).flatMap k9++k9 v))
  (hx:ev e x= .pointer (some ⟨M.gb,0+i*1,none⟩)) (hy:ev e y= .slice a' ((M.s.log i).length+1) c') (hs:(prog.info? T).map (·.size)=some 1)
  (k:∀w2,RX w0 B2 m ba bc most w2 {M with la:=r6 M.la i a',lc:=r6 M.lc i c',s:={M.s with log:=r6 M.s.log i (M.s.log i ++ [v])}}->w1.grownBy w2 (some M.gb)->L prog n ops Q rest e w2):L prog n ops Q (⟨none,.store T x y,ty,ps,af,none⟩::rest) e w1:=by
 have hm1:F1 w w1 B2 [122]:=V9 (h.hL i hi) I6 h.bs rfl;exact L.put (vs:=[.slice a' ((M.s.log i).length+1) c']) (arr m fun j=>.slice (r6 M.la i a' j) (r6 M.s.log i (M.s.log i ++ [v]) j).length (r6 M.lc i c' j)) hx hy rfl hs rfl rfl (h.hG.mod hm1 rfl) (by rw[D5];omega) (fj0 (r:=⟨none,0,M.la,M.lc⟩) v) (fun w2 G0 hg _=>k w2 (h.br1 hi v I6 hwh hO G0 hg) hg)
end
theorem Tz0 (H:Hs) (rn rg:Int):(T9 H rn rg).seen=[]/\((T9 H rn rg).at_=0->T9 H rn rg=hc0):=by
 unfold T9;split
 ·exact⟨rfl,fun h=>by cases h⟩
 ·exact⟨rfl,fun _=>rfl⟩
theorem bs1 (H:Hs) (rn rg:Int):(fe0 H rn rg).seen=[]/\((fe0 H rn rg).at_=0->fe0 H rn rg=hc0):=by
 unfold fe0;split
 ·exact⟨rfl,fun h=>by cases h⟩
 ·exact⟨rfl,fun _=>rfl⟩
theorem H6 {α:Type} {l:List α} {k:Nat} {a:α} (v:α) (h:l[k]? =some a):(l.set k v)[k]? =some v:=by
 obtain⟨h1,_⟩:=List.getElem?_eq_some_iff.1 h;rw[List.getElem?_set_self h1]
theorem A6 {α:Type} {l:List α} {k q:Nat} (v:α) (h:q≠k):(l.set k v)[q]? =l[q]?:=List.getElem?_set_ne (Ne.symm h)
structure il1 (M0 M:Mx):Prop where
 b:M.wb=M0.wb/\M.hb=M0.hb/\M.pb=M0.pb/\M.nb=M0.nb/\M.gb=M0.gb/\M.rb=M0.rb/\M.eb=M0.eb/\M.xb=M0.xb
 e:M.evs=M0.evs/\M.ends=M0.ends/\M.I4=M0.I4/\M.used=M0.used
 z:M.zb=M0.zb
structure BgI (ops:List X8) (M0:Mx) (i:Nat) (o:dt0 HW (Nat×L1)) (M:Mx) (k:Nat):Prop where
 fx:il1 M0 M
 W9:∀j,j≠i->M.W9[j]? =M0.W9[j]?
 now:∀j,j≠i->M.now[j]? =M0.now[j]?
 pk:M.W9[i]? =some k
 nw:∃d,M.now[i]? =some d
 out:o=Z0 ops i k M.s
 lg:(M.s.log i).length <=k
 tl:M.s.N0.length=M0.s.N0.length
structure Pa0 (ops:List X8) (M0:Mx) (i:Nat) (o:dt0 HW (Nat×L1)) (M:Mx):Prop where
 fx:il1 M0 M
 W9:∀j,j≠i->M.W9[j]? =M0.W9[j]?
 now:∀j,j≠i->M.now[j]? =M0.now[j]?
 s:M.s=o.s
 inl:∀l,o.W3= .inl l->M.W9[i]? =some l.1/\∃d,M.now[i]? =some d/\d.c=l.2
 inr:∀x,o.W3= .inr x->M.W9[i]? =some ops.length
section
variable {ops:List X8}{M0 M:Mx}{i k:Nat}{o:dt0 HW (Nat×L1)}{p:X8}
theorem BgI.start (hk:M.W9[i]? =some k) (hd:∃d,M.now[i]? =some d) (hl:(M.s.log i).length <=k):BgI ops M i (Z0 ops i k M.s) M k :=
 ⟨⟨⟨rfl,rfl,rfl,rfl,rfl,rfl,rfl,rfl⟩,⟨rfl,rfl,rfl,rfl⟩,rfl⟩,fun _ _=>rfl,fun _ _=>rfl,hk,hd,rfl,hl,rfl⟩
theorem BgI.skip (h:BgI ops M0 i o M k) (hp:ops[k]? =some p) (hc:m5 M.s p=none):BgI ops M0 i o {M with W9:=M.W9.set i (k+1)} (k+1):=by
 refine⟨⟨h.fx.b,h.fx.e,h.fx.z⟩,fun j hj=>(A6 _ hj).trans (h.W9 j hj),h.now,H6 _ h.pk,h.nw,?_,Nat.le_succ_of_le h.lg,h.tl⟩;rw[h.out,v5 hp,hc]
theorem BgI.stop (h:BgI ops M0 i o M k) (hp:ops[k]? =some p) (d:Dc) (hc:m5 M.s p=some d.c) (h0:d.c.at_≠0):Pa0 ops M0 i o {M with now:=M.now.set i d}:=by
 obtain⟨d0,hd0⟩:=h.nw;have ho:o=⟨M.s,[],.inl (k,d.c)⟩:=by rw[h.out,v5 hp,hc];exact if_pos h0
 refine⟨⟨h.fx.b,h.fx.e,h.fx.z⟩,h.W9,fun j hj=>(A6 _ hj).trans (h.now j hj),by rw[ho],fun l hl=>?_,fun x hx=>?_⟩
 ·rw[ho]at hl;have hl:(Sum.inl (k,d.c):(Nat×L1) ⊕ Nat)= .inl l:=hl;cases hl;exact⟨h.pk,d,H6 _ hd0,rfl⟩
 ·rw[ho]at hx;cases hx
theorem BgI.pass (h:BgI ops M0 i o M k) (hp:ops[k]? =some p) (d:Dc) (hc:m5 M.s p=some d.c) (h0:d.c.at_=0) (hz:d.c=hc0) (a:Option Addr) (c:Nat) (ta:Option Addr) (tc:Nat):BgI ops M0 i o {M with now:=M.now.set i d,la:=r6 M.la i a,lc:=r6 M.lc i c,ta:=ta,tc:=tc,s:=P4 i M.s d.c,W9:=M.W9.set i (k+1)} (k+1):=by
 obtain⟨d0,hd0⟩:=h.nw;refine⟨⟨h.fx.b,h.fx.e,h.fx.z⟩,fun j hj=>(A6 _ hj).trans (h.W9 j hj),fun j hj=>(A6 _ hj).trans (h.now j hj),H6 _ h.pk,⟨d,H6 _ hd0⟩,?_,?_,?_⟩
 ·rw[h.out,v5 hp,hc];exact if_neg (fun z=>z h0)
 ·show((P4 i M.s d.c).log i).length <=k+1;have:(P4 i M.s d.c).log i=M.s.log i ++ [R8 d.c]:=Z2;rw[this,List.length_append];exact Nat.succ_le_succ h.lg
 ·show(P4 i M.s d.c).N0.length=_;rw[dz0 (by rw[hz];decide)];exact h.tl
theorem BgI.fin (h:BgI ops M0 i o M k) (hk:¬k<ops.length) (hkl:k <=ops.length):Pa0 ops M0 i o M:=by
 have ho:o=⟨M.s,[],.inr 1⟩:=by rw[h.out,C7 hk]
 refine⟨h.fx,h.W9,h.now,by rw[ho],fun l hl=>?_,fun x hx=>?_⟩
 ·rw[ho]at hl;cases hl
 ·rw[h.pk,show k=ops.length by omega]
end
end Go.Vy.Sc
end
