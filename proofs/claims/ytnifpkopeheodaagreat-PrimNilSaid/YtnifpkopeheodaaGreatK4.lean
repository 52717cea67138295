/- What the claim leans on, part 4. Laws. -/
import Derived.Test.YtnifpkopeheodaaGreatK3
import Derived.Conc.LeavingOf
import Derived.ProofKit
import Derived.Deep.Slices
import Derived.SizedLaws
import Derived.Conc.SmallLaws
import Derived.Laws.LoneSync
import Derived.FollowTie
set_option linter.unusedVariables false
section
namespace Go.Vy
open Go Go.Conc Go.Yc Go.RowKit
section
variable {P:Program}{main:Bool}{f:FuncId}{args:Array Value}{R:Ending->World->Prop}
theorem lk0 {fr:Frame} {w:World} {e:Ending} {τ:Tape} {d:Nat} (h:Leaves P fr w e):Leaves P fr (Yc.j3 w τ d) e:=by
 cases e with
 |returned v=>exact h
 |panicked ch=>exact h
 |outgrown=>exact h
theorem Calls.j3 {u:World} {τ:Tape} {d:Nat} (h:@Calls P (V1 P main) f args (Yc.j3 u τ d) R):@Calls P (V1 P main) f args u (fun e w'=>∃w2 d2,w'=Yc.j3 w2 u.tape d2/\R e w2):=by
 intro Z hZ cs hk;obtain⟨hc,hi⟩:=hZ;have n6:Cl P main (fun g x=>∀d0,Z g (Yc.j3 x u.tape d0)):=⟨fun g x hr hs d0=>by
  refine hc.own g _ hr fun τ' d'=>?_;obtain⟨g',u',d2,hF,hz⟩:=hs τ' d';exact⟨g',u',0,hF,hz 0⟩⟩
 have:=h (fun g x=>∀d0,Z g (Yc.j3 x u.tape d0)) ⟨n6,fun g x hz d0=>hi g _ fun hv=>hz hv d0⟩ cs (fun e w' fr he hf hl d0=>hk e _ fr ⟨w',d0,rfl,he⟩ hf (lk0 hl)) u.drawn;exact this
end
end Go.Vy
namespace Go.Vy.Sc
open Go Go.Conc Go.Yc Go.RowKit Go.Proofs Go.Proofs.YtnifpkopeheodaaGreat Try
open Go.Vc Go.Wg
attribute [local irreducible] KK
structure Lone (X:Gh) (w:World):Prop where
 G1:∀i,X.G1 i=none
 cap:X.cap=0
 pend:X.pend=0
 dn:X.dn=0
 under:X.W8 w.heap.size
 D4:∀b,w.heap.size <=b->X.D4 b= .all
 fz0:0<X.n
theorem Lone.mono {X:Gh} {w w':World} (h:Lone X w) (hs:w.heap.size <=w'.heap.size):Lone X w':=⟨h.G1,h.cap,h.pend,h.dn,h.under.mono hs,fun b hb=>h.D4 b (Nat.le_trans hs hb),h.fz0⟩
section
variable {Y:Sys}{fb:Nat->FuncId}{caps:Nat->Array Value}{fv:Nat->Value}{ba sa:Option Addr}{sn:Nat}{sc:Nat->Int}{Mn:Nat->Option Obj}{w0:World}{rb0:Nat}
theorem Ai0 {q:PR Y} {Γ:R9} {X:Gh} {R:Rn} {w:World} {p:PR Y} (hF:Fix Y fb q w0 Γ X R w Mn none (fun j=>p.ft[j]?)) (hlen:R.cl.length=Y.m):rdl R.cl (Y.eh0 p) Y.m=Y.rds p:=by
 unfold rdl Sys.rds;apply List.filter_congr;intro i hi;have hi:i<Y.m:=by simpa using hi
 obtain⟨c,hc⟩:∃c,R.cl[i]? =some c:=⟨_,List.getElem?_eq_getElem (by omega)⟩
 rw[hc];rcases hF.waits hc with⟨h1,_⟩|⟨h1,x,h2,_⟩
 ·simp[h1]
 ·have h2:p.ft[i]? =some (.inr x):=h2;simp[h1,Sys.eh0,h2]
theorem Gn0 {q:PR Y} {Γ:R9} {X:Gh} {R:Rn} {w:World} {p:PR Y} (hF:Fix Y fb q w0 Γ X R w Mn none (fun j=>p.ft[j]?)) (hlen:R.cl.length=p.ft.length):R.cl.any (·.wt)=p.ft.any (·.isLeft):=by
 rw[Bool.eq_iff_iff,List.any_eq_true,List.any_eq_true];constructor
 ·rintro⟨c,hc,hw⟩;obtain⟨i,hi⟩:=List.mem_iff_getElem?.1 hc;rcases hF.waits hi with⟨h1,_,l,h2,_⟩|⟨h1,_⟩
  ·exact⟨.inl l,List.mem_iff_getElem?.2 ⟨i,h2⟩,rfl⟩
  ·rw[hw]at h1;cases h1
 ·rintro⟨f,hf,hw⟩;obtain⟨i,hi⟩:=List.mem_iff_getElem?.1 hf;have J7:=(List.getElem?_eq_some_iff.1 hi).1;obtain⟨c,hc⟩:∃c,R.cl[i]? =some c:=⟨_,List.getElem?_eq_getElem (by omega)⟩
  rcases hF.waits hc with⟨h1,_⟩|⟨h1,x,h2,_⟩
  ·exact⟨c,List.mem_iff_getElem?.2 ⟨i,hc⟩,h1⟩
  ·have h2:p.ft[i]? =some (.inr x):=h2;rw[hi]at h2;cases h2;cases hw
theorem Main.P5 {q:PR Y} {Γ:R9} {X:Gh} {R R':Rn} {w w':World} {ft:Nat->Option (Y.L ⊕ Nat)} {s:Y.S} (hY:li0 Y) (h:Main Y fb q w0 Γ X R w Mn ft s) (hg:Rg R.fp w.heap.size w w' w0.heap.size R') (q9:R'.rb=R.rb) (hyb:R'.yb=R.yb) (hm:R'.m=R.m) (n6:R'.cl=R.cl) (he:R'.ends=R.ends):Main Y fb q w0 Γ X R' w' Mn ft s:=by
 obtain⟨F,hinv,hFf⟩:=h.inv;have I8:=hY.vis _ _ _ _ hinv;refine⟨h.fix.P5 hY.toLeOk hg.m q9 hyb hm hg.fp (by rw[n6]) (fun j c hc=>⟨c,by rw[<- n6];exact hc,rfl,rfl,fun _=>⟨rfl,by rw[he]⟩⟩) hg.md.size (fun b hb hf _=>.inl (hg.md.block b hb hf)) (fun _=>⟨hg.md.os,hg.md.output⟩),F,hY.loc _ _ w w' F hinv fun b hb=>hg.md.block b (I8 b hb).1 (hFf b hb).1,fun b hb=>⟨fun z=>(hg.fp b z).elim (hFf b hb).1 (Nat.not_le_of_lt (I8 b hb).1),fun z=>(hFf b hb).2 ?_⟩⟩;rcases z with z|⟨k,hk,z⟩|z
 ·exact .inl z
 ·exact .inr (.inl ⟨k,by rw[<- n6];exact hk,z⟩)
 ·exact .inr (.inr z)
theorem Rf0 (hO:iu0 Y fb caps fv ba sa sn sc) {n:Nat} {X:Gh} {R:Rn} {w:World} (hJ:J2 Y fb sn sc Mn w0 rb0 n X R w) {i:Nat} {c:CB} (hc:R.cl[i]? =some c) (hwt:c.wt=true):@tc0 (V1 Tryz.prog true) w c.rf (Y.eh0 (Y.pn sc n) i):=by
 obtain⟨hn,⟨Γ,hM⟩,hT,O9,X9⟩:=hJ;have hF:=hM.fix;have Rb0:Y.Le (Y.pn sc n) (Y.pn sc sn):=tl0 hn;have hok:=Sys.vg0 (Y:=Y) sc n;generalize hp:Y.pn sc n=p at *;obtain⟨hnl,l,hl,hW⟩:Y.nil i=false/\∃l,p.ft[i]? =some (.inl l)/\Wt Y fb (Y.pn sc sn) w0 Γ X w i c l:=by
  rcases hF.waits hc with⟨_,h1,l,h2,h3⟩|⟨h,_⟩
  ·exact⟨h1,l,h2,h3⟩
  ·rw[hwt]at h;cases h
 have hs:Y.sAt (Y.pn sc sn) p.outs.length=p.s:=Sys.Kq0 hok Rb0;have hr:Y.eh0 p i=Y.rdy i l p.s:=by unfold Sys.eh0;rw[hl]
 obtain⟨h1,S2,hsp,heb,me,cs,wn,mn,Fn,Rdo,m6,hme,hrf,hdf,hpv,S7,hos,et0,n2,xp0,hdo,hgo,ka0⟩:=hW;obtain⟨F,hinv,hFf⟩:=hM.inv;have I8:=hO.sys.vis _ _ _ _ hinv;have lj0:∀b,Γ.pv i b\/F b->b<w.heap.size:=fun b hb=>by
  rcases hb with h|h
  ·exact(hF.pv i b h).1
  ·exact(I8 b h).1
 rcases hrf with⟨hrf,bu0⟩|⟨f,cps,⟨hrf,fn,h2,h3,h4⟩,Z4⟩
 ·exact .inl ⟨hrf,by rw[hr];exact bu0 _⟩
 ·refine .inr ⟨f,fn,cps,hrf,h2,h3,h4,fun u hb=>?_⟩;haveI:DecidablePred fun b=>Γ.pv i b\/F b:=fun _=>Classical.propDecidable _;have Rd0:(Y.cfg fb (Y.pn sc sn) w0 i c.cb (Γ.top i)).g5 wn mn Fn (Yc.j3 (H3 (fun b=>Γ.pv i b\/F b) u) (tpT u p.outs.length 0 0 Γ.gm) u.drawn) F:=by
   refine Wt.W6 (u:=Yc.j3 (H3 (fun b=>Γ.pv i b\/F b) u) (tpT u p.outs.length 0 0 Γ.gm) u.drawn) (q:=Y.pn sc sn) (X:=X) (R:=R) (c:=c) (l:=l) hO.sys hpv S7 hos et0 n2 xp0 hinv (fun b hb z=>(hFf b hb).2 (.inr (.inr ⟨i,z⟩))) (fun b n7=>?_) ?_ (hb.os.trans (hF.os rfl)) (hb.output.trans (hF.output rfl)) hs (tpm _ _ _ _ _ _ _)
   ·show(H3 (fun b=>Γ.pv i b\/F b) u).heap[b]? =_;rw[u9 (V:=fun b=>Γ.pv i b\/F b) u n7,hb.block b (lj0 b n7)]
   ·show w.heap.size <=(H3 (fun b=>Γ.pv i b\/F b) u).heap.size;rw[j8];exact hb.size
  have h5:=Calls.seen (fun b=>Γ.pv i b\/F b) (Calls.j3 (Z4 _ F Rd0));refine @Calls.mono _ (V1 Tryz.prog true) f cps u _ _ h5 fun e w' he=>?_;obtain⟨u',rfl,hH,w2,d2,rfl,he⟩:=he;cases e with
  |panicked ch=>exact he.elim
  |outgrown=>exact he.elim
  |returned v=>
   obtain⟨hv,cw0⟩:=he;refine⟨?_,⟨cw0.os,rfl,cw0.output,?_,fun b n7=>?_⟩⟩
   ·rw[hv,hr];show Value.bool (Y.rdy i l (Y.sAt (Y.pn sc sn) p.outs.length))=_;rw[hs]
   ·rw[q4];have:=cw0.size;have h6:(H3 (fun b=>Γ.pv i b\/F b) u).heap.size <=w2.heap.size:=this;rw[j8]at h6;exact h6
   ·have h6:b<(H3 (fun b=>Γ.pv i b\/F b) u).heap.size:=by rw[j8];exact n7
    have h7:=cw0.block b h6;by_cases hV:Γ.pv i b\/F b
    ·rw[o5 (Yc.j3 w2 _ d2) (by simp[Q7,hV])];show w2.heap[b]? =_;refine h7.trans ?_;show(H3 (fun b=>Γ.pv i b\/F b) u).heap[b]? =_;rw[u9 (V:=fun b=>Γ.pv i b\/F b) u hV]
    ·have h8:Q7 (fun b=>Γ.pv i b\/F b) u b=some u.heap[b]:=by
      simp only[Q7,hV,if_false];exact Array.getElem?_eq_getElem n7
     rw[D8 h8 (by
      show b<w2.heap.size;have:=cw0.size;have h9:(H3 (fun b=>Γ.pv i b\/F b) u).heap.size <=w2.heap.size:=this;omega),Array.getElem?_eq_getElem n7]
theorem ring (hO:iu0 Y fb caps fv ba sa sn sc) {tb:Nat} {Post:Value->World->Prop} (htb:Mn tb=some (.cells #[.slice none 0 0,.slice none 0 0,.slice none 0 0,.slice none 0 0,.bool false,.i 0] 30 (0,0)))
  (hbc:∀w:World,(∀b,Mn b≠none->w.heap[b]? =Mn b)->∀j,j<Y.m->w.cell? ⟨ab ba,ao ba+j*1,none⟩=some (fv j)) (hsc:∀w:World,(∃s m F,Y.Inv s m w F)->(∀b,Mn b≠none->w.heap[b]? =Mn b)->∀j,j<sn->w.cell? ⟨ab sa,ao sa+j*1,none⟩=some (.i (sc j))) :
  Fs0 rb0 Y.m sn tb ba sa fv sc w0.heap.size Post (JB Y fb sn sc Mn w0 rb0) (J2 Y fb sn sc Mn w0 rb0) (JE Y fb sn sc Mn w0 rb0) (fun n=>Y.eh0 (Y.pn sc n)):=by
 have hm1:=hO.m1;have hsn:=hO.sn1;refine⟨fun cs ch0=>⟨hO.bsl,fun i hi=>?_,fun i X R w hJ=>?_,fun i X R w w' a n cb rc hi hJ hf hcb hrc hg=>?_,fun i X R w w' a n cb rc hi hJ hf hcb hrc r3 X5 hg=>?_,ch0⟩,fun X R w hJ=>?_,hO.ssl,fun n X R w hJ=>?_,fun n X R w w' hJ hb=>?_,fun n X R w hJ i c hc hwt=>Rf0 hO hJ hc hwt,fun n X R w i c hJ hn hp hc=>?_,fun n X R w w' b hJ hn hb hg=>?_,fun ca cc cs ch0=>⟨fun i X R w hJ=>?_,fun i X R w c hJ hc hwt=>?_,fun i X R w c hJ hc hwt=>?_,fun X R w hJ=>?_⟩,fun X R w hJ=>?_⟩
 ·rcases hO.fn i hi with h|⟨_,h,fn,h1,h2,h3⟩
  ·exact .inl h.2
  ·exact .inr ⟨fb i,fn,caps i,h,h1,h2,h3⟩
 ·obtain⟨_,⟨Γ,hM⟩,hT,O9,X9⟩:=hJ;exact⟨hM.fix.mem,hT.rb,hT.len.trans (Sys.M5 i),hM.fix.m,hM.fix.size,hM.fix.under,hbc w hM.get⟩
 ·obtain⟨_,⟨Γ,hM⟩,hT,O9,X9⟩:=hJ;have hnl:Y.nil i=true:=by
   rcases hO.fn i hi with h|h
   ·exact h.1
   ·rw[hf]at h;exact absurd h.2.1 (by simp)
  have hlen:R.cl.length=i:=hT.len.trans (Sys.M5 i);have hbg:Y.P4 (i+1)={Y.P4 i with ft:=(Y.P4 i).ft ++ [.inr 1]}:=by
   show Y.bgn (Y.P4 i)=_;unfold Sys.bgn;rw[Sys.M5 i,hnl];rfl
  have B9:=Sys.M5 (Y:=Y) i;generalize hp:Y.P4 i=p at *;have ja0:=hM.fix.Qy0 hO.sys.toLeOk hnl hlen (by rw[hM.fix.m];exact hi) hcb hg (by show p.ft[i]? =none;rw[List.getElem?_eq_none (by omega)]);rw[jv0 B9]at ja0;obtain⟨F,hinv,hFf⟩:=hM.inv;have I8:=hO.sys.vis _ _ _ _ hinv;have hM':Main Y fb (Y.pn sc sn) w0 Γ (X.lower cb) {R with ca:=a,cc:=n,cl:=R.cl ++ [Z3 cb rc],ends:=R.ends.set i 1} w' Mn (fun j=>(p.ft ++ [.inr 1])[j]?) p.s:=by
   refine⟨ja0,F,hO.sys.loc _ _ w w' F hinv fun b hb=>hg.md.block b (I8 b hb).1 (hFf b hb).1,fun b hb=>⟨fun z=>(hg.fp b z).elim (hFf b hb).1 (Nat.not_le_of_lt (I8 b hb).1),fun z=>(hFf b hb).2 ?_⟩⟩;rcases z with z|⟨k,hk,hnk,z⟩|z
   ·exact .inl z
   ·refine .inr (.inl ⟨k,?_,hnk,z⟩);have hk:k<(R.cl ++ [Z3 cb rc]).length:=hk;rw[List.length_append,List.length_singleton]at hk;rcases Nat.lt_or_ge k R.cl.length with y|y
    ·exact y
    ·have:k=i:=by omega
     rw[this,hnl]at hnk;cases hnk
   ·exact .inr (.inr z)
  refine⟨by omega,⟨Γ,by rw[hbg];exact hM'⟩,?_,O9,X9⟩
  ·rw[hbg];refine⟨hT.rb,hT.evs,hT.W2,hT.used,by simp[hT.len],fun j d hd=>?_,fun j hj=>?_⟩
   ·rcases bp0 hd with z|⟨z,rfl⟩
    ·exact hT.W1 j d z
    ·show 0=p.who.count (some j);rw[<- hp];exact(Sys.da0 i j).symm
   ·have h0:=hr0 (Y:=Y) (f:=.inr 1) (g:=fun j=>p.ft[j]?) (i:=i) hT.ends (by rw[hM.fix.mem.dy0,hM.fix.m]) (by show ai0 p.ft[i]? =0;rw[List.getElem?_eq_none (by omega)];rfl) j hj;exact h0.trans (congrArg (fun f:Nat->Option (Y.L ⊕ Nat)=>some (ai0 (f j))) (jv0 B9 (.inr 1)))
 ·have hF:∃Γ,Fix Y fb (Y.pn sc sn) w0 Γ X R w Mn none (fun j=>(Y.P4 i).ft[j]?):=by obtain⟨_,⟨Γ,hM⟩,_⟩:=hJ;exact⟨Γ,hM.fix⟩
  obtain⟨Γ,hF⟩:=hF;have hT:Tie Y rb0 (Y.P4 i) R:=hJ.2.2.1;have hlen:R.cl.length=i:=hT.len.trans (Sys.M5 i);refine⟨by rw[<- hT.rb];exact hF.L2,hF.pend,by have:=hF.cap;omega,hF.dn,hF.is0,⟨hF.chy,fun j s2 hs2=>?_⟩,fun me0 hk=>Ra0 hO hi hJ hf hcb hrc r3 X5 hg hk⟩;by_cases hj0:j=0
  ·subst hj0;rw[hF.lh0 rfl]at hs2;cases hs2
  ·obtain⟨k,d,h2,h3,_,h4,_⟩:=hF.R3 j s2 hj0 hs2;rw[h4];exact hF.ry k d h2 h3
 ·obtain⟨_,hM,hT,O9,X9⟩:=hJ;exact⟨Nat.zero_le _,hM,hT,O9,X9⟩
 ·obtain⟨hn,⟨Γ,hM⟩,hT,O9,X9⟩:=hJ;have h1:=Sys.xn0 (Y:=Y) sc n;have h2:=Sys.vg0 (Y:=Y) sc n;refine⟨hM.fix.mem,hT.rb,hT.len.trans (Sys.N9 sc n),hM.fix.size,by rw[hT.evs];omega,by rw[hT.used,<- h2.used];omega,fun i c hc=>?_,hsc w ⟨_,_,_,hM.inv.choose_spec.1⟩ hM.get⟩;rw[hT.W1 i c hc];have h3:=List.count_le_length (a:=some i) (l:=(Y.pn sc n).who);rw[h2.who]at h3;omega
 ·obtain⟨hn,⟨Γ,hM⟩,hT,O9,X9⟩:=hJ;exact⟨hn,⟨Γ,hM.P5 hO.sys (hM.fix.mem.rg.E0 hb) rfl rfl rfl rfl rfl⟩,hT,O9,X9⟩
 ·have hlen:R.cl.length=Y.m:=hJ.2.2.1.len.trans (Sys.N9 sc n);obtain⟨Γ,hM⟩:=hJ.2.1;rw[Ai0 hM.fix hlen]at hp;exact Kx0 hO hJ hn hp hc
 ·obtain⟨hn',⟨Γ,hM⟩,hT,O9,X9⟩:=hJ;have hlen:R.cl.length=Y.m:=hT.len.trans (Sys.N9 sc n);rw[Ai0 hM.fix hlen]at hn hb;have hq:Y.pn sc sn=Y.pn sc n:=by
   rcases hn with rfl|h
   ·rfl
   ·have:=Sys.vn0 h (sn-n)
    rwa [Nat.add_sub_cancel' hn']at this
  rw[Gn0 hM.fix hT.len]at hb;have hM':=hM.P5 hO.sys hg rfl rfl rfl rfl rfl;rw[<- hq]at hM' hT hb;refine⟨Nat.zero_le _,⟨Γ,?_⟩,⟨hT.rb,hT.evs,hT.W2,hT.used,hT.len,hT.W1,hT.ends⟩,fun j hj=>?_,hb⟩
  ·have:(fun j=>if j<0 then r8 ((Y.pn sc sn).ft[j]?) else(Y.pn sc sn).ft[j]?)=fun j=>(Y.pn sc sn).ft[j]?:=by funext j;rw[if_neg (Nat.not_lt_zero j)]
   rw[this];exact hM'
  ·show R.W7[j]? =_;rw[O9,if_neg (Nat.not_lt_zero j)];simp[hj]
 ·obtain⟨⟨hi,⟨Γ,hM⟩,hT,O9,X9⟩,h1,h2⟩:=hJ;exact⟨hM.fix.mem,hT.rb,hT.len.trans (Sys.N9 sc sn),h1,h2⟩
 ·obtain⟨⟨hi,⟨Γ,hM⟩,hT,O9,X9⟩,h1,h2⟩:=hJ;have J7:=(List.getElem?_eq_some_iff.1 hc).1;have hlen:R.cl.length=Y.m:=hT.len.trans (Sys.N9 sc sn);obtain⟨x,hx⟩:∃x,(Y.pn sc sn).ft[i]? =some (.inr x):=by
   rcases hM.fix.waits hc with⟨h,_⟩|⟨_,x,h,_⟩
   ·rw[hwt]at h;cases h
   ·exact⟨x,by simpa using h⟩
  have Re0:(fun j=>if j<i then r8 ((Y.pn sc sn).ft[j]?) else(Y.pn sc sn).ft[j]?)=fun j=>if j<i+1 then r8 ((Y.pn sc sn).ft[j]?) else(Y.pn sc sn).ft[j]?:=by
   funext j;by_cases R2:j=i
   ·subst R2;rw[if_neg (by omega),if_pos (by omega),hx];rfl
   ·by_cases h3:j<i
    ·rw[if_pos h3,if_pos (by omega)]
    ·rw[if_neg h3,if_neg (by omega)]
  rw[Re0]at hM;refine⟨⟨by omega,⟨Γ,hM⟩,hT,fun j hj=>?_,X9⟩,h1,h2⟩;rw[O9 j hj];by_cases R2:j=i
  ·subst R2;rw[if_neg (by omega),if_pos (by omega),hx];rfl
  ·by_cases h3:j<i
   ·rw[if_pos h3,if_pos (by omega)]
   ·rw[if_neg h3,if_neg (by omega)]
 ·obtain⟨hJ,h1,h2⟩:=hJ;obtain⟨g,z1,me1,h3,h4,h5,h6,h7,h8⟩:=Ky0 (Post:=Post) hO hJ hc hwt;exact⟨g,z1,me1,h3,h4,h5,h6,h7,fun w' me0 hg hk=>h8 w' me0 hg fun X' R' u v hJ'=>hk X' R' u v ⟨hJ'.1,hJ'.2.1.trans h1,hJ'.2.2.trans h2⟩⟩
 ·have hJ0:=hJ;obtain⟨⟨hi,⟨Γ,hM⟩,hT,O9,X9⟩,h1,h2⟩:=hJ;have hF:=hM.fix;have hlen:R.cl.length=Y.m:=hT.len.trans (Sys.N9 sc sn);refine⟨fun i=>?_,by rw[<- hT.rb];exact hF.L2,hF.pend,hF.dn,by have:=hF.cap;omega,fun fr h3 h4=>ch0 X R w hJ0.1 h1 h2 fr h3 h4⟩;by_cases h0:i=0
  ·subst h0;exact hF.lh0 rfl
  ·cases hs:X.G1 i with
   |none=>rfl
   |some s=>
    obtain⟨j,c,h5,h6,h7,_⟩:=hF.R3 i s h0 hs;have hjl:=(List.getElem?_eq_some_iff.1 h5).1;rcases hF.waits h5 with⟨_,_,l,h8,_⟩|⟨_,x,_,h8⟩
    ·have h8:(if j<Y.m then r8 ((Y.pn sc sn).ft[j]?) else(Y.pn sc sn).ft[j]?)=some (.inl l):=h8;rw[if_pos (by omega)]at h8;cases hx:(Y.pn sc sn).ft[j]? with
     |none=>rw[hx]at h8;cases h8
     |some f=>cases f <;> (rw[hx]at h8;cases h8)
    ·rcases h8 with h8|h8
     ·rw[h6]at h8;cases h8
     ·rw[<- h7,hs]at h8;cases h8
 ·obtain⟨hi,⟨Γ,hM⟩,hT,O9,X9⟩:=hJ;exact⟨hM.fix.mem,hT.rb,(hM.get tb (by rw[htb];simp)).trans htb⟩
end
end Go.Vy.Sc
end
section
namespace Go.Vy.Sc
open Go Go.Conc Go.Yc Go.RowKit Go.Proofs Go.Proofs.YtnifpkopeheodaaGreat Try
open Go.Vc Go.Wg
section
attribute [local irreducible] KK
def vp0 (lb:Nat) (pl:Nat->j6) (Post:Value->World->Prop) (g:Goroutine) (u:World):Prop:=∀X,Lone X u->lb <=u.heap.size->(∀b,X.low b->lb <=b)->X.D4=pl->Fin Tryz.prog Post X 0 g u
theorem Go0 (lb:Nat) (pl:Nat->j6) (Post:Value->World->Prop):Cl Tryz.prog true (vp0 lb pl Post):=⟨fun g u hr hs X hX h1 h2 h3=>Fin.Bi0 hr fun τ d=>by
 obtain⟨g',u',d',hF,hz⟩:=hs τ d;refine⟨g',u',hF,fun⟨ρ,w,gm0⟩=>?_⟩;have he:=(hF.2 ρ w gm0).1;have hX':Lone X (Yc.j3 u' u.tape d'):=(hX.mono he.size:Lone X u')|> fun h=>⟨h.G1,h.cap,h.pend,h.dn,h.under,h.D4,h.fz0⟩
 exact jn0 (hz X hX' (Nat.le_trans h1 he.size) h2 h3)⟩
theorem Bu0 (lb:Nat) (pl:Nat->j6) (Post:Value->World->Prop):Ign (vp0 lb pl Post):=fun _g _u hz X hX h1 h2 h3=>g9 _ _ fun hv=>hz hv X hX h1 h2 h3
@[reducible] def P6 (lb:Nat) (pl:Nat->j6):Ctx Tryz.prog:=⟨true,fun Z=>∃Post,Z=vp0 lb pl Post,fun Z h=>by obtain⟨Post,rfl⟩:=h;exact Go0 lb pl Post⟩
structure Kz0 (Y:Sys) (q:PR Y) (Mn:Nat->Option Obj) (w0 w:World) (R:Rn):Prop where
 mem:H4 w w0.heap.size R
 m:R.m=Y.m
 evs:R.evs=q.evs
 W2:R.W2=q.W2
 used:R.used=q.used
 ends:∀j,j<Y.m->R.ends[j]? =some (ai0 q.ft[j]?)
 W7:∀j,j<Y.m->R.W7[j]? =some (Qz0 Y j (q.ft[j]?))
 stuck:R.stuck=(q.ft.any (·.isLeft)&&(Y.rds q).isEmpty)
 inv:∃m F,Y.Inv q.s m w F/\∀b,F b->¬R.fp b
 fp:∀b,R.fp b->w0.heap.size <=b
 E0:∀b,Mn b≠none->w.heap[b]? =Mn b
 size:w0.heap.size <=w.heap.size
 os:w.os=w0.os
 output:w.output=w0.output
 tape:w.tape=w0.tape
section
variable {Y:Sys}{fb:Nat->FuncId}{caps:Nat->Array Value}{fv:Nat->Value}{ba sa:Option Addr}{sn:Nat}{sc:Nat->Int}{Mn:Nat->Option Obj}{w0:World}
theorem Yc0 (hO:iu0 Y fb caps fv ba sa sn sc) (hmn:∀b o,Mn b=some o->w0.heap[b]? =some o) {F:Nat->Prop} {m0:Gm} (hinv:Y.Inv Y.s0 m0 w0 F) (hFm:∀b,F b->Mn b=none)
  (hbc:∀w:World,(∀b,Mn b≠none->w.heap[b]? =Mn b)->∀j,j<Y.m->w.cell? ⟨ab ba,ao ba+j*1,none⟩=some (fv j)) (hsc:∀w:World,(∃s m F,Y.Inv s m w F)->(∀b,Mn b≠none->w.heap[b]? =Mn b)->∀j,j<sn->w.cell? ⟨ab sa,ao sa+j*1,none⟩=some (.i (sc j))) {bc scp:Nat} :
  @C Tryz.prog (P6 Y.lb Y.pl) 48 #[.slice ba Y.m bc,.slice sa sn scp] w0 fun v w=>∃R,v= .tuple #[Ft0 R,.i 0]/\Kz0 Y (Y.pn sc sn) Mn w0 w R:=by
 intro Z hZ cs hk;obtain⟨Post,rfl⟩:=hZ;intro X hX V4 hb2 hb3;refine Kn0 (fv:=fv) (sc:=sc) hO.m1 hO.sn1 hX.under hX.D4 hX.cap fun w4 rb yb eb wb tb hB=>?_;have I8:=hO.sys.vis _ _ _ _ hinv;have nu0:=hB.low;have Yd0:Mn tb=none:=by
  cases h:Mn tb with
  |none=>rfl
  |some o=>
   have:=(Array.getElem?_eq_some_iff.1 (hmn tb o h)).1;have:=hB.le.2.2.2.2;omega
 have T2:∀b o,Mn b=some o->b<w0.heap.size:=fun b o h=>(Array.getElem?_eq_some_iff.1 (hmn b o h)).1
 let Mn':Nat->Option Obj:=fun b=>if b=tb then some (.cells #[.slice none 0 0,.slice none 0 0,.slice none 0 0,.slice none 0 0,.bool false,.i 0] 30 (0,0)) else Mn b
 have hMn:∀w:World,(∀b,Mn' b≠none->w.heap[b]? =Mn' b)->∀b,Mn b≠none->w.heap[b]? =Mn b:=fun w h b hb=>by
  have r3:b≠tb:=fun e=>hb (e▸Yd0);have:=h b (by show(if b=tb then _ else Mn b)≠none;rw[if_neg r3];exact hb);rw[this];show(if b=tb then _ else Mn b)=_;rw[if_neg r3]
 refine⟨_,_,_,_,ring (Mn:=Mn') (w0:=w0) (rb0:=rb) hO (if_pos rfl) (fun w h=>hbc w (hMn w h)) (fun w hI h=>hsc w hI (hMn w h)),⟨fun X' R w w' fr hJ o3 hfn hl=>?_⟩,?_⟩
 ·obtain⟨_,⟨Γ,hM⟩,hT,O9,X9⟩:=hJ;have hF:=hM.fix;have hlen:R.cl.length=Y.m:=hT.len.trans (Sys.N9 sc sn);have vq0:=hMn w hM.get;obtain⟨Fq,Oc0,Ye0⟩:=hM.inv;have htb:w.heap[tb]? =Mn' tb:=hM.get tb (by show(if tb=tb then _ else _)≠none;rw[if_pos rfl];simp);have htl:tb<w.heap.size:=by
   have:Mn' tb=some (.cells #[.slice none 0 0,.slice none 0 0,.slice none 0 0,.slice none 0 0,.bool false,.i 0] 30 (0,0)):=if_pos rfl;rw[this]at htb;exact(Array.getElem?_eq_some_iff.1 htb).1
  have sg0:∀b,b<w.heap.size->b≠tb->w'.heap[b]? =w.heap[b]?:=fun b hb r3=>o3.block b hb fun e=>r3 (Option.some.inj e);have htk:Kept Y Γ R Mn' tb:=.inl (by show(if tb=tb then _ else _)≠none;rw[if_pos rfl];simp);have hfp:∀b,R.fp b->b≠tb:=fun b hb e=>(hF.mn tb (by show(if tb=tb then _ else _)≠none;rw[if_pos rfl];simp)).2.1 (e▸hb);refine jn0 (τ:=w0.tape) (d:=w0.drawn) (hk (.returned _) (Yc.j3 w' w0.tape w0.drawn) fr ⟨R,rfl,?_⟩ hfn (lk0 hl) {X' with pend:=0,cap:=0,dn:=0} ?_ (Nat.le_trans V4 (Nat.le_trans hF.size o3.size)) hF.base.low hF.base.pl)
  ·refine⟨hF.mem.congr fun b hb=>sg0 b (hF.mem.lt hb) (hfp b hb),hF.m,hT.evs,hT.W2,hT.used,hT.ends,fun j hj=>?_,X9,⟨_,Fq,hO.sys.loc _ _ w _ Fq Oc0 fun b hb=>sg0 b (hO.sys.vis _ _ _ _ Oc0 b hb).1 fun e=>(Ye0 b hb).2 (e▸htk),fun b hb=>(Ye0 b hb).1⟩,hF.fpB,fun b hb=>?_,Nat.le_trans hF.size o3.size,o3.os.trans (hF.os rfl),o3.output.trans (hF.output rfl),rfl⟩
   ·rw[O9 j hj,if_pos hj]
   ·have h1:=vq0 b hb;have hbl:b<w.heap.size:=by
     rcases Nat.lt_or_ge b w.heap.size with z|z
     ·exact z
     ·exact absurd (h1.symm.trans (Array.getElem?_eq_none z)) hb
    exact(sg0 b hbl fun e=>hb (e▸Yd0)).trans h1
  ·refine⟨fun i=>?_,rfl,rfl,rfl,?_,fun b hb=>hF.D4 b (Nat.le_trans o3.size hb),hF.fz0⟩
   ·show X'.G1 i=none;by_cases h0:i=0
    ·subst h0;exact hF.lh0 rfl
    ·cases hs:X'.G1 i with
     |none=>rfl
     |some s=>
      obtain⟨j,c,h5,h6,h7,_⟩:=hF.R3 i s h0 hs;have hjl:=(List.getElem?_eq_some_iff.1 h5).1;rcases hF.waits h5 with⟨_,_,l,h8,_⟩|⟨_,x,_,h8⟩
      ·have h8:(if j<Y.m then r8 ((Y.pn sc sn).ft[j]?) else(Y.pn sc sn).ft[j]?)=some (.inl l):=h8;rw[if_pos (by omega)]at h8;cases hx:(Y.pn sc sn).ft[j]? with
       |none=>rw[hx]at h8;cases h8
       |some f=>cases f <;> (rw[hx]at h8;cases h8)
      ·rcases h8 with h8|h8
       ·rw[h6]at h8;cases h8
       ·rw[<- h7,hs]at h8;cases h8
   ·have hu:=hF.under.mono o3.size;exact⟨hu.stay,hu.X3,hu.I7,hu.L2,hu.low⟩
 ·have hle:=hB.le;have Rg0:∀b,(rn0 rb yb eb wb Y.m).fp b->w0.heap.size <=b:=fun b hb=>by
   rcases hb with rfl|rfl|rfl|⟨h,_⟩|⟨h,_⟩|⟨h,_⟩|⟨j,c,h,_⟩
   ·exact hle.1
   ·exact hle.2.2.1
   ·exact hle.2.2.2.1
   ·exact absurd rfl h
   ·exact absurd rfl h
   ·exact absurd rfl h
   ·simp[rn0]at h
  have Yf0:yb<w4.heap.size:=(Array.getElem?_eq_some_iff.1 hB.yb).1;have cz1:¬(rn0 rb yb eb wb Y.m).fp tb:=hB.mem.Nu0 hB.tb (by decide);have hu:=hX.under.mono nu0.size;have hnl:∀{j:Nat},¬j<(rn0 rb yb eb wb Y.m).cl.length:=fun h=>Nat.not_lt_zero _ h;have hnc:∀{j:Nat} {c:CB},(rn0 rb yb eb wb Y.m).cl[j]? =some c->False:=fun h=>by simp[rn0]at h
  refine⟨Nat.zero_le _,⟨⟨m0,fun _=>0,fun _=>0,fun _=>0,fun _=>[],fun _ _=>False⟩,⟨⟨hB.mem,rfl,fun j c hc=>(hnc hc).elim,fun j c hc=>(hnc hc).elim,Rg0,fun j hj=>(hnl hj).elim,fun j b hb=>hb.elim,fun b hb=>?_,hX.fz0,fun _=>nu0.os,fun _=>nu0.output,nu0.size,rfl,show Go.ConcN.upd X.stay 0 _ 0=_ from Go.ConcN.upd_same _ _ _,.inr rfl,fun g s hg hs=>?_,fun j k hj=>(hnl hj).elim,fun j k hj=>(hnl hj).elim,fun j k c d hc=>(hnc hc).elim,fun j c hc=>(hnc hc).elim,hX.dn,hX.pend,?_,?_,fun b hb=>hX.D4 b (Nat.le_trans nu0.size hb),fun _=>hX.G1 0,⟨V4,fun b hb=>?_,hb3⟩⟩,F,?_,fun b hb=>⟨fun z=>?_,fun z=>?_⟩⟩⟩,⟨rfl,rfl,rfl,rfl,rfl,fun j c hc=>(hnc hc).elim,fun j hj=>?_⟩,rfl,rfl⟩
  ·by_cases hbt:b=tb
   ·subst hbt;refine⟨?_,cz1,fun k hk=>(hnl hk).elim⟩;show _=(if b=b then _ else _);rw[if_pos rfl];exact hB.tb
   ·have hMb:Mn' b=Mn b:=if_neg hbt;rw[hMb]at hb⊢;cases ho:Mn b with
    |none=>exact absurd ho hb
    |some o=>
     have hl:=T2 b o ho;exact⟨(nu0.block b hl).trans (hmn b o ho),fun z=>by have:=Rg0 b z;omega,fun k hk=>(hnl hk).elim⟩
  ·have:=hX.G1 g;have hs:X.G1 g=some s:=hs;rw[this]at hs;cases hs
  ·show X.cap <=0;rw[hX.cap];exact Nat.le_refl _
  ·refine⟨fun g p hp=>?_,hu.X3,fun b hb=>?_,fun G hG=>?_,fun b hb=>?_⟩
   ·by_cases hg:g=0
    ·subst hg;have hp':p∈Go.ConcN.upd X.stay 0 [((⟨rb,8-1,none⟩:Addr),Value.chan (some yb))] 0:=hp;rw[Go.ConcN.upd_same]at hp';simp at hp';rw[hp'];exact hB.mem.run.lt
    ·have hp':p∈Go.ConcN.upd X.stay 0 [((⟨rb,8-1,none⟩:Addr),Value.chan (some yb))] g:=hp;rw[Go.ConcN.upd_ne _ _ hg]at hp';exact hu.stay g p hp'
   ·rcases hb with z|rfl
    ·exact hu.I7 b z
    ·exact Yf0
   ·rcases hG with z|z
    ·have z:some (⟨rb,8⟩:I4)=some G:=z;cases z;exact hB.mem.run.lt
    ·have z:G∈X.L2.toList++X.old:=z;rw[List.mem_append]at z;rcases z with z|z
     ·exact hu.L2 G (.inl (by simpa using z))
     ·exact hu.L2 G (.inr z)
   ·rcases hb with(z|rfl)|rfl
    ·exact hu.low b z
    ·exact Yf0
    ·exact hB.mem.run.lt
  ·rcases hb with(z|rfl)|rfl
   ·exact hb2 b z
   ·have:=hle.2.1;omega
   ·have:=hle.1;omega
  ·exact hO.sys.loc _ _ w0 w4 F hinv fun b hb=>nu0.block b (I8 b hb).1
  ·have:=Rg0 b z;have:=(I8 b hb).1;omega
  ·rcases z with z|⟨k,hk,_⟩|⟨j,z⟩
   ·by_cases hbt:b=tb
    ·have:=(I8 b hb).1;have:=hle.2.2.2.2;omega
    ·exact z ((if_neg hbt).trans (hFm b hb))
   ·exact(hnl hk).elim
   ·exact z
  ·show(List.replicate Y.m (0:Int))[j]? =_;simp[hj];rfl
end
end
end Go.Vy.Sc
end
section
namespace Go.Vy
open Go Go.Conc Go.Yc Go.RowKit
open Go.Vc
section
variable {P:Program}[Ctx P]
end
section
variable {P:Program}[Ctx P]{n:Nat}{Q:Exit->Env->World->Prop}{e:Env}{w:World}{ops:Array Oper}{rest:List Oper}{d:Nat}{ty:TypeId}{ps:String}{af:Array Edge}{T E:TypeId}
theorem L.tm0 {s m:Nat} {parts:List (Nat×Operand)} {vs:List (Nat×Value)} {zv:Value} {cs:Array Value} (hv:parts.map (fun(i,y)=>(i,ev e y))=vs) (hT:P.underlying T=some (.slice E)) (hs:(P.info? E).map (·.size)=some s) (hz:(P.info? E).bind (·.zero)=some zv) (T2:0<m*s/\m*s <=16777216)
  (hf:Instr.fill (fun i=>some (i*s,s)) ((Array.range (m*s)).map (fun i=>zv.cells[i%zv.cells.size]!)) vs=some cs)
  (k:∀w1 b,ct0 w w1 b cs E->L P n ops Q rest (upd e d (.slice (some ⟨b,0,none⟩) m m)) w1) :
  L P n ops Q (⟨some d,.buildSlice T m parts.toArray,ty,ps,af,none⟩::rest) e w:=by
 refine L.va (w':=w.alloc (.cells cs E)) (.A1 (E2 rfl _) rfl rfl fun τ d'=>?_) (k _ _ (z7 w _ E));show(execOp (ev e) ⟨some d,.buildSlice T m parts.toArray,ty,ps,af,none⟩).run P (Yc.j3 w τ d')= .ok (.value (.slice (some ⟨(Yc.j3 w τ d').heap.size,0,none⟩) m m)) ((Yc.j3 w τ d').alloc (.cells cs E));generalize Yc.j3 w τ d'=w;have h1:¬(m*s>2 ^ 24):=by omega
 have h2:¬(m*s=0):=by omega
 simp only[execOp,Instr.buildSlice,List.map_toArray,hv,Go.Vc.run_underlying hT,Go.Vc.run_sizeOf hs,Sem.run_bind,Result.andThen_ok,h1,h2,if_false,Sem.run_pure,Go.Vc.ao0 hz];rw[hf];simp[newRow]
end
def Yg0 (P:Program) (fn:Func) (R:Ending->World->Prop):Exit->Env->World->Prop:=fun x e w=>match x with
 | .panic ch=>R (.panicked ch) w
 |x=>ends P fn (fun v w=>R (.returned v) w) x e w
theorem Calls.T5 {P:Program} [Ctx P] {f:FuncId} {fn:Func} {c:Code} {args:Array Value} {w:World} {R:Ending->World->Prop} {n:Nat} (hf:P.funcs[f]? =some fn) (hb:fn.body=some c) (hn:args.size+(fn.ntmps-args.size)=n)
  (h:W P n c (Yg0 P fn R) (Vc.Q6 args) w):Calls P f args w R:=by
 refine calls_of_wp hf hb (wp_mono (h _ ⟨?_,rfl,?_⟩) ?_)
 ·simp[hn]
 ·intro t;simp only[Vc.Q6,Array.getD_eq_getD_getElem?,Array.getElem?_append];split
  ·rfl
  ·rename_i ht;rw[Array.getElem?_eq_none (by omega:args.size <=t)];simp only[Array.getElem?_replicate];split <;> rfl
 ·rintro x a w' ⟨e',r,hx⟩;cases x with
  |panic ch=>exact⟨r.defers,hx⟩
  |normal=>obtain⟨_,v,hv,hR⟩:=hx;exact⟨r.defers,v,hv a.tmps r.get,hR⟩
  |ret=>obtain⟨_,v,hv,hR⟩:=hx;exact⟨r.defers,v,hv a.tmps r.get,hR⟩
  |exit id=>obtain⟨hx,_⟩:=hx;rcases hx with hx|hx <;> cases hx
  |goto l=>obtain⟨hx,_⟩:=hx;rcases hx with hx|hx <;> cases hx
  |outgrown=>obtain⟨hx,_⟩:=hx;rcases hx with hx|hx <;> cases hx
end Go.Vy
end
section
namespace Go.Vy.Sc
open Go Go.Conc Go.Yc Go.RowKit Go.Proofs Go.Proofs.YtnifpkopeheodaaGreat Try
open Go.Vc Go.Wg
theorem gb0 {w:World} {a:Addr} {v:Value} (h:w.cell? a=some v):a.block<w.heap.size:=by
 unfold World.cell? at h;rcases Nat.lt_or_ge a.block w.heap.size with z|z
 ·exact z
 ·rw[Array.getElem?_eq_none z]at h;simp at h
theorem dq0 {w0 w:World} {a:Addr} {v:Value} (h:w0.cell? a=some v) (hb:Below w0.heap.size w0 w):w.cell? a=some v:=by
 rw[(u5 (u:=w0) (u':=w) (a:=a) (hb.block _ (gb0 h))).1];exact h
theorem H4.down {B B':Nat} {w:World} {R:Rn} (h:H4 w B' R) (hB:B <=B'):H4 w B R:=⟨h.run,h.cls.down hB,h.evs.down hB,h.W2.down hB,h.ends,h.W7,h.dy0,h.ji0,h.lcl,h.blk⟩
theorem A2 {P:Program} {S:Sem Next} {w:World} {b r:Bool} (h:b=r) (hd:Does P S w (.val (.bool b)) w):Does P S w (.val (.bool r)) w:=h▸hd
structure xq0 (w:World) (sa:Option Addr) (sn scp:Nat) (sc:Nat->Int):Prop where
 sl:SL sa sn
 nil:sa=none->sn=0/\scp=0
 cap:sn <=scp
 cell:∀j,j<sn->w.cell? ⟨ab sa,ao sa+j*1,none⟩=some (.i (sc j))
theorem xq0.E0 {w w':World} {sa:Option Addr} {sn scp:Nat} {sc:Nat->Int} (h:xq0 w sa sn scp sc) (hb:Below w.heap.size w w'):xq0 w' sa sn scp sc:=⟨h.sl,h.nil,h.cap,fun j hj=>dq0 (h.cell j hj) hb⟩
theorem Sys.ind {Y:Sys} (I:PR Y->Prop) (h0:I Y.p0) (hb:∀p,I p->p.ft.length<Y.m->I (Y.bgn p)) (ht:∀p i l,I p->p.ft.length=Y.m->p.ft[i]? =some (.inl l)->Y.rdy i l p.s=true->I (Y.P5 p i)):∀p,Y.Reach p->I p:=by
 have hB:∀n,n <=Y.m->I (Y.P4 n):=by
  intro n
  induction n with
  |zero=>exact fun _=>h0
  |succ n ih=>exact fun hn=>hb _ (ih (by omega)) (by rw[Sys.M5];omega)
 have hP:∀(sc:Nat->Int) n,I (Y.pn sc n):=by
  intro sc n
  induction n with
  |zero=>exact hB Y.m (Nat.le_refl _)
  |succ n ih=>
   show I (Y.step (Y.pn sc n) (sc n));unfold Sys.step;split
   ·rename_i i hi;obtain⟨_,hr⟩:=Sys.Ag0 hi;unfold Sys.eh0 at hr;cases hx:(Y.pn sc n).ft[i]? with
    |none=>rw[hx]at hr;cases hr
    |some f=>
     cases f with
     |inl l=>rw[hx]at hr;exact ht _ i l ih (Sys.N9 sc n) hx hr
     |inr x=>rw[hx]at hr;cases hr
   ·exact ih
 rintro p (⟨n,hn,rfl⟩|⟨sc,n,rfl⟩)
 ·exact hB n hn
 ·exact hP sc n
end Go.Vy.Sc
end
section
namespace Go.Vy
open Go Go.Conc Go.Yc Go.RowKit
open Go.Vc
theorem Yh0 {P:Program} {fr:Frame} {fn:Func} {v:Value} {t:Tmp} (hm:fr.mode= .returning) (hd:fr.defers=[]) (hk:fr.kind= .normal) (hf:P.funcs[fr.fn]? =some fn) (hr:fn.results=#[.tmp t]) (hv:fr.tmps.getD t undef=v) (hi:P.inits.idxOf? fr.fn=none) (w:World):stepG P true (G fr []) w= .ended (.done v) w #[]:=by
 have h1:=results_tmp hr fr.tmps P w;have h2:=events_results_tmp (P:=P) (w:=w) hr fr.tmps;simp[G,stepG,unwind,doReturn,hm,hd,hk,hf,hi,h1,h2,hv,seen,GStep.after]
theorem xr0 {P:Program} {fr:Frame} {fn:Func} {w:World} {v:Value} {t:Tmp} (hl:Leaves P fr w (.returned v)) (hf:P.funcs[fr.fn]? =some fn) (hr:fn.results=#[.tmp t]) (hnv:k6 w):fr.tmps.getD t undef=v:=by
 obtain⟨h1,h2,h3,fn',h4,h5⟩:=hl;rw[hf]at h4;obtain rfl:=Option.some.inj h4;obtain⟨x',es,h6,_⟩:=h5 w.tape w.drawn _ w hnv.T9;have h7:=results_tmp hr fr.tmps P w;rw[Sem.runT_eq]at h6;have h8:=(Prod.mk.inj h6).1;rw[h7]at h8;injection h8
end Go.Vy
namespace Go.Vy.Sc
open Go Go.Conc Go.Yc Go.RowKit Go.Proofs Go.Proofs.YtnifpkopeheodaaGreat Try
open Go.Vc Go.Wg
def xs0 (W w':World):Prop:=Below W.heap.size W {w' with tape:=W.tape}
theorem xs0.frame {W w':World} (h:xs0 W w') (may:MemPlace->Prop):W.keptBut w' may:=Below.frame h may
theorem Gp0 {x y:Obj} (h:bs0 .all x y):y=x:=by cases h;rfl
theorem Bv0 {o x y:Obj} (h:bs0 (.gone o) x y):y=o:=by cases h;rfl
theorem Tt0 {f:FuncId} {fn:Func} {t:Tmp} {args:Array Value} {W:World} (hf:Tryz.prog.funcs[f]? =some fn) (hr:fn.results=#[.tmp t]) (hi:Tryz.prog.inits.idxOf? f=none) (h:@C Tryz.prog (P6 W.heap.size (X0 W).D4) f args (kg0 W) fun v w=>v= .bool true/\Below (kg0 W).heap.size (kg0 W) w) :
  Yc.Ends Tryz.prog (fun v w'=>v= .bool true/\xs0 W w') (solo (G (Frame.enter Tryz.prog f args .normal) []) W) #[]:=by
 have n2:(kg0 W).heap.size=W.heap.size:=by simp[kg0]
 refine Fin.start (h _ ⟨_,rfl⟩ [] (fun e w' fr he hfr hl=>?_) (X0 W) ⟨fun _=>rfl,rfl,rfl,rfl,Da0 W _,fun b hb=>zi0 (by rw[<- n2];exact hb),Nat.one_pos⟩ (by rw[n2];exact Nat.le_refl _) (fun _ hb=>hb.elim) rfl);cases e with
 |panicked ch=>exact he.elim
 |outgrown=>exact he.elim
 |returned v=>
  obtain⟨rfl,hb⟩:=he;rw[n2]at hb;refine Bu0 _ _ _ _ _ fun hnv X hX h1 h2 h3=>?_;have vr0:Tryz.prog.funcs[fr.fn]? =some fn:=by rw[hfr];exact hf
  have hv:=xr0 hl vr0 hr hnv;obtain⟨hm,hd,hk,_⟩:=hl;refine Fin.ends rfl hX.G1 hX.cap (Yh0 hm hd hk vr0 hr hv (by rw[hfr];exact hi)) fun ρ w hs hρ=>⟨rfl,?_⟩
  refine⟨hs.os.trans hb.os,rfl,hs.output.trans hb.output,?_,fun k hk=>?_⟩
  ·show W.heap.size <=w.heap.size;rw[hs.size];show W.heap.size <=w'.heap.size;rw[<- n2];exact hb.size
  ·show w.heap[k]? =W.heap[k]?;have hk':k<w'.heap.size:=by have:=hb.size;rw[n2]at this;omega
   obtain⟨y,hy,hlk⟩:=hs.obj k _ (Array.getElem?_eq_getElem hk');have e1:some w'.heap[k]=(kg0 W).heap[k]?:=by rw[<- hb.block k hk];exact(Array.getElem?_eq_getElem hk').symm
   have e2:(kg0 W).heap[k]? =(W.heap[k]?).map fun o=>if e4 o then nothing else o:=by
    show(W.heap.map _)[k]? =_;rw[Array.getElem?_map]
   rw[Array.getElem?_eq_getElem hk]at e2;rw[e2]at e1;have e1:=Option.some.inj e1;have hp:ρ k=(X0 W).D4 k:=by
    rw[hρ k fun z=>by have:=h2 k z;omega,h3]
   have hp2:(X0 W).D4 k=if e4 W.heap[k] then .gone W.heap[k] else .all:=by
    show(match W.heap[k]? with|some o=>if e4 o then j6.gone o else .all|none=>.all)=_;rw[Array.getElem?_eq_getElem hk]
   rw[hy,Array.getElem?_eq_getElem hk];have hlk:bs0 (ρ k) w'.heap[k] y:=hlk;rw[hp,hp2,e1]at hlk;cases hv:e4 W.heap[k]
   ·simp only[hv,Bool.false_eq_true,if_false]at hlk;rw[Gp0 hlk]
   ·simp only[hv,if_true]at hlk;rw[Bv0 hlk]
end Go.Vy.Sc
end
section
namespace Go.Vy
open Go Go.Conc Go.Yc
open Go.Vc (Env upd Y2 ev)
theorem Does.quiet {P:Program} {S:Sem Next} {u:World} {r:Out} (h:∀τ d ρ x,I5 ρ (j3 u τ d) x->S.run P x=r.res x/\S.events P x #[]=#[]):Does P S u r u :=
 ⟨rfl,rfl,fun τ d ρ x hs=>by
  obtain⟨h1,h2⟩:=h τ d ρ x hs;exact⟨V8.refl _,x,#[],by rw[Sem.runT_eq,h1,h2],hs,fun e he=>by simp at he⟩⟩
section
variable {P:Program}{ρ:Operand->Value}{d:Option Nat}{ty:TypeId}{ps:String}{af:Array Edge}{g:Option (Nat×Bool)}{x y:Operand}{w:World}
theorem ek0 {src dst t:TypeId} {a:Addr} {v:Value} (hx:ρ x= .pointer (some a)) (hs:P.underlying src=some (.pointer t)) (hd:P.underlying dst=some .unsafePointer) (hz:(P.info? t).map (fun i=>decide (i.size=0))=some false) (hc:w.cell? a=some v) :
  Does P (execOp ρ ⟨d,.convert src dst x,ty,ps,af,g⟩) w (.val (.pointer (some a))) w :=
 .quiet fun τ dd ρ' X h=>by
  have w6:=h.cell (a:=a) (v:=v) hc;refine⟨Go.Vc.ek0 hx hs hd hz w6,?_⟩;simp[execOp,hx,events_convert_to_unsafe hs hd hz w6]
theorem Gq0 {f:FuncId} {fn:Func} {args:Array Value} {e:Array Value->Sem Value} (hf:P.funcs[f]? =some fn) (P2:(fn.name== "runtime.NumGoroutine")=false) (hb:fn.body.isNone=true) (hn:Extern.findNext fn=none) (he:Extern.find fn=some e) (ht:E1 P (e args)):E1 P (callFunc f args):=by
 unfold callFunc;refine ur0 ?_;rw[hf];simp only[P2,Bool.false_eq_true,if_false,hb,if_true,hn,he];exact N1 (s:=mark (Mark.extern f)) (show(if wi0 (Mark.extern f)=true then E1 P (.pure ()) else dead P (.pure ()))by rw[if_pos (show wi0 (Mark.extern f)=true from rfl)];trivial) fun _=>N1 ht fun _=>S1 _
theorem ks0 {f:FuncId} {fn:Func} {aT:Array TypeId} {a:Addr} {p:Option Addr} {u:Value} (hx:ρ x= .pointer (some a)) (hy:ρ y= .pointer p) (hf:P.funcs[f]? =some fn) (P2:(fn.name== "runtime.NumGoroutine")=false) (hb:fn.body.isNone=true) (hn:Extern.findNext fn=none)
  (he:Extern.find fn=some Extern.Atomic.storeT) (hc:w.cell? a=some u) (hz:w.frozen? a=false) (hρ:ρ (.func f)= .func (.func f) #[] #[]) :
  Does P (execOp ρ ⟨d,.call ⟨.value (.func f),#[x,y],aT⟩,ty,ps,af,g⟩) w (.val (.tuple #[])) (w.setCell a (.pointer p)) :=
 .A1 (by
  show E1 P (do let d <- Deferred.ofValue (ρ (.func f)) (#[x,y].map ρ);invoke d.target d.args);rw[hρ];refine U500 ?_;have e1:(#[] ++ #[x,y].map ρ ++ #[]:Array Value)=#[.pointer (some a),.pointer p]:=by simp[hx,hy]
  rw[e1];show E1 P (do store (<- asAddr (.pointer (some a))) (.pointer p) .atomic;pure Extern.Atomic.none_);exact N1 (ff0 _) fun b=>N1 (sj0 _ _ _) fun _=>S1 _) rfl rfl fun τ dd=>Go.Vc.ks0 hx hy hf P2 hb hn he hc hz hρ
end
section
open Go.Vc Go.RowKit
variable {P:Program}[Ctx P]
end
end Go.Vy
end
section
namespace Go.Vy.Sc
open Go Go.Conc Go.Yc Go.RowKit Go.Proofs Go.Proofs.YtnifpkopeheodaaGreat Try
open Go.Vc Go.Wg
structure l9 (K:K8 Tryz.prog) (w:World) (o:fv0 K.S K.L):Prop where
 on:gh w 2=0
 W2:gh w 1=0
 out:K.out (gh w 0)=o
 none:o.W2=[]
 os:w.os=K.base.os
 output:w.output=K.base.output
section
variable {K:K8 Tryz.prog}{w w':World}{o:fv0 K.S K.L}
theorem l9.to (h:l9 K w o) (ht:w'.tape=w.tape) (ho:w'.os=w.os) (ho2:w'.output=w.output):l9 K w' o :=
 ⟨by rw[l4 ht];exact h.on,by rw[l4 ht];exact h.W2,by rw[l4 ht];exact h.out,h.none,ho.trans h.os,ho2.trans h.output⟩
theorem l9.E0 {B:Nat} (h:l9 K w o) (hb:Below B w w'):l9 K w' o:=h.to hb.tape hb.os hb.output
theorem l9.K5 {r:Option Nat} (h:l9 K w o) (hg:w.grownBy w' r) (_:True):l9 K w' o:=h.to hg.tape hg.os hg.output
theorem l9.O3 {F:Nat->Prop} {m:Gm} {f:K.L ⊕ Nat} (h:l9 K w o) (hf:o.k8=f) (hm:K.gu (gm w) m) (hi:K.Inv o.s m w F):K.Told w m F f :=
 ⟨h.on,by rw[h.out];exact hf,by rw[h.W2,h.out,h.none];rfl,by rw[h.out];exact hi,hm,h.os,h.output⟩
theorem l9.done {F:Nat->Prop} {m:Gm} {v:Value} (h:l9 K w o) (hf:o.k8= .inr 1) (hm:K.gu (gm w) m) (hi:K.Inv o.s m w F):K.xb0 w F (.returned v):=.inl ⟨m,h.O3 hf hm hi⟩
theorem l9.goes {F F':Nat->Prop} {m:Gm} {u:World} {l:K.L} (h:l9 K w o) (hg:K.Goes w m F l u F') (hn:∀s,(K.go l s).W2=[]):l9 K u (K.go l (K.sOf (gh u 0))) :=
 ⟨hg.on,hg.W2,hg.out,hn _,hg.W6.os.trans h.os,hg.W6.output.trans h.output⟩
end
structure gc0 (Y:Sys) (sc:Nat->Int) (sn B:Nat) (R:Rn) (w:World):Prop where
 mem:H4 w B R
 hm:R.m=Y.m
 evs:R.evs=(Y.pn sc sn).evs
 W2:R.W2=(Y.pn sc sn).W2
 used:R.used=(Y.pn sc sn).used
 ends:∀j,j<Y.m->R.ends[j]? =some (ai0 (Y.pn sc sn).ft[j]?)
 W7:∀j,j<Y.m->R.W7[j]? =some (Qz0 Y j ((Y.pn sc sn).ft[j]?))
 stuck:R.stuck=((Y.pn sc sn).ft.any (·.isLeft)&&(Y.rds (Y.pn sc sn)).isEmpty)
 fp:∀b,R.fp b->B <=b
section
variable {Y:Sys}{sc:Nat->Int}{sn B B':Nat}{R:Rn}{w w':World}
theorem gc0.congr (h:gc0 Y sc sn B R w) (he:∀k,R.fp k->w'.heap[k]? =w.heap[k]?):gc0 Y sc sn B R w' :=
 ⟨h.mem.congr he,h.hm,h.evs,h.W2,h.used,h.ends,h.W7,h.stuck,h.fp⟩
theorem gc0.E0 (h:gc0 Y sc sn B R w) (hb:Below w.heap.size w w'):gc0 Y sc sn B R w':=h.congr fun k hk=>hb.block k (h.mem.lt hk)
theorem gc0.K5 {b:Nat} (h:gc0 Y sc sn B R w) (hg:w.grownBy w' (some b)) (hn:¬R.fp b):gc0 Y sc sn B R w':=h.congr fun k hk=>hg.block k (h.mem.lt hk) fun e=>hn (by cases e;exact hk)
theorem gc0.down (h:gc0 Y sc sn B' R w) (hB:B <=B'):gc0 Y sc sn B R w :=
 ⟨h.mem.down hB,h.hm,h.evs,h.W2,h.used,h.ends,h.W7,h.stuck,fun b hb=>Nat.le_trans hB (h.fp b hb)⟩
theorem La0 {fb:Nat->FuncId} {caps:Nat->Array Value} {fv:Nat->Value} {l sa:Option Addr} {lc scp:Nat} {F:Nat->Prop} (hO:iu0 Y fb caps fv l sa sn sc) {m0:Gm} (hinv:Y.Inv Y.s0 m0 w F) (hl:∀j,j<Y.m->w.cell? ⟨ab l,ao l+j*1,none⟩=some (fv j)) (hlF:0<Y.m->¬F (ab l)) (hSc:xq0 w sa sn scp sc) (hsF:0<sn->¬F (ab sa)\/∀s m w' F',Y.Inv s m w' F'->w'.heap[ab sa]? =w.heap[ab sa]?) :
  @C Tryz.prog (P6 Y.lb Y.pl) 48 #[.slice l Y.m lc,.slice sa sn scp] w fun v w'=>∃R,v= .tuple #[Ft0 R,.i 0]/\gc0 Y sc sn w.heap.size R w'/\(∃m' F',Y.Inv (Y.pn sc sn).s m' w' F'/\∀b,F' b->¬R.fp b)/\w'.os=w.os/\w'.output=w.output/\w'.tape=w.tape/\w.heap.size <=w'.heap.size/\∀b,b<w.heap.size->¬F b->w'.heap[b]? =w.heap[b]?:=by
 classical
 let Mn:Nat->Option Obj:=fun b=>if F b then none else w.heap[b]?
 have L9:∀(w':World) (a:Addr) (v:Value),(∀b,Mn b≠none->w'.heap[b]? =Mn b)->¬F a.block->w.cell? a=some v->w'.cell? a=some v:=fun w' a v hw hF ha=>by
  have h1:Mn a.block=w.heap[a.block]?:=if_neg hF;have h2:w'.heap[a.block]? =w.heap[a.block]?:=by
   rw[<- h1];refine hw _ ?_;rw[h1,Array.getElem?_eq_getElem (gb0 ha)];simp
  rw[(u5 (u:=w) (u':=w') (a:=a) h2).1];exact ha
 have key:=Yc0 (Mn:=Mn) (w0:=w) (F:=F) (bc:=lc) (scp:=scp) hO (fun b o h=>by
   have h:(if F b then none else w.heap[b]?)=some o:=h;split at h
   ·cases h
   ·exact h) hinv (fun b hb=>if_pos hb) (fun w' hw j hj=>L9 w' _ _ hw (hlF (by omega)) (hl j hj)) (fun w' hI hw j hj=>by
   rcases hsF (by omega)with h|h
   ·exact L9 w' _ _ hw h (hSc.cell j hj)
   ·obtain⟨s,m,F',hI⟩:=hI;rw[(u5 (u:=w) (u':=w') (a:=⟨ab sa,ao sa+j*1,none⟩) (h s m w' F' hI)).1];exact hSc.cell j hj)
 refine @Calls.mono _ (P6 Y.lb Y.pl) _ _ _ _ _ key fun e w' he=>?_;cases e with
 |panicked ch=>exact he.elim
 |outgrown=>exact he.elim
 |returned v=>
  obtain⟨R,rfl,hD⟩:=he;refine⟨R,rfl,⟨hD.mem,hD.m,hD.evs,hD.W2,hD.used,hD.ends,hD.W7,hD.stuck,hD.fp⟩,hD.inv,hD.os,hD.output,hD.tape,hD.size,fun b hb hF=>?_⟩;have h1:Mn b=w.heap[b]?:=if_neg hF;rw[<- h1];refine hD.E0 b ?_;rw[h1,Array.getElem?_eq_getElem hb];simp
end
section
variable [Ctx Tryz.prog]
end
section
theorem Rh0:Tryz.prog.built 105 []=some #[.bool false]:=by kernel_rfl
theorem Ri0 (x0:Int) (x1:Int) (x2:Int):Tryz.prog.built 47 [(0,.i x0),(1,.i x1),(2,.i x2)]=some #[.i x0,.i x1,.i x2]:=by kernel_rfl
end
section
variable [Ctx Tryz.prog]
theorem Rj0 (w0:World):C Tryz.prog 36 #[] w0 fun v w=>∃wb,v= .p wb/\w0.heap.size <=wb/\V0 w wb #[.bool false] 105/\Below w0.heap.size w0 w:=by
 refine C.enter (n:=3) Tryz.func36 rfl rfl ?_;refine U4 ?_;intro hb;refine U27 ?_;refine L.va (W0 (parts:=[]) rfl Rh0) ?_;refine L.box (cs:=#[.bool false]) rfl rfl (fun w b2 F2=>?_);refine U11 ?_;intro lt2 hb;have u6:=F2.blk;exact U305
theorem gd0 (wb:Nat) (w0:World) (hW:V0 w0 wb #[.bool false] 105):C Tryz.prog 44 #[.p wb] w0 fun v w=>v= .bool false/\w=w0:=by
 refine U281 ?_;refine U66 ?_;refine U268 ?_;refine U124 ?_;refine U521 ?_;refine L.va (F0 rfl Tryz.underlying4 rfl (hW.A0 0 (v:=.bool false) rfl)) ?_;refine U307 ?_;exact⟨rfl,rfl⟩
theorem Gr0 {f:FuncId} {fn:Func} {ys:Array Value} (hf:Tryz.prog.funcs[f]? =some fn) (hbd:fn.body.isSome=true) (hnm:(fn.name== "runtime.NumGoroutine")=false) (k o n:Int) (rd:Value) (w0:World) (R:World->Prop) (hdo:∀w,Below w0.heap.size w0 w->C Tryz.prog f ys w fun _ w'=>R w') :
  C Tryz.prog 83 #[.pointer none,.agg #[.i k,.i o,.i n],rd,.func (.func f) #[] ys] w0 fun _ w=>R w:=by
 refine C.enter (n:=63) Tryz.func83 rfl rfl ?_;refine U4 ?_;intro hb;refine L.box (cs:=#[.i k,.i o,.i n]) rfl rfl (fun w b5 F5=>?_);refine U12 ?_;intro O8 hb;refine U33 ?_;refine U183 ?_;refine U36 ?_;refine U78 ?_;refine L.va cp0 ?_;refine L.va (I9 (v:=.func (.func f) #[] ys) (b:=true) rfl (.inr ⟨_,_,_,rfl,rfl⟩) rfl Tryz.underlying1 ⟨_,_,_,rfl⟩) ?_;refine U36 ?_;refine U111 ?_;refine L.call (cv0 rfl hf hbd hnm) (hdo _ hb) ?_;rintro _ w hR;refine U7 ?_;refine U524 ?_;refine ends.none (.inr rfl) rfl ?_;exact hR
theorem qv0 {f:FuncId} {fn:Func} {ys:Array Value} (hf:Tryz.prog.funcs[f]? =some fn) (hbd:fn.body.isSome=true) (hnm:(fn.name== "runtime.NumGoroutine")=false) (o n k:Int) (rd:Value) (w0:World) (R:World->Prop) (hdo:∀w,Below w0.heap.size w0 w->C Tryz.prog f ys w fun _ w'=>R w') :
  C Tryz.prog 56 #[.agg #[.i o,.i n],.pointer none,.i k,rd,.func (.func f) #[] ys] w0 fun _ w=>R w:=by
 refine C.enter (n:=20) Tryz.func56 rfl rfl ?_;refine U4 ?_;intro hb;refine L.box (cs:=#[.i o,.i n]) rfl rfl (fun w b5 F5=>?_);refine U12 ?_;intro O8 hb;have D3:=F5.blk;refine U7 ?_;refine U61 ?_;refine U415 ?_;refine U416 ?_;refine L.va (W0 (parts:=[(0,.tmp 11),(1,.tmp 13),(2,.tmp 15)]) rfl (Ri0 k o n)) ?_;refine U300 ?_;refine L.call (j7 rfl rfl rfl rfl Tryz.func83 rfl Wl0 rfl) (Gr0 hf hbd hnm k o n rd w R (fun w1 V4=>hdo w1 (N0 hb V4))) ?_;rintro _ w hR;refine U59 ?_;exact hR
theorem Rk0 (b0 b1 cb:Nat) (obj num:Int) (q:Value) (x:Int) (x2:Int) (w0:World) (Q5:V0 w0 b0 #[.p cb] 69) (hB1:V0 w0 b1 #[.i x2] 2) (hC:V0 w0 cb #[.i obj,.i num,q,.i x] 115) :
  C Tryz.prog 58 #[.p b0,.p b1] w0 fun v w=>v= .tuple #[]/\V0 w b1 #[.i x] 2/\w0.grownBy w (some b1):=by
 refine C.enter (n:=6) Tryz.func58 rfl rfl ?_;refine W.region rfl ?_;refine L.va (F0 rfl Tryz.underlying69 rfl (Q5.A0 0 (v:=.p cb) rfl)) ?_;refine U487 ?_;refine L.va (F0 rfl Tryz.underlying2 rfl (hC.A0 3 (v:=.i x) rfl)) ?_;refine L.pu 0 [.i x] #[.i x] sz2 hB1 (fun w B1 hg n2=>?_);exact U219
theorem Rl0 (b0 b1 cb:Nat) (obj num:Int) (q:Value) (x:Int) (x2:Int) (w0:World) (Q5:V0 w0 b0 #[.i x] 2) (hB1:V0 w0 b1 #[.p cb] 69) (hC:V0 w0 cb #[.i obj,.i num,q,.i x2] 115) :
  C Tryz.prog 57 #[.p b0,.p b1] w0 fun v w=>v= .tuple #[]/\V0 w cb #[.i obj,.i num,q,.i x] 115/\w0.grownBy w (some cb):=by
 refine C.enter (n:=6) Tryz.func57 rfl rfl ?_;refine W.region rfl ?_;refine L.va (F0 rfl Tryz.underlying69 rfl (hB1.A0 0 (v:=.p cb) rfl)) ?_;refine L.va (F0 rfl Tryz.underlying2 rfl (Q5.A0 0 (v:=.i x) rfl)) ?_;refine U487 ?_;refine L.pu 3 [.i x] #[.i obj,.i num,q,.i x] sz2 hC (fun w B1 hg n2=>?_);have G5:=e8.el0 hC hg;have hC:=B1;exact U313
end
theorem cf0 {w:World} {b:Nat} {cs:Array Value} {T:TypeId} {f:Nat×Nat} (h:O1 w b cs T f) (h0:0<cs.size):w.heap[b]? ≠some nothing:=by
 unfold O1 at h;rw[h];intro e;have e1:=Option.some.inj e;unfold nothing at e1;injection e1 with e2
 rw[e2]at h0;exact absurd h0 (Nat.lt_irrefl 0)
theorem Y9 {P:Program} {f:FuncId} {fn:Func} {caps:Array Value} (hf:P.funcs[f]? =some fn) (hb:fn.body.isSome=true) (hn:(fn.name== "runtime.NumGoroutine")=false):Js0 P (.func (.func f) #[] caps) f caps:=⟨rfl,fn,hf,hb,hn⟩
structure Bw0 (w:World) (t:Nat):Prop where
 eq:gh w 0=t
structure KOk (K:K8 Tryz.prog):Prop where
 loc:∀s m (w w':World) F,K.Inv s m w F->(∀b,F b->w'.heap[b]? =w.heap[b]?)->K.Inv s m w' F
 vis:∀s m (w:World) F,K.Inv s m w F->∀b,F b->b<w.heap.size/\w.heap[b]? ≠some nothing
 refl:∀a,K.gu a a
 step:K.ip0=83
 number:K.M3=47
theorem Sys.kok {Y:Sys} (h:li0 Y) {fb:Nat->FuncId} {q:PR Y} {w0:World} {i cb:Nat} {top:List Frame}:KOk (Y.cfg fb q w0 i cb top):=⟨h.loc,h.vis,fun a j _=>h.refl j a,rfl,rfl⟩
section
variable {K:K8 Tryz.prog}{w0 w u u':World}{m:Gm}{F F':Nat->Prop}{l:K.L}{f:K.L ⊕ Nat}
theorem KOk.O3 (hK:KOk K) (h:K.Told w0 m F f) (ht:w.tape=w0.tape) (ho:w.os=w0.os) (hp:w.output=w0.output) (hk:∀b,F b->w.heap[b]? =w0.heap[b]?):K.Told w m F f :=
 ⟨by rw[l4 ht];exact h.on,by rw[l4 ht];exact h.k8,by rw[l4 ht,l4 ht];exact h.W2,hK.loc _ _ w0 w F (by rw[l4 ht];exact h.inv) hk,by rw[fu0 ht];exact h.le,ho.trans h.os,hp.trans h.output⟩
theorem KOk.E0 (hK:KOk K) (h:K.Told w0 m F f) (hb:Below w0.heap.size w0 w):K.Told w m F f :=
 hK.O3 h hb.tape hb.os hb.output fun b hF=>hb.block b (hK.vis _ _ _ _ h.inv b hF).1
theorem KOk.tlt (hK:KOk K) (h:K.Told w0 m F f) {b:Nat} (hF:F b):b<w0.heap.size:=(hK.vis _ _ _ _ h.inv b hF).1
theorem g5.down (hb:Below w0.heap.size w0 w) (h:K.g5 w m F u F'):K.g5 w0 m F u F' :=
 ⟨Nat.le_trans hb.size h.size,fun b T2 hn hF=>by
  have e:=hb.block b T2;have:=h.E0 b (Nat.lt_of_lt_of_le T2 hb.size) (by rw[e];exact hn) hF;exact⟨this.1.trans e,this.2⟩,h.inv,h.le,h.os.trans hb.os,h.output.trans hb.output⟩
theorem Goes.down (hb:Below w0.heap.size w0 w) (h:K.Goes w m F l u F'):K.Goes w0 m F l u F':=⟨g5.down hb h.W6,h.W2,h.on,h.out,h.rdy,h.at_⟩
theorem Goes.own (hK:KOk K) (h:K.Goes w0 m F l u F') (ht:u'.tape=u.tape) (ho:u'.os=u.os) (hp:u'.output=u.output) (hs:u.heap.size <=u'.heap.size) (hk:∀b,(b<w0.heap.size\/F' b)->b<u.heap.size->u'.heap[b]? =u.heap[b]?):K.Goes w0 m F l u' F':=by
 have hv:=hK.vis _ _ _ _ h.W6.inv;refine⟨⟨Nat.le_trans h.W6.size hs,fun b T2 hn hF=>?_,?_,?_,ho.trans h.W6.os,hp.trans h.W6.output⟩,?_,?_,?_,?_,?_⟩
 ·have:=h.W6.E0 b T2 hn hF;exact⟨(hk b (.inl T2) (Nat.lt_of_lt_of_le T2 h.W6.size)).trans this.1,this.2⟩
 ·rw[l4 ht,fu0 ht];exact hK.loc _ _ u u' F' h.W6.inv fun b hb=>hk b (.inr hb) (hv b hb).1
 ·rw[fu0 ht];exact h.W6.le
 ·rw[l4 ht];exact h.W2
 ·rw[l4 ht];exact h.on
 ·rw[l4 ht];exact h.out
 ·rw[l4 ht];exact h.rdy
 ·rw[l4 ht];exact h.at_
structure Gn (K:K8 Tryz.prog) (w0:World) (m:Gm) (F:Nat->Prop) (l:K.L) (u:World) (F':Nat->Prop):Prop where
 ok:KOk K
 goes:K.Goes w0 m F l u F'
theorem Gn.K5 (h:Gn K w0 m F l u F') {b:Nat} (hg:u.grownBy u' (some b)) (hn:w0.heap.size <=b/\¬F' b):Gn K w0 m F l u' F' :=
 ⟨h.ok,Goes.own h.ok h.goes hg.tape hg.os hg.output hg.size fun k hk hl=>hg.block k hl fun e=>by cases e;rcases hk with hk|hk;omega;exact hn.2 hk⟩
theorem Goes.Z9 (h:K.Goes w0 m F l u F') {b:Nat} {cs:Array Value} {T:TypeId} (hB:V0 w0 b cs T) (h0:0<cs.size) (hF:¬F b):V0 u b cs T/\¬F' b:=by
 have hB':O1 w0 b cs T (0,0):=m4 hB;have:=h.W6.E0 b hB'.lt (cf0 hB' h0) hF;exact⟨this.1.trans hB',this.2⟩
end
structure eu0 (K:K8 Tryz.prog) (w0 u:World):Prop where
 g2:gh u 2=1
 inv:∃F',K.Inv (K.sOf (gh u 0)) (gm u) u F'
 os:u.os=w0.os
 output:u.output=w0.output
theorem eu0.at {K:K8 Tryz.prog} {w0 w1 u:World} (h:eu0 K w1 u) (ho:w1.os=w0.os) (hp:w1.output=w0.output):eu0 K w0 u:=⟨h.g2,h.inv,h.os.trans ho,h.output.trans hp⟩
theorem tn0 {K:K8 Tryz.prog} {w0 u:World} {m:Gm} {F F':Nat->Prop} (h:K.g5 w0 m F u F') (h2:gh u 2=1):eu0 K w0 u:=⟨h2,⟨F',h.inv⟩,h.os,h.output⟩
theorem eu0.done {K:K8 Tryz.prog} {w0 u:World} {ch:List PanicEntry} (hK:KOk K) (h:eu0 K w0 u) (hr:as0 ch) (ho:w0.os=K.base.os) (hp:w0.output=K.base.output):∃F,K.xb0 u F (.panicked ch):=by
 obtain⟨F',hi⟩:=h.inv;exact⟨F',hr,.inr ⟨h.g2,⟨gm u,hK.refl _,hi⟩,h.os.trans ho,h.output.trans hp⟩⟩
def G3 (K:K8 Tryz.prog) (w0:World) (R:Value->World->Prop):Ending->World->Prop
 | .returned v,u=>R v u
 | .panicked ch,u=>as0 ch/\eu0 K w0 u
 | .outgrown,_=>False
theorem Rm0 (x0:Int) (x1:Int) (x2:Int):Tryz.prog.built 47 [(0,.i x0),(1,.i x1),(2,.i x2)]=some #[.i x0,.i x1,.i x2]:=by kernel_rfl
theorem v8 {K:K8 Tryz.prog} (hK:KOk K) {l:K.L} {m:Gm} {F:Nat->Prop} {o n ki:Int} {rd df:Value} (w0:World) (hT:K.Told w0 m F (.inl l)) (S2:K.stp l=⟨ki,o,n⟩) (hr:∀w,Below w0.heap.size w0 w->K.bw0 w m F rd l) (_hrc:∃f caps,rd= .nilFunc\/rd= .func (.func f) #[] caps) (hdf:FnV Tryz.prog df) (Rdo:World->World->Prop) (hdo:∀w,Below w0.heap.size w0 w->∀u F',K.Goes w m F l u F'->Bj0 Tryz.prog K.y4 df u (Rdo u)) :
  @Calls Tryz.prog (K0 K) 56 #[.agg #[.i o,.i n],.p K.ptr,.i ki,rd,df] w0 (G3 K w0 fun v u=>v= .tuple #[]/\∃u0 F',K.Goes w0 m F l u0 F'/\Rdo u0 u/\u.tape=u0.tape):=by
 letI:Ctx Tryz.prog:=K0 K;refine Calls.T5 (n:=20) Tryz.func56 rfl rfl ?_;refine U4 ?_;intro hb;refine L.box (cs:=#[.i o,.i n]) rfl rfl (fun w b5 F5=>?_);refine U12 ?_;intro O8 hb;have D3:=F5.blk;refine U7 ?_;refine U61 ?_;refine U415 ?_;refine U416 ?_;refine L.va (W0 (parts:=[(0,.tmp 11),(1,.tmp 13),(2,.tmp 15)]) rfl (Rm0 ki o n)) ?_;refine U300 ?_;have m9:=hb;refine L.T3 rfl (j7 rfl rfl rfl rfl Tryz.func83 rfl Wl0 rfl) (hK.step▸Bk0 (K:=K) (hK.E0 hT hb) (by rw[S2];rfl) (hr _ hb) hdf Rdo (hdo _ hb)) ?_ ?_ (fun _ h=>h)
 ·rintro v u ⟨rfl,u0,F',hg,hR,ht⟩;rename_i wL;refine U59 ?_;exact⟨rfl,u0,F',Goes.down m9 hg,hR,ht⟩
 ·rintro ch u ⟨J6,F',hl,h2⟩;exact⟨J6,(tn0 hl h2).at m9.os m9.output⟩
set_option maxHeartbeats 400000 in
theorem Lb0 {K:K8 Tryz.prog} (hK:KOk K) {R4:K.L} {m:Gm} {F:Nat->Prop} (cb wb:Nat) (obj num:Int) (x:Nat->Int) (x2:Int) (w0:World) (hT:K.Told w0 m F (.inl R4)) (S2:K.stp R4=⟨8,obj,num⟩) (hrd:∀s,K.rdy R4 s=true) (hW:V0 w0 wb #[.bool false] 105) (hC:V0 w0 cb #[.i obj,.i num,.p wb,.i x2] 115) (hgo:∀u F',K.Goes w0 m F R4 u F'->V0 u cb #[.i obj,.i num,.p wb,.i (x (gh u 0))] 115) :
  @Calls Tryz.prog (K0 K) 22 #[.p cb,.p K.ptr] w0 (G3 K w0 fun v u=>∃F' tt,Gn K w0 m F R4 u F'/\Bw0 u tt/\v= .i (x tt)):=by
 letI:Ctx Tryz.prog:=K0 K;refine Calls.T5 (n:=26) Tryz.func22 rfl rfl ?_;refine U4 ?_;intro hb;refine L.box (cs:=#[.p cb]) rfl rfl (fun w b2 F2=>?_);refine U11 ?_;intro lt2 hb;have hW:=hW.E0 F2.below;refine U55 ?_;intro hC u6;refine U48 ?_;refine L.alloc (cs:=#[.i 0]) zr2 rfl (fun w b5 F5=>?_);refine U12 ?_;intro O8 hb;refine U85 ?_;intro hW hC;refine U95 ?_;intro u6 D3;refine U33 ?_;refine L.va (F0 rfl Tryz.underlying69 rfl (u6.A0 0 (v:=.p cb) rfl)) ?_;refine L.va (L3 rfl rfl Tryz.underlying69) ?_;refine U207 ?_;refine U3 ?_;refine U471 ?_;refine U545 ?_;rintro _ w1 ⟨rfl,hw⟩;refine U136 ?_;refine U471 ?_;refine U396 ?_;refine L.va (m3 rfl) ?_;refine L.va (S3 (l:=[.tmp 2,.tmp 5]) (vs:=[.p b2,.p b5]) rfl) ?_;have m9:=hb;refine U273 ?_;intro hF5 hF2;have B9:@Calls Tryz.prog (K0 K) 56 #[.agg #[.i obj,.i num],.p K.ptr,.i 8,.nilFunc,.func (.func 58) #[] #[.p b2,.p b5]] w (G3 K w fun v u=>v= .tuple #[]/\∃u0 F',K.Goes w m F R4 u0 F'/\(V0 u b5 #[.i (x (gh u0 0))] 2/\u0.grownBy u (some b5))/\u.tape=u0.tape):=by
  refine v8 hK w (hK.E0 hT hb) S2 (fun w1 V4=>.inl ⟨rfl,hrd⟩) ⟨0,#[],.inl rfl⟩ (.inr ⟨58,_,Y9 Tryz.func58 rfl We0⟩) (fun u u2=>V0 u2 b5 #[.i (x (gh u 0))] 2/\u.grownBy u2 (some b5)) (fun w1 V4 u F' hg=>.inr ⟨58,_,Y9 Tryz.func58 rfl We0,?_⟩);exact @C.mono _ (y4 Tryz.prog K.M3 K.ptr K.num) _ _ _ _ _ (@Rk0 (y4 Tryz.prog K.M3 K.ptr K.num) b2 b5 cb obj num _ _ _ u (Goes.Z9 hg (u6.E0 V4) (Nat.zero_lt_succ _) hF2).1 (Goes.Z9 hg (D3.E0 V4) (Nat.zero_lt_succ _) hF5).1 (hgo u F' (Goes.down (N0 hb V4) hg))) fun v w' h=>h.2
 refine L.T3 rfl (o6 rfl rfl rfl rfl rfl Tryz.func56 rfl jf0 rfl) B9 ?_ ?_ (fun _ h=>h)
 ·rintro v u ⟨rfl,u0,F',hg,⟨ll0,o3⟩,ht⟩;refine U256 ?_;intro h5 hgn;obtain⟨tt,htt⟩:∃tt,gh u0 0=tt:=⟨_,rfl⟩
  rw[htt]at ll0;have htt:Bw0 u tt:=⟨(l4 ht 0).trans htt⟩
  have D3:=ll0;clear hb ll0 u6 hC B9;rename_i wL;clear hW;refine U37 ?_;refine L.va (F0 rfl Tryz.underlying2 rfl (D3.A0 0 (v:=.i (x tt)) rfl)) ?_;exact U301
 ·rintro ch u ⟨J6,hh⟩;exact⟨J6,hh.at m9.os m9.output⟩
set_option maxHeartbeats 400000 in
theorem Lc0 {K:K8 Tryz.prog} (hK:KOk K) {R4:K.L} {m:Gm} {F:Nat->Prop} (cb wb:Nat) (obj num:Int) (x:Int) (x2:Int) (w0:World) (hT:K.Told w0 m F (.inl R4)) (S2:K.stp R4=⟨9,obj,num⟩) (hrd:∀s,K.rdy R4 s=true) (hW:V0 w0 wb #[.bool false] 105) (hC:V0 w0 cb #[.i obj,.i num,.p wb,.i x2] 115) (hgo:∀u F',K.Goes w0 m F R4 u F'->∃x2,V0 u cb #[.i obj,.i num,.p wb,.i x2] 115) :
  @Calls Tryz.prog (K0 K) 21 #[.p cb,.p K.ptr,.i x] w0 (G3 K w0 fun v u=>v= .tuple #[]/\∃u0 F',Gn K w0 m F R4 u0 F'/\V0 u cb #[.i obj,.i num,.p wb,.i x] 115/\u0.grownBy u (some cb)):=by
 letI:Ctx Tryz.prog:=K0 K;refine Calls.T5 (n:=26) Tryz.func21 rfl rfl ?_;refine U4 ?_;intro hb;refine L.box (cs:=#[.p cb]) rfl rfl (fun w b3 F3=>?_);refine U86 ?_;intro lt3 hb;have hW:=hW.E0 F3.below;have hC:=hC.E0 F3.below;have S9:=F3.blk;refine L.box (cs:=#[.i x]) rfl rfl (fun w b5 F5=>?_);refine U12 ?_;intro O8 hb;refine U85 ?_;intro hW hC;have S9:=S9.E0 F5.below;have D3:=F5.blk;refine U89 ?_;refine L.va (F0 rfl Tryz.underlying69 rfl (S9.A0 0 (v:=.p cb) rfl)) ?_;refine L.va (L3 rfl rfl Tryz.underlying69) ?_;refine U8 ?_;refine U472 ?_;refine U545 ?_;rintro _ w1 ⟨rfl,hw⟩;refine U28 ?_;refine U311 ?_;refine U472 ?_;refine U396 ?_;refine L.va (m3 rfl) ?_;refine L.va (S3 (l:=[.tmp 5,.tmp 3]) (vs:=[.p b5,.p b3]) rfl) ?_;have m9:=hb;have hF5:¬F b5:=fun z=>by have:=hK.tlt hT z;omega
 have hF3:¬F b3:=fun z=>by have:=hK.tlt hT z;omega
 have B9:@Calls Tryz.prog (K0 K) 56 #[.agg #[.i obj,.i num],.p K.ptr,.i 9,.nilFunc,.func (.func 57) #[] #[.p b5,.p b3]] w (G3 K w fun v u=>v= .tuple #[]/\∃u0 F',K.Goes w m F R4 u0 F'/\(V0 u cb #[.i obj,.i num,.p wb,.i x] 115/\u0.grownBy u (some cb))/\u.tape=u0.tape):=by
  refine v8 hK w (hK.E0 hT hb) S2 (fun w1 V4=>.inl ⟨rfl,hrd⟩) ⟨0,#[],.inl rfl⟩ (.inr ⟨57,_,Y9 Tryz.func57 rfl Wd0⟩) (fun u u2=>V0 u2 cb #[.i obj,.i num,.p wb,.i x] 115/\u.grownBy u2 (some cb)) (fun w1 V4 u F' hg=>.inr ⟨57,_,Y9 Tryz.func57 rfl Wd0,?_⟩);obtain⟨y0,hCu⟩:=hgo u F' (Goes.down (N0 hb V4) hg);exact @C.mono _ (y4 Tryz.prog K.M3 K.ptr K.num) _ _ _ _ _ (@Rl0 (y4 Tryz.prog K.M3 K.ptr K.num) b5 b3 cb obj num _ x _ u (Goes.Z9 hg (D3.E0 V4) (Nat.zero_lt_succ _) hF5).1 (Goes.Z9 hg (S9.E0 V4) (Nat.zero_lt_succ _) hF3).1 hCu) fun v w' h=>h.2
 refine L.T3 rfl (o6 rfl rfl rfl rfl rfl Tryz.func56 rfl jf0 rfl) B9 ?_ ?_ (fun _ h=>h)
 ·rintro v u ⟨rfl,u0,F',hg,⟨hCn,o3⟩,ht⟩;have G8:=Goes.down m9 hg;rename_i wL;refine U182 ?_;refine U67 ?_;exact⟨rfl,u0,F',⟨hK,G8⟩,hCn,o3⟩
 ·rintro ch u ⟨J6,hh⟩;exact⟨J6,hh.at m9.os m9.output⟩
end Go.Vy.Sc
end
section
namespace Go.Vy
open Go Go.Yc Go.RowKit
open Go.Vc
section
variable {P:Program}{ρ:Operand->Value}{w:World}{d:Option Nat}{ty:TypeId}{ps:String}{af:Array Edge}{g:Option (Nat×Bool)}
theorem lm0 {S:Sem Next} {r:Out} (h:∀x,S.run P x=r.res x) (he:∀x,S.events P x #[]=#[]):Does P S w r w :=
 ⟨rfl,rfl,fun τ d ρ x hs=>⟨V8.refl _,x,#[],by rw[Sem.runT_eq,h,he],hs,fun e he=>by simp at he⟩⟩
theorem v9 {T:TypeId} {r x0:Operand} {v v0:Value} {name:String} {aT:Array TypeId} {F:FuncId} {fn:Func} (hx:ρ r= .iface T v) (h0:ρ x0=v0) (hm:∀recv w,(Go.method (P.types.size+Made.depth) T recv name).run P w= .ok (F,recv) w) (hme:∀recv w,(Go.method (P.types.size+Made.depth) T recv name).events P w #[]=#[]) (hf:P.funcs[F]? =some fn) (hb:fn.body.isSome=true) (hn:(fn.name== "runtime.NumGoroutine")=false) :
  Does P (execOp ρ ⟨d,.call ⟨.invoke r name,#[x0],aT⟩,ty,ps,af,g⟩) w (.enter F #[v,v0]) w:=by
 have n7:fn.body.isNone=false:=by cases h:fn.body <;> simp_all
 have hn':fn.name≠ "runtime.NumGoroutine":=by simpa using hn
 have hb2:fn.body≠none:=by intro h;rw[h]at hb;cases hb
 refine lm0 (fun x=>?_) fun x=>?_
 ·have hm':Sem.run P (Go.method (P.types.size+100) T v name) x= .ok (F,v) x:=hm v x;show _=Result.ok (Next.enter F #[v,v0]) x;simp[execOp,resolve,hx,h0,invoke,callMethod,go_sem,hm',callFunc,hf,hn',hb2]
 ·have hm':Sem.run P (Go.method (P.types.size+100) T v name) x= .ok (F,v) x:=hm v x;have da1:Sem.events P (Go.method (P.types.size+100) T v name) x #[]=#[]:=hme v x;simp[execOp,resolve,hx,h0,invoke,callMethod,go_sem,hm',da1,callFunc,hf,hn',hb2]
end
end Go.Vy
end
section
namespace Go.Vy.Sc
open Go Go.Conc Go.Yc Go.RowKit Go.Proofs Go.Proofs.YtnifpkopeheodaaGreat Try
open Go.Vc Go.Wg
theorem Rn0 [Ctx Tryz.prog] (b0 b1 cb:Nat) (obj num:Int) (q:Value) (x x2:Int) (sa:Value) (w0:World) (Q5:V0 w0 b0 #[.pointer (some ⟨cb,0,none⟩)] 67) (hB1:V0 w0 b1 #[.int .i64 x2] 2) (hC:V0 w0 cb #[.int .i64 obj,.int .i64 num,q,.int .i64 x,sa] 132) :
  C Tryz.prog 64 #[.pointer (some ⟨b0,0,none⟩),.pointer (some ⟨b1,0,none⟩)] w0 fun v w=>v= .tuple #[]/\V0 w b1 #[.int .i64 x] 2/\w0.grownBy w (some b1):=by
 refine C.enter (n:=6) Tryz.func64 rfl rfl ?_;refine U435 ?_;refine U488 ?_;refine U511 ?_;intro w B1 hg n2;exact U219
set_option maxHeartbeats 400000 in
theorem Ld0 {K:K8 Tryz.prog} (hK:KOk K) {R4:K.L} {m:Gm} {F:Nat->Prop} (cb wb:Nat) (obj num:Int) (x:Nat->Int) (x2:Int) (sa:Value) (w0:World) (hT:K.Told w0 m F (.inl R4)) (S2:K.stp R4=⟨5,obj,num⟩) (hrd:∀s,K.rdy R4 s=true) (hW:V0 w0 wb #[.bool false] 105) (hC:V0 w0 cb #[.int .i64 obj,.int .i64 num,.pointer (some ⟨wb,0,none⟩),.int .i64 x2,sa] 132) (hgo:∀u F',K.Goes w0 m F R4 u F'->∃sa,V0 u cb #[.int .i64 obj,.int .i64 num,.pointer (some ⟨wb,0,none⟩),.int .i64 (x (gh u 0)),sa] 132) :
  @Calls Tryz.prog (K0 K) 29 #[.pointer (some ⟨cb,0,none⟩),.pointer (some ⟨K.ptr,0,none⟩)] w0 (G3 K w0 fun v u=>∃F' tt,Gn K w0 m F R4 u F'/\Bw0 u tt/\v= .int .i64 (x tt)):=by
 letI:Ctx Tryz.prog:=K0 K;refine Calls.T5 (n:=28) Tryz.func29 rfl rfl ?_;refine U280 ?_;intro hb w b2 F2;refine U11 ?_;intro lt2 hb;have hW:=hW.E0 F2.below;refine U55 ?_;intro hC u6;refine U48 ?_;refine U194 ?_;intro w b5 F5 O8 hb;refine U85 ?_;intro hW hC;refine U95 ?_;intro u6 D3;refine U33 ?_;refine L.va (F0 rfl Tryz.underlying67 rfl (u6.A0 0 (v:=.pointer (some ⟨cb,0,none⟩)) rfl)) ?_;refine L.va (L3 rfl rfl Tryz.underlying67) ?_;refine U207 ?_;refine U3 ?_;refine U424 ?_;refine U541 ?_;rintro _ w1 ⟨rfl,hw⟩;refine U136 ?_;refine U424 ?_;refine L.va (O0 rfl Tryz.underlying132 rfl fw0 (by decide)) ?_;refine U247 ?_;have m9:=hb;refine U273 ?_;intro hF5 hF2;have B9:@Calls Tryz.prog (K0 K) 56 #[.agg #[.int .i64 obj,.int .i64 num],.pointer (some ⟨K.ptr,0,none⟩),.int .i64 5,.nilFunc,.func (.func 64) #[] #[.pointer (some ⟨b2,0,none⟩),.pointer (some ⟨b5,0,none⟩)]] w (G3 K w fun v u=>v= .tuple #[]/\∃u0 F',K.Goes w m F R4 u0 F'/\(V0 u b5 #[.int .i64 (x (gh u0 0))] 2/\u0.grownBy u (some b5))/\u.tape=u0.tape):=by
  refine v8 hK w (hK.E0 hT hb) S2 (fun w1 V4=>.inl ⟨rfl,hrd⟩) ⟨0,#[],.inl rfl⟩ (.inr ⟨64,_,Y9 Tryz.func64 rfl Wh0⟩) (fun u u2=>V0 u2 b5 #[.int .i64 (x (gh u 0))] 2/\u.grownBy u2 (some b5)) (fun w1 V4 u F' hg=>.inr ⟨64,_,Y9 Tryz.func64 rfl Wh0,?_⟩);obtain⟨y0,hCu⟩:=hgo u F' (Goes.down (N0 hb V4) hg);exact @C.mono _ (y4 Tryz.prog K.M3 K.ptr K.num) _ _ _ _ _ (@Rn0 (y4 Tryz.prog K.M3 K.ptr K.num) b2 b5 cb obj num _ _ _ _ u (Goes.Z9 hg (u6.E0 V4) (Nat.zero_lt_succ _) hF2).1 (Goes.Z9 hg (D3.E0 V4) (Nat.zero_lt_succ _) hF5).1 hCu) fun v w' h=>h.2
 refine L.T3 rfl (o6 rfl rfl rfl rfl rfl Tryz.func56 rfl jf0 rfl) B9 ?_ ?_ (fun _ h=>h)
 ·rintro v u ⟨rfl,u0,F',hg,⟨ll0,o3⟩,ht⟩;refine U256 ?_;intro h5 hgn;obtain⟨tt,htt⟩:∃tt,gh u0 0=tt:=⟨_,rfl⟩
  rw[htt]at ll0;have htt:Bw0 u tt:=⟨(l4 ht 0).trans htt⟩
  clear hb u6 hC B9 D3;have D3:=ll0;clear ll0;rename_i wL;clear hW;refine U483 ?_;exact U301
 ·rintro ch u ⟨J6,hh⟩;exact⟨J6,hh.at m9.os m9.output⟩
theorem Ro0 [Ctx Tryz.prog] (b0 b1 cb:Nat) (obj num:Int) (q:Value) (x x2:Int) (sa:Value) (w0:World) (Q5:V0 w0 b0 #[.pointer (some ⟨cb,0,none⟩)] 67) (hB1:V0 w0 b1 #[.int .i64 x] 2) (hC:V0 w0 cb #[.int .i64 obj,.int .i64 num,q,.int .i64 x2,sa] 132) :
  C Tryz.prog 62 #[.pointer (some ⟨b1,0,none⟩),.pointer (some ⟨b0,0,none⟩)] w0 fun v w=>v= .tuple #[]/\V0 w cb #[.int .i64 obj,.int .i64 num,q,.int .i64 x,sa] 132/\w0.grownBy w (some cb):=by
 refine C.enter (n:=6) Tryz.func62 rfl rfl ?_;refine U435 ?_;refine L.va (F0 rfl Tryz.underlying2 rfl (hB1.A0 0 (v:=.int .i64 x) rfl)) ?_;refine U488 ?_;refine L.pu 3 [.int .i64 x] #[.int .i64 obj,.int .i64 num,q,.int .i64 x,sa] sz2 hC (fun w B1 hg n2=>?_);have G5:=e8.el0 hC hg;have hC:=B1;exact U313
set_option maxHeartbeats 400000 in
theorem Le0 {K:K8 Tryz.prog} (hK:KOk K) {R4:K.L} {m:Gm} {F:Nat->Prop} (cb wb:Nat) (obj num:Int) (x:Int) (x2:Int) (sa:Value) (w0:World) (hT:K.Told w0 m F (.inl R4)) (S2:K.stp R4=⟨6,obj,num⟩) (hrd:∀s,K.rdy R4 s=true) (hW:V0 w0 wb #[.bool false] 105) (hC:V0 w0 cb #[.int .i64 obj,.int .i64 num,.pointer (some ⟨wb,0,none⟩),.int .i64 x2,sa] 132) (hgo:∀u F',K.Goes w0 m F R4 u F'->∃x2 sa,V0 u cb #[.int .i64 obj,.int .i64 num,.pointer (some ⟨wb,0,none⟩),.int .i64 x2,sa] 132) :
  @Calls Tryz.prog (K0 K) 26 #[.pointer (some ⟨cb,0,none⟩),.pointer (some ⟨K.ptr,0,none⟩),.int .i64 x] w0 (G3 K w0 fun v u=>v= .tuple #[]/\∃u0 F',Gn K w0 m F R4 u0 F'/\(∃sa,V0 u cb #[.int .i64 obj,.int .i64 num,.pointer (some ⟨wb,0,none⟩),.int .i64 x,sa] 132)/\u0.grownBy u (some cb)/\u.tape=u0.tape):=by
 letI:Ctx Tryz.prog:=K0 K;refine Calls.T5 (n:=26) Tryz.func26 rfl rfl ?_;refine U4 ?_;intro hb;refine L.box (cs:=#[.pointer (some ⟨cb,0,none⟩)]) rfl rfl (fun w b3 F3=>?_);refine U86 ?_;intro lt3 hb;have hW:=hW.E0 F3.below;have hC:=hC.E0 F3.below;refine U112 ?_;intro S9 w b5 F5;refine U12 ?_;intro O8 hb;refine U85 ?_;intro hW hC;have S9:=S9.E0 F5.below;have D3:=F5.blk;refine U89 ?_;refine L.va (F0 rfl Tryz.underlying67 rfl (S9.A0 0 (v:=.pointer (some ⟨cb,0,none⟩)) rfl)) ?_;refine L.va (L3 rfl rfl Tryz.underlying67) ?_;refine U8 ?_;refine U425 ?_;refine U541 ?_;rintro _ w1 ⟨rfl,hw⟩;refine U28 ?_;refine U311 ?_;refine U425 ?_;refine L.va (O0 rfl Tryz.underlying132 rfl fw0 (by decide)) ?_;refine U428 ?_;have m9:=hb;have hF5:¬F b5:=fun z=>by have:=hK.tlt hT z;omega
 have hF3:¬F b3:=fun z=>by have:=hK.tlt hT z;omega
 have B9:@Calls Tryz.prog (K0 K) 56 #[.agg #[.int .i64 obj,.int .i64 num],.pointer (some ⟨K.ptr,0,none⟩),.int .i64 6,.nilFunc,.func (.func 62) #[] #[.pointer (some ⟨b5,0,none⟩),.pointer (some ⟨b3,0,none⟩)]] w (G3 K w fun v u=>v= .tuple #[]/\∃u0 F',K.Goes w m F R4 u0 F'/\((∃sa,V0 u cb #[.int .i64 obj,.int .i64 num,.pointer (some ⟨wb,0,none⟩),.int .i64 x,sa] 132)/\u0.grownBy u (some cb))/\u.tape=u0.tape):=by
  refine v8 hK w (hK.E0 hT hb) S2 (fun w1 V4=>.inl ⟨rfl,hrd⟩) ⟨0,#[],.inl rfl⟩ (.inr ⟨62,_,Y9 Tryz.func62 rfl Wg0⟩) (fun u u2=>(∃sa,V0 u2 cb #[.int .i64 obj,.int .i64 num,.pointer (some ⟨wb,0,none⟩),.int .i64 x,sa] 132)/\u.grownBy u2 (some cb)) (fun w1 V4 u F' hg=>.inr ⟨62,_,Y9 Tryz.func62 rfl Wg0,?_⟩);obtain⟨y,y0,hCu⟩:=hgo u F' (Goes.down (N0 hb V4) hg);exact @C.mono _ (y4 Tryz.prog K.M3 K.ptr K.num) _ _ _ _ _ (@Ro0 (y4 Tryz.prog K.M3 K.ptr K.num) b3 b5 cb obj num _ _ _ _ u (Goes.Z9 hg (S9.E0 V4) (Nat.zero_lt_succ _) hF3).1 (Goes.Z9 hg (D3.E0 V4) (Nat.zero_lt_succ _) hF5).1 hCu) fun v w' h=>⟨⟨_,h.2.1⟩,h.2.2⟩
 refine L.T3 rfl (o6 rfl rfl rfl rfl rfl Tryz.func56 rfl jf0 rfl) B9 ?_ ?_ (fun _ h=>h)
 ·rintro v u ⟨rfl,u0,F',hg,⟨hCn,o3⟩,ht⟩;have G8:=Goes.down m9 hg;rename_i wL;refine U182 ?_;refine U67 ?_;exact⟨rfl,u0,F',⟨hK,G8⟩,hCn,o3,ht⟩
 ·rintro ch u ⟨J6,hh⟩;exact⟨J6,hh.at m9.os m9.output⟩
theorem Rp0 [Ctx Tryz.prog] (b0 b1 cb:Nat) (obj num:Int) (q:Value) (x x2:Int) (sa:Value) (w0:World) (Q5:V0 w0 b0 #[.pointer (some ⟨cb,0,none⟩)] 65) (hB1:V0 w0 b1 #[.int .i64 x2] 2) (hC:V0 w0 cb #[.int .i64 obj,.int .i64 num,q,.int .i64 x,sa] 123) :
  C Tryz.prog 72 #[.pointer (some ⟨b0,0,none⟩),.pointer (some ⟨b1,0,none⟩)] w0 fun v w=>v= .tuple #[]/\V0 w b1 #[.int .i64 x] 2/\w0.grownBy w (some b1):=by
 refine C.enter (n:=6) Tryz.func72 rfl rfl ?_;refine W.region rfl ?_;refine U550 ?_;refine U511 ?_;intro w B1 hg n2;exact U219
set_option maxHeartbeats 400000 in
theorem Lf0 {K:K8 Tryz.prog} (hK:KOk K) {R4:K.L} {m:Gm} {F:Nat->Prop} (cb wb:Nat) (obj num:Int) (x:Nat->Int) (x2:Int) (sa:Value) (w0:World) (hT:K.Told w0 m F (.inl R4)) (S2:K.stp R4=⟨5,obj,num⟩) (hrd:∀s,K.rdy R4 s=true) (hW:V0 w0 wb #[.bool false] 105) (hC:V0 w0 cb #[.int .i64 obj,.int .i64 num,.pointer (some ⟨wb,0,none⟩),.int .i64 x2,sa] 123) (hgo:∀u F',K.Goes w0 m F R4 u F'->∃sa,V0 u cb #[.int .i64 obj,.int .i64 num,.pointer (some ⟨wb,0,none⟩),.int .i64 (x (gh u 0)),sa] 123) :
  @Calls Tryz.prog (K0 K) 34 #[.pointer (some ⟨cb,0,none⟩),.pointer (some ⟨K.ptr,0,none⟩)] w0 (G3 K w0 fun v u=>∃F' tt,Gn K w0 m F R4 u F'/\Bw0 u tt/\v= .int .i64 (x tt)):=by
 letI:Ctx Tryz.prog:=K0 K;refine Calls.T5 (n:=25) Tryz.func34 rfl rfl ?_;refine U280 ?_;intro hb w b2 F2;refine U11 ?_;intro lt2 hb;have hW:=hW.E0 F2.below;refine U55 ?_;intro hC u6;refine U131 ?_;refine L.va (F0 rfl Tryz.underlying65 rfl (u6.A0 0 (v:=.pointer (some ⟨cb,0,none⟩)) rfl)) ?_;refine U573 ?_;refine U3 ?_;refine U426 ?_;refine U540 ?_;rintro _ w1 ⟨rfl,hw⟩;refine U136 ?_;refine U194 ?_;intro w b5 F5 O8 hb;refine U85 ?_;intro hW hC;refine U95 ?_;intro u6 D3;refine L.pu 0 [.int .i64 0] #[.int .i64 0] sz2 D3 (fun w B1 hg n2=>?_);have G5:=e8.el0 D3 hg;have hb:=K4 hb hb.size hg O8;have hW:=hW.mod G5 rfl;have hC:=hC.mod G5 rfl;have u6:=u6.mod G5 rfl;have D3:=B1;refine U58 ?_;refine U426 ?_;refine L.va (O0 rfl Tryz.underlying123 rfl fw0 (by decide)) ?_;refine U247 ?_;have m9:=hb;refine U273 ?_;intro hF5 hF2;have B9:@Calls Tryz.prog (K0 K) 56 #[.agg #[.int .i64 obj,.int .i64 num],.pointer (some ⟨K.ptr,0,none⟩),.int .i64 5,.nilFunc,.func (.func 72) #[] #[.pointer (some ⟨b2,0,none⟩),.pointer (some ⟨b5,0,none⟩)]] w (G3 K w fun v u=>v= .tuple #[]/\∃u0 F',K.Goes w m F R4 u0 F'/\(V0 u b5 #[.int .i64 (x (gh u0 0))] 2/\u0.grownBy u (some b5))/\u.tape=u0.tape):=by
  refine v8 hK w (hK.E0 hT hb) S2 (fun w1 V4=>.inl ⟨rfl,hrd⟩) ⟨0,#[],.inl rfl⟩ (.inr ⟨72,_,Y9 Tryz.func72 rfl Wj0⟩) (fun u u2=>V0 u2 b5 #[.int .i64 (x (gh u 0))] 2/\u.grownBy u2 (some b5)) (fun w1 V4 u F' hg=>.inr ⟨72,_,Y9 Tryz.func72 rfl Wj0,?_⟩);obtain⟨y0,hCu⟩:=hgo u F' (Goes.down (N0 hb V4) hg);exact @C.mono _ (y4 Tryz.prog K.M3 K.ptr K.num) _ _ _ _ _ (@Rp0 (y4 Tryz.prog K.M3 K.ptr K.num) b2 b5 cb obj num _ _ _ _ u (Goes.Z9 hg (u6.E0 V4) (Nat.zero_lt_succ _) hF2).1 (Goes.Z9 hg (D3.E0 V4) (Nat.zero_lt_succ _) hF5).1 hCu) fun v w' h=>h.2
 refine L.T3 rfl (o6 rfl rfl rfl rfl rfl Tryz.func56 rfl jf0 rfl) B9 ?_ ?_ (fun _ h=>h)
 ·rintro v u ⟨rfl,u0,F',hg,⟨ll0,o3⟩,ht⟩;refine U256 ?_;intro h5 hgn;obtain⟨tt,htt⟩:∃tt,gh u0 0=tt:=⟨_,rfl⟩
  rw[htt]at ll0;have htt:Bw0 u tt:=⟨(l4 ht 0).trans htt⟩
  clear hb u6 hC B9 D3;have D3:=ll0;clear ll0;rename_i wL;clear hW;refine U483 ?_;exact U301
 ·rintro ch u ⟨J6,hh⟩;exact⟨J6,hh.at m9.os m9.output⟩
end Go.Vy.Sc
end
section
namespace Go.Vc
open Go Go.RowKit
theorem V0.K5 {w w':World} {b k:Nat} {cs:Array Value} {T:TypeId} (h:V0 w k cs T) (hg:w.grownBy w' (some b)) (hk:k≠b):V0 w' k cs T:=V0.other h hg hk
end Go.Vc
namespace Go.Vy
open Go Go.Conc Go.Yc Go.RowKit
open Go.Vc
theorem ge0 {fn:Func} {p u v:Tmp} {ty:TypeId} (h:fn.results=#[.cell p ty,.tmp u,.tmp v]) (tmps:Array Value) (P:Program) (w:World) :
  (results fn tmps).run P w=((do let a <- asAddr (tmps.getD p undef);let x <- loadVar ty a;pure (.tuple #[x,tmps.getD u undef,tmps.getD v undef])):Sem Value).run P w:=by
 simp[results,h]
theorem xt0 {P:Program} {w:World} {b:Nat} {cs:Array Value} {T E:TypeId} {d:TypeDesc} (hT:P.underlying T=some d) (hu:H9 d=false) (hs:(P.info? T).map (·.size)=some cs.size) (hB:V0 w b cs E):(loadVar T ⟨b,0,Option.none⟩).run P w= .ok (.agg cs) w:=by
 have h2:∀j v,cs.toList[j]? =some v->w.cell? ((⟨b,0,Option.none⟩:Addr).add j)=some v:=fun j v hj=>by
  rw[Addr.add_lit,Nat.zero_add];exact hB.cell (by simpa using hj)
 have:=run_loadCells_list (P:=P) (w:=w) ⟨b,0,Option.none⟩ cs.toList h2;simp only[Array.length_toList]at this;simp[loadVar,Go.Vc.r9 hT,hu,Go.Vc.run_sizeOf hs,this]
theorem ends.Gs0 {P:Program} [Ctx P] {fn:Func} {R:Value->World->Prop} {x:Exit} {e:Env} {w:World} {t u v b:Nat} {cs:Array Value} {T E:TypeId} {d:TypeDesc} (hx:x= .normal\/x= .ret) (hr:fn.results=#[.cell t T,.tmp u,.tmp v])
  (he:e t= .pointer (some ⟨b,0,Option.none⟩)) (hT:P.underlying T=some d) (hu:H9 d=false) (hs:(P.info? T).map (·.size)=some cs.size) (hB:V0 w b cs E) (h:R (.tuple #[.agg cs,e u,e v]) w):ends P fn R x e w :=
 ⟨hx,_,fun tmps ht=>fp0 fq0 fun τ d'=>by
  have hB:V0 (j3 w τ d') b cs E:=hB;generalize j3 w τ d'=w at hB⊢;have h3:tmps.getD t undef= .pointer (some ⟨b,0,Option.none⟩):=by rw[ht,he]
  rw[ge0 hr,h3];simp[asAddr,xt0 hT hu hs hB,ht],h⟩
theorem A2 {P:Program} {S:Sem Next} {w:World} {p:Prop} [Decidable p] {r:Bool} (h:decide p=r) (hd:Does P S w (.val (.bool (decide p))) w):Does P S w (.val (.bool r)) w:=h▸hd
theorem Own.Yj0 {w:World} {B s n c b:Nat} {E T:TypeId} {a:Option Addr} {xs:List Value} {cs:Array Value} {f:Nat×Nat} (h:Own w B E s a n c xs) (hb:O1 w b cs T f) (r3:E≠T):a≠none->ab a≠b:=fun ha=>by
 obtain⟨cur,hc,_⟩:=h.row ha;have hc:O1 w (ab a) cur E (0,0):=hc;exact hc.ne hb r3
end Go.Vy
end
section
namespace Go.Vy.Sc
open Go Go.Conc Go.Yc Go.RowKit Go.Proofs Go.Proofs.YtnifpkopeheodaaGreat Try
open Go.Vc Go.Wg
theorem Rq0 {P:Program} {ρ:Operand->Value} {w:World} {d:Option Nat} {ty:TypeId} {ps:String} {af:Array Edge} {g:Option (Nat×Bool)} {x y:Operand} {m k:Int} {aT:Array TypeId} (hx:ρ x= .int .i64 m) (hy:ρ y= .int .i64 k):Does P (execOp ρ ⟨d,.call ⟨.builtin .max,#[x,y],aT⟩,ty,ps,af,g⟩) w (.val (.int .i64 (max m k))) w :=
 lm0 (fun x=>Go.Vc.Ul0 hx hy) fun x=>by simp[execOp,resolve,invoke,builtin,hx,hy,Builtin.max_,Builtin.max2]
structure o9 (w w':World) (x y:Nat):Prop where
 os:w'.os=w.os
 output:w'.output=w.output
 tape:w'.tape=w.tape
 size:w.heap.size <=w'.heap.size
 block:∀b,b<w.heap.size->b≠x->b≠y->w'.heap[b]? =w.heap[b]?
theorem o9.refl (w:World) (x y:Nat):o9 w w x y:=⟨rfl,rfl,rfl,Nat.le_refl _,fun _ _ _ _=>rfl⟩
theorem o9.step {w w1 w2:World} {x y b:Nat} (h:o9 w w1 x y) (hb:b=x\/b=y) (hg:w1.grownBy w2 (some b)):o9 w w2 x y :=
 ⟨hg.os.trans h.os,hg.output.trans h.output,hg.tape.trans h.tape,Nat.le_trans h.size hg.size,fun k hk h1 h2=>(hg.block k (Nat.lt_of_lt_of_le hk h.size) fun e=>by cases e;rcases hb with e|e;exact h1 e;exact h2 e).trans (h.block k hk h1 h2)⟩
theorem o9.P5 {w w1 w2:World} {x y:Nat} (h:o9 w w1 x y) (hb:Below w1.heap.size w1 w2):o9 w w2 x y :=
 ⟨hb.os.trans h.os,hb.output.trans h.output,hb.tape.trans h.tape,Nat.le_trans h.size hb.size,fun k hk h1 h2=>(hb.block k (Nat.lt_of_lt_of_le hk h.size)).trans (h.block k hk h1 h2)⟩
theorem Rr0 [Ctx Tryz.prog] (b0 b1 b2 cb:Nat) (obj num:Int) (q sa:Value) (x d y:Int) (w0:World) (Q5:V0 w0 b0 #[.pointer (some ⟨cb,0,none⟩)] 65) (hB1:V0 w0 b1 #[.int .i64 d] 2) (u6:V0 w0 b2 #[.int .i64 y] 2) (r3:b2≠b1) (hC:V0 w0 cb #[.int .i64 obj,.int .i64 num,q,.int .i64 x,sa] 123) :
  C Tryz.prog 60 #[.pointer (some ⟨b0,0,none⟩),.pointer (some ⟨b1,0,none⟩),.pointer (some ⟨b2,0,none⟩)] w0 fun v w=>v= .tuple #[]/\V0 w b2 #[.int .i64 (IntKind.i64.wrap (x+d))] 2/\V0 w cb #[.int .i64 obj,.int .i64 num,q,.int .i64 (IntKind.i64.wrap (x+d)),sa] 123/\o9 w0 w cb b2:=by
 refine C.enter (n:=15) Tryz.func60 rfl rfl ?_;have hm2:o9 w0 w0 cb b2:=o9.refl _ _ _;generalize w0=w at *;refine W.seq ?_;refine W.fr0 8 (fun w'=>Below w.heap.size w w') (by kernel_rfl) (by kernel_rfl) (by kernel_rfl) (by kernel_rfl) ((Below.refl w.heap.size w).drew) ?_;refine D.va (fun w' u3=>(F0 rfl Tryz.underlying65 rfl ((Q5.E0 u3).A0 0 (v:=.pointer (some ⟨cb,0,none⟩)) rfl))) ?_;refine U436 ?_;refine D.va (fun w' u3=>(F0 rfl Tryz.underlying2 rfl ((hC.E0 u3).A0 3 (v:=.int .i64 x) rfl))) ?_;refine D.va (fun w' u3=>(F0 rfl Tryz.underlying2 rfl ((hB1.E0 u3).A0 0 (v:=.int .i64 d) rfl))) ?_;refine D.va (fun w' u3=>(km0 (κ:=.i64) rfl rfl)) ?_;refine U436 ?_;refine D.nil (fun w I1=>?_);have hm2:=hm2.P5 I1;have hC:=hC.E0 I1;have Q5:=Q5.E0 I1;have hB1:=hB1.E0 I1;have u6:=u6.E0 I1;clear I1;refine L.pu 3 [.int .i64 (IntKind.i64.wrap (x+d))] #[.int .i64 obj,.int .i64 num,q,.int .i64 (IntKind.i64.wrap (x+d)),sa] sz2 hC (fun w B1 hg n2=>?_);have hm2:=hm2.step (.inl rfl) hg;have G5:=e8.el0 hC hg;have Q5:=Q5.mod G5 rfl;have hB1:=hB1.mod G5 rfl;have u6:=u6.mod G5 rfl;have hC:=B1;clear G5;refine U82 ?_;refine U550 ?_;refine L.va (F0 rfl Tryz.underlying2 rfl (hC.A0 3 (v:=.int .i64 (IntKind.i64.wrap (x+d))) rfl)) ?_;refine L.pu 0 [.int .i64 (IntKind.i64.wrap (x+d))] #[.int .i64 (IntKind.i64.wrap (x+d))] sz2 u6 (fun w B1 hg n2=>?_);have hm2:=hm2.step (.inr rfl) hg;have G5:=e8.el0 u6 hg;have hC:=hC.mod G5 rfl;have hB1:=hB1.K5 hg r3.symm;have u6:=B1;refine U193 ?_;exact⟨rfl,u6,hC,hm2⟩
theorem Yk0 [Ctx Tryz.prog] (b0:Nat) (sb:Nat) (obj num:Int) (h:Bool) (r:Int) (w0:World) (Q5:V0 w0 b0 #[.pointer (some ⟨sb,0,none⟩)] 193) (hC:V0 w0 sb #[.int .i64 obj,.int .i64 num,.bool h,.int .i64 r] 195) :
  C Tryz.prog 167 #[.pointer (some ⟨b0,0,none⟩)] w0 fun v w=>v= .tuple #[]/\V0 w sb #[.int .i64 obj,.int .i64 num,.bool true,.int .i64 r] 195/\w0.grownBy w (some sb):=by
 refine C.enter (n:=4) Tryz.func167 rfl rfl ?_;have o3:=ad0 w0 (some sb);refine W.region rfl ?_;refine U184 ?_;refine L.pu 2 [.bool true] #[.int .i64 obj,.int .i64 num,.bool true,.int .i64 r] sz4 hC (fun w B1 hg n2=>?_);refine U123 ?_;intro G5 o3;have hC:=B1;exact U206
theorem Lg0 [Ctx Tryz.prog] (b0:Nat) (sb:Nat) (obj num:Int) (h:Bool) (r:Int) (w0:World) (Q5:V0 w0 b0 #[.pointer (some ⟨sb,0,none⟩)] 193) (hC:V0 w0 sb #[.int .i64 obj,.int .i64 num,.bool h,.int .i64 r] 195) :
  C Tryz.prog 171 #[.pointer (some ⟨b0,0,none⟩)] w0 fun v w=>v= .tuple #[]/\V0 w sb #[.int .i64 obj,.int .i64 num,.bool false,.int .i64 r] 195/\w0.grownBy w (some sb):=by
 refine C.enter (n:=4) Tryz.func171 rfl rfl ?_;have o3:=ad0 w0 (some sb);refine W.region rfl ?_;refine U184 ?_;refine L.pu 2 [.bool false] #[.int .i64 obj,.int .i64 num,.bool false,.int .i64 r] sz4 hC (fun w B1 hg n2=>?_);refine U123 ?_;intro G5 o3;have hC:=B1;exact U206
theorem Rs0 [Ctx Tryz.prog] (b0:Nat) (sb:Nat) (obj num:Int) (h:Bool) (r:Int) (w0:World) (Q5:V0 w0 b0 #[.pointer (some ⟨sb,0,none⟩)] 193) (hC:V0 w0 sb #[.int .i64 obj,.int .i64 num,.bool h,.int .i64 r] 195) :
  C Tryz.prog 169 #[.pointer (some ⟨b0,0,none⟩)] w0 fun v w=>v= .tuple #[]/\V0 w sb #[.int .i64 obj,.int .i64 num,.bool h,.int .i64 (IntKind.i64.wrap (r+1))] 195/\w0.grownBy w (some sb):=by
 refine C.enter (n:=8) Tryz.func169 rfl rfl ?_;have o3:=ad0 w0 (some sb);refine W.region rfl ?_;refine U331 ?_;refine L.va (O0 rfl Tryz.underlying195 rfl sz3 (by decide)) ?_;refine L.va (F0 rfl Tryz.underlying3 rfl (hC.A0 3 (v:=.int .i64 r) rfl)) ?_;refine L.va (km0 (κ:=.i64) rfl rfl) ?_;refine L.va (u1 rfl) ?_;refine L.va (O0 rfl Tryz.underlying195 rfl sz3 (by decide)) ?_;refine L.pu 3 [.int .i64 (IntKind.i64.wrap (r+1))] #[.int .i64 obj,.int .i64 num,.bool h,.int .i64 (IntKind.i64.wrap (r+1))] sz3 hC (fun w B1 hg n2=>?_);refine U123 ?_;intro G5 o3;have hC:=B1;exact U206
theorem Gt0 [Ctx Tryz.prog] (b0:Nat) (sb:Nat) (obj num:Int) (h:Bool) (r:Int) (w0:World) (Q5:V0 w0 b0 #[.pointer (some ⟨sb,0,none⟩)] 193) (hC:V0 w0 sb #[.int .i64 obj,.int .i64 num,.bool h,.int .i64 r] 195) :
  C Tryz.prog 170 #[.pointer (some ⟨b0,0,none⟩)] w0 fun v w=>v= .tuple #[]/\V0 w sb #[.int .i64 obj,.int .i64 num,.bool h,.int .i64 (max 0 (IntKind.i64.wrap (r-1)))] 195/\w0.grownBy w (some sb):=by
 refine C.enter (n:=10) Tryz.func170 rfl rfl ?_;have o3:=ad0 w0 (some sb);generalize w0=w at *;refine W.fr0 9 (fun w'=>Below w.heap.size w w') (by kernel_rfl) (by kernel_rfl) (by kernel_rfl) (by kernel_rfl) ((Below.refl w.heap.size w).drew) ?_;refine D.va (fun w' u3=>(F0 rfl Tryz.underlying193 rfl ((Q5.E0 u3).A0 0 (v:=.pointer (some ⟨sb,0,none⟩)) rfl))) ?_;refine D.va (fun w' u3=>(F0 rfl Tryz.underlying193 rfl ((Q5.E0 u3).A0 0 (v:=.pointer (some ⟨sb,0,none⟩)) rfl))) ?_;refine U437 ?_;refine D.va (fun w' u3=>(F0 rfl Tryz.underlying3 rfl ((hC.E0 u3).A0 3 (v:=.int .i64 r) rfl))) ?_;refine D.va (fun w' u3=>(zn0 (κ:=.i64) rfl rfl)) ?_;refine D.va (fun w' u3=>(Rq0 rfl rfl)) ?_;refine U437 ?_;refine D.nil (fun w I1=>?_);have o3:=fj0 o3 I1;have hC:=hC.E0 I1;clear I1;refine L.pu 3 [.int .i64 (max 0 (IntKind.i64.wrap (r-1)))] #[.int .i64 obj,.int .i64 num,.bool h,.int .i64 (max 0 (IntKind.i64.wrap (r-1)))] sz3 hC (fun w B1 hg n2=>?_);refine U123 ?_;intro G5 o3;have hC:=B1;exact U206
theorem Yl0 [Ctx Tryz.prog] (b0:Nat) (sb:Nat) (obj num:Int) (h:Bool) (r:Int) (w0:World) (Q5:V0 w0 b0 #[.pointer (some ⟨sb,0,none⟩)] 193) (hC:V0 w0 sb #[.int .i64 obj,.int .i64 num,.bool h,.int .i64 r] 195) :
  C Tryz.prog 166 #[.pointer (some ⟨b0,0,none⟩)] w0 fun v w=>v= .bool (!h&&decide (r=0))/\Below w0.heap.size w0 w:=by
 refine C.enter (n:=14) Tryz.func166 rfl rfl ?_;refine U4 ?_;intro hb;refine U66 ?_;refine U184 ?_;refine U481 ?_;refine L.va (ij0 rfl) ?_;refine L.po0 6 [7,8,9,10,11,12,13] 13 (.bool (!h&&decide (r=0))) (tj:=7) rfl (fun hb7=>?_) (fun hb7=>?_) (fun f=>?_)
 ·refine L.on rfl ?_;refine L.va (F0 rfl Tryz.underlying193 rfl (Q5.A0 0 (v:=.pointer (some ⟨sb,0,none⟩)) rfl)) ?_;refine L.on rfl ?_;refine U363 ?_;refine L.va (O0 rfl Tryz.underlying195 rfl sz3 (by decide)) ?_;refine L.on rfl ?_;refine L.va (F0 rfl Tryz.underlying3 rfl (hC.A0 3 (v:=.int .i64 r) rfl)) ?_;refine U253 ?_;refine U177 ?_;refine⟨rfl,congrArg Value.bool (by first|exact Mv0 hb7|rfl|(simp_all;done)|(rw[Bool.eq_iff_iff];simp_all;omega)),?_⟩;exact K1.upd rfl (K1.upd rfl (K1.upd rfl (K1.upd rfl (K1.upd rfl (K1.upd rfl (K1.upd rfl (K1.refl _ _)))))))
 ·refine L.off rfl ?_;refine U35 ?_;refine U144 ?_;refine L.nil ?_;refine⟨rfl,congrArg Value.bool (by first|exact Mu0 hb7|rfl|(simp_all;done)|(rw[Bool.eq_iff_iff];simp_all;omega)),?_⟩;exact K1.upd rfl (K1.upd rfl (K1.upd rfl (K1.upd rfl (K1.upd rfl (K1.upd rfl (K1.upd rfl (K1.refl _ _)))))))
 refine U63 ?_;exact⟨rfl,hb⟩
theorem Rt0 [Ctx Tryz.prog] (b0:Nat) (sb:Nat) (obj num:Int) (h:Bool) (r:Int) (w0:World) (Q5:V0 w0 b0 #[.pointer (some ⟨sb,0,none⟩)] 193) (hC:V0 w0 sb #[.int .i64 obj,.int .i64 num,.bool h,.int .i64 r] 195) :
  C Tryz.prog 168 #[.pointer (some ⟨b0,0,none⟩)] w0 fun v w=>v= .bool (!h)/\Below w0.heap.size w0 w:=by
 refine C.enter (n:=7) Tryz.func168 rfl rfl ?_;refine U4 ?_;intro hb;refine U66 ?_;refine U184 ?_;refine U481 ?_;refine U63 ?_;exact⟨rfl,hb⟩
theorem g5.Z9 {K:K8 Tryz.prog} {w0 u:World} {m:Gm} {F F':Nat->Prop} (h:K.g5 w0 m F u F') {b:Nat} {cs:Array Value} {T:TypeId} (hB:V0 w0 b cs T) (h0:0<cs.size) (hF:¬F b):V0 u b cs T/\¬F' b:=by
 have hB':O1 w0 b cs T (0,0):=m4 hB;have:=h.E0 b hB'.lt (cf0 hB' h0) hF;exact⟨this.1.trans hB',this.2⟩
theorem Aj0:∀(recv:Value) (w:World),(Go.method (Tryz.prog.types.size+Made.depth) 193 recv "docket/prim.lock").run Tryz.prog w= .ok (162,recv) w:=by intro recv w;kernel_rfl
theorem vs0:∀(recv:Value) (w:World),(Go.method (Tryz.prog.types.size+Made.depth) 193 recv "docket/prim.lock").events Tryz.prog w #[]=#[]:=by intro recv w;kernel_rfl
theorem rc0:∀(recv:Value) (w:World),(Go.method (Tryz.prog.types.size+Made.depth) 193 recv "docket/prim.unlock").run Tryz.prog w= .ok (165,recv) w:=by intro recv w;kernel_rfl
theorem ln0:∀(recv:Value) (w:World),(Go.method (Tryz.prog.types.size+Made.depth) 193 recv "docket/prim.unlock").events Tryz.prog w #[]=#[]:=by intro recv w;kernel_rfl
theorem Gu0:∀(recv:Value) (w:World),(Go.method (Tryz.prog.types.size+Made.depth) 193 recv "docket/prim.rlock").run Tryz.prog w= .ok (163,recv) w:=by intro recv w;kernel_rfl
theorem Bx0:∀(recv:Value) (w:World),(Go.method (Tryz.prog.types.size+Made.depth) 193 recv "docket/prim.rlock").events Tryz.prog w #[]=#[]:=by intro recv w;kernel_rfl
theorem xu0:∀(recv:Value) (w:World),(Go.method (Tryz.prog.types.size+Made.depth) 193 recv "docket/prim.runlock").run Tryz.prog w= .ok (164,recv) w:=by intro recv w;kernel_rfl
theorem vt0:∀(recv:Value) (w:World),(Go.method (Tryz.prog.types.size+Made.depth) 193 recv "docket/prim.runlock").events Tryz.prog w #[]=#[]:=by intro recv w;kernel_rfl
set_option maxHeartbeats 400000 in
theorem Lh0 {K:K8 Tryz.prog} (hK:KOk K) {R4:K.L} {m:Gm} {F:Nat->Prop} (cb wb:Nat) (obj num:Int) (x:Nat->Int) (x2 d:Int) (sa:Value) (w0:World) (hT:K.Told w0 m F (.inl R4)) (S2:K.stp R4=⟨7,obj,num⟩) (hrd:∀s,K.rdy R4 s=true) (hW:V0 w0 wb #[.bool false] 105) (hC:V0 w0 cb #[.int .i64 obj,.int .i64 num,.pointer (some ⟨wb,0,none⟩),.int .i64 x2,sa] 123) (hgo:∀u F',K.Goes w0 m F R4 u F'->∃sa,V0 u cb #[.int .i64 obj,.int .i64 num,.pointer (some ⟨wb,0,none⟩),.int .i64 (x (gh u 0)),sa] 123) :
  @Calls Tryz.prog (K0 K) 24 #[.pointer (some ⟨cb,0,none⟩),.pointer (some ⟨K.ptr,0,none⟩),.int .i64 d] w0 (G3 K w0 fun v u=>∃u0 F' tt sa,Gn K w0 m F R4 u0 F'/\gh u0 0=tt/\v= .int .i64 (IntKind.i64.wrap (x tt+d))/\V0 u cb #[.int .i64 obj,.int .i64 num,.pointer (some ⟨wb,0,none⟩),.int .i64 (IntKind.i64.wrap (x tt+d)),sa] 123/\∃y,w0.heap.size <=y/\¬F' y/\o9 u0 u cb y/\u.tape=u0.tape):=by
 letI:Ctx Tryz.prog:=K0 K;refine Calls.T5 (n:=28) Tryz.func24 rfl rfl ?_;refine U4 ?_;intro hb;refine L.box (cs:=#[.pointer (some ⟨cb,0,none⟩)]) rfl rfl (fun w b3 F3=>?_);refine U86 ?_;intro lt3 hb;have hW:=hW.E0 F3.below;have hC:=hC.E0 F3.below;have S9:=F3.blk;refine L.box (cs:=#[.int .i64 d]) rfl rfl (fun w b5 F5=>?_);refine U12 ?_;intro O8 hb;refine U85 ?_;intro hW hC;have S9:=S9.E0 F5.below;have D3:=F5.blk;refine U131 ?_;refine L.va (F0 rfl Tryz.underlying65 rfl (S9.A0 0 (v:=.pointer (some ⟨cb,0,none⟩)) rfl)) ?_;refine U573 ?_;refine U3 ?_;refine U427 ?_;refine U540 ?_;rintro _ w1 ⟨rfl,hw⟩;refine U136 ?_;refine L.alloc (cs:=#[.int .i64 0]) zr2 rfl (fun w b7 F7=>?_);have lt7:=F7.lq hb.size;have Ru0:=F7.ne D3;have Ym0:b7≠b5:=by have h9:=F7.here;have h8:=D3.lt;omega
 have hb:=N0 hb F7.below;have hW:=hW.E0 F7.below;have hC:=hC.E0 F7.below;have S9:=S9.E0 F7.below;have D3:=D3.E0 F7.below;have hB7:=F7.blk;refine L.pu 0 [.int .i64 0] #[.int .i64 0] sz2 hB7 (fun w B1 hg n2=>?_);have G5:=e8.el0 hB7 hg;have hb:=K4 hb hb.size hg lt7;have hW:=hW.mod G5 rfl;have hC:=hC.mod G5 rfl;have S9:=S9.mod G5 rfl;have D3:=D3.other hg Ru0;have hB7:=B1;refine U58 ?_;refine U427 ?_;refine L.va (O0 rfl Tryz.underlying123 rfl fw0 (by decide)) ?_;refine U143 ?_;refine L.va (S3 (l:=[.tmp 3,.tmp 5,.tmp 7]) (vs:=[.pointer (some ⟨b3,0,none⟩),.pointer (some ⟨b5,0,none⟩),.pointer (some ⟨b7,0,none⟩)]) rfl) ?_;have m9:=hb;have hF3:¬F b3:=fun z=>by have:=hK.tlt hT z;omega
 have hF5:¬F b5:=fun z=>by have:=hK.tlt hT z;omega
 have hF7:¬F b7:=fun z=>by have:=hK.tlt hT z;omega
 have B9:@Calls Tryz.prog (K0 K) 56 #[.agg #[.int .i64 obj,.int .i64 num],.pointer (some ⟨K.ptr,0,none⟩),.int .i64 7,.nilFunc,.func (.func 60) #[] #[.pointer (some ⟨b3,0,none⟩),.pointer (some ⟨b5,0,none⟩),.pointer (some ⟨b7,0,none⟩)]] w (G3 K w fun v u=>v= .tuple #[]/\∃u0 F',K.Goes w m F R4 u0 F'/\(∃sa,V0 u b7 #[.int .i64 (IntKind.i64.wrap (x (gh u0 0)+d))] 2/\V0 u cb #[.int .i64 obj,.int .i64 num,.pointer (some ⟨wb,0,none⟩),.int .i64 (IntKind.i64.wrap (x (gh u0 0)+d)),sa] 123/\o9 u0 u cb b7)/\u.tape=u0.tape):=by
  refine v8 hK w (hK.E0 hT hb) S2 (fun w1 V4=>.inl ⟨rfl,hrd⟩) ⟨0,#[],.inl rfl⟩ (.inr ⟨60,_,Y9 Tryz.func60 rfl Wf0⟩) (fun u u2=>∃sa,V0 u2 b7 #[.int .i64 (IntKind.i64.wrap (x (gh u 0)+d))] 2/\V0 u2 cb #[.int .i64 obj,.int .i64 num,.pointer (some ⟨wb,0,none⟩),.int .i64 (IntKind.i64.wrap (x (gh u 0)+d)),sa] 123/\o9 u u2 cb b7) (fun w1 V4 u F' hg=>.inr ⟨60,_,Y9 Tryz.func60 rfl Wf0,?_⟩);obtain⟨y0,hCu⟩:=hgo u F' (Goes.down (N0 hb V4) hg);exact @C.mono _ (y4 Tryz.prog K.M3 K.ptr K.num) _ _ _ _ _ (@Rr0 (y4 Tryz.prog K.M3 K.ptr K.num) b3 b5 b7 cb obj num _ _ _ d _ u (Goes.Z9 hg (S9.E0 V4) (Nat.zero_lt_succ _) hF3).1 (Goes.Z9 hg (D3.E0 V4) (Nat.zero_lt_succ _) hF5).1 (Goes.Z9 hg (hB7.E0 V4) (Nat.zero_lt_succ _) hF7).1 Ym0 hCu) fun v w' h=>⟨_,h.2⟩
 refine L.T3 rfl (o6 rfl rfl rfl rfl rfl Tryz.func56 rfl jf0 rfl) B9 ?_ ?_ (fun _ h=>h)
 ·rintro v u ⟨rfl,u0,F',hg,⟨sa',Rv0,hCn,hm2⟩,ht⟩;have h7:=(Goes.Z9 hg hB7 (Nat.zero_lt_succ _) hF7).2;have G8:=Goes.down m9 hg;obtain⟨tt,htt⟩:∃tt,gh u0 0=tt:=⟨_,rfl⟩
  rw[htt]at Rv0 hCn;clear hb S9 D3 hC B9 hB7;have hB7:=Rv0;clear Rv0;rename_i wL;clear hW;refine U37 ?_;refine L.va (F0 rfl Tryz.underlying2 rfl (hB7.A0 0 (v:=.int .i64 (IntKind.i64.wrap (x tt+d))) rfl)) ?_;refine U10 ?_;exact⟨u0,F',tt,_,⟨hK,G8⟩,htt,rfl,hCn,b7,lt7,h7,hm2,ht⟩
 ·rintro ch u ⟨J6,hh⟩;exact⟨J6,hh.at m9.os m9.output⟩
theorem Ak0 {K:K8 Tryz.prog} (hK:KOk K) {R4:K.L} {m:Gm} {F:Nat->Prop} (sb:Nat) (obj num:Int) (h:Bool) (r:Int) (w0:World) (hT:K.Told w0 m F (.inl R4)) (S2:K.stp R4=⟨1,obj,num⟩) (hC:V0 w0 sb #[.int .i64 obj,.int .i64 num,.bool h,.int .i64 r] 195) (hla:∀u F',K.g5 w0 m F u F'->∃h r,V0 u sb #[.int .i64 obj,.int .i64 num,.bool h,.int .i64 r] 195/\K.rdy R4 (K.sOf (gh u 0))=(!h&&decide (r=0))) :
  @Calls Tryz.prog (K0 K) 162 #[.pointer (some ⟨sb,0,none⟩),.pointer (some ⟨K.ptr,0,none⟩)] w0 (G3 K w0 fun v u=>v= .tuple #[]/\∃u0 F' h r,Gn K w0 m F R4 u0 F'/\V0 u0 sb #[.int .i64 obj,.int .i64 num,.bool h,.int .i64 r] 195/\V0 u sb #[.int .i64 obj,.int .i64 num,.bool true,.int .i64 r] 195/\u0.grownBy u (some sb)/\u.tape=u0.tape):=by
 letI:Ctx Tryz.prog:=K0 K;refine Calls.T5 (n:=12) Tryz.func162 rfl rfl ?_;refine U187 ?_;intro hb w b2 F2;refine U11 ?_;intro lt2 hb;refine U55 ?_;intro hC u6;refine U82 ?_;refine U181 ?_;refine U490 ?_;refine U203 ?_;intro m9 hF2;have B9:@Calls Tryz.prog (K0 K) 56 #[.agg #[.int .i64 obj,.int .i64 num],.pointer (some ⟨K.ptr,0,none⟩),.int .i64 1,.func (.func 166) #[] #[.pointer (some ⟨b2,0,none⟩)],.func (.func 167) #[] #[.pointer (some ⟨b2,0,none⟩)]] w (G3 K w fun v u=>v= .tuple #[]/\∃u0 F',K.Goes w m F R4 u0 F'/\(∃h r,V0 u0 sb #[.int .i64 obj,.int .i64 num,.bool h,.int .i64 r] 195/\V0 u sb #[.int .i64 obj,.int .i64 num,.bool true,.int .i64 r] 195/\u0.grownBy u (some sb))/\u.tape=u0.tape):=by
  refine v8 hK w (hK.E0 hT hb) S2 (fun w1 V4=>.inr ⟨166,_,Y9 Tryz.func166 rfl Wy0,fun u F' hl=>?_⟩) ⟨166,_,.inr rfl⟩ (.inr ⟨167,_,Y9 Tryz.func167 rfl Nl0⟩) (fun u u2=>∃h r,V0 u sb #[.int .i64 obj,.int .i64 num,.bool h,.int .i64 r] 195/\V0 u2 sb #[.int .i64 obj,.int .i64 num,.bool true,.int .i64 r] 195/\u.grownBy u2 (some sb)) (fun w1 V4 u F' hg=>.inr ⟨167,_,Y9 Tryz.func167 rfl Nl0,?_⟩)
  ·obtain⟨h,r,hCu,hrr⟩:=hla u F' (g5.down (N0 hb V4) hl);refine @C.mono _ (V1 Tryz.prog true) _ _ _ _ _ (@Yl0 (V1 Tryz.prog true) b2 sb obj num h r u (g5.Z9 hl (u6.E0 V4) (Nat.zero_lt_succ _) hF2).1 hCu) fun v w' h=>?_;rw[hrr];exact h
  ·obtain⟨h,r,hCu,_⟩:=hla u F' (Goes.down (N0 hb V4) hg).W6;exact @C.mono _ (y4 Tryz.prog K.M3 K.ptr K.num) _ _ _ _ _ (@Yk0 (y4 Tryz.prog K.M3 K.ptr K.num) b2 sb obj num h r u (Goes.Z9 hg (u6.E0 V4) (Nat.zero_lt_succ _) hF2).1 hCu) fun v w' hh=>⟨h,r,hCu,hh.2⟩
 refine L.T3 rfl (o6 rfl rfl rfl rfl rfl Tryz.func56 rfl jf0 rfl) B9 ?_ ?_ (fun _ h=>h)
 ·rintro v u ⟨rfl,u0,F',hg,⟨h',r',hC0,hCn,o3⟩,ht⟩;have G8:=Goes.down m9 hg;rename_i wL;exact U188
 ·rintro ch u ⟨J6,hh⟩;exact⟨J6,hh.at m9.os m9.output⟩
theorem Gv0 {K:K8 Tryz.prog} (hK:KOk K) {R4:K.L} {m:Gm} {F:Nat->Prop} (sb:Nat) (obj num:Int) (h:Bool) (r:Int) (mb:Nat) (w0:World) (hT:K.Told w0 m F (.inl R4)) (S2:K.stp R4=⟨1,obj,num⟩) (hM:V0 w0 mb #[.iface 193 (.pointer (some ⟨sb,0,none⟩))] 113) (hC:V0 w0 sb #[.int .i64 obj,.int .i64 num,.bool h,.int .i64 r] 195) (hla:∀u F',K.g5 w0 m F u F'->∃h r,V0 u sb #[.int .i64 obj,.int .i64 num,.bool h,.int .i64 r] 195/\K.rdy R4 (K.sOf (gh u 0))=(!h&&decide (r=0))) :
  @Calls Tryz.prog (K0 K) 20 #[.pointer (some ⟨mb,0,none⟩),.pointer (some ⟨K.ptr,0,none⟩)] w0 (G3 K w0 fun v u=>v= .tuple #[]/\∃u0 F' h r,Gn K w0 m F R4 u0 F'/\V0 u0 sb #[.int .i64 obj,.int .i64 num,.bool h,.int .i64 r] 195/\V0 u sb #[.int .i64 obj,.int .i64 num,.bool true,.int .i64 r] 195/\u0.grownBy u (some sb)/\u.tape=u0.tape):=by
 letI:Ctx Tryz.prog:=K0 K;refine Calls.T5 (n:=12) Tryz.func20 rfl rfl ?_;refine U4 ?_;intro hb;refine U179 ?_;refine U83 ?_;refine U535 ?_;refine U74 ?_;have m9:=hb;refine L.T3 rfl (v9 rfl rfl Aj0 vs0 Tryz.func162 rfl Nj0) (Ak0 hK sb obj num h r w0 hT S2 hC hla) ?_ ?_ (fun _ h=>h)
 ·rintro v u an0;obtain⟨rfl,an0⟩:=an0;exact U84
 ·rintro ch u ⟨J6,hh⟩;exact⟨J6,hh⟩
theorem Gw0 {K:K8 Tryz.prog} (hK:KOk K) {R4:K.L} {m:Gm} {F:Nat->Prop} (sb:Nat) (obj num:Int) (h:Bool) (r:Int) (mb:Nat) (w0:World) (hT:K.Told w0 m F (.inl R4)) (S2:K.stp R4=⟨1,obj,num⟩) (hM:V0 w0 mb #[.iface 193 (.pointer (some ⟨sb,0,none⟩))] 125) (hC:V0 w0 sb #[.int .i64 obj,.int .i64 num,.bool h,.int .i64 r] 195) (hla:∀u F',K.g5 w0 m F u F'->∃h r,V0 u sb #[.int .i64 obj,.int .i64 num,.bool h,.int .i64 r] 195/\K.rdy R4 (K.sOf (gh u 0))=(!h&&decide (r=0))) :
  @Calls Tryz.prog (K0 K) 25 #[.pointer (some ⟨mb,0,none⟩),.pointer (some ⟨K.ptr,0,none⟩)] w0 (G3 K w0 fun v u=>v= .tuple #[]/\∃u0 F' h r,Gn K w0 m F R4 u0 F'/\V0 u0 sb #[.int .i64 obj,.int .i64 num,.bool h,.int .i64 r] 195/\V0 u sb #[.int .i64 obj,.int .i64 num,.bool true,.int .i64 r] 195/\u0.grownBy u (some sb)/\u.tape=u0.tape):=by
 letI:Ctx Tryz.prog:=K0 K;refine Calls.T5 (n:=12) Tryz.func25 rfl rfl ?_;refine U118 ?_;intro hb;refine U83 ?_;refine U180 ?_;refine U74 ?_;have m9:=hb;refine L.T3 rfl (v9 rfl rfl Aj0 vs0 Tryz.func162 rfl Nj0) (Ak0 hK sb obj num h r w0 hT S2 hC hla) ?_ ?_ (fun _ h=>h)
 ·rintro v u an0;obtain⟨rfl,an0⟩:=an0;exact U84
 ·rintro ch u ⟨J6,hh⟩;exact⟨J6,hh⟩
theorem rd0 {K:K8 Tryz.prog} (hK:KOk K) {R4:K.L} {m:Gm} {F:Nat->Prop} (sb:Nat) (obj num:Int) (h:Bool) (r:Int) (w0:World) (hT:K.Told w0 m F (.inl R4)) (S2:K.stp R4=⟨2,obj,num⟩) (hrd:∀s,K.rdy R4 s=true) (hC:V0 w0 sb #[.int .i64 obj,.int .i64 num,.bool h,.int .i64 r] 195) (hla:∀u F',K.g5 w0 m F u F'->∃h r,V0 u sb #[.int .i64 obj,.int .i64 num,.bool h,.int .i64 r] 195) :
  @Calls Tryz.prog (K0 K) 165 #[.pointer (some ⟨sb,0,none⟩),.pointer (some ⟨K.ptr,0,none⟩)] w0 (G3 K w0 fun v u=>v= .tuple #[]/\∃u0 F' h r,Gn K w0 m F R4 u0 F'/\V0 u0 sb #[.int .i64 obj,.int .i64 num,.bool h,.int .i64 r] 195/\V0 u sb #[.int .i64 obj,.int .i64 num,.bool false,.int .i64 r] 195/\u0.grownBy u (some sb)/\u.tape=u0.tape):=by
 letI:Ctx Tryz.prog:=K0 K;refine Calls.T5 (n:=11) Tryz.func165 rfl rfl ?_;refine U187 ?_;intro hb w b2 F2;refine U11 ?_;intro lt2 hb;refine U55 ?_;intro hC u6;refine U82 ?_;refine U181 ?_;refine U246 ?_;refine U203 ?_;intro m9 hF2;have B9:@Calls Tryz.prog (K0 K) 56 #[.agg #[.int .i64 obj,.int .i64 num],.pointer (some ⟨K.ptr,0,none⟩),.int .i64 2,.nilFunc,.func (.func 171) #[] #[.pointer (some ⟨b2,0,none⟩)]] w (G3 K w fun v u=>v= .tuple #[]/\∃u0 F',K.Goes w m F R4 u0 F'/\(∃h r,V0 u0 sb #[.int .i64 obj,.int .i64 num,.bool h,.int .i64 r] 195/\V0 u sb #[.int .i64 obj,.int .i64 num,.bool false,.int .i64 r] 195/\u0.grownBy u (some sb))/\u.tape=u0.tape):=by
  refine v8 hK w (hK.E0 hT hb) S2 (fun w1 V4=>.inl ⟨rfl,hrd⟩) ⟨0,#[],.inl rfl⟩ (.inr ⟨171,_,Y9 Tryz.func171 rfl No0⟩) (fun u u2=>∃h r,V0 u sb #[.int .i64 obj,.int .i64 num,.bool h,.int .i64 r] 195/\V0 u2 sb #[.int .i64 obj,.int .i64 num,.bool false,.int .i64 r] 195/\u.grownBy u2 (some sb)) (fun w1 V4 u F' hg=>.inr ⟨171,_,Y9 Tryz.func171 rfl No0,?_⟩)
  ·obtain⟨h,r,hCu⟩:=hla u F' (Goes.down (N0 hb V4) hg).W6;exact @C.mono _ (y4 Tryz.prog K.M3 K.ptr K.num) _ _ _ _ _ (@Lg0 (y4 Tryz.prog K.M3 K.ptr K.num) b2 sb obj num h r u (Goes.Z9 hg (u6.E0 V4) (Nat.zero_lt_succ _) hF2).1 hCu) fun v w' hh=>⟨h,r,hCu,hh.2⟩
 refine L.T3 rfl (o6 rfl rfl rfl rfl rfl Tryz.func56 rfl jf0 rfl) B9 ?_ ?_ (fun _ h=>h)
 ·rintro v u ⟨rfl,u0,F',hg,⟨h',r',hC0,hCn,o3⟩,ht⟩;have G8:=Goes.down m9 hg;rename_i wL;exact U188
 ·rintro ch u ⟨J6,hh⟩;exact⟨J6,hh.at m9.os m9.output⟩
theorem xv0 {K:K8 Tryz.prog} (hK:KOk K) {R4:K.L} {m:Gm} {F:Nat->Prop} (sb:Nat) (obj num:Int) (h:Bool) (r:Int) (mb:Nat) (w0:World) (hT:K.Told w0 m F (.inl R4)) (S2:K.stp R4=⟨2,obj,num⟩) (hrd:∀s,K.rdy R4 s=true) (hM:V0 w0 mb #[.iface 193 (.pointer (some ⟨sb,0,none⟩))] 113) (hC:V0 w0 sb #[.int .i64 obj,.int .i64 num,.bool h,.int .i64 r] 195) (hla:∀u F',K.g5 w0 m F u F'->∃h r,V0 u sb #[.int .i64 obj,.int .i64 num,.bool h,.int .i64 r] 195) :
  @Calls Tryz.prog (K0 K) 23 #[.pointer (some ⟨mb,0,none⟩),.pointer (some ⟨K.ptr,0,none⟩)] w0 (G3 K w0 fun v u=>v= .tuple #[]/\∃u0 F' h r,Gn K w0 m F R4 u0 F'/\V0 u0 sb #[.int .i64 obj,.int .i64 num,.bool h,.int .i64 r] 195/\V0 u sb #[.int .i64 obj,.int .i64 num,.bool false,.int .i64 r] 195/\u0.grownBy u (some sb)/\u.tape=u0.tape):=by
 letI:Ctx Tryz.prog:=K0 K;refine Calls.T5 (n:=12) Tryz.func23 rfl rfl ?_;refine U4 ?_;intro hb;refine U179 ?_;refine U83 ?_;refine U535 ?_;refine U74 ?_;have m9:=hb;refine L.T3 rfl (v9 rfl rfl rc0 ln0 Tryz.func165 rfl Nk0) (rd0 hK sb obj num h r w0 hT S2 hrd hC hla) ?_ ?_ (fun _ h=>h)
 ·rintro v u an0;obtain⟨rfl,an0⟩:=an0;exact U84
 ·rintro ch u ⟨J6,hh⟩;exact⟨J6,hh⟩
theorem xw0 {K:K8 Tryz.prog} (hK:KOk K) {R4:K.L} {m:Gm} {F:Nat->Prop} (sb:Nat) (obj num:Int) (h:Bool) (r:Int) (mb:Nat) (w0:World) (hT:K.Told w0 m F (.inl R4)) (S2:K.stp R4=⟨2,obj,num⟩) (hrd:∀s,K.rdy R4 s=true) (hM:V0 w0 mb #[.iface 193 (.pointer (some ⟨sb,0,none⟩))] 125) (hC:V0 w0 sb #[.int .i64 obj,.int .i64 num,.bool h,.int .i64 r] 195) (hla:∀u F',K.g5 w0 m F u F'->∃h r,V0 u sb #[.int .i64 obj,.int .i64 num,.bool h,.int .i64 r] 195) :
  @Calls Tryz.prog (K0 K) 27 #[.pointer (some ⟨mb,0,none⟩),.pointer (some ⟨K.ptr,0,none⟩)] w0 (G3 K w0 fun v u=>v= .tuple #[]/\∃u0 F' h r,Gn K w0 m F R4 u0 F'/\V0 u0 sb #[.int .i64 obj,.int .i64 num,.bool h,.int .i64 r] 195/\V0 u sb #[.int .i64 obj,.int .i64 num,.bool false,.int .i64 r] 195/\u0.grownBy u (some sb)/\u.tape=u0.tape):=by
 letI:Ctx Tryz.prog:=K0 K;refine Calls.T5 (n:=12) Tryz.func27 rfl rfl ?_;refine U118 ?_;intro hb;refine U83 ?_;refine U180 ?_;refine U74 ?_;have m9:=hb;refine L.T3 rfl (v9 rfl rfl rc0 ln0 Tryz.func165 rfl Nk0) (rd0 hK sb obj num h r w0 hT S2 hrd hC hla) ?_ ?_ (fun _ h=>h)
 ·rintro v u an0;obtain⟨rfl,an0⟩:=an0;exact U84
 ·rintro ch u ⟨J6,hh⟩;exact⟨J6,hh⟩
theorem Gx0 {K:K8 Tryz.prog} (hK:KOk K) {R4:K.L} {m:Gm} {F:Nat->Prop} (sb:Nat) (obj num:Int) (h:Bool) (r:Int) (w0:World) (hT:K.Told w0 m F (.inl R4)) (S2:K.stp R4=⟨3,obj,num⟩) (hC:V0 w0 sb #[.int .i64 obj,.int .i64 num,.bool h,.int .i64 r] 195) (hla:∀u F',K.g5 w0 m F u F'->∃h r,V0 u sb #[.int .i64 obj,.int .i64 num,.bool h,.int .i64 r] 195/\K.rdy R4 (K.sOf (gh u 0))=(!h)) :
  @Calls Tryz.prog (K0 K) 163 #[.pointer (some ⟨sb,0,none⟩),.pointer (some ⟨K.ptr,0,none⟩)] w0 (G3 K w0 fun v u=>v= .tuple #[]/\∃u0 F' h r,Gn K w0 m F R4 u0 F'/\V0 u0 sb #[.int .i64 obj,.int .i64 num,.bool h,.int .i64 r] 195/\V0 u sb #[.int .i64 obj,.int .i64 num,.bool h,.int .i64 (IntKind.i64.wrap (r+1))] 195/\u0.grownBy u (some sb)/\u.tape=u0.tape):=by
 letI:Ctx Tryz.prog:=K0 K;refine Calls.T5 (n:=12) Tryz.func163 rfl rfl ?_;refine U187 ?_;intro hb w b2 F2;refine U11 ?_;intro lt2 hb;refine U55 ?_;intro hC u6;refine U82 ?_;refine U181 ?_;refine U490 ?_;refine U203 ?_;intro m9 hF2;have B9:@Calls Tryz.prog (K0 K) 56 #[.agg #[.int .i64 obj,.int .i64 num],.pointer (some ⟨K.ptr,0,none⟩),.int .i64 3,.func (.func 168) #[] #[.pointer (some ⟨b2,0,none⟩)],.func (.func 169) #[] #[.pointer (some ⟨b2,0,none⟩)]] w (G3 K w fun v u=>v= .tuple #[]/\∃u0 F',K.Goes w m F R4 u0 F'/\(∃h r,V0 u0 sb #[.int .i64 obj,.int .i64 num,.bool h,.int .i64 r] 195/\V0 u sb #[.int .i64 obj,.int .i64 num,.bool h,.int .i64 (IntKind.i64.wrap (r+1))] 195/\u0.grownBy u (some sb))/\u.tape=u0.tape):=by
  refine v8 hK w (hK.E0 hT hb) S2 (fun w1 V4=>.inr ⟨168,_,Y9 Tryz.func168 rfl Wz0,fun u F' hl=>?_⟩) ⟨168,_,.inr rfl⟩ (.inr ⟨169,_,Y9 Tryz.func169 rfl Nm0⟩) (fun u u2=>∃h r,V0 u sb #[.int .i64 obj,.int .i64 num,.bool h,.int .i64 r] 195/\V0 u2 sb #[.int .i64 obj,.int .i64 num,.bool h,.int .i64 (IntKind.i64.wrap (r+1))] 195/\u.grownBy u2 (some sb)) (fun w1 V4 u F' hg=>.inr ⟨169,_,Y9 Tryz.func169 rfl Nm0,?_⟩)
  ·obtain⟨h,r,hCu,hrr⟩:=hla u F' (g5.down (N0 hb V4) hl);refine @C.mono _ (V1 Tryz.prog true) _ _ _ _ _ (@Rt0 (V1 Tryz.prog true) b2 sb obj num h r u (g5.Z9 hl (u6.E0 V4) (Nat.zero_lt_succ _) hF2).1 hCu) fun v w' h=>?_;rw[hrr];exact h
  ·obtain⟨h,r,hCu,_⟩:=hla u F' (Goes.down (N0 hb V4) hg).W6;exact @C.mono _ (y4 Tryz.prog K.M3 K.ptr K.num) _ _ _ _ _ (@Rs0 (y4 Tryz.prog K.M3 K.ptr K.num) b2 sb obj num h r u (Goes.Z9 hg (u6.E0 V4) (Nat.zero_lt_succ _) hF2).1 hCu) fun v w' hh=>⟨h,r,hCu,hh.2⟩
 refine L.T3 rfl (o6 rfl rfl rfl rfl rfl Tryz.func56 rfl jf0 rfl) B9 ?_ ?_ (fun _ h=>h)
 ·rintro v u ⟨rfl,u0,F',hg,⟨h',r',hC0,hCn,o3⟩,ht⟩;have G8:=Goes.down m9 hg;rename_i wL;exact U188
 ·rintro ch u ⟨J6,hh⟩;exact⟨J6,hh.at m9.os m9.output⟩
theorem By0 {K:K8 Tryz.prog} (hK:KOk K) {R4:K.L} {m:Gm} {F:Nat->Prop} (sb:Nat) (obj num:Int) (h:Bool) (r:Int) (mb:Nat) (w0:World) (hT:K.Told w0 m F (.inl R4)) (S2:K.stp R4=⟨3,obj,num⟩) (hM:V0 w0 mb #[.iface 193 (.pointer (some ⟨sb,0,none⟩))] 125) (hC:V0 w0 sb #[.int .i64 obj,.int .i64 num,.bool h,.int .i64 r] 195) (hla:∀u F',K.g5 w0 m F u F'->∃h r,V0 u sb #[.int .i64 obj,.int .i64 num,.bool h,.int .i64 r] 195/\K.rdy R4 (K.sOf (gh u 0))=(!h)) :
  @Calls Tryz.prog (K0 K) 28 #[.pointer (some ⟨mb,0,none⟩),.pointer (some ⟨K.ptr,0,none⟩)] w0 (G3 K w0 fun v u=>v= .tuple #[]/\∃u0 F' h r,Gn K w0 m F R4 u0 F'/\V0 u0 sb #[.int .i64 obj,.int .i64 num,.bool h,.int .i64 r] 195/\V0 u sb #[.int .i64 obj,.int .i64 num,.bool h,.int .i64 (IntKind.i64.wrap (r+1))] 195/\u0.grownBy u (some sb)/\u.tape=u0.tape):=by
 letI:Ctx Tryz.prog:=K0 K;refine Calls.T5 (n:=12) Tryz.func28 rfl rfl ?_;refine U118 ?_;intro hb;refine U83 ?_;refine U180 ?_;refine U74 ?_;have m9:=hb;refine L.T3 rfl (v9 rfl rfl Gu0 Bx0 Tryz.func163 rfl Ww0) (Gx0 hK sb obj num h r w0 hT S2 hC hla) ?_ ?_ (fun _ h=>h)
 ·rintro v u an0;obtain⟨rfl,an0⟩:=an0;exact U84
 ·rintro ch u ⟨J6,hh⟩;exact⟨J6,hh⟩
theorem xx0 {K:K8 Tryz.prog} (hK:KOk K) {R4:K.L} {m:Gm} {F:Nat->Prop} (sb:Nat) (obj num:Int) (h:Bool) (r:Int) (w0:World) (hT:K.Told w0 m F (.inl R4)) (S2:K.stp R4=⟨4,obj,num⟩) (hrd:∀s,K.rdy R4 s=true) (hC:V0 w0 sb #[.int .i64 obj,.int .i64 num,.bool h,.int .i64 r] 195) (hla:∀u F',K.g5 w0 m F u F'->∃h r,V0 u sb #[.int .i64 obj,.int .i64 num,.bool h,.int .i64 r] 195) :
  @Calls Tryz.prog (K0 K) 164 #[.pointer (some ⟨sb,0,none⟩),.pointer (some ⟨K.ptr,0,none⟩)] w0 (G3 K w0 fun v u=>v= .tuple #[]/\∃u0 F' h r,Gn K w0 m F R4 u0 F'/\V0 u0 sb #[.int .i64 obj,.int .i64 num,.bool h,.int .i64 r] 195/\V0 u sb #[.int .i64 obj,.int .i64 num,.bool h,.int .i64 (max 0 (IntKind.i64.wrap (r-1)))] 195/\u0.grownBy u (some sb)/\u.tape=u0.tape):=by
 letI:Ctx Tryz.prog:=K0 K;refine Calls.T5 (n:=11) Tryz.func164 rfl rfl ?_;refine U187 ?_;intro hb w b2 F2;refine U11 ?_;intro lt2 hb;refine U55 ?_;intro hC u6;refine U82 ?_;refine U181 ?_;refine U246 ?_;refine U203 ?_;intro m9 hF2;have B9:@Calls Tryz.prog (K0 K) 56 #[.agg #[.int .i64 obj,.int .i64 num],.pointer (some ⟨K.ptr,0,none⟩),.int .i64 4,.nilFunc,.func (.func 170) #[] #[.pointer (some ⟨b2,0,none⟩)]] w (G3 K w fun v u=>v= .tuple #[]/\∃u0 F',K.Goes w m F R4 u0 F'/\(∃h r,V0 u0 sb #[.int .i64 obj,.int .i64 num,.bool h,.int .i64 r] 195/\V0 u sb #[.int .i64 obj,.int .i64 num,.bool h,.int .i64 (max 0 (IntKind.i64.wrap (r-1)))] 195/\u0.grownBy u (some sb))/\u.tape=u0.tape):=by
  refine v8 hK w (hK.E0 hT hb) S2 (fun w1 V4=>.inl ⟨rfl,hrd⟩) ⟨0,#[],.inl rfl⟩ (.inr ⟨170,_,Y9 Tryz.func170 rfl Nn0⟩) (fun u u2=>∃h r,V0 u sb #[.int .i64 obj,.int .i64 num,.bool h,.int .i64 r] 195/\V0 u2 sb #[.int .i64 obj,.int .i64 num,.bool h,.int .i64 (max 0 (IntKind.i64.wrap (r-1)))] 195/\u.grownBy u2 (some sb)) (fun w1 V4 u F' hg=>.inr ⟨170,_,Y9 Tryz.func170 rfl Nn0,?_⟩)
  ·obtain⟨h,r,hCu⟩:=hla u F' (Goes.down (N0 hb V4) hg).W6;exact @C.mono _ (y4 Tryz.prog K.M3 K.ptr K.num) _ _ _ _ _ (@Gt0 (y4 Tryz.prog K.M3 K.ptr K.num) b2 sb obj num h r u (Goes.Z9 hg (u6.E0 V4) (Nat.zero_lt_succ _) hF2).1 hCu) fun v w' hh=>⟨h,r,hCu,hh.2⟩
 refine L.T3 rfl (o6 rfl rfl rfl rfl rfl Tryz.func56 rfl jf0 rfl) B9 ?_ ?_ (fun _ h=>h)
 ·rintro v u ⟨rfl,u0,F',hg,⟨h',r',hC0,hCn,o3⟩,ht⟩;have G8:=Goes.down m9 hg;rename_i wL;exact U188
 ·rintro ch u ⟨J6,hh⟩;exact⟨J6,hh.at m9.os m9.output⟩
theorem vu0 {K:K8 Tryz.prog} (hK:KOk K) {R4:K.L} {m:Gm} {F:Nat->Prop} (sb:Nat) (obj num:Int) (h:Bool) (r:Int) (mb:Nat) (w0:World) (hT:K.Told w0 m F (.inl R4)) (S2:K.stp R4=⟨4,obj,num⟩) (hrd:∀s,K.rdy R4 s=true) (hM:V0 w0 mb #[.iface 193 (.pointer (some ⟨sb,0,none⟩))] 125) (hC:V0 w0 sb #[.int .i64 obj,.int .i64 num,.bool h,.int .i64 r] 195) (hla:∀u F',K.g5 w0 m F u F'->∃h r,V0 u sb #[.int .i64 obj,.int .i64 num,.bool h,.int .i64 r] 195) :
  @Calls Tryz.prog (K0 K) 30 #[.pointer (some ⟨mb,0,none⟩),.pointer (some ⟨K.ptr,0,none⟩)] w0 (G3 K w0 fun v u=>v= .tuple #[]/\∃u0 F' h r,Gn K w0 m F R4 u0 F'/\V0 u0 sb #[.int .i64 obj,.int .i64 num,.bool h,.int .i64 r] 195/\V0 u sb #[.int .i64 obj,.int .i64 num,.bool h,.int .i64 (max 0 (IntKind.i64.wrap (r-1)))] 195/\u0.grownBy u (some sb)/\u.tape=u0.tape):=by
 letI:Ctx Tryz.prog:=K0 K;refine Calls.T5 (n:=12) Tryz.func30 rfl rfl ?_;refine U118 ?_;intro hb;refine U83 ?_;refine U180 ?_;refine U74 ?_;have m9:=hb;refine L.T3 rfl (v9 rfl rfl xu0 vt0 Tryz.func164 rfl Wx0) (xx0 hK sb obj num h r w0 hT S2 hrd hC hla) ?_ ?_ (fun _ h=>h)
 ·rintro v u an0;obtain⟨rfl,an0⟩:=an0;exact U84
 ·rintro ch u ⟨J6,hh⟩;exact⟨J6,hh⟩
theorem gf0 {w:World} {b:Nat} {cs:Array Value} {T:TypeId} (h:V0 w b cs T) (hT:T≠0):b<w.heap.size/\w.heap[b]? ≠some nothing:=by
 refine⟨(m4 h).lt,fun e=>?_⟩;have h':w.heap[b]? =some (.cells cs T (0,0)):=h;rw[h']at e;have e1:=Option.some.inj e;unfold nothing at e1;injection e1 with _ e2
 exact hT e2
def Canon (a:Option Addr):Prop:=∀x,a=some x->x=⟨x.block,0,none⟩
theorem rf0 {w:World} {B:Nat} {E:TypeId} {s n c:Nat} {a:Option Addr} {xs:List Value} (h:Own w B E s a n c xs):Canon a:=fun x hx=>by
 rcases h.2 with⟨hv,_⟩|⟨g,cap,cur,hv,_⟩
 ·cases hv;cases hx
 ·cases hv;cases hx;rfl
theorem Al0 {w:World} {B s n c b:Nat} {E T:TypeId} {a:Option Addr} {xs:List Value} {cs:Array Value} (h:Own w B E s a n c xs) (hB:V0 w b cs T) (hT:T≠E) (ha:a≠none):b≠ab a:=by
 obtain⟨cur,hc,_⟩:=h.row ha;exact V0.ne hB hc hT
theorem vv0 {w:World} {B s n c:Nat} {E:TypeId} {xs:List Value} (h:Own w B E s none n c xs):n=0:=by
 rcases h.2 with⟨hv,h0⟩|⟨g,cap,cur,hv,_⟩
 ·cases hv;first|exact h0|omega
 ·cases hv
theorem Rw0 {a:Option Addr} {n c:Nat} (hc:Canon a):Value.ownBlock (.slice a n c)=if a=none then none else some (ab a):=by
 cases a with
 |none=>rfl
 |some x=>rw[hc x rfl];rfl
theorem V0.app {w w':World} {B:Nat} {b:Nat} {cs:Array Value} {T E:TypeId} {a:Option Addr} {n c s:Nat} {xs:List Value} (hB:V0 w b cs T) (hO:Own w B E s a n c xs) (hg:w.grownBy w' (Value.ownBlock (.slice a n c))) (hT:T≠E):V0 w' b cs T:=by
 refine hB.grown hg ?_;cases a with
 |none=>simp[Value.ownBlock]
 |some x=>
  obtain⟨cur,hc,_⟩:=hO.row (by simp);intro e;exact V0.ne hB hc hT (Option.some.inj e)
theorem vw0 {N i:Nat} {f:Nat->Value} {v:Value}:setRow (arr N f) i [v]=arr N (fun x=>if x=i then v else f x):=by
 show(arr N f).setIfInBounds i v=_;exact Jl0
structure N2 where
 D5:Int
 gg0:Int
 call:Int
 val:Int
def Yn0 (o:N2):List Value:=[.int .i64 o.D5,.int .i64 o.gg0,.int .i64 o.call,.int .i64 o.val]
def C1 (o:N2):Nat:=(o.gg0%2).toNat
theorem j1 (o:N2):C1 o<2:=by unfold C1;omega
def P8 (o:N2):Prop:=(o.D5=1/\(o.call=1\/o.call=2))\/(o.D5=2/\(o.call=1\/o.call=2\/o.call=3\/o.call=4))\/(o.D5=3/\(o.call=5\/o.call=7))\/(o.D5=4/\(o.call=5\/o.call=6))\/(o.D5=5/\(o.call=8\/o.call=9))
def up2 {α:Type} (f:Nat->Nat->α) (t n:Nat) (v:α):Nat->Nat->α:=fun a b=>if a=t/\b=n then v else f a b
theorem lo0 {α:Type} {f:Nat->Nat->α} {t n:Nat} {v:α}:up2 f t n v t n=v:=if_pos ⟨rfl,rfl⟩
theorem Gy0 {α:Type} {f:Nat->Nat->α} {t n a b:Nat} {v:α} (h:¬(a=t/\b=n)):up2 f t n v a b=f a b:=if_neg h
structure PS where
 held:Nat->Nat->Bool
 db0:Nat->Int
 val:Nat->Nat->Int
 O3:Nat->List Int
def ps0:PS:=⟨fun _ _=>false,fun _=>0,fun _ _=>0,fun _=>[]⟩
def prd (s:PS) (t n:Nat):Int:=if t=2 then s.db0 n else 0
def pT (o:N2):Nat:=o.D5.toNat
def xy0 (o:N2) (s:PS):Bool:=if o.call=1 then !s.held (pT o) (C1 o)&&decide (prd s (pT o) (C1 o)=0) else if o.call=3 then !s.held 2 (C1 o) else true
def pdo (o:N2) (s:PS):PS×Int :=
 if o.call=1 then({s with held:=up2 s.held (pT o) (C1 o) true},0)
 else if o.call=2 then({s with held:=up2 s.held (pT o) (C1 o) false},0)
 else if o.call=3 then({s with db0:=upN s.db0 (C1 o) (IntKind.i64.wrap (s.db0 (C1 o)+1))},0)
 else if o.call=4 then({s with db0:=upN s.db0 (C1 o) (max 0 (IntKind.i64.wrap (s.db0 (C1 o)-1)))},0)
 else if o.call=6\/o.call=9 then({s with val:=up2 s.val (pT o) (C1 o) o.val},0)
 else if o.call=7 then({s with val:=up2 s.val (pT o) (C1 o) (IntKind.i64.wrap (s.val (pT o) (C1 o)+o.val))},IntKind.i64.wrap (s.val (pT o) (C1 o)+o.val))
 else(s,s.val (pT o) (C1 o))
theorem lp0 (o:N2) (s:PS):(pdo o s).1.O3=s.O3:=by
 unfold pdo
 repeat' split
 all_goals rfl
def dc0 (i:Nat) (x:PS×Int):PS:={x.1 with O3:=upN x.1.O3 i (x.1.O3 i ++ [x.2])}
def gh0 (ops:List N2) (k:Nat):Nat ⊕ Nat:=if k<ops.length then .inl k else .inr 1
def n4 (ops:List N2) (k:Nat) (s:PS):fv0 PS Nat:=⟨s,[],gh0 ops k⟩
def goP (ops:List N2) (i k:Nat) (s:PS):fv0 PS Nat:=match ops[k]? with
 |some o=>n4 ops (k+1) (dc0 i (pdo o s))
 |none=>⟨s,[],.inr 1⟩
theorem Gz0 {ops:List N2} {i k:Nat} {s:PS} {o:N2} (h:ops[k]? =some o):goP ops i k s=n4 ops (k+1) (dc0 i (pdo o s)):=by unfold goP;rw[h]
theorem Am0 (ops:List N2) (i k:Nat) (s:PS):(goP ops i k s).W2=[]:=by unfold goP;split <;> rfl
theorem p5 {ops:List N2} {k:Nat} {s:PS} {o:N2} (h:ops[k]? =some o):n4 ops k s=⟨s,[],.inl k⟩:=by
 unfold n4 gh0;rw[if_pos (List.getElem?_eq_some_iff.1 h).1]
theorem xz0 {ops:List N2} {k:Nat} {s:PS} (h:¬k<ops.length):n4 ops k s=⟨s,[],.inr 1⟩:=by
 unfold n4 gh0;rw[if_neg h]
def Z6 (wb:Nat) (s:PS) (t n:Nat) (sa:Value):Array Value :=
 if t <=2 then #[.int .i64 (t:Nat),.int .i64 (n:Nat),.bool (s.held t n),.int .i64 (prd s t n)]
 else if t <=4 then #[.int .i64 (t:Nat),.int .i64 (n:Nat),.pointer (some ⟨wb,0,none⟩),.int .i64 (s.val t n),sa]
 else #[.int .i64 (t:Nat),.int .i64 (n:Nat),.pointer (some ⟨wb,0,none⟩),.int .i64 (s.val t n)]
def tty (t:Nat):TypeId:=if t <=2 then 195 else if t=3 then 123 else if t=4 then 132 else 115
theorem lq0 (t:Nat):tty t≠0/\tty t≠45/\tty t≠2:=by
 unfold tty;split
 ·exact⟨by decide,by decide,by decide⟩
 split
 ·exact⟨by decide,by decide,by decide⟩
 split <;> exact⟨by decide,by decide,by decide⟩
structure N5 where
 la:Nat->Option Addr
 lc:Nat->Nat
structure M4 where
 m:Nat
 bo:Nat->List N2
 tb:Nat
 wb:Nat
 sb:Nat->Nat->Nat
 mb:Nat->Nat->Nat
 lgb:Nat
 RO:Nat->Prop
 wI:World
 B:Nat
 lb:Nat
 pl:Nat->j6
def pob (p:M4) (t n:Nat):Nat:=if t <=2 then p.mb t n else p.sb t n
def Li0 (p:M4):Array Value:=arr 10 fun j=>.pointer (some ⟨pob p (j/2+1) (j%2),0,none⟩)
def mty (t:Nat):TypeId:=if t=1 then 113 else 125
structure ci0 (p:M4) (w:World) (s:PS) (r:N5):Prop where
 hS:∀t n,1 <=t->t <=5->n<2->∃sa,V0 w (p.sb t n) (Z6 p.wb s t n sa) (tty t)
 hG:V0 w p.lgb (arr p.m fun i=>.slice (r.la i) (s.O3 i).length (r.lc i)) 45
 hL:∀i,i<p.m->Own w p.B 2 1 (r.la i) (s.O3 i).length (r.lc i) ((s.O3 i).map (.int .i64 ·))
 inj:∀i j,i<p.m->j<p.m->i≠j->r.la i≠none->r.la j≠none->ab (r.la i)≠ab (r.la j)
 ro:∀b,p.RO b->w.heap[b]? =p.wI.heap[b]?
 lG:p.B <=p.lgb
def PF (p:M4) (r:N5) (b:Nat):Prop:=(∃t n,1 <=t/\t <=5/\n<2/\b=p.sb t n)\/b=p.lgb\/(∃i,i<p.m/\r.la i≠none/\b=ab (r.la i))\/p.RO b
def Rx0 (p:M4) (s:PS) (_:Gm) (w:World) (F:Nat->Prop):Prop:=∃r,F=PF p r/\ci0 p w s r
@[reducible] def E4 (p:M4):Sys where
 S:=PS
 L:=Nat
 m:=p.m
 s0:=ps0
 nil:=fun _=>false
 stp:=fun i k=>match(p.bo i)[k]? with
  |some o=>⟨o.call,o.D5,(C1 o:Nat)⟩
  |none=>⟨0,0,0⟩
 rdy:=fun i k s=>match(p.bo i)[k]? with
  |some o=>xy0 o s
  |none=>true
 beg:=fun i s=>n4 (p.bo i) 0 s
 go:=fun i k s=>goP (p.bo i) i k s
 le:=fun _ _ _=>True
 Inv:=Rx0 p
 lb:=p.lb
 pl:=p.pl
structure k5 (p:M4):Prop where
 ro:∀b,p.RO b->b<p.wI.heap.size/\p.wI.heap[b]? ≠some nothing
 roD:∀b,p.RO b->b<p.B\/∃cs T,V0 p.wI b cs T/\(∀t,T≠tty t)/\T≠45/\T≠2
 sB:∀t n,1 <=t->t <=5->n<2->p.B <=p.sb t n
 db1:∀t n t' n',1 <=t->t <=5->n<2->1 <=t'->t' <=5->n'<2->p.sb t n=p.sb t' n'->t=t'/\n=n'
 hT:p.RO p.tb/\V0 p.wI p.tb (Li0 p) 72
 hW:p.RO p.wb/\V0 p.wI p.wb #[.bool false] 105
 hM:∀t n,1 <=t->t <=2->n<2->p.RO (p.mb t n)/\V0 p.wI (p.mb t n) #[.iface 193 (.pointer (some ⟨p.sb t n,0,none⟩))] (mty t)
 ops:∀i o,o∈p.bo i->P8 o
section
variable {p:M4}{w w' wI:World}{s:PS}{r:N5}
theorem ci0.congr (h:ci0 p w s r) (he:∀b,PF p r b->w'.heap[b]? =w.heap[b]?):ci0 p w' s r :=
 ⟨fun t n h1 h2 h3=>let⟨sa,hB⟩:=h.hS t n h1 h2 h3;⟨sa,(he _ (.inl ⟨t,n,h1,h2,h3,rfl⟩)).trans hB⟩,(he _ (.inr (.inl rfl))).trans h.hG,fun i hi=>Own.congr (h.hL i hi) fun ha=>he _ (.inr (.inr (.inl ⟨i,hi,ha,rfl⟩))),h.inj,fun b hb=>(he _ (.inr (.inr (.inr hb)))).trans (h.ro b hb),h.lG⟩
theorem ci0.vis (h:ci0 p w s r) (hp:k5 p) {b:Nat} (hb:PF p r b):b<w.heap.size/\w.heap[b]? ≠some nothing:=by
 rcases hb with⟨t,n,h1,h2,h3,rfl⟩|rfl|⟨i,hi,ha,rfl⟩|hb
 ·obtain⟨sa,hB⟩:=h.hS t n h1 h2 h3;exact gf0 hB (lq0 t).1
 ·exact gf0 h.hG (by decide)
 ·obtain⟨cur,hc,_⟩:=(h.hL i hi).row ha;exact gf0 hc (by decide)
 ·have h1:=h.ro b hb;have h2:=hp.ro b hb;refine⟨?_,by rw[h1];exact h2.2⟩;rcases Nat.lt_or_ge b w.heap.size with z|z
  ·exact z
  ·rw[Array.getElem?_eq_none z,Array.getElem?_eq_getElem h2.1]at h1;cases h1
theorem ci0.Yo0 (h:ci0 p w s r) (hp:k5 p) {b:Nat} (hb:p.RO b):(∀t n,1 <=t->t <=5->n<2->b≠p.sb t n)/\b≠p.lgb/\∀i,i<p.m->r.la i≠none->b≠ab (r.la i):=by
 rcases hp.roD b hb with T2|⟨cs,T,hB,t1,t2,t3⟩
 ·refine⟨fun t n h1 h2 h3 e=>?_,fun e=>?_,fun i hi ha e=>?_⟩
  ·have:=hp.sB t n h1 h2 h3;omega
  ·have:=h.lG;omega
  ·obtain⟨_,_,h2,_⟩:=(h.hL i hi).row ha;omega
 ·have hB':V0 w b cs T:=(h.ro b hb).trans hB;exact⟨fun t n h1 h2 h3=>let⟨_,hS⟩:=h.hS t n h1 h2 h3;V0.ne hB' hS (t1 t),V0.ne hB' h.hG t2,fun i hi ha=>Al0 (h.hL i hi) hB' t3 ha⟩
theorem ci0.rob (h:ci0 p w s r) {b:Nat} {cs:Array Value} {T:TypeId} (hb:p.RO b/\V0 p.wI b cs T):V0 w b cs T:=(h.ro b hb.1).trans hb.2
theorem gi0 (hp:k5 p):li0 (E4 p):=by
 refine⟨⟨fun _ _=>trivial,fun _ _ _ _ _ _=>trivial⟩,fun s m w w' F h he=>?_,fun s m w F h b hb=>?_⟩
 ·obtain⟨r,rfl,hM⟩:=h;exact⟨r,rfl,hM.congr he⟩
 ·obtain⟨r,rfl,hM⟩:=h;exact hM.vis hp hb
theorem ci0.set (h:ci0 p w s r) (hp:k5 p) {s':PS} {t n y:Nat} {sa:Value} (h1:1 <=t) (h2:t <=5) (h3:n<2) (hg:o9 w w' (p.sb t n) y) (hy:y=p.sb t n\/¬PF p r y) (hB:V0 w' (p.sb t n) (Z6 p.wb s' t n sa) (tty t)) (ht:s'.O3=s.O3) (hs:∀t' n' sa,1 <=t'->t' <=5->n'<2->¬(t'=t/\n'=n)->Z6 p.wb s' t' n' sa=Z6 p.wb s t' n' sa):ci0 p w' s' r:=by
 have stay:∀b,PF p r b->b≠p.sb t n->w'.heap[b]? =w.heap[b]?:=fun b hb r3=>hg.block b (h.vis hp hb).1 r3 fun e=>by
  subst e;rcases hy with z|z
  ·exact r3 z
  ·exact z hb
 obtain⟨_,hS⟩:=h.hS t n h1 h2 h3;refine⟨fun t' n' g1 g2 g3=>?_,?_,fun i hi=>?_,h.inj,fun b hb=>?_,h.lG⟩
 ·by_cases e:t'=t/\n'=n
  ·obtain⟨rfl,rfl⟩:=e;exact⟨sa,hB⟩
  ·obtain⟨sa',hS'⟩:=h.hS t' n' g1 g2 g3;exact⟨sa',by rw[hs t' n' sa' g1 g2 g3 e];exact(stay _ (.inl ⟨t',n',g1,g2,g3,rfl⟩) fun z=>e (hp.db1 _ _ _ _ g1 g2 g3 h1 h2 h3 z)).trans hS'⟩
 ·rw[ht];exact(stay _ (.inr (.inl rfl)) (V0.ne h.hG hS (lq0 t).2.1.symm)).trans h.hG
 ·rw[ht];exact Own.congr (h.hL i hi) fun ha=>stay _ (.inr (.inr (.inl ⟨i,hi,ha,rfl⟩))) fun e=>Al0 (h.hL i hi) hS (lq0 t).2.2 ha e.symm
 ·exact(stay b (.inr (.inr (.inr hb))) ((h.Yo0 hp hb).1 t n h1 h2 h3)).trans (h.ro b hb)
theorem o9.of {b:Nat} (hg:w.grownBy w' (some b)):o9 w w' b b:=(o9.refl w b b).step (.inl rfl) hg
end
structure Yp0 (p:M4) (q:PR (E4 p)):Prop where
 new:∀i,q.ft.length <=i->q.s.O3 i=[]
 R4:∀i k,q.ft[i]? =some (.inl k)->(q.s.O3 i).length=k/\k<(p.bo i).length
 all:∀i,(q.s.O3 i).length <=(p.bo i).length
theorem rg0 {ops:List N2} {k l:Nat} (h:gh0 ops k= .inl l):l=k/\k<ops.length:=by
 unfold gh0 at h;split at h
 ·cases h;exact⟨rfl,by assumption⟩
 ·cases h
theorem An0 {p:M4}:∀q,(E4 p).Reach q->Yp0 p q:=by
 refine Sys.ind (Y:=E4 p) (fun q=>Yp0 p q) ⟨fun _ _=>rfl,(fun i l h=>by cases h),fun _=>Nat.zero_le _⟩ (fun q hq _=>?_) (fun q i k hq _ hf _=>?_)
 ·have hb:(E4 p).bgn q={q with s:=q.s,ft:=q.ft ++ [gh0 (p.bo q.ft.length) 0],W2:=q.W2++tell q.ft.length q.evs.length [],outs:=q.outs ++ [n4 (p.bo q.ft.length) 0 q.s],who:=q.who ++ [none]}:=rfl;rw[hb];refine⟨fun j hj=>?_,fun j l h=>?_,hq.all⟩
  ·have hj:(q.ft ++ [gh0 (p.bo q.ft.length) 0]).length <=j:=hj;rw[List.length_append,List.length_singleton]at hj;exact hq.new j (by omega)
  ·have h:(q.ft ++ [gh0 (p.bo q.ft.length) 0])[j]? =some (.inl l):=h;rcases bp0 h with h'|⟨hj,h'⟩
   ·exact hq.R4 j l h'
   ·obtain⟨rfl,h2⟩:=rg0 h';rw[hj];exact⟨by show(q.s.O3 q.ft.length).length=0;rw[hq.new _ (Nat.le_refl _)];rfl,h2⟩
 ·have hl:=(List.getElem?_eq_some_iff.1 hf).1;obtain⟨h1,h2⟩:=hq.R4 i k hf;obtain⟨o,ho⟩:∃o,(p.bo i)[k]? =some o:=⟨_,List.getElem?_eq_getElem h2⟩
  have ht:(E4 p).P5 q i={q with s:=(goP (p.bo i) i k q.s).s,ft:=q.ft.set i (goP (p.bo i) i k q.s).k8,evs:=q.evs ++ [(i,(E4 p).stp i k)],W2:=q.W2++tell i (q.evs.length+1) (goP (p.bo i) i k q.s).W2,outs:=q.outs ++ [goP (p.bo i) i k q.s],who:=q.who ++ [some i],used:=q.used+1}:=by
   unfold Sys.P5;rw[hf]
  rw[ht,Gz0 ho];have e1:(dc0 i (pdo o q.s)).O3 i=q.s.O3 i ++ [(pdo o q.s).2]:=by show upN _ i _ i=_;rw[W4,lp0]
  have e2:∀j,j≠i->(dc0 i (pdo o q.s)).O3 j=q.s.O3 j:=fun j hj=>by show upN _ i _ j=_;rw[A5 hj,lp0]
  refine⟨fun j hj=>?_,fun j l h=>?_,fun j=>?_⟩
  ·have hj:(q.ft.set i _).length <=j:=hj;rw[List.length_set]at hj;exact(e2 j (by omega)).trans (hq.new j hj)
  ·have h:(q.ft.set i (gh0 (p.bo i) (k+1)))[j]? =some (.inl l):=h;by_cases R2:j=i
   ·subst R2;rw[List.getElem?_set_self hl]at h;obtain⟨rfl,h3⟩:=rg0 (Option.some.inj h);exact⟨by show((dc0 j (pdo o q.s)).O3 j).length=_;rw[e1,List.length_append,h1];rfl,h3⟩
   ·rw[List.getElem?_set_ne (Ne.symm R2)]at h;exact⟨by show((dc0 i (pdo o q.s)).O3 j).length=_;rw[e2 j R2];exact(hq.R4 j l h).1,(hq.R4 j l h).2⟩
  ·show((dc0 i (pdo o q.s)).O3 j).length <=_;by_cases R2:j=i
   ·subst R2;rw[e1,List.length_append,h1];exact h2
   ·rw[e2 j R2];exact hq.all j
noncomputable abbrev D2 (p:M4) (fb:Nat->FuncId) (q:PR (E4 p)) (w00:World) (i cb:Nat) (top:List Frame):K8 Tryz.prog:=(E4 p).cfg fb q w00 i cb top
structure Q8 (p:M4) (w:World) (s:PS) (r:N5):Prop where
 ok:k5 p
 mem:ci0 p w s r
section
variable {p:M4}{w w' u:World}{fb:Nat->FuncId}{q:PR (E4 p)}{w00:World}{i cb:Nat}{top:List Frame}{s:PS}{r:N5}{k:Nat}{o:N2}
theorem Q8.E0 (h:Q8 p w s r) (hb:Below w.heap.size w w'):Q8 p w' s r:=⟨h.ok,h.mem.congr fun b hF=>hb.block b (h.mem.vis h.ok hF).1⟩
theorem Q8.fresh (h:Q8 p w s r) {b:Nat} (hb:w.heap.size <=b):¬PF p r b:=fun z=>by have:=(h.mem.vis h.ok z).1;omega
theorem Q8.O3 (h:Q8 p w s r) (hc:l9 (D2 p fb q w00 i cb top) w ⟨s,[],.inl k⟩):(D2 p fb q w00 i cb top).Told w (gm w) (PF p r) (.inl k):=hc.O3 rfl (fun _ _=>trivial) ⟨r,rfl,h.mem⟩
theorem Q8.done {v:Value} (h:Q8 p w s r) (hc:l9 (D2 p fb q w00 i cb top) w ⟨s,[],.inr 1⟩):∃F,(D2 p fb q w00 i cb top).xb0 w F (.returned v):=⟨_,hc.done (m:=gm w) rfl (fun _ _=>trivial) ⟨r,rfl,h.mem⟩⟩
theorem Q8.start {F:Nat->Prop} (hs:xm0 (D2 p fb q w00 i cb top) (fun s=>n4 (p.bo i) 0 s) u F) (hp:k5 p):∃s r,Q8 p u s r/\l9 (D2 p fb q w00 i cb top) u (n4 (p.bo i) 0 s)/\(s.O3 i).length <=0:=by
 obtain⟨ht,p',hR,_,h1,h2⟩:=hs.at_
 have hl:=An0 p' hR;have B1:=hl.new i (Nat.le_of_eq h2);rw[h1]at B1;obtain⟨r,hF,hM⟩:Rx0 p ((E4 p).sAt q (gh u 0)) (gm u) u F:=hs.inv;exact⟨_,r,⟨hp,hM⟩,⟨hs.on,hs.W2,hs.out,rfl,hs.os,hs.output⟩,by rw[B1];exact Nat.le_refl _⟩
theorem o8 {F F':Nat->Prop} {m:Gm} (hg:(D2 p fb q w00 i cb top).g5 w m F u F'):∃r1,F'=PF p r1/\ci0 p u ((E4 p).sAt q (gh u 0)) r1:=hg.inv
theorem B4 (hp:k5 p) {F F':Nat->Prop} {m:Gm} (hc:l9 (D2 p fb q w00 i cb top) w ⟨s,[],.inl k⟩) (ho:(p.bo i)[k]? =some o) (hg:(D2 p fb q w00 i cb top).Goes w m F k u F'):∃r1,F'=PF p r1/\Q8 p u ((E4 p).sAt q (gh u 0)) r1/\l9 (D2 p fb q w00 i cb top) u (n4 (p.bo i) (k+1) (dc0 i (pdo o ((E4 p).sAt q (gh u 0)))))/\(((E4 p).sAt q (gh u 0)).O3 i).length=k:=by
 obtain⟨r1,hF,hM⟩:=o8 hg.W6;obtain⟨ht,p',hR,_,h1,h2⟩:=hg.at_
 have hl:=(An0 p' hR).R4 i k h2;rw[h1]at hl;have p8:=hc.goes hg (fun s=>Am0 (p.bo i) i k s);have e1:(D2 p fb q w00 i cb top).go k ((D2 p fb q w00 i cb top).sOf (gh u 0))=n4 (p.bo i) (k+1) (dc0 i (pdo o ((E4 p).sAt q (gh u 0)))):=Gz0 ho;rw[e1]at p8;exact⟨r1,hF,⟨hp,hM⟩,p8,hl.1⟩
theorem R8 (ho:(p.bo i)[k]? =some o) {a b:Int} (ha:o.call=a) (hb:o.D5=b):(D2 p fb q w00 i cb top).stp k=⟨a,b,(C1 o:Nat)⟩:=by
 show(match(p.bo i)[k]? with|some o=>(⟨o.call,o.D5,(C1 o:Nat)⟩:Stp)|none=>⟨0,0,0⟩)=_;rw[ho,<- ha,<- hb]
theorem to0 (ho:(p.bo i)[k]? =some o) (s:PS):(D2 p fb q w00 i cb top).rdy k s=xy0 o s:=by
 show(match(p.bo i)[k]? with|some o=>xy0 o s|none=>true)=_;rw[ho]
theorem p9 (ho:(p.bo i)[k]? =some o) (h1:o.call≠1) (h3:o.call≠3) (s:PS):(D2 p fb q w00 i cb top).rdy k s=true:=by
 rw[to0 ho];unfold xy0;rw[if_neg h1,if_neg h3]
theorem dr0 (h:o.call=5\/o.call=8) {t:Nat} (hT:pT o=t) (s:PS):pdo o s=(s,s.val t (C1 o)):=by
 unfold pdo;rw[hT];rw[if_neg (by omega),if_neg (by omega),if_neg (by omega),if_neg (by omega),if_neg (by omega),if_neg (by omega)]
theorem jw0 (h:o.call=6\/o.call=9) {t:Nat} (hT:pT o=t) (s:PS):pdo o s=({s with val:=up2 s.val t (C1 o) o.val},0):=by
 unfold pdo;rw[hT];rw[if_neg (by omega),if_neg (by omega),if_neg (by omega),if_neg (by omega),if_pos (by omega)]
theorem Ao0 (h:o.call=7) {t:Nat} (hT:pT o=t) (s:PS):pdo o s=({s with val:=up2 s.val t (C1 o) (IntKind.i64.wrap (s.val t (C1 o)+o.val))},IntKind.i64.wrap (s.val t (C1 o)+o.val)):=by
 unfold pdo;rw[hT];rw[if_neg (by omega),if_neg (by omega),if_neg (by omega),if_neg (by omega),if_neg (by omega),if_pos (by omega)]
theorem Ha0 (h:o.call=1) {t:Nat} (hT:pT o=t) (s:PS):pdo o s=({s with held:=up2 s.held t (C1 o) true},0):=by
 unfold pdo;rw[hT,if_pos h]
theorem Hb0 (h:o.call=2) {t:Nat} (hT:pT o=t) (s:PS):pdo o s=({s with held:=up2 s.held t (C1 o) false},0):=by
 unfold pdo;rw[hT,if_neg (by omega),if_pos h]
theorem Od0 (h:o.call=3) {t:Nat} (_:pT o=t) (s:PS):pdo o s=({s with db0:=upN s.db0 (C1 o) (IntKind.i64.wrap (s.db0 (C1 o)+1))},0):=by
 unfold pdo;rw[if_neg (by omega),if_neg (by omega),if_pos h]
theorem Oe0 (h:o.call=4) {t:Nat} (_:pT o=t) (s:PS):pdo o s=({s with db0:=upN s.db0 (C1 o) (max 0 (IntKind.i64.wrap (s.db0 (C1 o)-1)))},0):=by
 unfold pdo;rw[if_neg (by omega),if_neg (by omega),if_neg (by omega),if_pos h]
theorem ya0 {wb t n t' n':Nat} {v:Int} {sa:Value} (h:¬(t'=t/\n'=n)):Z6 wb {s with val:=up2 s.val t n v} t' n' sa=Z6 wb s t' n' sa:=by
 unfold Z6;simp only[Gy0 h];rfl
theorem Ap0 {wb t n t' n':Nat} {v:Bool} {sa:Value} (h:¬(t'=t/\n'=n)):Z6 wb {s with held:=up2 s.held t n v} t' n' sa=Z6 wb s t' n' sa:=by
 unfold Z6;simp only[Gy0 h];rfl
theorem Aq0 {wb n t' n':Nat} {v:Int} {sa:Value} (h:¬(t'=2/\n'=n)):Z6 wb {s with db0:=upN s.db0 n v} t' n' sa=Z6 wb s t' n' sa:=by
 have e:prd {s with db0:=upN s.db0 n v} t' n'=prd s t' n':=by
  unfold prd;split
  ·exact A5 fun e=>h ⟨by assumption,e⟩
  ·rfl
 unfold Z6;rw[e]
theorem ht0 {b:Nat} {a1 a2:Value} {h h':Bool} {x x':Int} {T T':TypeId} (h1:V0 w b #[a1,a2,.bool h,.int .i64 x] T) (h2:V0 w b #[a1,a2,.bool h',.int .i64 x'] T'):h=h'/\x=x':=by
 have e:(some (Obj.cells #[a1,a2,.bool h,.int .i64 x] T (0,0)))=some (Obj.cells #[a1,a2,.bool h',.int .i64 x'] T' (0,0)):=h1.symm.trans h2;injection e with e
 injection e with e
 have e3:=congrArg (fun a:Array Value=>a.toList) e;simp at e3;exact e3
def c6 (p:M4) (fb:Nat->FuncId) (q:PR (E4 p)) (w00:World) (i cb:Nat) (top:List Frame) (k:Nat) (o:N2) (w:World) (A:Value->Int->Prop):Ending->World->Prop :=
 G3 (D2 p fb q w00 i cb top) w fun v u=>∃s1 r1,Q8 p u (pdo o s1).1 r1/\l9 (D2 p fb q w00 i cb top) u (n4 (p.bo i) (k+1) (dc0 i (pdo o s1)))/\(s1.O3 i).length=k/\A v (pdo o s1).2
end
theorem Lj0 {p:M4} {fb:Nat->FuncId} {q:PR (E4 p)} {w00:World} {i cb:Nat} {top:List Frame} {s:PS} {r:N5} {k:Nat} {o:N2} (hp:k5 p) (w0:World) (hE:Q8 p w0 s r) (hc:l9 (D2 p fb q w00 i cb top) w0 ⟨s,[],.inl k⟩) (ho:(p.bo i)[k]? =some o) (h5:o.D5=5) (h8:o.call=8) :
  @Calls Tryz.prog (K0 (D2 p fb q w00 i cb top)) 22 #[.pointer (some ⟨p.sb 5 (C1 o),0,none⟩),.pointer (some ⟨cb,0,none⟩)] w0 (c6 p fb q w00 i cb top k o w0 fun v x=>v= .int .i64 x):=by
 have hT:=hE.O3 hc;have hP:pT o=5:=by unfold pT;rw[h5];rfl
 obtain⟨sa,hC⟩:=hE.mem.hS 5 (C1 o) (by decide) (by decide) (j1 o);refine @Calls.mono _ (K0 (D2 p fb q w00 i cb top)) _ _ _ _ _ (Lb0 (Sys.kok (gi0 hp)) (p.sb 5 (C1 o)) p.wb 5 (C1 o:Nat) (fun tt=>((E4 p).sAt q tt).val 5 (C1 o)) _ w0 hT (R8 ho h8 h5) (p9 ho (by omega) (by omega)) (hE.mem.rob hp.hW) hC (fun u F' hg=>?_)) fun e u he=>?_
 ·obtain⟨r1,rfl,m7,_,_⟩:=B4 hp hc ho hg;obtain⟨_,hh⟩:=m7.mem.hS 5 (C1 o) (by decide) (by decide) (j1 o);exact hh
 ·cases e with
  |outgrown=>exact he
  |panicked ch=>exact he
  |returned v=>
   obtain⟨F',tt,hg,htt,rfl⟩:=he;obtain⟨r1,rfl,m7,p8,hl⟩:=B4 hp hc ho hg.goes;have e1:=htt.eq;refine⟨_,r1,?_,p8,hl,?_⟩
   ·rw[dr0 (by omega) hP];exact m7
   ·rw[dr0 (by omega) hP,e1]
theorem Lk0 {p:M4} {fb:Nat->FuncId} {q:PR (E4 p)} {w00:World} {i cb:Nat} {top:List Frame} {s:PS} {r:N5} {k:Nat} {o:N2} (hp:k5 p) (w0:World) (hE:Q8 p w0 s r) (hc:l9 (D2 p fb q w00 i cb top) w0 ⟨s,[],.inl k⟩) (ho:(p.bo i)[k]? =some o) (h5:o.D5=4) (h8:o.call=5) :
  @Calls Tryz.prog (K0 (D2 p fb q w00 i cb top)) 29 #[.pointer (some ⟨p.sb 4 (C1 o),0,none⟩),.pointer (some ⟨cb,0,none⟩)] w0 (c6 p fb q w00 i cb top k o w0 fun v x=>v= .int .i64 x):=by
 have hT:=hE.O3 hc;have hP:pT o=4:=by unfold pT;rw[h5];rfl
 obtain⟨sa,hC⟩:=hE.mem.hS 4 (C1 o) (by decide) (by decide) (j1 o);refine @Calls.mono _ (K0 (D2 p fb q w00 i cb top)) _ _ _ _ _ (Ld0 (Sys.kok (gi0 hp)) (p.sb 4 (C1 o)) p.wb 4 (C1 o:Nat) (fun tt=>((E4 p).sAt q tt).val 4 (C1 o)) _ sa w0 hT (R8 ho h8 h5) (p9 ho (by omega) (by omega)) (hE.mem.rob hp.hW) hC (fun u F' hg=>?_)) fun e u he=>?_
 ·obtain⟨r1,rfl,m7,_,_⟩:=B4 hp hc ho hg;obtain⟨_,hh⟩:=m7.mem.hS 4 (C1 o) (by decide) (by decide) (j1 o);exact⟨_,hh⟩
 ·cases e with
  |outgrown=>exact he
  |panicked ch=>exact he
  |returned v=>
   obtain⟨F',tt,hg,htt,rfl⟩:=he;obtain⟨r1,rfl,m7,p8,hl⟩:=B4 hp hc ho hg.goes;have e1:=htt.eq;refine⟨_,r1,?_,p8,hl,?_⟩
   ·rw[dr0 (by omega) hP];exact m7
   ·rw[dr0 (by omega) hP,e1]
theorem Ll0 {p:M4} {fb:Nat->FuncId} {q:PR (E4 p)} {w00:World} {i cb:Nat} {top:List Frame} {s:PS} {r:N5} {k:Nat} {o:N2} (hp:k5 p) (w0:World) (hE:Q8 p w0 s r) (hc:l9 (D2 p fb q w00 i cb top) w0 ⟨s,[],.inl k⟩) (ho:(p.bo i)[k]? =some o) (h5:o.D5=3) (h8:o.call=5) :
  @Calls Tryz.prog (K0 (D2 p fb q w00 i cb top)) 34 #[.pointer (some ⟨p.sb 3 (C1 o),0,none⟩),.pointer (some ⟨cb,0,none⟩)] w0 (c6 p fb q w00 i cb top k o w0 fun v x=>v= .int .i64 x):=by
 have hT:=hE.O3 hc;have hP:pT o=3:=by unfold pT;rw[h5];rfl
 obtain⟨sa,hC⟩:=hE.mem.hS 3 (C1 o) (by decide) (by decide) (j1 o);refine @Calls.mono _ (K0 (D2 p fb q w00 i cb top)) _ _ _ _ _ (Lf0 (Sys.kok (gi0 hp)) (p.sb 3 (C1 o)) p.wb 3 (C1 o:Nat) (fun tt=>((E4 p).sAt q tt).val 3 (C1 o)) _ sa w0 hT (R8 ho h8 h5) (p9 ho (by omega) (by omega)) (hE.mem.rob hp.hW) hC (fun u F' hg=>?_)) fun e u he=>?_
 ·obtain⟨r1,rfl,m7,_,_⟩:=B4 hp hc ho hg;obtain⟨_,hh⟩:=m7.mem.hS 3 (C1 o) (by decide) (by decide) (j1 o);exact⟨_,hh⟩
 ·cases e with
  |outgrown=>exact he
  |panicked ch=>exact he
  |returned v=>
   obtain⟨F',tt,hg,htt,rfl⟩:=he;obtain⟨r1,rfl,m7,p8,hl⟩:=B4 hp hc ho hg.goes;have e1:=htt.eq;refine⟨_,r1,?_,p8,hl,?_⟩
   ·rw[dr0 (by omega) hP];exact m7
   ·rw[dr0 (by omega) hP,e1]
theorem Lm0 {p:M4} {fb:Nat->FuncId} {q:PR (E4 p)} {w00:World} {i cb:Nat} {top:List Frame} {s:PS} {r:N5} {k:Nat} {o:N2} (hp:k5 p) (w0:World) (hE:Q8 p w0 s r) (hc:l9 (D2 p fb q w00 i cb top) w0 ⟨s,[],.inl k⟩) (ho:(p.bo i)[k]? =some o) (h5:o.D5=5) (h8:o.call=9) :
  @Calls Tryz.prog (K0 (D2 p fb q w00 i cb top)) 21 #[.pointer (some ⟨p.sb 5 (C1 o),0,none⟩),.pointer (some ⟨cb,0,none⟩),.int .i64 o.val] w0 (c6 p fb q w00 i cb top k o w0 fun v x=>v= .tuple #[]/\x=0):=by
 have hT:=hE.O3 hc;have hP:pT o=5:=by unfold pT;rw[h5];rfl
 obtain⟨sa,hC⟩:=hE.mem.hS 5 (C1 o) (by decide) (by decide) (j1 o);refine @Calls.mono _ (K0 (D2 p fb q w00 i cb top)) _ _ _ _ _ (Lc0 (Sys.kok (gi0 hp)) (p.sb 5 (C1 o)) p.wb 5 (C1 o:Nat) o.val _ w0 hT (R8 ho h8 h5) (p9 ho (by omega) (by omega)) (hE.mem.rob hp.hW) hC (fun u F' hg=>?_)) fun e u he=>?_
 ·obtain⟨r1,rfl,m7,_,_⟩:=B4 hp hc ho hg;obtain⟨_,hh⟩:=m7.mem.hS 5 (C1 o) (by decide) (by decide) (j1 o);exact⟨_,hh⟩
 ·cases e with
  |outgrown=>exact he
  |panicked ch=>exact he
  |returned v=>
   obtain⟨rfl,u0,F',hg,hB,o3⟩:=he;obtain⟨r1,rfl,m7,p8,hl⟩:=B4 hp hc ho hg.goes
   skip
   refine⟨_,r1,?_,p8.K5 o3 trivial,hl,rfl,by rw[jw0 (by omega) hP]⟩;rw[jw0 (by omega) hP];exact⟨hp,m7.mem.set hp (sa:=sa) (by decide) (by decide) (j1 o) (o9.of o3) (.inl rfl) (by unfold Z6;simp only[lo0];exact hB) rfl fun _ _ _ _ _ _ h=>ya0 h⟩
theorem Ln0 {p:M4} {fb:Nat->FuncId} {q:PR (E4 p)} {w00:World} {i cb:Nat} {top:List Frame} {s:PS} {r:N5} {k:Nat} {o:N2} (hp:k5 p) (w0:World) (hE:Q8 p w0 s r) (hc:l9 (D2 p fb q w00 i cb top) w0 ⟨s,[],.inl k⟩) (ho:(p.bo i)[k]? =some o) (h5:o.D5=4) (h8:o.call=6) :
  @Calls Tryz.prog (K0 (D2 p fb q w00 i cb top)) 26 #[.pointer (some ⟨p.sb 4 (C1 o),0,none⟩),.pointer (some ⟨cb,0,none⟩),.int .i64 o.val] w0 (c6 p fb q w00 i cb top k o w0 fun v x=>v= .tuple #[]/\x=0):=by
 have hT:=hE.O3 hc;have hP:pT o=4:=by unfold pT;rw[h5];rfl
 obtain⟨sa,hC⟩:=hE.mem.hS 4 (C1 o) (by decide) (by decide) (j1 o);refine @Calls.mono _ (K0 (D2 p fb q w00 i cb top)) _ _ _ _ _ (Le0 (Sys.kok (gi0 hp)) (p.sb 4 (C1 o)) p.wb 4 (C1 o:Nat) o.val _ sa w0 hT (R8 ho h8 h5) (p9 ho (by omega) (by omega)) (hE.mem.rob hp.hW) hC (fun u F' hg=>?_)) fun e u he=>?_
 ·obtain⟨r1,rfl,m7,_,_⟩:=B4 hp hc ho hg;obtain⟨_,hh⟩:=m7.mem.hS 4 (C1 o) (by decide) (by decide) (j1 o);exact⟨_,_,hh⟩
 ·cases e with
  |outgrown=>exact he
  |panicked ch=>exact he
  |returned v=>
   obtain⟨rfl,u0,F',hg,hB,o3,_⟩:=he;obtain⟨r1,rfl,m7,p8,hl⟩:=B4 hp hc ho hg.goes;obtain⟨sa2,hB⟩:=hB;refine⟨_,r1,?_,p8.K5 o3 trivial,hl,rfl,by rw[jw0 (by omega) hP]⟩;rw[jw0 (by omega) hP];exact⟨hp,m7.mem.set hp (sa:=sa2) (by decide) (by decide) (j1 o) (o9.of o3) (.inl rfl) (by unfold Z6;simp only[lo0];exact hB) rfl fun _ _ _ _ _ _ h=>ya0 h⟩
theorem Lo0 {p:M4} {fb:Nat->FuncId} {q:PR (E4 p)} {w00:World} {i cb:Nat} {top:List Frame} {s:PS} {r:N5} {k:Nat} {o:N2} (hp:k5 p) (w0:World) (hE:Q8 p w0 s r) (hc:l9 (D2 p fb q w00 i cb top) w0 ⟨s,[],.inl k⟩) (ho:(p.bo i)[k]? =some o) (h5:o.D5=3) (h8:o.call=7) :
  @Calls Tryz.prog (K0 (D2 p fb q w00 i cb top)) 24 #[.pointer (some ⟨p.sb 3 (C1 o),0,none⟩),.pointer (some ⟨cb,0,none⟩),.int .i64 o.val] w0 (c6 p fb q w00 i cb top k o w0 fun v x=>v= .int .i64 x):=by
 have hT:=hE.O3 hc;have hP:pT o=3:=by unfold pT;rw[h5];rfl
 obtain⟨sa,hC⟩:=hE.mem.hS 3 (C1 o) (by decide) (by decide) (j1 o);refine @Calls.mono _ (K0 (D2 p fb q w00 i cb top)) _ _ _ _ _ (Lh0 (Sys.kok (gi0 hp)) (p.sb 3 (C1 o)) p.wb 3 (C1 o:Nat) (fun tt=>((E4 p).sAt q tt).val 3 (C1 o)) _ o.val sa w0 hT (R8 ho h8 h5) (p9 ho (by omega) (by omega)) (hE.mem.rob hp.hW) hC (fun u F' hg=>?_)) fun e u he=>?_
 ·obtain⟨r1,rfl,m7,_,_⟩:=B4 hp hc ho hg;obtain⟨_,hh⟩:=m7.mem.hS 3 (C1 o) (by decide) (by decide) (j1 o);exact⟨_,hh⟩
 ·cases e with
  |outgrown=>exact he
  |panicked ch=>exact he
  |returned v=>
   obtain⟨u0,F',tt,sa2,hg,htt,rfl,hB,y,hy1,hy2,hm2,_⟩:=he;obtain⟨r1,rfl,m7,p8,hl⟩:=B4 hp hc ho hg.goes;subst htt;refine⟨_,r1,?_,p8.to hm2.tape hm2.os hm2.output,hl,by rw[Ao0 h8 hP]⟩;rw[Ao0 h8 hP];exact⟨hp,m7.mem.set hp (sa:=sa2) (by decide) (by decide) (j1 o) hm2 (.inr hy2) (by unfold Z6;simp only[lo0];exact hB) rfl fun _ _ _ _ _ _ h=>ya0 h⟩
theorem Hc0 {p:M4} {fb:Nat->FuncId} {q:PR (E4 p)} {w00:World} {i cb:Nat} {top:List Frame} {s:PS} {r:N5} {k:Nat} {o:N2} (hp:k5 p) (w0:World) (hE:Q8 p w0 s r) (hc:l9 (D2 p fb q w00 i cb top) w0 ⟨s,[],.inl k⟩) (ho:(p.bo i)[k]? =some o) (h5:o.D5=1) (h8:o.call=1) :
  @Calls Tryz.prog (K0 (D2 p fb q w00 i cb top)) 20 #[.pointer (some ⟨p.mb 1 (C1 o),0,none⟩),.pointer (some ⟨cb,0,none⟩)] w0 (c6 p fb q w00 i cb top k o w0 fun v x=>v= .tuple #[]/\x=0):=by
 have hT:=hE.O3 hc;have hP:pT o=1:=by unfold pT;rw[h5];rfl
 obtain⟨sa,hC⟩:=hE.mem.hS 1 (C1 o) (by decide) (by decide) (j1 o);refine @Calls.mono _ (K0 (D2 p fb q w00 i cb top)) _ _ _ _ _ (Gv0 (Sys.kok (gi0 hp)) (p.sb 1 (C1 o)) 1 (C1 o:Nat) _ _ (p.mb 1 (C1 o)) w0 hT (R8 ho h8 h5) (hE.mem.rob (hp.hM 1 (C1 o) (by decide) (by decide) (j1 o))) hC (fun u F' hl=>?_)) fun e u he=>?_
 ·obtain⟨r1,rfl,hM⟩:=o8 hl;obtain⟨_,hh⟩:=hM.hS 1 (C1 o) (by decide) (by decide) (j1 o);exact⟨_,_,hh,by refine(to0 (fb:=fb) (w00:=w00) (cb:=cb) (top:=top) ho _).trans ?_;unfold xy0;rw[if_pos h8,hP];rfl⟩
 ·cases e with
  |outgrown=>exact he
  |panicked ch=>exact he
  |returned v=>
   obtain⟨rfl,u0,F',h',r',hg,Q5,hB,o3,_⟩:=he;obtain⟨r1,rfl,m7,p8,hl⟩:=B4 hp hc ho hg.goes;obtain⟨_,hS1⟩:=m7.mem.hS 1 (C1 o) (by decide) (by decide) (j1 o);obtain⟨rfl,rfl⟩:=ht0 Q5 hS1;refine⟨_,r1,?_,p8.K5 o3 trivial,hl,rfl,by rw[Ha0 h8 hP]⟩;exact U373
theorem yb0 {p:M4} {fb:Nat->FuncId} {q:PR (E4 p)} {w00:World} {i cb:Nat} {top:List Frame} {s:PS} {r:N5} {k:Nat} {o:N2} (hp:k5 p) (w0:World) (hE:Q8 p w0 s r) (hc:l9 (D2 p fb q w00 i cb top) w0 ⟨s,[],.inl k⟩) (ho:(p.bo i)[k]? =some o) (h5:o.D5=1) (h8:o.call=2) :
  @Calls Tryz.prog (K0 (D2 p fb q w00 i cb top)) 23 #[.pointer (some ⟨p.mb 1 (C1 o),0,none⟩),.pointer (some ⟨cb,0,none⟩)] w0 (c6 p fb q w00 i cb top k o w0 fun v x=>v= .tuple #[]/\x=0):=by
 have hT:=hE.O3 hc;have hP:pT o=1:=by unfold pT;rw[h5];rfl
 obtain⟨sa,hC⟩:=hE.mem.hS 1 (C1 o) (by decide) (by decide) (j1 o);refine @Calls.mono _ (K0 (D2 p fb q w00 i cb top)) _ _ _ _ _ (xv0 (Sys.kok (gi0 hp)) (p.sb 1 (C1 o)) 1 (C1 o:Nat) _ _ (p.mb 1 (C1 o)) w0 hT (R8 ho h8 h5) (p9 ho (by omega) (by omega)) (hE.mem.rob (hp.hM 1 (C1 o) (by decide) (by decide) (j1 o))) hC (fun u F' hl=>?_)) fun e u he=>?_
 ·obtain⟨r1,rfl,hM⟩:=o8 hl;obtain⟨_,hh⟩:=hM.hS 1 (C1 o) (by decide) (by decide) (j1 o);exact⟨_,_,hh⟩
 ·cases e with
  |outgrown=>exact he
  |panicked ch=>exact he
  |returned v=>
   obtain⟨rfl,u0,F',h',r',hg,Q5,hB,o3,_⟩:=he;obtain⟨r1,rfl,m7,p8,hl⟩:=B4 hp hc ho hg.goes;obtain⟨_,hS1⟩:=m7.mem.hS 1 (C1 o) (by decide) (by decide) (j1 o);obtain⟨rfl,rfl⟩:=ht0 Q5 hS1;refine⟨_,r1,?_,p8.K5 o3 trivial,hl,rfl,by rw[Hb0 h8 hP]⟩;exact U374
theorem Hd0 {p:M4} {fb:Nat->FuncId} {q:PR (E4 p)} {w00:World} {i cb:Nat} {top:List Frame} {s:PS} {r:N5} {k:Nat} {o:N2} (hp:k5 p) (w0:World) (hE:Q8 p w0 s r) (hc:l9 (D2 p fb q w00 i cb top) w0 ⟨s,[],.inl k⟩) (ho:(p.bo i)[k]? =some o) (h5:o.D5=2) (h8:o.call=1) :
  @Calls Tryz.prog (K0 (D2 p fb q w00 i cb top)) 25 #[.pointer (some ⟨p.mb 2 (C1 o),0,none⟩),.pointer (some ⟨cb,0,none⟩)] w0 (c6 p fb q w00 i cb top k o w0 fun v x=>v= .tuple #[]/\x=0):=by
 have hT:=hE.O3 hc;have hP:pT o=2:=by unfold pT;rw[h5];rfl
 obtain⟨sa,hC⟩:=hE.mem.hS 2 (C1 o) (by decide) (by decide) (j1 o);refine @Calls.mono _ (K0 (D2 p fb q w00 i cb top)) _ _ _ _ _ (Gw0 (Sys.kok (gi0 hp)) (p.sb 2 (C1 o)) 2 (C1 o:Nat) _ _ (p.mb 2 (C1 o)) w0 hT (R8 ho h8 h5) (hE.mem.rob (hp.hM 2 (C1 o) (by decide) (by decide) (j1 o))) hC (fun u F' hl=>?_)) fun e u he=>?_
 ·obtain⟨r1,rfl,hM⟩:=o8 hl;obtain⟨_,hh⟩:=hM.hS 2 (C1 o) (by decide) (by decide) (j1 o);exact⟨_,_,hh,by refine(to0 (fb:=fb) (w00:=w00) (cb:=cb) (top:=top) ho _).trans ?_;unfold xy0;rw[if_pos h8,hP];rfl⟩
 ·cases e with
  |outgrown=>exact he
  |panicked ch=>exact he
  |returned v=>
   obtain⟨rfl,u0,F',h',r',hg,Q5,hB,o3,_⟩:=he;obtain⟨r1,rfl,m7,p8,hl⟩:=B4 hp hc ho hg.goes;obtain⟨_,hS1⟩:=m7.mem.hS 2 (C1 o) (by decide) (by decide) (j1 o);obtain⟨rfl,rfl⟩:=ht0 Q5 hS1;refine⟨_,r1,?_,p8.K5 o3 trivial,hl,rfl,by rw[Ha0 h8 hP]⟩;exact U373
theorem yc0 {p:M4} {fb:Nat->FuncId} {q:PR (E4 p)} {w00:World} {i cb:Nat} {top:List Frame} {s:PS} {r:N5} {k:Nat} {o:N2} (hp:k5 p) (w0:World) (hE:Q8 p w0 s r) (hc:l9 (D2 p fb q w00 i cb top) w0 ⟨s,[],.inl k⟩) (ho:(p.bo i)[k]? =some o) (h5:o.D5=2) (h8:o.call=2) :
  @Calls Tryz.prog (K0 (D2 p fb q w00 i cb top)) 27 #[.pointer (some ⟨p.mb 2 (C1 o),0,none⟩),.pointer (some ⟨cb,0,none⟩)] w0 (c6 p fb q w00 i cb top k o w0 fun v x=>v= .tuple #[]/\x=0):=by
 have hT:=hE.O3 hc;have hP:pT o=2:=by unfold pT;rw[h5];rfl
 obtain⟨sa,hC⟩:=hE.mem.hS 2 (C1 o) (by decide) (by decide) (j1 o);refine @Calls.mono _ (K0 (D2 p fb q w00 i cb top)) _ _ _ _ _ (xw0 (Sys.kok (gi0 hp)) (p.sb 2 (C1 o)) 2 (C1 o:Nat) _ _ (p.mb 2 (C1 o)) w0 hT (R8 ho h8 h5) (p9 ho (by omega) (by omega)) (hE.mem.rob (hp.hM 2 (C1 o) (by decide) (by decide) (j1 o))) hC (fun u F' hl=>?_)) fun e u he=>?_
 ·obtain⟨r1,rfl,hM⟩:=o8 hl;obtain⟨_,hh⟩:=hM.hS 2 (C1 o) (by decide) (by decide) (j1 o);exact⟨_,_,hh⟩
 ·cases e with
  |outgrown=>exact he
  |panicked ch=>exact he
  |returned v=>
   obtain⟨rfl,u0,F',h',r',hg,Q5,hB,o3,_⟩:=he;obtain⟨r1,rfl,m7,p8,hl⟩:=B4 hp hc ho hg.goes;obtain⟨_,hS1⟩:=m7.mem.hS 2 (C1 o) (by decide) (by decide) (j1 o);obtain⟨rfl,rfl⟩:=ht0 Q5 hS1;refine⟨_,r1,?_,p8.K5 o3 trivial,hl,rfl,by rw[Hb0 h8 hP]⟩;exact U374
theorem Bz0 {p:M4} {fb:Nat->FuncId} {q:PR (E4 p)} {w00:World} {i cb:Nat} {top:List Frame} {s:PS} {r:N5} {k:Nat} {o:N2} (hp:k5 p) (w0:World) (hE:Q8 p w0 s r) (hc:l9 (D2 p fb q w00 i cb top) w0 ⟨s,[],.inl k⟩) (ho:(p.bo i)[k]? =some o) (h5:o.D5=2) (h8:o.call=3) :
  @Calls Tryz.prog (K0 (D2 p fb q w00 i cb top)) 28 #[.pointer (some ⟨p.mb 2 (C1 o),0,none⟩),.pointer (some ⟨cb,0,none⟩)] w0 (c6 p fb q w00 i cb top k o w0 fun v x=>v= .tuple #[]/\x=0):=by
 have hT:=hE.O3 hc;have hP:pT o=2:=by unfold pT;rw[h5];rfl
 obtain⟨sa,hC⟩:=hE.mem.hS 2 (C1 o) (by decide) (by decide) (j1 o);refine @Calls.mono _ (K0 (D2 p fb q w00 i cb top)) _ _ _ _ _ (By0 (Sys.kok (gi0 hp)) (p.sb 2 (C1 o)) 2 (C1 o:Nat) _ _ (p.mb 2 (C1 o)) w0 hT (R8 ho h8 h5) (hE.mem.rob (hp.hM 2 (C1 o) (by decide) (by decide) (j1 o))) hC (fun u F' hl=>?_)) fun e u he=>?_
 ·obtain⟨r1,rfl,hM⟩:=o8 hl;obtain⟨_,hh⟩:=hM.hS 2 (C1 o) (by decide) (by decide) (j1 o);exact⟨_,_,hh,by refine(to0 (fb:=fb) (w00:=w00) (cb:=cb) (top:=top) ho _).trans ?_;unfold xy0;rw[if_neg (by omega),if_pos h8];rfl⟩
 ·cases e with
  |outgrown=>exact he
  |panicked ch=>exact he
  |returned v=>
   obtain⟨rfl,u0,F',h',r',hg,Q5,hB,o3,_⟩:=he;obtain⟨r1,rfl,m7,p8,hl⟩:=B4 hp hc ho hg.goes;obtain⟨_,hS1⟩:=m7.mem.hS 2 (C1 o) (by decide) (by decide) (j1 o);obtain⟨rfl,rfl⟩:=ht0 Q5 hS1;refine⟨_,r1,?_,p8.K5 o3 trivial,hl,rfl,by rw[Od0 h8 hP]⟩;rw[Od0 h8 hP];exact⟨hp,m7.mem.set hp (sa:=sa) (by decide) (by decide) (j1 o) (o9.of o3) (.inl rfl) (by unfold Z6 prd;simp only[W4];exact hB) rfl fun _ _ _ _ _ _ h=>Aq0 h⟩
theorem vx0 {p:M4} {fb:Nat->FuncId} {q:PR (E4 p)} {w00:World} {i cb:Nat} {top:List Frame} {s:PS} {r:N5} {k:Nat} {o:N2} (hp:k5 p) (w0:World) (hE:Q8 p w0 s r) (hc:l9 (D2 p fb q w00 i cb top) w0 ⟨s,[],.inl k⟩) (ho:(p.bo i)[k]? =some o) (h5:o.D5=2) (h8:o.call=4) :
  @Calls Tryz.prog (K0 (D2 p fb q w00 i cb top)) 30 #[.pointer (some ⟨p.mb 2 (C1 o),0,none⟩),.pointer (some ⟨cb,0,none⟩)] w0 (c6 p fb q w00 i cb top k o w0 fun v x=>v= .tuple #[]/\x=0):=by
 have hT:=hE.O3 hc;have hP:pT o=2:=by unfold pT;rw[h5];rfl
 obtain⟨sa,hC⟩:=hE.mem.hS 2 (C1 o) (by decide) (by decide) (j1 o);refine @Calls.mono _ (K0 (D2 p fb q w00 i cb top)) _ _ _ _ _ (vu0 (Sys.kok (gi0 hp)) (p.sb 2 (C1 o)) 2 (C1 o:Nat) _ _ (p.mb 2 (C1 o)) w0 hT (R8 ho h8 h5) (p9 ho (by omega) (by omega)) (hE.mem.rob (hp.hM 2 (C1 o) (by decide) (by decide) (j1 o))) hC (fun u F' hl=>?_)) fun e u he=>?_
 ·obtain⟨r1,rfl,hM⟩:=o8 hl;obtain⟨_,hh⟩:=hM.hS 2 (C1 o) (by decide) (by decide) (j1 o);exact⟨_,_,hh⟩
 ·cases e with
  |outgrown=>exact he
  |panicked ch=>exact he
  |returned v=>
   obtain⟨rfl,u0,F',h',r',hg,Q5,hB,o3,_⟩:=he;obtain⟨r1,rfl,m7,p8,hl⟩:=B4 hp hc ho hg.goes;obtain⟨_,hS1⟩:=m7.mem.hS 2 (C1 o) (by decide) (by decide) (j1 o);obtain⟨rfl,rfl⟩:=ht0 Q5 hS1;refine⟨_,r1,?_,p8.K5 o3 trivial,hl,rfl,by rw[Oe0 h8 hP]⟩;rw[Oe0 h8 hP];exact⟨hp,m7.mem.set hp (sa:=sa) (by decide) (by decide) (j1 o) (o9.of o3) (.inl rfl) (by unfold Z6 prd;simp only[W4];exact hB) rfl fun _ _ _ _ _ _ h=>Aq0 h⟩
theorem q5 {p:M4} {w:World} {s:PS} {r:N5} (h:Q8 p w s r) {t n:Nat} (h1:1 <=t) (h5:t <=5) (hn:n<2):w.cell? ⟨p.tb,2*(t-1)+n*1,none⟩=some (.pointer (some ⟨pob p t n,0,none⟩)):=by
 have hB:=h.mem.rob h.ok.hT;have e1:(2*(t-1)+n*1)/2+1=t:=by omega
 have e2:(2*(t-1)+n*1)%2=n:=by omega
 refine V0.A0 hB _ ((js0 (by omega)).trans ?_);rw[e1,e2]
theorem Lp0 (x:Int):Int.tmod (IntKind.i64.wrap (Int.tmod x 2+2)) 2=((x%2).toNat:Nat):=by
 have h1:=Int.tmod_lt_of_pos x (b:=2) (by decide);have h2:=Int.lt_tmod_of_pos x (b:=2) (by decide);have e1:IntKind.i64.wrap (Int.tmod x 2+2)=Int.tmod x 2+2:=by simp[IntKind.wrap,IntKind.signed,IntKind.bits];omega
 rw[e1];have e2:Int.tmod (Int.tmod x 2+2) 2=x%2:=by
  rw[Int.tmod_eq_emod_of_nonneg (by omega)];rw[Int.tmod_eq_emod];split <;> omega
 rw[e2];omega
section
variable [Ctx Tryz.prog]
theorem X4 (o:N2) (w0:World):C Tryz.prog 15 #[.agg #[.int .i64 o.D5,.int .i64 o.gg0,.int .i64 o.call,.int .i64 o.val]] w0 fun v w=>v= .int .i64 (C1 o:Nat)/\Below w0.heap.size w0 w:=by
 refine C.enter (n:=8) Tryz.func15 rfl rfl ?_;refine U539 ?_;intro hb w b1 F1;have lt1:=F1.lq hb.size;have hb:=N0 hb F1.below;have hB1:=F1.blk;refine U34 ?_;refine U68 ?_;refine L.va (F0 rfl Tryz.underlying3 rfl (hB1.A0 1 (v:=.int .i64 o.gg0) rfl)) ?_;refine L.va (pc0 (κ:=.i64) rfl rfl (by decide)) ?_;refine L.va (km0 (κ:=.i64) rfl rfl) ?_;refine L.va (pc0 (κ:=.i64) rfl rfl (by decide)) ?_;refine U10 ?_;exact⟨by show(Value.int .i64 (Int.tmod (IntKind.i64.wrap (Int.tmod o.gg0 2+2)) 2))=_;rw[Lp0];rfl,hb⟩
end
set_option maxHeartbeats 1000000 in
theorem He0 {p:M4} {fb:Nat->FuncId} {q:PR (E4 p)} {w00:World} {i cb:Nat} {top:List Frame} {s:PS} {r:N5} {k:Nat} (wh vv:Int) (w0:World) (hE:Q8 p w0 s r) (hc:l9 (D2 p fb q w00 i cb top) w0 (n4 (p.bo i) k s)) (ho:(p.bo i)[k]? =some (⟨1,wh,1,vv⟩:N2)) :
  @Calls Tryz.prog (K0 (D2 p fb q w00 i cb top)) 39 #[.pointer (some ⟨p.tb,0,none⟩),.pointer (some ⟨cb,0,none⟩),.agg #[.int .i64 1,.int .i64 wh,.int .i64 1,.int .i64 vv]] w0 (c6 p fb q w00 i cb top k (⟨1,wh,1,vv⟩:N2) w0 fun v x=>v= .int .i64 x):=by
 letI:Ctx Tryz.prog:=K0 (D2 p fb q w00 i cb top);refine U22 ?_;intro S8 e6;refine L.box (cs:=#[.int .i64 1,.int .i64 wh,.int .i64 1,.int .i64 vv]) rfl rfl (fun w b5 F5=>?_);refine U24 ?_;intro O8 hE hc D3;refine L.va (G0 (cs:=[.int .i64 1,.int .i64 wh,.int .i64 1,.int .i64 vv]) rfl Tryz.underlying52 rfl M1 rfl (D3.J1 rfl)) ?_;refine L.call (M0 rfl Tryz.func15 rfl k9 rfl) (X4 (⟨1,wh,1,vv⟩:N2) w) ?_;rintro _ w ⟨rfl,I1⟩;refine U20 ?_;intro hE hc D3;refine U169 ?_;refine U91 ?_;refine U166 ?_;refine U518 ?_;refine U61 ?_;refine U164 ?_;refine L.va (C2 (i:=C1 (⟨1,wh,1,vv⟩:N2)) (n:=2) rfl rfl Tryz.underlying62 xe0 (j1 _)) ?_;refine L.va (F0 (v:=.pointer (some ⟨p.mb 1 (C1 (⟨1,wh,1,vv⟩:N2)),0,none⟩)) rfl Tryz.underlying61 rfl (q5 hE (t:=1) (n:=C1 (⟨1,wh,1,vv⟩:N2)) (by decide) (by decide) (j1 _))) ?_;refine L.va (m3 rfl) ?_;rw[p5 ho]at hc;have Z4:=Hc0 hE.ok w hE hc ho rfl rfl;refine L.T3 rfl (n3 rfl rfl Tryz.func20 rfl Vh0 rfl) Z4 ?_ ?_ (fun _ h=>h)
 rotate_left
 ·rintro ch u ⟨J6,hh⟩;exact⟨J6,hh.at (hc.os.trans S8.symm) (hc.output.trans e6.symm)⟩
 rintro _ w ⟨s1,r1,m7,p8,hl1,rfl,hx⟩;refine U209 ?_;refine U10 ?_;exact⟨s1,r1,m7,p8,hl1,by show(Value.int .i64 0)= .int .i64 (pdo (⟨1,wh,1,vv⟩:N2) s1).2;rw[hx]⟩
set_option maxHeartbeats 1000000 in
theorem Hf0 {p:M4} {fb:Nat->FuncId} {q:PR (E4 p)} {w00:World} {i cb:Nat} {top:List Frame} {s:PS} {r:N5} {k:Nat} (wh vv:Int) (w0:World) (hE:Q8 p w0 s r) (hc:l9 (D2 p fb q w00 i cb top) w0 (n4 (p.bo i) k s)) (ho:(p.bo i)[k]? =some (⟨1,wh,2,vv⟩:N2)) :
  @Calls Tryz.prog (K0 (D2 p fb q w00 i cb top)) 39 #[.pointer (some ⟨p.tb,0,none⟩),.pointer (some ⟨cb,0,none⟩),.agg #[.int .i64 1,.int .i64 wh,.int .i64 2,.int .i64 vv]] w0 (c6 p fb q w00 i cb top k (⟨1,wh,2,vv⟩:N2) w0 fun v x=>v= .int .i64 x):=by
 letI:Ctx Tryz.prog:=K0 (D2 p fb q w00 i cb top);refine U22 ?_;intro S8 e6;refine L.box (cs:=#[.int .i64 1,.int .i64 wh,.int .i64 2,.int .i64 vv]) rfl rfl (fun w b5 F5=>?_);refine U24 ?_;intro O8 hE hc D3;refine L.va (G0 (cs:=[.int .i64 1,.int .i64 wh,.int .i64 2,.int .i64 vv]) rfl Tryz.underlying52 rfl M1 rfl (D3.J1 rfl)) ?_;refine L.call (M0 rfl Tryz.func15 rfl k9 rfl) (X4 (⟨1,wh,2,vv⟩:N2) w) ?_;rintro _ w ⟨rfl,I1⟩;refine U20 ?_;intro hE hc D3;refine U169 ?_;refine U91 ?_;refine U165 ?_;refine U514 ?_;refine W.v5 rfl ?_;refine U61 ?_;refine U164 ?_;refine L.va (C2 (i:=C1 (⟨1,wh,2,vv⟩:N2)) (n:=2) rfl rfl Tryz.underlying62 xe0 (j1 _)) ?_;refine L.va (F0 (v:=.pointer (some ⟨p.mb 1 (C1 (⟨1,wh,2,vv⟩:N2)),0,none⟩)) rfl Tryz.underlying61 rfl (q5 hE (t:=1) (n:=C1 (⟨1,wh,2,vv⟩:N2)) (by decide) (by decide) (j1 _))) ?_;refine L.va (m3 rfl) ?_;rw[p5 ho]at hc;have Z4:=yb0 hE.ok w hE hc ho rfl rfl;refine L.T3 rfl (n3 rfl rfl Tryz.func23 rfl Vk0 rfl) Z4 ?_ ?_ (fun _ h=>h)
 rotate_left
 ·rintro ch u ⟨J6,hh⟩;exact⟨J6,hh.at (hc.os.trans S8.symm) (hc.output.trans e6.symm)⟩
 rintro _ w ⟨s1,r1,m7,p8,hl1,rfl,hx⟩;refine U209 ?_;refine U10 ?_;exact⟨s1,r1,m7,p8,hl1,by show(Value.int .i64 0)= .int .i64 (pdo (⟨1,wh,2,vv⟩:N2) s1).2;rw[hx]⟩
set_option maxHeartbeats 1000000 in
theorem Hg0 {p:M4} {fb:Nat->FuncId} {q:PR (E4 p)} {w00:World} {i cb:Nat} {top:List Frame} {s:PS} {r:N5} {k:Nat} (wh vv:Int) (w0:World) (hE:Q8 p w0 s r) (hc:l9 (D2 p fb q w00 i cb top) w0 (n4 (p.bo i) k s)) (ho:(p.bo i)[k]? =some (⟨2,wh,1,vv⟩:N2)) :
  @Calls Tryz.prog (K0 (D2 p fb q w00 i cb top)) 39 #[.pointer (some ⟨p.tb,0,none⟩),.pointer (some ⟨cb,0,none⟩),.agg #[.int .i64 2,.int .i64 wh,.int .i64 1,.int .i64 vv]] w0 (c6 p fb q w00 i cb top k (⟨2,wh,1,vv⟩:N2) w0 fun v x=>v= .int .i64 x):=by
 letI:Ctx Tryz.prog:=K0 (D2 p fb q w00 i cb top);refine U22 ?_;intro S8 e6;refine L.box (cs:=#[.int .i64 2,.int .i64 wh,.int .i64 1,.int .i64 vv]) rfl rfl (fun w b5 F5=>?_);refine U24 ?_;intro O8 hE hc D3;refine L.va (G0 (cs:=[.int .i64 2,.int .i64 wh,.int .i64 1,.int .i64 vv]) rfl Tryz.underlying52 rfl M1 rfl (D3.J1 rfl)) ?_;refine L.call (M0 rfl Tryz.func15 rfl k9 rfl) (X4 (⟨2,wh,1,vv⟩:N2) w) ?_;rintro _ w ⟨rfl,I1⟩;refine U20 ?_;intro hE hc D3;refine U54 ?_;refine U166 ?_;refine U9 ?_;refine U91 ?_;refine U53 ?_;refine L.va (C2 (i:=C1 (⟨2,wh,1,vv⟩:N2)) (n:=2) rfl rfl Tryz.underlying64 ta0 (j1 _)) ?_;refine L.va (F0 (v:=.pointer (some ⟨p.mb 2 (C1 (⟨2,wh,1,vv⟩:N2)),0,none⟩)) rfl Tryz.underlying63 rfl (q5 hE (t:=2) (n:=C1 (⟨2,wh,1,vv⟩:N2)) (by decide) (by decide) (j1 _))) ?_;refine L.va (m3 rfl) ?_;rw[p5 ho]at hc;have Z4:=Hd0 hE.ok w hE hc ho rfl rfl;refine L.T3 rfl (n3 rfl rfl Tryz.func25 rfl Vm0 rfl) Z4 ?_ ?_ (fun _ h=>h)
 rotate_left
 ·rintro ch u ⟨J6,hh⟩;exact⟨J6,hh.at (hc.os.trans S8.symm) (hc.output.trans e6.symm)⟩
 rintro _ w ⟨s1,r1,m7,p8,hl1,rfl,hx⟩;refine U211 ?_;refine U10 ?_;exact⟨s1,r1,m7,p8,hl1,by show(Value.int .i64 0)= .int .i64 (pdo (⟨2,wh,1,vv⟩:N2) s1).2;rw[hx]⟩
set_option maxHeartbeats 1000000 in
theorem Hh0 {p:M4} {fb:Nat->FuncId} {q:PR (E4 p)} {w00:World} {i cb:Nat} {top:List Frame} {s:PS} {r:N5} {k:Nat} (wh vv:Int) (w0:World) (hE:Q8 p w0 s r) (hc:l9 (D2 p fb q w00 i cb top) w0 (n4 (p.bo i) k s)) (ho:(p.bo i)[k]? =some (⟨2,wh,2,vv⟩:N2)) :
  @Calls Tryz.prog (K0 (D2 p fb q w00 i cb top)) 39 #[.pointer (some ⟨p.tb,0,none⟩),.pointer (some ⟨cb,0,none⟩),.agg #[.int .i64 2,.int .i64 wh,.int .i64 2,.int .i64 vv]] w0 (c6 p fb q w00 i cb top k (⟨2,wh,2,vv⟩:N2) w0 fun v x=>v= .int .i64 x):=by
 letI:Ctx Tryz.prog:=K0 (D2 p fb q w00 i cb top);refine U22 ?_;intro S8 e6;refine L.box (cs:=#[.int .i64 2,.int .i64 wh,.int .i64 2,.int .i64 vv]) rfl rfl (fun w b5 F5=>?_);refine U24 ?_;intro O8 hE hc D3;refine L.va (G0 (cs:=[.int .i64 2,.int .i64 wh,.int .i64 2,.int .i64 vv]) rfl Tryz.underlying52 rfl M1 rfl (D3.J1 rfl)) ?_;refine L.call (M0 rfl Tryz.func15 rfl k9 rfl) (X4 (⟨2,wh,2,vv⟩:N2) w) ?_;rintro _ w ⟨rfl,I1⟩;refine U20 ?_;intro hE hc D3;refine U54 ?_;refine U165 ?_;refine U9 ?_;refine U275 ?_;refine U53 ?_;refine L.va (C2 (i:=C1 (⟨2,wh,2,vv⟩:N2)) (n:=2) rfl rfl Tryz.underlying64 ta0 (j1 _)) ?_;refine L.va (F0 (v:=.pointer (some ⟨p.mb 2 (C1 (⟨2,wh,2,vv⟩:N2)),0,none⟩)) rfl Tryz.underlying63 rfl (q5 hE (t:=2) (n:=C1 (⟨2,wh,2,vv⟩:N2)) (by decide) (by decide) (j1 _))) ?_;refine L.va (m3 rfl) ?_;rw[p5 ho]at hc;have Z4:=yc0 hE.ok w hE hc ho rfl rfl;refine L.T3 rfl (n3 rfl rfl Tryz.func27 rfl Vo0 rfl) Z4 ?_ ?_ (fun _ h=>h)
 rotate_left
 ·rintro ch u ⟨J6,hh⟩;exact⟨J6,hh.at (hc.os.trans S8.symm) (hc.output.trans e6.symm)⟩
 rintro _ w ⟨s1,r1,m7,p8,hl1,rfl,hx⟩;refine U211 ?_;refine U10 ?_;exact⟨s1,r1,m7,p8,hl1,by show(Value.int .i64 0)= .int .i64 (pdo (⟨2,wh,2,vv⟩:N2) s1).2;rw[hx]⟩
set_option maxHeartbeats 1000000 in
theorem Hi0 {p:M4} {fb:Nat->FuncId} {q:PR (E4 p)} {w00:World} {i cb:Nat} {top:List Frame} {s:PS} {r:N5} {k:Nat} (wh vv:Int) (w0:World) (hE:Q8 p w0 s r) (hc:l9 (D2 p fb q w00 i cb top) w0 (n4 (p.bo i) k s)) (ho:(p.bo i)[k]? =some (⟨2,wh,3,vv⟩:N2)) :
  @Calls Tryz.prog (K0 (D2 p fb q w00 i cb top)) 39 #[.pointer (some ⟨p.tb,0,none⟩),.pointer (some ⟨cb,0,none⟩),.agg #[.int .i64 2,.int .i64 wh,.int .i64 3,.int .i64 vv]] w0 (c6 p fb q w00 i cb top k (⟨2,wh,3,vv⟩:N2) w0 fun v x=>v= .int .i64 x):=by
 letI:Ctx Tryz.prog:=K0 (D2 p fb q w00 i cb top);refine U22 ?_;intro S8 e6;refine L.box (cs:=#[.int .i64 2,.int .i64 wh,.int .i64 3,.int .i64 vv]) rfl rfl (fun w b5 F5=>?_);refine U24 ?_;intro O8 hE hc D3;refine L.va (G0 (cs:=[.int .i64 2,.int .i64 wh,.int .i64 3,.int .i64 vv]) rfl Tryz.underlying52 rfl M1 rfl (D3.J1 rfl)) ?_;refine L.call (M0 rfl Tryz.func15 rfl k9 rfl) (X4 (⟨2,wh,3,vv⟩:N2) w) ?_;rintro _ w ⟨rfl,I1⟩;refine U20 ?_;intro hE hc D3;refine U54 ?_;refine U495 ?_;refine U9 ?_;refine U92 ?_;refine U53 ?_;refine L.va (C2 (i:=C1 (⟨2,wh,3,vv⟩:N2)) (n:=2) rfl rfl Tryz.underlying64 ta0 (j1 _)) ?_;refine L.va (F0 (v:=.pointer (some ⟨p.mb 2 (C1 (⟨2,wh,3,vv⟩:N2)),0,none⟩)) rfl Tryz.underlying63 rfl (q5 hE (t:=2) (n:=C1 (⟨2,wh,3,vv⟩:N2)) (by decide) (by decide) (j1 _))) ?_;refine L.va (m3 rfl) ?_;rw[p5 ho]at hc;have Z4:=Bz0 hE.ok w hE hc ho rfl rfl;refine L.T3 rfl (n3 rfl rfl Tryz.func28 rfl Vp0 rfl) Z4 ?_ ?_ (fun _ h=>h)
 rotate_left
 ·rintro ch u ⟨J6,hh⟩;exact⟨J6,hh.at (hc.os.trans S8.symm) (hc.output.trans e6.symm)⟩
 rintro _ w ⟨s1,r1,m7,p8,hl1,rfl,hx⟩;refine U211 ?_;refine U10 ?_;exact⟨s1,r1,m7,p8,hl1,by show(Value.int .i64 0)= .int .i64 (pdo (⟨2,wh,3,vv⟩:N2) s1).2;rw[hx]⟩
set_option maxHeartbeats 1000000 in
theorem Hj0 {p:M4} {fb:Nat->FuncId} {q:PR (E4 p)} {w00:World} {i cb:Nat} {top:List Frame} {s:PS} {r:N5} {k:Nat} (wh vv:Int) (w0:World) (hE:Q8 p w0 s r) (hc:l9 (D2 p fb q w00 i cb top) w0 (n4 (p.bo i) k s)) (ho:(p.bo i)[k]? =some (⟨2,wh,4,vv⟩:N2)) :
  @Calls Tryz.prog (K0 (D2 p fb q w00 i cb top)) 39 #[.pointer (some ⟨p.tb,0,none⟩),.pointer (some ⟨cb,0,none⟩),.agg #[.int .i64 2,.int .i64 wh,.int .i64 4,.int .i64 vv]] w0 (c6 p fb q w00 i cb top k (⟨2,wh,4,vv⟩:N2) w0 fun v x=>v= .int .i64 x):=by
 letI:Ctx Tryz.prog:=K0 (D2 p fb q w00 i cb top);refine U22 ?_;intro S8 e6;refine L.box (cs:=#[.int .i64 2,.int .i64 wh,.int .i64 4,.int .i64 vv]) rfl rfl (fun w b5 F5=>?_);refine U24 ?_;intro O8 hE hc D3;refine L.va (G0 (cs:=[.int .i64 2,.int .i64 wh,.int .i64 4,.int .i64 vv]) rfl Tryz.underlying52 rfl M1 rfl (D3.J1 rfl)) ?_;refine L.call (M0 rfl Tryz.func15 rfl k9 rfl) (X4 (⟨2,wh,4,vv⟩:N2) w) ?_;rintro _ w ⟨rfl,I1⟩;refine U20 ?_;intro hE hc D3;refine U54 ?_;refine U494 ?_;refine U9 ?_;refine U93 ?_;refine U53 ?_;refine L.va (C2 (i:=C1 (⟨2,wh,4,vv⟩:N2)) (n:=2) rfl rfl Tryz.underlying64 ta0 (j1 _)) ?_;refine L.va (F0 (v:=.pointer (some ⟨p.mb 2 (C1 (⟨2,wh,4,vv⟩:N2)),0,none⟩)) rfl Tryz.underlying63 rfl (q5 hE (t:=2) (n:=C1 (⟨2,wh,4,vv⟩:N2)) (by decide) (by decide) (j1 _))) ?_;refine L.va (m3 rfl) ?_;rw[p5 ho]at hc;have Z4:=vx0 hE.ok w hE hc ho rfl rfl;refine L.T3 rfl (n3 rfl rfl Tryz.func30 rfl Vr0 rfl) Z4 ?_ ?_ (fun _ h=>h)
 rotate_left
 ·rintro ch u ⟨J6,hh⟩;exact⟨J6,hh.at (hc.os.trans S8.symm) (hc.output.trans e6.symm)⟩
 rintro _ w ⟨s1,r1,m7,p8,hl1,rfl,hx⟩;refine U211 ?_;refine U10 ?_;exact⟨s1,r1,m7,p8,hl1,by show(Value.int .i64 0)= .int .i64 (pdo (⟨2,wh,4,vv⟩:N2) s1).2;rw[hx]⟩
set_option maxHeartbeats 1000000 in
theorem Hk0 {p:M4} {fb:Nat->FuncId} {q:PR (E4 p)} {w00:World} {i cb:Nat} {top:List Frame} {s:PS} {r:N5} {k:Nat} (wh vv:Int) (w0:World) (hE:Q8 p w0 s r) (hc:l9 (D2 p fb q w00 i cb top) w0 (n4 (p.bo i) k s)) (ho:(p.bo i)[k]? =some (⟨3,wh,7,vv⟩:N2)) :
  @Calls Tryz.prog (K0 (D2 p fb q w00 i cb top)) 39 #[.pointer (some ⟨p.tb,0,none⟩),.pointer (some ⟨cb,0,none⟩),.agg #[.int .i64 3,.int .i64 wh,.int .i64 7,.int .i64 vv]] w0 (c6 p fb q w00 i cb top k (⟨3,wh,7,vv⟩:N2) w0 fun v x=>v= .int .i64 x):=by
 letI:Ctx Tryz.prog:=K0 (D2 p fb q w00 i cb top);refine U22 ?_;intro S8 e6;refine L.box (cs:=#[.int .i64 3,.int .i64 wh,.int .i64 7,.int .i64 vv]) rfl rfl (fun w b5 F5=>?_);refine U24 ?_;intro O8 hE hc D3;refine L.va (G0 (cs:=[.int .i64 3,.int .i64 wh,.int .i64 7,.int .i64 vv]) rfl Tryz.underlying52 rfl M1 rfl (D3.J1 rfl)) ?_;refine L.call (M0 rfl Tryz.func15 rfl k9 rfl) (X4 (⟨3,wh,7,vv⟩:N2) w) ?_;rintro _ w ⟨rfl,I1⟩;refine U20 ?_;intro hE hc D3;refine U167 ?_;refine U92 ?_;refine U25 ?_;refine U405 ?_;refine U36 ?_;refine W.seq ?_;refine U72 ?_;refine U503 ?_;refine D.va (fun w' u3=>(C2 (i:=C1 (⟨3,wh,7,vv⟩:N2)) (n:=2) rfl rfl Tryz.underlying66 uz0 (j1 _))) ?_;refine D.va (fun w' u3=>(F0 (v:=.pointer (some ⟨p.sb 3 (C1 (⟨3,wh,7,vv⟩:N2)),0,none⟩)) rfl Tryz.underlying65 rfl (q5 (hE.E0 u3) (t:=3) (n:=C1 (⟨3,wh,7,vv⟩:N2)) (by decide) (by decide) (j1 _)))) ?_;refine U250 ?_;refine D.nil (fun w I1=>?_);refine U109 ?_;intro hE hc;clear I1;rw[p5 ho]at hc;have Z4:=Lo0 hE.ok w hE hc ho rfl rfl;refine L.T3 rfl (K3 rfl rfl rfl Tryz.func24 rfl Vl0 rfl) Z4 ?_ ?_ (fun _ h=>h)
 rotate_left
 ·rintro ch u ⟨J6,hh⟩;exact⟨J6,hh.at (hc.os.trans S8.symm) (hc.output.trans e6.symm)⟩
 rintro _ w ⟨s1,r1,m7,p8,hl1,rfl⟩;exact U210
set_option maxHeartbeats 1000000 in
theorem Hl0 {p:M4} {fb:Nat->FuncId} {q:PR (E4 p)} {w00:World} {i cb:Nat} {top:List Frame} {s:PS} {r:N5} {k:Nat} (wh vv:Int) (w0:World) (hE:Q8 p w0 s r) (hc:l9 (D2 p fb q w00 i cb top) w0 (n4 (p.bo i) k s)) (ho:(p.bo i)[k]? =some (⟨3,wh,5,vv⟩:N2)) :
  @Calls Tryz.prog (K0 (D2 p fb q w00 i cb top)) 39 #[.pointer (some ⟨p.tb,0,none⟩),.pointer (some ⟨cb,0,none⟩),.agg #[.int .i64 3,.int .i64 wh,.int .i64 5,.int .i64 vv]] w0 (c6 p fb q w00 i cb top k (⟨3,wh,5,vv⟩:N2) w0 fun v x=>v= .int .i64 x):=by
 letI:Ctx Tryz.prog:=K0 (D2 p fb q w00 i cb top);refine U22 ?_;intro S8 e6;refine L.box (cs:=#[.int .i64 3,.int .i64 wh,.int .i64 5,.int .i64 vv]) rfl rfl (fun w b5 F5=>?_);refine U24 ?_;intro O8 hE hc D3;refine L.va (G0 (cs:=[.int .i64 3,.int .i64 wh,.int .i64 5,.int .i64 vv]) rfl Tryz.underlying52 rfl M1 rfl (D3.J1 rfl)) ?_;refine L.call (M0 rfl Tryz.func15 rfl k9 rfl) (X4 (⟨3,wh,5,vv⟩:N2) w) ?_;rintro _ w ⟨rfl,I1⟩;refine U20 ?_;intro hE hc D3;refine U167 ?_;refine U92 ?_;refine U515 ?_;refine U199 ?_;refine U548 ?_;refine L.va (C2 (i:=C1 (⟨3,wh,5,vv⟩:N2)) (n:=2) rfl rfl Tryz.underlying66 uz0 (j1 _)) ?_;refine L.va (F0 (v:=.pointer (some ⟨p.sb 3 (C1 (⟨3,wh,5,vv⟩:N2)),0,none⟩)) rfl Tryz.underlying65 rfl (q5 hE (t:=3) (n:=C1 (⟨3,wh,5,vv⟩:N2)) (by decide) (by decide) (j1 _))) ?_;refine L.va (m3 rfl) ?_;rw[p5 ho]at hc;have Z4:=Ll0 hE.ok w hE hc ho rfl rfl;refine L.T3 rfl (n3 rfl rfl Tryz.func34 rfl Vt0 rfl) Z4 ?_ ?_ (fun _ h=>h)
 rotate_left
 ·rintro ch u ⟨J6,hh⟩;exact⟨J6,hh.at (hc.os.trans S8.symm) (hc.output.trans e6.symm)⟩
 rintro _ w ⟨s1,r1,m7,p8,hl1,rfl⟩;exact U210
set_option maxHeartbeats 1000000 in
theorem Hm0 {p:M4} {fb:Nat->FuncId} {q:PR (E4 p)} {w00:World} {i cb:Nat} {top:List Frame} {s:PS} {r:N5} {k:Nat} (wh vv:Int) (w0:World) (hE:Q8 p w0 s r) (hc:l9 (D2 p fb q w00 i cb top) w0 (n4 (p.bo i) k s)) (ho:(p.bo i)[k]? =some (⟨4,wh,5,vv⟩:N2)) :
  @Calls Tryz.prog (K0 (D2 p fb q w00 i cb top)) 39 #[.pointer (some ⟨p.tb,0,none⟩),.pointer (some ⟨cb,0,none⟩),.agg #[.int .i64 4,.int .i64 wh,.int .i64 5,.int .i64 vv]] w0 (c6 p fb q w00 i cb top k (⟨4,wh,5,vv⟩:N2) w0 fun v x=>v= .int .i64 x):=by
 letI:Ctx Tryz.prog:=K0 (D2 p fb q w00 i cb top);refine U22 ?_;intro S8 e6;refine L.box (cs:=#[.int .i64 4,.int .i64 wh,.int .i64 5,.int .i64 vv]) rfl rfl (fun w b5 F5=>?_);refine U24 ?_;intro O8 hE hc D3;refine L.va (G0 (cs:=[.int .i64 4,.int .i64 wh,.int .i64 5,.int .i64 vv]) rfl Tryz.underlying52 rfl M1 rfl (D3.J1 rfl)) ?_;refine L.call (M0 rfl Tryz.func15 rfl k9 rfl) (X4 (⟨4,wh,5,vv⟩:N2) w) ?_;rintro _ w ⟨rfl,I1⟩;refine U20 ?_;intro hE hc D3;refine U170 ?_;refine U93 ?_;refine U519 ?_;refine U64 ?_;refine U547 ?_;refine L.va (C2 (i:=C1 (⟨4,wh,5,vv⟩:N2)) (n:=2) rfl rfl Tryz.underlying68 va0 (j1 _)) ?_;refine L.va (F0 (v:=.pointer (some ⟨p.sb 4 (C1 (⟨4,wh,5,vv⟩:N2)),0,none⟩)) rfl Tryz.underlying67 rfl (q5 hE (t:=4) (n:=C1 (⟨4,wh,5,vv⟩:N2)) (by decide) (by decide) (j1 _))) ?_;refine L.va (m3 rfl) ?_;rw[p5 ho]at hc;have Z4:=Lk0 hE.ok w hE hc ho rfl rfl;refine L.T3 rfl (n3 rfl rfl Tryz.func29 rfl Vq0 rfl) Z4 ?_ ?_ (fun _ h=>h)
 rotate_left
 ·rintro ch u ⟨J6,hh⟩;exact⟨J6,hh.at (hc.os.trans S8.symm) (hc.output.trans e6.symm)⟩
 rintro _ w ⟨s1,r1,m7,p8,hl1,rfl⟩;exact U210
set_option maxHeartbeats 1000000 in
theorem Hn0 {p:M4} {fb:Nat->FuncId} {q:PR (E4 p)} {w00:World} {i cb:Nat} {top:List Frame} {s:PS} {r:N5} {k:Nat} (wh vv:Int) (w0:World) (hE:Q8 p w0 s r) (hc:l9 (D2 p fb q w00 i cb top) w0 (n4 (p.bo i) k s)) (ho:(p.bo i)[k]? =some (⟨4,wh,6,vv⟩:N2)) :
  @Calls Tryz.prog (K0 (D2 p fb q w00 i cb top)) 39 #[.pointer (some ⟨p.tb,0,none⟩),.pointer (some ⟨cb,0,none⟩),.agg #[.int .i64 4,.int .i64 wh,.int .i64 6,.int .i64 vv]] w0 (c6 p fb q w00 i cb top k (⟨4,wh,6,vv⟩:N2) w0 fun v x=>v= .int .i64 x):=by
 letI:Ctx Tryz.prog:=K0 (D2 p fb q w00 i cb top);refine U22 ?_;intro S8 e6;refine L.box (cs:=#[.int .i64 4,.int .i64 wh,.int .i64 6,.int .i64 vv]) rfl rfl (fun w b5 F5=>?_);refine U24 ?_;intro O8 hE hc D3;refine L.va (G0 (cs:=[.int .i64 4,.int .i64 wh,.int .i64 6,.int .i64 vv]) rfl Tryz.underlying52 rfl M1 rfl (D3.J1 rfl)) ?_;refine L.call (M0 rfl Tryz.func15 rfl k9 rfl) (X4 (⟨4,wh,6,vv⟩:N2) w) ?_;rintro _ w ⟨rfl,I1⟩;refine U20 ?_;intro hE hc D3;refine U170 ?_;refine U93 ?_;refine U25 ?_;refine U402 ?_;refine U117 ?_;refine U72 ?_;refine U501 ?_;refine D.va (fun w' u3=>(C2 (i:=C1 (⟨4,wh,6,vv⟩:N2)) (n:=2) rfl rfl Tryz.underlying68 va0 (j1 _))) ?_;refine D.va (fun w' u3=>(F0 (v:=.pointer (some ⟨p.sb 4 (C1 (⟨4,wh,6,vv⟩:N2)),0,none⟩)) rfl Tryz.underlying67 rfl (q5 (hE.E0 u3) (t:=4) (n:=C1 (⟨4,wh,6,vv⟩:N2)) (by decide) (by decide) (j1 _)))) ?_;refine U250 ?_;refine D.nil (fun w I1=>?_);refine U109 ?_;intro hE hc;clear I1;rw[p5 ho]at hc;have Z4:=Ln0 hE.ok w hE hc ho rfl rfl;refine L.T3 rfl (K3 rfl rfl rfl Tryz.func26 rfl Vn0 rfl) Z4 ?_ ?_ (fun _ h=>h)
 rotate_left
 ·rintro ch u ⟨J6,hh⟩;exact⟨J6,hh.at (hc.os.trans S8.symm) (hc.output.trans e6.symm)⟩
 rintro _ w ⟨s1,r1,m7,p8,hl1,rfl,hx⟩;refine U209 ?_;refine U10 ?_;exact⟨s1,r1,m7,p8,hl1,by show(Value.int .i64 0)= .int .i64 (pdo (⟨4,wh,6,vv⟩:N2) s1).2;rw[hx]⟩
set_option maxHeartbeats 1000000 in
theorem Ho0 {p:M4} {fb:Nat->FuncId} {q:PR (E4 p)} {w00:World} {i cb:Nat} {top:List Frame} {s:PS} {r:N5} {k:Nat} (wh vv:Int) (w0:World) (hE:Q8 p w0 s r) (hc:l9 (D2 p fb q w00 i cb top) w0 (n4 (p.bo i) k s)) (ho:(p.bo i)[k]? =some (⟨5,wh,8,vv⟩:N2)) :
  @Calls Tryz.prog (K0 (D2 p fb q w00 i cb top)) 39 #[.pointer (some ⟨p.tb,0,none⟩),.pointer (some ⟨cb,0,none⟩),.agg #[.int .i64 5,.int .i64 wh,.int .i64 8,.int .i64 vv]] w0 (c6 p fb q w00 i cb top k (⟨5,wh,8,vv⟩:N2) w0 fun v x=>v= .int .i64 x):=by
 letI:Ctx Tryz.prog:=K0 (D2 p fb q w00 i cb top);refine U22 ?_;intro S8 e6;refine L.box (cs:=#[.int .i64 5,.int .i64 wh,.int .i64 8,.int .i64 vv]) rfl rfl (fun w b5 F5=>?_);refine U24 ?_;intro O8 hE hc D3;refine L.va (G0 (cs:=[.int .i64 5,.int .i64 wh,.int .i64 8,.int .i64 vv]) rfl Tryz.underlying52 rfl M1 rfl (D3.J1 rfl)) ?_;refine L.call (M0 rfl Tryz.func15 rfl k9 rfl) (X4 (⟨5,wh,8,vv⟩:N2) w) ?_;rintro _ w ⟨rfl,I1⟩;refine U20 ?_;intro hE hc D3;refine U168 ?_;refine U172 ?_;refine U8 ?_;refine U173 ?_;refine U174 ?_;refine U175 ?_;refine U176 ?_;refine U25 ?_;refine U406 ?_;refine U64 ?_;refine U549 ?_;refine L.va (C2 (i:=C1 (⟨5,wh,8,vv⟩:N2)) (n:=2) rfl rfl Tryz.underlying70 vb0 (j1 _)) ?_;refine L.va (F0 (v:=.pointer (some ⟨p.sb 5 (C1 (⟨5,wh,8,vv⟩:N2)),0,none⟩)) rfl Tryz.underlying69 rfl (q5 hE (t:=5) (n:=C1 (⟨5,wh,8,vv⟩:N2)) (by decide) (by decide) (j1 _))) ?_;refine L.va (m3 rfl) ?_;rw[p5 ho]at hc;have Z4:=Lj0 hE.ok w hE hc ho rfl rfl;refine L.T3 rfl (n3 rfl rfl Tryz.func22 rfl Vj0 rfl) Z4 ?_ ?_ (fun _ h=>h)
 rotate_left
 ·rintro ch u ⟨J6,hh⟩;exact⟨J6,hh.at (hc.os.trans S8.symm) (hc.output.trans e6.symm)⟩
 rintro _ w ⟨s1,r1,m7,p8,hl1,rfl⟩;exact U210
set_option maxHeartbeats 1000000 in
theorem Hp0 {p:M4} {fb:Nat->FuncId} {q:PR (E4 p)} {w00:World} {i cb:Nat} {top:List Frame} {s:PS} {r:N5} {k:Nat} (wh vv:Int) (w0:World) (hE:Q8 p w0 s r) (hc:l9 (D2 p fb q w00 i cb top) w0 (n4 (p.bo i) k s)) (ho:(p.bo i)[k]? =some (⟨5,wh,9,vv⟩:N2)) :
  @Calls Tryz.prog (K0 (D2 p fb q w00 i cb top)) 39 #[.pointer (some ⟨p.tb,0,none⟩),.pointer (some ⟨cb,0,none⟩),.agg #[.int .i64 5,.int .i64 wh,.int .i64 9,.int .i64 vv]] w0 (c6 p fb q w00 i cb top k (⟨5,wh,9,vv⟩:N2) w0 fun v x=>v= .int .i64 x):=by
 letI:Ctx Tryz.prog:=K0 (D2 p fb q w00 i cb top);refine U22 ?_;intro S8 e6;refine L.box (cs:=#[.int .i64 5,.int .i64 wh,.int .i64 9,.int .i64 vv]) rfl rfl (fun w b5 F5=>?_);refine U24 ?_;intro O8 hE hc D3;refine L.va (G0 (cs:=[.int .i64 5,.int .i64 wh,.int .i64 9,.int .i64 vv]) rfl Tryz.underlying52 rfl M1 rfl (D3.J1 rfl)) ?_;refine L.call (M0 rfl Tryz.func15 rfl k9 rfl) (X4 (⟨5,wh,9,vv⟩:N2) w) ?_;rintro _ w ⟨rfl,I1⟩;refine U20 ?_;intro hE hc D3;refine U168 ?_;refine U172 ?_;refine U8 ?_;refine U173 ?_;refine U174 ?_;refine U175 ?_;refine U176 ?_;refine U25 ?_;refine U403 ?_;refine U117 ?_;refine U72 ?_;refine U502 ?_;refine D.va (fun w' u3=>(C2 (i:=C1 (⟨5,wh,9,vv⟩:N2)) (n:=2) rfl rfl Tryz.underlying70 vb0 (j1 _))) ?_;refine D.va (fun w' u3=>(F0 (v:=.pointer (some ⟨p.sb 5 (C1 (⟨5,wh,9,vv⟩:N2)),0,none⟩)) rfl Tryz.underlying69 rfl (q5 (hE.E0 u3) (t:=5) (n:=C1 (⟨5,wh,9,vv⟩:N2)) (by decide) (by decide) (j1 _)))) ?_;refine U250 ?_;refine D.nil (fun w I1=>?_);refine U109 ?_;intro hE hc;clear I1;rw[p5 ho]at hc;have Z4:=Lm0 hE.ok w hE hc ho rfl rfl;refine L.T3 rfl (K3 rfl rfl rfl Tryz.func21 rfl Vi0 rfl) Z4 ?_ ?_ (fun _ h=>h)
 rotate_left
 ·rintro ch u ⟨J6,hh⟩;exact⟨J6,hh.at (hc.os.trans S8.symm) (hc.output.trans e6.symm)⟩
 rintro _ w ⟨s1,r1,m7,p8,hl1,rfl,hx⟩;refine U209 ?_;refine U10 ?_;exact⟨s1,r1,m7,p8,hl1,by show(Value.int .i64 0)= .int .i64 (pdo (⟨5,wh,9,vv⟩:N2) s1).2;rw[hx]⟩
end Go.Vy.Sc
end
section
namespace Go.Vy
open Go Go.Yc Go.RowKit
open Go.Vc
theorem W.fp {P:Program} [Ctx P] {n:Nat} {id:Nat} {l:List Oper} {Q:Exit->Env->World->Prop} {e:Env} {w:World} (k:Nat) (ch aw:List Nat) (os:List Nat) (PQ:List PanicEntry->World->Prop) (K:World->Prop) (hm:P.follows .mixedOrders=true) (hB:un0 n l.toArray k=true) (hA:jc0 l k=true) (hk:Nat.ble k l.length=true) (hO:um0 l k (fun i=>ch.contains i) os=true) (hal:Uq0 l os (fun i=>aw.contains i)=true)
  (hPQ:∀c w e,PQ c w->Q (.panic c) e w) (hK:K w.drew) (h:FP P n l PQ (fun i=>ch.contains i) (fun i=>aw.contains i) (fun e' w'=>L P n l.toArray Q (l.drop k) e' w') os K e w.drew):W P n (.region id l.toArray true) Q e w:=by
 intro a ha;refine wp_region_draw fun t=>?_;simp only[Region.schedule,hm,Bool.true_or,if_true];have z5:=kk0 l.toArray l.toArray.size t (Array.replicate l.toArray.size false) (by simp) (by simp);unfold Region.linearise;generalize Region.linearise.go .any l.toArray l.toArray.size t (Array.replicate l.toArray.size false) []=σ at z5⊢;exact My0 (ss0 hB) hA (Nat.le_of_ble_eq_true hk) (kt0 (J9 z5) (fun p hp=>by cases hp) hO) (Jq0 (J9 z5) hal) z5 (J9 z5) hPQ hK h ha
end Go.Vy
end
section
namespace Go.Vy.Sc
open Go Go.Conc Go.Yc Go.RowKit Go.Proofs Go.Proofs.YtnifpkopeheodaaGreat Try
open Go.Vc Go.Wg
theorem Ry0 {p:M4} {fb:Nat->FuncId} {q:PR (E4 p)} {w00:World} {i cb:Nat} {top:List Frame} {s:PS} {r:N5} {k:Nat} {o:N2} (w0:World) (hE:Q8 p w0 s r) (hc:l9 (D2 p fb q w00 i cb top) w0 (n4 (p.bo i) k s)) (ho:(p.bo i)[k]? =some o) :
  @Calls Tryz.prog (K0 (D2 p fb q w00 i cb top)) 39 #[.pointer (some ⟨p.tb,0,none⟩),.pointer (some ⟨cb,0,none⟩),.agg #[.int .i64 o.D5,.int .i64 o.gg0,.int .i64 o.call,.int .i64 o.val]] w0 (c6 p fb q w00 i cb top k o w0 fun v x=>v= .int .i64 x):=by
 have hk:=hE.ok.ops i o (List.mem_of_getElem? ho);obtain⟨th,wh,ca,vv⟩:=o;rcases hk with⟨h,h2|h2⟩|⟨h,h2|h2|h2|h2⟩|⟨h,h2|h2⟩|⟨h,h2|h2⟩|⟨h,h2|h2⟩ <;> simp only at h h2 <;> subst h <;> subst h2
 ·exact He0 wh vv w0 hE hc ho
 ·exact Hf0 wh vv w0 hE hc ho
 ·exact Hg0 wh vv w0 hE hc ho
 ·exact Hh0 wh vv w0 hE hc ho
 ·exact Hi0 wh vv w0 hE hc ho
 ·exact Hj0 wh vv w0 hE hc ho
 ·exact Hl0 wh vv w0 hE hc ho
 ·exact Hk0 wh vv w0 hE hc ho
 ·exact Hm0 wh vv w0 hE hc ho
 ·exact Hn0 wh vv w0 hE hc ho
 ·exact Ho0 wh vv w0 hE hc ho
 ·exact Hp0 wh vv w0 hE hc ho
structure hw0 (w:World) (oa:Option Addr) (ops:List N2):Prop where
 sl:SL oa ops.length
 cell:∀(k:Nat) (o:N2),ops[k]? =some o->∀(j:Nat) (v:Value),(Yn0 o)[j]? =some v->w.cell? ⟨ab oa,ao oa+k*4+j,none⟩=some v
theorem hw0.E0 {w w':World} {oa:Option Addr} {ops:List N2} (h:hw0 w oa ops) (hb:Below w.heap.size w w'):hw0 w' oa ops:=⟨h.sl,fun k o ho j v hj=>dq0 (h.cell k o ho j v hj) hb⟩
structure od0 (p:M4) (i ob bp tp:Nat) (oa:Option Addr) (oc:Nat):Prop where
 rob:p.RO ob
 rbp:p.RO bp
 rtp:p.RO tp
 roa:0<(p.bo i).length->p.RO (ab oa)
 hob:V0 p.wI ob #[.slice oa (p.bo i).length oc] 50
 hbp:V0 p.wI bp #[.pointer (some ⟨p.tb,0,none⟩)] 54
 htp:V0 p.wI tp #[.slice (some ⟨p.lgb,0,none⟩) p.m p.m] 31
 ops:hw0 p.wI oa (p.bo i)
 len:(p.bo i).length <=100000
section
variable {p:M4}{w:World}{s:PS}{r:N5}{i ob bp tp oc:Nat}{oa:Option Addr}
theorem od0.ob_ (h:od0 p i ob bp tp oa oc) (hE:Q8 p w s r):V0 w ob #[.slice oa (p.bo i).length oc] 50:=(hE.mem.ro ob h.rob).trans h.hob
theorem od0.bp_ (h:od0 p i ob bp tp oa oc) (hE:Q8 p w s r):V0 w bp #[.pointer (some ⟨p.tb,0,none⟩)] 54:=(hE.mem.ro bp h.rbp).trans h.hbp
theorem od0.tp_ (h:od0 p i ob bp tp oa oc) (hE:Q8 p w s r):V0 w tp #[.slice (some ⟨p.lgb,0,none⟩) p.m p.m] 31:=(hE.mem.ro tp h.rtp).trans h.htp
theorem od0.dc1 (h:od0 p i ob bp tp oa oc) (hE:Q8 p w s r):hw0 w oa (p.bo i):=⟨h.ops.sl,fun k o ho j v hj=>by
 have hl:0<(p.bo i).length:=by have:=(List.getElem?_eq_some_iff.1 ho).1;omega
 rw[(u5 (u:=p.wI) (u':=w) (a:=⟨ab oa,ao oa+k*4+j,none⟩) (hE.mem.ro _ (h.roa hl))).1];exact h.ops.cell k o ho j v hj⟩
end
theorem Ca0 {K:K8 Tryz.prog} {f:FuncId} {args:Array Value} {u:World} (hf:K.Ed0=f) (h:@Calls Tryz.prog (K0 K) f args u (fun e w=>∃F,K.xb0 w F e)):l8 K (G (Frame.enter Tryz.prog f args .normal) K.top) u :=
 h (l8 K) rfl K.top fun _e _w' _fr he h3 h4=>.done (h3.trans hf.symm) h4 he.choose_spec
section
variable {p:M4}{w w2 w3:World}{s:PS}{r:N5}
abbrev Hq0 (l:List Int):List Value:=l.map (.int .i64 ·)
theorem Q8.Rz0 (h:Q8 p w s r) {i:Nat} (hi:i<p.m) {la':Option Addr} {lc':Nat} (a:Int)
  (hO:Own w2 p.B 2 1 la' ((s.O3 i).length+1) lc' (Hq0 (s.O3 i) ++ [.int .i64 a])) (hga:w.grownBy w2 (Value.ownBlock (.slice (r.la i) (s.O3 i).length (r.lc i)))) (hwh:la'≠none->(r.la i≠none/\ab la'=ab (r.la i))\/w.heap.size <=ab la')
  (hG:V0 w3 p.lgb (arr p.m fun j=>.slice (upN r.la i la' j) (upN s.O3 i (s.O3 i ++ [a]) j).length (upN r.lc i lc' j)) 45) (hg:w2.grownBy w3 (some p.lgb)):Q8 p w3 (dc0 i (s,a)) ⟨upN r.la i la',upN r.lc i lc'⟩:=by
 obtain⟨hp,hr⟩:=h;have Yq0:=rf0 (hr.hL i hi);have stay:∀b,b<w.heap.size->b≠p.lgb->(r.la i≠none->b≠ab (r.la i))->w3.heap[b]? =w.heap[b]?:=fun b hb h1 h2=>
  (hg.block b (Nat.lt_of_lt_of_le hb hga.size) (fun e=>h1 (by cases e;rfl))).trans (hga.block b hb (by
   rw[Rw0 Yq0];split
   ·exact fun e=>by cases e
   ·rename_i r3;exact fun e=>h2 r3 (by cases e;rfl)))
 have hlG:p.lgb<w.heap.size:=(m4 hr.hG).lt;have hO3:Own w3 p.B 2 1 la' ((s.O3 i).length+1) lc' (Hq0 (s.O3 i) ++ [.int .i64 a]):=hO.grown hg (by
  cases ha:la' with
  |none=>rw[ha]at hO;intro e;have:=vv0 hO;omega
  |some x=>
   have r3:la'≠none:=by rw[ha];simp
   rcases hwh r3 with⟨z1,z2⟩|z
   ·have:ab (r.la i)≠p.lgb:=fun e=>Al0 (hr.hL i hi) hr.hG (by decide) z1 e.symm;rw[<- ha,z2];intro e;exact this (Option.some.inj e)
   ·rw[<- ha];intro e;have:ab la'=p.lgb:=Option.some.inj e;omega)
 refine⟨hp,⟨fun t n h1 h2 h3=>?_,hG,fun j hj=>?_,fun j k hj hk hjk h1 h2=>?_,fun b hb=>?_,hr.lG⟩⟩
 ·obtain⟨sa,hS⟩:=hr.hS t n h1 h2 h3;exact⟨sa,(stay _ (m4 hS).lt (V0.ne hS hr.hG (lq0 t).2.1) fun ha=>Al0 (hr.hL i hi) hS (lq0 t).2.2 ha).trans hS⟩
 ·show Own w3 p.B _ 1 (upN r.la i la' j) (upN s.O3 i (s.O3 i ++ [a]) j).length (upN r.lc i lc' j) ((upN s.O3 i (s.O3 i ++ [a]) j).map (.int .i64 ·));by_cases R2:j=i
  ·subst R2;rw[W4,W4,W4,List.length_append,List.map_append];exact hO3
  ·rw[A5 R2,A5 R2,A5 R2];refine Own.congr (hr.hL j hj) fun ha=>?_;obtain⟨cur,hc,_⟩:=(hr.hL j hj).row ha;exact stay _ (m4 hc).lt (V0.ne hc hr.hG (by decide)) (fun ha2=>hr.inj j i hj hi R2 ha ha2)
 ·have h1:upN r.la i la' j≠none:=h1;have h2:upN r.la i la' k≠none:=h2;show ab (upN r.la i la' j)≠ab (upN r.la i la' k);have key:∀j,j<p.m->j≠i->r.la j≠none->la'≠none->ab (r.la j)≠ab la':=fun j hj R2 ha hb e=>by
   rcases hwh hb with⟨z1,z2⟩|z
   ·exact hr.inj j i hj hi R2 ha z1 (e.trans z2)
   ·have:=(hr.hL j hj).lt ha;omega
  by_cases e1:j=i
  ·have e2:k≠i:=fun e=>hjk (e1.trans e.symm);rw[e1,W4]at h1⊢;rw[A5 e2]at h2⊢;exact fun e=>key k hk e2 h2 h1 e.symm
  ·rw[A5 e1]at h1⊢;by_cases e2:k=i
   ·rw[e2,W4]at h2⊢;exact key j hj e1 h1 h2
   ·rw[A5 e2]at h2⊢;exact hr.inj j k hj hk hjk h1 h2
 ·have ho:=hr.Yo0 hp hb;exact(stay b (hr.vis hp (.inr (.inr (.inr hb)))).1 ho.2.1 (fun ha=>ho.2.2 i hi ha)).trans (hr.ro b hb)
theorem Q8.B (h:Q8 p w s r):p.B <=w.heap.size:=Nat.le_trans h.mem.lG (Nat.le_of_lt (m4 h.mem.hG).lt)
end
theorem Hr0 {N i lc':Nat} {la':Option Addr} {r:N5} {lg:Nat->List Int} (a:Int):setRow (arr N fun j=>.slice (r.la j) (lg j).length (r.lc j)) (0+i*1) [.slice la' ((lg i).length+1) lc']=arr N fun j=>.slice (upN r.la i la' j) (upN lg i (lg i ++ [a]) j).length (upN r.lc i lc' j):=by
 rw[Nat.zero_add,Nat.mul_one,vw0];refine Bg0 fun j _=>?_;by_cases h:j=i
 ·subst h;rw[if_pos rfl,W4,W4,W4,List.length_append,List.length_singleton]
 ·rw[if_neg h,A5 h,A5 h,A5 h]
theorem Sa0 {p:M4} {fb:Nat->FuncId} {q:PR (E4 p)} {w00:World} {i cb:Nat} {top:List Frame} {sI:PS} {rI:N5} {ob bp tp oc:Nat} {oa:Option Addr} (hD:od0 p i ob bp tp oa oc) (him:i<p.m) (w0:World) (hE:Q8 p w0 sI rI) (hc:l9 (D2 p fb q w00 i cb top) w0 (n4 (p.bo i) 0 sI)) :
  @Calls Tryz.prog (K0 (D2 p fb q w00 i cb top)) 46 #[.pointer (some ⟨cb,0,none⟩),.pointer (some ⟨ob,0,none⟩),.pointer (some ⟨bp,0,none⟩),.pointer (some ⟨tp,0,none⟩)] w0 (fun e u=>∃F',(D2 p fb q w00 i cb top).xb0 u F' e):=by
 letI:Ctx Tryz.prog:=K0 (D2 p fb q w00 i cb top);refine Calls.T5 (n:=32) Tryz.func46 rfl rfl ?_;have hlen:=hD.len;refine U556 ?_;refine W.loop (fun k e w=>∃j:Nat,∃s:PS,∃r:N5,k=(p.bo i).length-j/\e 0= .p cb/\e 1= .pointer (some ⟨ob,0,none⟩)/\e 2= .pointer (some ⟨bp,0,none⟩)/\e 3= .pointer (some ⟨tp,0,none⟩)/\e 5= .int .i64 (j:Nat)/\Q8 p w s r/\l9 (D2 p fb q w00 i cb top) w (n4 (p.bo i) j s)/\j <=(p.bo i).length) _ ⟨0,sI,rI,rfl,rfl,rfl,rfl,rfl,rfl,hE,hc,Nat.zero_le _⟩ ?_;rintro k e w ⟨j,s,r,hk,s0,s1,s2,s3,s5,hE,hc,hjn⟩;rw[V2 s0,V2 s1,V2 s2,V2 s3,V2 s5];clear s0 s1 s2 s3 s5;have hOb:=hD.ob_ hE;have hBp:=hD.bp_ hE;have hTp:=hD.tp_ hE;have Sb0:=hD.dc1 hE;refine W.seq ?_;refine U99 ?_;refine L.va (F0 rfl Tryz.underlying50 rfl (hOb.A0 0 (v:=.slice oa ((p.bo i).length) oc) rfl)) ?_;refine L.va (ba0 rfl Tryz.underlying50 rfl) ?_;refine L.va (cr0 rfl rfl) ?_;refine U7 ?_;refine W.fo0 rfl (fun h10=>?_) (fun h10=>?_)
 ·refine W.skip ?_;refine U324 ?_;refine W.seq ?_;obtain⟨o,ho⟩:∃o,(p.bo i)[j]? =some o:=⟨_,List.getElem?_eq_getElem (by omega)⟩
  refine W.fr0 6 (fun w'=>Below w.heap.size w w') (by kernel_rfl) (by kernel_rfl) (by kernel_rfl) (by kernel_rfl) ((Below.refl w.heap.size w).drew) ?_;refine D.va (fun w' u3=>(F0 rfl Tryz.underlying54 rfl ((hBp.E0 u3).A0 0 (v:=.p p.tb) rfl))) ?_;refine D.va (fun w' u3=>(m3 rfl)) ?_;refine D.va (fun w' u3=>(F0 rfl Tryz.underlying50 rfl ((hOb.E0 u3).A0 0 (v:=.slice oa ((p.bo i).length) oc) rfl))) ?_;refine D.va (fun w' u3=>(C5 rfl)) ?_;refine D.va (fun w' u3=>(bc0 (i:=j) rfl rfl Tryz.underlying50 M1 Sb0.sl (by omega))) ?_;refine D.va (fun w' u3=>(G0 (cs:=Yn0 o) rfl Tryz.underlying52 rfl M1 rfl (fun q v hq=>(Sb0.E0 u3).cell j o ho q v hq))) ?_;refine D.nil (fun w I1=>?_);refine U109 ?_;intro hE hc;clear I1;have Z4:=Ry0 w hE hc ho;refine L.T3 rfl (K3 rfl rfl rfl Tryz.func39 rfl gv0 rfl) Z4 ?_ ?_ (fun _ h=>h)
  rotate_left
  ·rintro ch u ⟨J6,hh⟩;exact hh.done (Sys.kok (gi0 hE.ok)) J6 hc.os hc.output
  rintro _ w ⟨s1,r1,m7,p8,hl1,hv⟩;obtain⟨z,hz⟩:∃z,z=pdo o s1:=⟨_,rfl⟩
  rw[<- hz]at m7 p8 hv;have hl:(z.1.O3 i).length=j:=by rw[hz,lp0];exact hl1
  subst hv;clear Z4 hE hc hOb hBp Sb0 hTp hl1 hz;have hE:=m7;have hc:=p8;clear m7 p8;have hTp:=hD.tp_ hE;refine U34 ?_;have hG:=hE.mem.hG;have hT:=hE.mem.hL i him;have Yq0:=rf0 hT;refine W.fp 11 [9,10] [] [0,1,2,3,4,5,6,7,8,9,10] (fun ch u=>∃F',(D2 p fb q w00 i cb top).xb0 u F' (.panicked ch)) (fun w'=>V0 w' tp #[.slice (some ⟨p.lgb,0,none⟩) p.m p.m] 31/\V0 w' p.lgb (arr p.m fun j=>.slice (r1.la j) (z.1.O3 j).length (r1.lc j)) 45) (by kernel_rfl) (by kernel_rfl) (by kernel_rfl) (by kernel_rfl) (by kernel_rfl) (by kernel_rfl) (fun _ _ _ h=>h) (⟨hTp.E0 (Below.refl w.heap.size w).drew,hG.E0 (Below.refl w.heap.size w).drew⟩) ?_;have r6:Below w.heap.size w w.drew:=(Below.refl w.heap.size w).drew;have hE:=hE.E0 r6;have hc:=hc.E0 r6;have hTp:=hTp.E0 r6;have hG:=hG.E0 r6;have hT:=hT.E0 r6;clear r6;generalize w.drew=w at *;refine U454 ?_;refine U454 ?_;refine FP.va rfl rfl (fun w' u3=>bc0 (i:=i) rfl rfl Tryz.underlying31 Py0 (fun _=>rfl) him) ?_;refine FP.va rfl rfl (fun w' u3=>F0 (v:=.slice (r1.la i) (z.1.O3 i).length (r1.lc i)) rfl Tryz.underlying45 rfl (by show World.cell? w' ⟨p.lgb,0+i*1,none⟩=_;rw[Nat.zero_add,Nat.mul_one];exact V0.A0 u3.2 i (js0 him))) ?_;refine FP.va rfl rfl (fun w' u3=>(C5 rfl)) ?_;refine FP.doo rfl rfl ?_;refine L.ku0 (cs:=#[.int .i64 z.2]) rfl rfl Tryz.underlying45 sz2 rfl ⟨_,zr2⟩ (by decide) (fun w b29 F29=>?_);have ec1:=Nat.le_refl w.heap.size;have ed1:r1.la i≠none->ab (r1.la i)≠b29:=fun h=>by have h8:=hT.lt h;have h9:=F29.here;omega
  have hE:=hE.E0 F29.below;have hc:=hc.E0 F29.below;have hTp:=hTp.E0 F29.below;have hG:=hG.E0 F29.below;have hT:=hT.E0 F29.below;have dd1:=F29.blk;refine L.nil (.inl ⟨rfl,_,.inl rfl,⟨hTp,hG⟩,?_⟩);refine FP.doo rfl rfl ?_;refine L.sy0 (B:=p.B) (m:=1) rfl rfl Tryz.underlying45 in2 rfl (by decide) hT (news:=[.int .i64 z.2]) rfl (fun q u hq=>?_) (fun u hu=>by simp at hu;rcases hu with rfl;rfl) (by omega) (by omega) hE.B (fun la2 lc2 w2 hO2 hga hwh=>?_)
  ·rw[Addr.add_lit]
   match q,hq with
   |0,hq=>cases hq;exact dd1.A0 0 rfl
  have hG:=V0.app hG hT hga (by decide);have hTp:=V0.app hTp hT hga (by decide);have hc:=hc.K5 hga trivial;rename_i ee1;refine L.nil (.inl ⟨rfl,_,.inl rfl,⟨hTp,hG⟩,?_⟩);refine FP.nil ?_;show L _ _ _ _ _ _ _;refine L.va (bc0 (i:=i) rfl rfl Tryz.underlying31 Py0 (fun _=>rfl) him) ?_;refine L.put (b:=p.lgb) (o:=0+i*1) (vs:=[.slice la2 ((z.1.O3 i).length+1) lc2]) _ rfl rfl rfl Py0 rfl rfl hG (by rw[cu0];omega) (Hr0 z.2) (fun w B1 hg n2=>?_);have hE2:=hE.Rz0 him z.2 hO2 hga hwh B1 hg;have hc:=hc.K5 hg trivial;clear hE hG B1 hTp;refine L.nil ?_;refine U73 ?_;refine L.va (kp0 rfl rfl (by omega)) ?_;refine U224 ?_;exact⟨_,by omega,⟨j+1,_,_,rfl,rfl,rfl,rfl,rfl,rfl,hE2,hc,by omega⟩⟩
 ·refine W.exit ?_;refine U101 ?_;refine U67 ?_;rw[xz0 (by omega)]at hc;exact hE.done hc
end Go.Vy.Sc
end
section
namespace Go.Vy
open Go Go.Conc Go.Yc
open Go.Vc (Env upd Y2 ev)
open Go.RowKit Go.Proofs
section
variable {P:Program}{ρ:Operand->Value}{d:Option Nat}{ty:TypeId}{ps:String}{af:Array Edge}{g:Option (Nat×Bool)}{x y:Operand}{w:World}
theorem _root_.Go.Vc.lr0 {f:FuncId} {fn:Func} {aT:Array TypeId} {a:Addr} {k:IntKind} {z:Int} {u:Value} (hx:ρ x= .pointer (some a)) (hy:ρ y= .int k z) (hf:P.funcs[f]? =some fn) (P2:(fn.name== "runtime.NumGoroutine")=false) (hb:fn.body.isNone=true) (hn:Extern.findNext fn=none)
  (he:Extern.find fn=some Extern.Atomic.storeT) (hc:w.cell? a=some u) (hz:w.frozen? a=false) (hρ:ρ (.func f)= .func (.func f) #[] #[]) :
  (execOp ρ ⟨d,.call ⟨.value (.func f),#[x,y],aT⟩,ty,ps,af,g⟩).run P w= .ok (.value (.tuple #[])) (w.setCell a (.int k z)):=by
 have h1:(callFunc f #[.pointer (some a),.int k z]).run P w= .ok (.value (.tuple #[])) (w.setCell a (.int k z)):=by
  rw[run_callFunc_extern hf P2 hb hn he];change (Sem.run P (do
   store (<- asAddr (.pointer (some a))) (.int k z) .atomic
   pure Extern.Atomic.none_) w).andThen _=_
  simp[asAddr,hc,hz,run_store P w a (.int k z) .atomic rfl,Result.andThen,Extern.Atomic.none_]
 simp[execOp,resolve,hρ,Deferred.ofValue,invoke,hx,hy,h1]
theorem lr0 {f:FuncId} {fn:Func} {aT:Array TypeId} {a:Addr} {k:IntKind} {z:Int} {u:Value} (hx:ρ x= .pointer (some a)) (hy:ρ y= .int k z) (hf:P.funcs[f]? =some fn) (P2:(fn.name== "runtime.NumGoroutine")=false) (hb:fn.body.isNone=true) (hn:Extern.findNext fn=none)
  (he:Extern.find fn=some Extern.Atomic.storeT) (hc:w.cell? a=some u) (hz:w.frozen? a=false) (hρ:ρ (.func f)= .func (.func f) #[] #[]) :
  Does P (execOp ρ ⟨d,.call ⟨.value (.func f),#[x,y],aT⟩,ty,ps,af,g⟩) w (.val (.tuple #[])) (w.setCell a (.int k z)) :=
 .A1 (by
  show E1 P (do let d <- Deferred.ofValue (ρ (.func f)) (#[x,y].map ρ);invoke d.target d.args);rw[hρ];refine U500 ?_;have e1:(#[] ++ #[x,y].map ρ ++ #[]:Array Value)=#[.pointer (some a),.int k z]:=by simp[hx,hy]
  rw[e1];show E1 P (do store (<- asAddr (.pointer (some a))) (.int k z) .atomic;pure Extern.Atomic.none_);exact N1 (ff0 _) fun b=>N1 (sj0 _ _ _) fun _=>S1 _) rfl rfl fun τ dd=>Go.Vc.lr0 hx hy hf P2 hb hn he hc hz hρ
end
end Go.Vy
namespace Go.Vy.Sc
open Go Go.Conc Go.Yc Go.RowKit Go.Proofs Go.Proofs.YtnifpkopeheodaaGreat Try
open Go.Vc Go.Wg
theorem exI:Extern.find Tryz.f107=some Extern.Atomic.storeT:=by kernel_rfl
theorem enI:Extern.findNext Tryz.f107=none:=by kernel_rfl
theorem exS:Extern.find Tryz.f85=some Extern.Atomic.storeT:=by kernel_rfl
theorem enS:Extern.findNext Tryz.f85=none:=by kernel_rfl
theorem nzN:(Tryz.prog.info? 2).map (fun i=>decide (i.size=0))=some false:=by kernel_rfl
theorem buM (x:Option Addr):Tryz.prog.built 113 [(0,.iface 193 (.pointer x))]=some #[.iface 193 (.pointer x)]:=by kernel_rfl
theorem buR (x:Option Addr):Tryz.prog.built 125 [(0,.iface 193 (.pointer x))]=some #[.iface 193 (.pointer x)]:=by kernel_rfl
section
variable [Ctx Tryz.prog]
end
section
theorem Sc0:Tryz.prog.built 105 []=some #[.bool false]:=by kernel_rfl
theorem Sd0 (x0:Bool):Tryz.prog.built 105 [(0,.bool x0)]=some #[.bool x0]:=by kernel_rfl
theorem yd0 (x0:Int) (x1:Int):Tryz.prog.built 107 [(0,.int .i64 x0),(1,.int .i64 x1)]=some #[.int .i64 x0,.int .i64 x1]:=by kernel_rfl
theorem Se0 (x0:Int) (x1:Int):Tryz.prog.built 195 [(0,.agg #[.int .i64 x0,.int .i64 x1])]=some #[.int .i64 x0,.int .i64 x1,.bool false,.int .i64 0]:=by kernel_rfl
theorem Sf0 (x0:Int) (x1:Int) (x2:Option Addr) (x3:Int):Tryz.prog.built 123 [(0,.agg #[.int .i64 x0,.int .i64 x1]),(1,.pointer x2),(2,.int .i64 x3)]=some #[.int .i64 x0,.int .i64 x1,.pointer x2,.int .i64 x3,.int .i64 0]:=by kernel_rfl
theorem Sg0 (x0:Int) (x1:Int) (x2:Option Addr) (x3:Int):Tryz.prog.built 132 [(0,.agg #[.int .i64 x0,.int .i64 x1]),(1,.pointer x2),(2,.int .i64 x3)]=some #[.int .i64 x0,.int .i64 x1,.pointer x2,.int .i64 x3,.pointer none]:=by kernel_rfl
theorem Sh0 (x0:Int) (x1:Int) (x2:Option Addr) (x3:Int):Tryz.prog.built 115 [(0,.agg #[.int .i64 x0,.int .i64 x1]),(1,.pointer x2),(2,.int .i64 x3)]=some #[.int .i64 x0,.int .i64 x1,.pointer x2,.int .i64 x3]:=by kernel_rfl
theorem Si0:Tryz.prog.built 72 []=some #[.pointer none,.pointer none,.pointer none,.pointer none,.pointer none,.pointer none,.pointer none,.pointer none,.pointer none,.pointer none]:=by kernel_rfl
end
section
variable [Ctx Tryz.prog]
theorem iv0 (w0:World):C Tryz.prog 36 #[] w0 fun v w=>∃wb,v= .pointer (some ⟨wb,0,none⟩)/\w0.heap.size <=wb/\V0 w wb #[.bool false] 105/\Below w0.heap.size w0 w:=by
 refine C.enter (n:=3) Tryz.func36 rfl rfl ?_;refine U4 ?_;intro hb;refine U27 ?_;refine L.va (W0 (parts:=[]) rfl Sc0) ?_;refine L.box (cs:=#[.bool false]) rfl rfl (fun w b2 F2=>?_);refine U11 ?_;intro lt2 hb;have u6:=F2.blk;exact U305
theorem Hs0 (w0:World):C Tryz.prog 17 #[] w0 fun v w=>∃wb,v= .pointer (some ⟨wb,0,none⟩)/\w0.heap.size <=wb/\V0 w wb #[.bool true] 105/\Below w0.heap.size w0 w:=by
 refine C.enter (n:=3) Tryz.func17 rfl rfl ?_;refine U4 ?_;intro hb;refine U27 ?_;refine L.va (W0 (parts:=[(0,.const (.bool true))]) rfl (Sd0 true)) ?_;refine L.box (cs:=#[.bool true]) rfl rfl (fun w b2 F2=>?_);refine U11 ?_;intro lt2 hb;have u6:=F2.blk;exact U305
theorem Cb0 (wb:Nat) (obj num:Int) (w0:World) (hW:V0 w0 wb #[.bool false] 105):C Tryz.prog 81 #[.pointer (some ⟨wb,0,none⟩),.int .i64 obj,.int .i64 num] w0 fun v w=>∃sb,v= .iface 193 (.pointer (some ⟨sb,0,none⟩))/\w0.heap.size <=sb/\V0 w sb #[.int .i64 obj,.int .i64 num,.bool false,.int .i64 0] 195/\Below w0.heap.size w0 w:=by
 refine C.enter (n:=18) Tryz.func81 rfl rfl ?_;refine U4 ?_;intro hb;refine L.va cq0 ?_;refine U33 ?_;refine L.va (m3 rfl) ?_;refine L.call (M0 rfl Tryz.func44 rfl tb0 rfl) (gd0 wb _ hW) ?_;rintro _ w1 ⟨rfl,hw⟩;refine U28 ?_;refine U117 ?_;refine U69 ?_;refine L.va (W0 (parts:=[(0,.tmp 12),(1,.tmp 13)]) rfl (yd0 obj num)) ?_;refine L.va (W0 (parts:=[(0,.tmp 14)]) rfl (Se0 obj num)) ?_;refine L.box (cs:=#[.int .i64 obj,.int .i64 num,.bool false,.int .i64 0]) rfl rfl (fun w b16 F16=>?_);have ye0:=F16.lq hb.size;have hb:=N0 hb F16.below;have ls0:=F16.blk;refine L.va (B8 (v:=.pointer (some ⟨b16,0,none⟩)) rfl Tryz.underlying193 rfl) ?_;refine L.va cq0 ?_;refine U7 ?_;refine U71 ?_;exact⟨b16,rfl,ye0,ls0,hb⟩
theorem vy0 (wb:Nat) (obj num:Int) (w0:World) (hW:V0 w0 wb #[.bool false] 105):C Tryz.prog 51 #[.pointer (some ⟨wb,0,none⟩),.int .i64 obj,.int .i64 num] w0 fun v w=>∃mb sb,v= .pointer (some ⟨mb,0,none⟩)/\w0.heap.size <=mb/\w0.heap.size <=sb/\V0 w mb #[.iface 193 (.pointer (some ⟨sb,0,none⟩))] 113/\V0 w sb #[.int .i64 obj,.int .i64 num,.bool false,.int .i64 0] 195/\Below w0.heap.size w0 w:=by
 refine C.enter (n:=13) Tryz.func51 rfl rfl ?_;refine U4 ?_;intro hb;refine U27 ?_;refine U44 ?_;refine U451 ?_;rintro _ w ⟨sb,rfl,lts,hS,I1⟩;have lts:=Nat.le_trans hb.size lts;have hb:=N0 hb I1;refine L.va (W0 (vs:=[(0,(.iface 193 (.pointer (some ⟨sb,0,none⟩))))]) rfl (buM _)) ?_;refine L.box (cs:=#[(.iface 193 (.pointer (some ⟨sb,0,none⟩)))]) rfl rfl (fun w b12 F12=>?_);have Lq0:=F12.lq hb.size;have hb:=N0 hb F12.below;have hS:=hS.E0 F12.below;have hy0:=F12.blk;refine U113 ?_;exact⟨b12,sb,rfl,Lq0,lts,hy0,hS,hb⟩
theorem lt0 (wb:Nat) (obj num:Int) (w0:World) (hW:V0 w0 wb #[.bool false] 105):C Tryz.prog 52 #[.pointer (some ⟨wb,0,none⟩),.int .i64 obj,.int .i64 num] w0 fun v w=>∃mb sb,v= .pointer (some ⟨mb,0,none⟩)/\w0.heap.size <=mb/\w0.heap.size <=sb/\V0 w mb #[.iface 193 (.pointer (some ⟨sb,0,none⟩))] 125/\V0 w sb #[.int .i64 obj,.int .i64 num,.bool false,.int .i64 0] 195/\Below w0.heap.size w0 w:=by
 refine C.enter (n:=13) Tryz.func52 rfl rfl ?_;refine U4 ?_;intro hb;refine U27 ?_;refine U44 ?_;refine U451 ?_;rintro _ w ⟨sb,rfl,lts,hS,I1⟩;have lts:=Nat.le_trans hb.size lts;have hb:=N0 hb I1;refine L.va (W0 (vs:=[(0,(.iface 193 (.pointer (some ⟨sb,0,none⟩))))]) rfl (buR _)) ?_;refine L.box (cs:=#[(.iface 193 (.pointer (some ⟨sb,0,none⟩)))]) rfl rfl (fun w b12 F12=>?_);have Lq0:=F12.lq hb.size;have hb:=N0 hb F12.below;have hS:=hS.E0 F12.below;have hy0:=F12.blk;refine U113 ?_;exact⟨b12,sb,rfl,Lq0,lts,hy0,hS,hb⟩
theorem Cc0 (cb:Nat) (a b c d e:Value) (x:Int) (w0:World) (hC:V0 w0 cb #[a,b,c,d,e] 123) :
  C Tryz.prog 82 #[.pointer (some ⟨cb,4,none⟩),.int .i64 x] w0 fun _ w=>V0 w cb #[a,b,c,d,.int .i64 x] 123/\w0.grownBy w (some cb):=by
 refine C.enter (n:=9) Tryz.func82 rfl rfl ?_;refine W.region rfl ?_;refine U15 ?_;refine L.va (O0 rfl Tryz.underlying121 rfl sz2 (by decide)) ?_;refine L.va (C5 rfl) ?_;refine L.va (lr0 (u:=e) rfl rfl Tryz.func107 Wt0 rfl enI exI (hC.A0 4 rfl) hC.frozen rfl) ?_;refine U59 ?_;exact⟨hC.set (o:=4) (.int .i64 x),ef0 w0 ⟨cb,4,none⟩ _⟩
theorem Cd0 (cb lb:Nat) (a b c d e f:Value) (w0:World) (hC:V0 w0 cb #[a,b,c,d,e] 132) (hL:V0 w0 lb #[f] 2) :
  C Tryz.prog 61 #[.pointer (some ⟨cb,4,none⟩),.pointer (some ⟨lb,0,none⟩)] w0 fun _ w=>V0 w cb #[a,b,c,d,.pointer (some ⟨lb,0,none⟩)] 132/\w0.grownBy w (some cb):=by
 refine C.enter (n:=10) Tryz.func61 rfl rfl ?_;refine W.region rfl ?_;refine U15 ?_;refine L.va (O0 rfl Tryz.underlying130 rfl Ve0 (by decide)) ?_;refine L.va (m3 rfl) ?_;refine L.va (ek0 rfl Tryz.underlying126 Tryz.underlying128 nzN (hL.A0 0 (v:=f) rfl)) ?_;refine L.va (ks0 (u:=e) rfl rfl Tryz.func85 bx1 rfl enS exS (hC.A0 4 rfl) hC.frozen rfl) ?_;refine U59 ?_;exact⟨hC.set (o:=4) (.pointer (some ⟨lb,0,none⟩)),ef0 w0 ⟨cb,4,none⟩ _⟩
theorem lu0 (wb:Nat) (obj num:Int) (x:Int) (w0:World) (hW:V0 w0 wb #[.bool false] 105):C Tryz.prog 53 #[.pointer (some ⟨wb,0,none⟩),.int .i64 obj,.int .i64 num,.int .i64 x] w0 fun v w=>∃cb sa,v= .pointer (some ⟨cb,0,none⟩)/\w0.heap.size <=cb/\V0 w cb #[.int .i64 obj,.int .i64 num,.pointer (some ⟨wb,0,none⟩),.int .i64 x,sa] 123/\Below w0.heap.size w0 w:=by
 refine C.enter (n:=23) Tryz.func53 rfl rfl ?_;refine U4 ?_;intro hb;refine U39 ?_;refine U506 ?_;refine U44 ?_;refine L.va (W0 (parts:=[(0,.tmp 12),(1,.tmp 13),(2,.tmp 14)]) rfl (Sf0 obj num ((some ⟨wb,0,none⟩)) x)) ?_;refine L.box (cs:=#[.int .i64 obj,.int .i64 num,.pointer (some ⟨wb,0,none⟩),.int .i64 x,.int .i64 0]) rfl rfl (fun w b16 F16=>?_);have ye0:=F16.lq hb.size;have hb:=N0 hb F16.below;have ls0:=F16.blk;refine U27 ?_;refine U15 ?_;refine L.va (O0 rfl Tryz.underlying123 rfl Vd0 (by decide)) ?_;refine L.va (C5 rfl) ?_;refine L.call (n3 rfl rfl Tryz.func82 rfl bw1 rfl) (Cc0 b16 _ _ _ _ _ x _ ls0) ?_;rintro _ w ⟨B1,hg⟩;have G5:=e8.el0 ls0 hg;have hb:=K4 hb hb.size hg ye0;have ls0:=B1;refine U58 ?_;refine U309 ?_;exact⟨b16,_,rfl,ye0,ls0,hb⟩
theorem rm0 (wb:Nat) (obj num:Int) (x:Int) (w0:World) (hW:V0 w0 wb #[.bool false] 105):C Tryz.prog 54 #[.pointer (some ⟨wb,0,none⟩),.int .i64 obj,.int .i64 num,.int .i64 x] w0 fun v w=>∃cb sa,v= .pointer (some ⟨cb,0,none⟩)/\w0.heap.size <=cb/\V0 w cb #[.int .i64 obj,.int .i64 num,.pointer (some ⟨wb,0,none⟩),.int .i64 x,sa] 132/\Below w0.heap.size w0 w:=by
 refine C.enter (n:=22) Tryz.func54 rfl rfl ?_;refine U4 ?_;intro hb;refine L.box (cs:=#[.int .i64 x]) rfl rfl (fun w b7 F7=>?_);have lt7:=F7.lq hb.size;have hb:=N0 hb F7.below;have hB7:=F7.blk;refine U39 ?_;refine U506 ?_;refine L.va (m3 rfl) ?_;refine L.va (F0 rfl Tryz.underlying2 rfl (hB7.A0 0 (v:=.int .i64 x) rfl)) ?_;refine L.va (W0 (parts:=[(0,.tmp 12),(1,.tmp 13),(2,.tmp 14)]) rfl (Sg0 obj num ((some ⟨wb,0,none⟩)) x)) ?_;refine L.box (cs:=#[.int .i64 obj,.int .i64 num,.pointer (some ⟨wb,0,none⟩),.int .i64 x,.pointer none]) rfl rfl (fun w b16 F16=>?_);have ye0:=F16.lq hb.size;have hb:=N0 hb F16.below;have hB7:=hB7.E0 F16.below;have ls0:=F16.blk;refine U27 ?_;refine U15 ?_;refine L.va (O0 rfl Tryz.underlying132 rfl Vf0 (by decide)) ?_;refine L.call (n3 rfl rfl Tryz.func61 rfl bm1 rfl) (Cd0 b16 b7 _ _ _ _ _ _ _ ls0 hB7) ?_;rintro _ w ⟨B1,hg⟩;have G5:=e8.el0 ls0 hg;have hb:=K4 hb hb.size hg ye0;have ls0:=B1;refine U58 ?_;refine U309 ?_;exact⟨b16,_,rfl,ye0,ls0,hb⟩
theorem Ar0 (wb:Nat) (obj num:Int) (x:Int) (w0:World) (hW:V0 w0 wb #[.bool false] 105):C Tryz.prog 55 #[.pointer (some ⟨wb,0,none⟩),.int .i64 obj,.int .i64 num,.int .i64 x] w0 fun v w=>∃cb,v= .pointer (some ⟨cb,0,none⟩)/\w0.heap.size <=cb/\V0 w cb #[.int .i64 obj,.int .i64 num,.pointer (some ⟨wb,0,none⟩),.int .i64 x] 115/\Below w0.heap.size w0 w:=by
 refine C.enter (n:=16) Tryz.func55 rfl rfl ?_;refine U4 ?_;intro hb;refine U39 ?_;refine U69 ?_;refine L.va (W0 (parts:=[(0,.tmp 9),(1,.tmp 10)]) rfl (yd0 obj num)) ?_;refine U44 ?_;refine L.va (W0 (parts:=[(0,.tmp 11),(1,.tmp 12),(2,.tmp 13)]) rfl (Sh0 obj num ((some ⟨wb,0,none⟩)) x)) ?_;refine L.box (cs:=#[.int .i64 obj,.int .i64 num,.pointer (some ⟨wb,0,none⟩),.int .i64 x]) rfl rfl (fun w b15 F15=>?_);have Lr0:=F15.lq hb.size;have hb:=N0 hb F15.below;have yf0:=F15.blk;exact U297
structure bq0 (w:World) (B wb tb:Nat) (sb mb:Nat->Nat->Nat):Prop where
 hT:V0 w tb (arr 10 fun j=>.pointer (some ⟨if j/2+1 <=2 then mb (j/2+1) (j%2) else sb (j/2+1) (j%2),0,none⟩)) 72
 lT:B <=tb
 hM:∀t n,1 <=t->t <=2->n<2->V0 w (mb t n) #[.iface 193 (.pointer (some ⟨sb t n,0,none⟩))] (mty t)/\B <=mb t n
 hS:∀t n,1 <=t->t <=5->n<2->∃sa,V0 w (sb t n) (Z6 wb ps0 t n sa) (tty t)
 lS:∀t n,1 <=t->t <=5->n<2->B <=sb t n
 inj:∀t n t' n',1 <=t->t <=5->n<2->1 <=t'->t' <=5->n'<2->sb t n=sb t' n'->t=t'/\n=n'
def sel (a0 a1 b0 b1 c0 c1 d0 d1 e0 e1:Nat) (t n:Nat):Nat:=match t with
 |1=>if n=0 then a0 else a1
 |2=>if n=0 then b0 else b1
 |3=>if n=0 then c0 else c1
 |4=>if n=0 then d0 else d1
 |_=>if n=0 then e0 else e1
omit [Ctx Tryz.prog] in
theorem A3 {w:World} {b b':Nat} {cs O5:Array Value} {T T':TypeId} (h:V0 w b cs T) (h':V0 w b' O5 T') (hT:T≠T'):b≠b':=V0.ne h h' hT
omit [Ctx Tryz.prog] in
set_option maxHeartbeats 4000000 in
theorem Sj0 (x10 x11 x20 x21 x30 x31 x40 x41 x50 x51:Nat) (ef1:x10≠x11) (eg1:x10≠x20) (eh1:x10≠x21) (ei1:x10≠x30) (ej1:x10≠x31) (ek1:x10≠x40) (el1:x10≠x41) (em1:x10≠x50) (en1:x10≠x51) (eo1:x11≠x20) (ep1:x11≠x21) (eq1:x11≠x30) (er1:x11≠x31) (es1:x11≠x40) (et1:x11≠x41) (eu1:x11≠x50) (ev1:x11≠x51) (ew1:x20≠x21) (ex1:x20≠x30) (ey1:x20≠x31) (ez1:x20≠x40) (fa1:x20≠x41) (fb1:x20≠x50) (fc1:x20≠x51) (fd1:x21≠x30) (fe1:x21≠x31) (ff1:x21≠x40) (fg1:x21≠x41) (fh1:x21≠x50) (fi1:x21≠x51) (fj1:x30≠x31) (fk1:x30≠x40) (fl1:x30≠x41) (fm1:x30≠x50) (fn1:x30≠x51) (fo1:x31≠x40) (fp1:x31≠x41) (fq1:x31≠x50) (fr1:x31≠x51) (fs1:x40≠x41) (ft1:x40≠x50) (fu1:x40≠x51) (fv1:x41≠x50) (fw1:x41≠x51) (fx1:x50≠x51):∀t n t' n',1 <=t->t <=5->n<2->1 <=t'->t' <=5->n'<2->sel x10 x11 x20 x21 x30 x31 x40 x41 x50 x51 t n=sel x10 x11 x20 x21 x30 x31 x40 x41 x50 x51 t' n'->t=t'/\n=n':=by
 intro t n t' n' h1 h2 h3 h4 h5 h6 he;obtain rfl|rfl|rfl|rfl|rfl:t=1\/t=2\/t=3\/t=4\/t=5:=by omega
 all_goals obtain rfl|rfl|rfl|rfl|rfl:t'=1\/t'=2\/t'=3\/t'=4\/t'=5:=by omega
 all_goals obtain rfl|rfl:n=0\/n=1:=by omega
 all_goals obtain rfl|rfl:n'=0\/n'=1:=by omega
 all_goals first|exact⟨rfl,rfl⟩|(exfalso;simp[sel]at he;first|exact absurd he (by assumption)|exact absurd he.symm (by assumption))
set_option maxHeartbeats 4000000 in
theorem Ht0 (wb:Nat) (w0:World) (hW:V0 w0 wb #[.bool false] 105):C Tryz.prog 16 #[.pointer (some ⟨wb,0,none⟩)] w0 fun v w=>∃tb sb mb,v= .pointer (some ⟨tb,0,none⟩)/\bq0 w w0.heap.size wb tb sb mb/\Below w0.heap.size w0 w:=by
 refine C.enter (n:=52) Tryz.func16 rfl rfl ?_;refine U4 ?_;intro hb;refine U27 ?_;refine L.va (W0 (parts:=[]) rfl Si0) ?_;refine L.box (cs:=#[.pointer none,.pointer none,.pointer none,.pointer none,.pointer none,.pointer none,.pointer none,.pointer none,.pointer none,.pointer none]) rfl rfl (fun w b6 F6=>?_);have lt6:=F6.lq hb.size;have hb:=N0 hb F6.below;have hW:=hW.E0 F6.below;have c7:=F6.blk;refine U39 ?_;refine U78 ?_;refine U192 ?_;refine W.rounds 3 ?_;refine U146 ?_;refine L.va (A2 (r:=true) (by decide) (cr0 (m:=0) (k:=2) rfl rfl)) ?_;refine U147 ?_;refine W.seq ?_;refine U419 ?_;intro r6 hb hW c7;clear r6;generalize w.drew=w at *;refine U32 ?_;refine U461 ?_;refine L.call (K3 rfl rfl rfl Tryz.func51 rfl Vy0 rfl) (vy0 wb 1 0 _ hW) ?_;rintro _ w ⟨m10,s10,rfl,de1,df1,E5,Q4,I1⟩;have Yr0:=Nat.le_trans hb.size de1;have Ys0:=Nat.le_trans hb.size df1;refine U433 ?_;intro hb hW c7;refine L.nil ⟨rfl,trivial,?_⟩;refine U18 ?_;refine L.va (C2 (i:=0) (n:=2) rfl rfl Tryz.underlying62 xe0 (by decide)) ?_;refine L.pu 0 [.pointer (some ⟨m10,0,none⟩)] #[.pointer (some ⟨m10,0,none⟩),.pointer none,.pointer none,.pointer none,.pointer none,.pointer none,.pointer none,.pointer none,.pointer none,.pointer none] xe0 c7 (fun w B1 hg n2=>?_);refine U42 ?_;intro G5 hb hW Q4 E5;have c7:=B1;refine U94 ?_;refine U43 ?_;intro r6 hb hW c7 Q4 E5;clear r6;generalize w.drew=w at *;refine U32 ?_;refine U462 ?_;refine L.call (K3 rfl rfl rfl Tryz.func52 rfl Vz0 rfl) (lt0 wb 2 0 _ hW) ?_;rintro _ w ⟨m20,s20,rfl,dg1,Yt0,l5,L4,I1⟩;have Yu0:=Nat.le_trans hb.size dg1;have Yv0:=Nat.le_trans hb.size Yt0;have Sk0:s10≠s20:=Nat.ne_of_lt (Nat.lt_of_lt_of_le (m4 Q4).lt Yt0);refine U52 ?_;intro hb hW c7 Q4 E5;refine L.nil ⟨rfl,trivial,?_⟩;refine U18 ?_;refine L.va (C2 (i:=0) (n:=2) rfl rfl Tryz.underlying64 ta0 (by decide)) ?_;refine L.pu 2 [.pointer (some ⟨m20,0,none⟩)] #[.pointer (some ⟨m10,0,none⟩),.pointer none,.pointer (some ⟨m20,0,none⟩),.pointer none,.pointer none,.pointer none,.pointer none,.pointer none,.pointer none,.pointer none] ta0 c7 (fun w B1 hg n2=>?_);refine U42 ?_;intro G5 hb hW Q4 E5;refine U390 ?_;intro L4 l5;have c7:=B1;refine U94 ?_;refine U43 ?_;intro r6 hb hW c7 Q4 E5;refine U468 ?_;intro L4 l5;clear r6;generalize w.drew=w at *;refine U32 ?_;refine U463 ?_;refine L.call (j7 rfl rfl rfl rfl Tryz.func53 rfl Wa0 rfl) (lu0 wb 3 0 0 _ hW) ?_;rintro _ w ⟨s30,a30,rfl,dh1,m5,I1⟩;have Yw0:=Nat.le_trans hb.size dh1;refine U52 ?_;intro hb hW c7 Q4 E5;refine U469 ?_;intro L4 l5;refine L.nil ⟨rfl,trivial,?_⟩;refine U18 ?_;refine L.va (C2 (i:=0) (n:=2) rfl rfl Tryz.underlying66 uz0 (by decide)) ?_;refine L.pu 4 [.pointer (some ⟨s30,0,none⟩)] #[.pointer (some ⟨m10,0,none⟩),.pointer none,.pointer (some ⟨m20,0,none⟩),.pointer none,.pointer (some ⟨s30,0,none⟩),.pointer none,.pointer none,.pointer none,.pointer none,.pointer none] uz0 c7 (fun w B1 hg n2=>?_);refine U42 ?_;intro G5 hb hW Q4 E5;refine U50 ?_;intro L4 l5 m5;have c7:=B1;refine U94 ?_;refine U43 ?_;intro r6 hb hW c7 Q4 E5;refine U516 ?_;intro L4 l5 m5;clear r6;generalize w.drew=w at *;refine U32 ?_;refine U464 ?_;refine L.call (j7 rfl rfl rfl rfl Tryz.func54 rfl Wb0 rfl) (rm0 wb 4 0 0 _ hW) ?_;rintro _ w ⟨s40,a40,rfl,di1,V5,I1⟩;have Yx0:=Nat.le_trans hb.size di1;refine U52 ?_;intro hb hW c7 Q4 E5;refine U517 ?_;intro L4 l5 m5;refine L.nil ⟨rfl,trivial,?_⟩;refine U18 ?_;refine L.va (C2 (i:=0) (n:=2) rfl rfl Tryz.underlying68 va0 (by decide)) ?_;refine L.pu 6 [.pointer (some ⟨s40,0,none⟩)] #[.pointer (some ⟨m10,0,none⟩),.pointer none,.pointer (some ⟨m20,0,none⟩),.pointer none,.pointer (some ⟨s30,0,none⟩),.pointer none,.pointer (some ⟨s40,0,none⟩),.pointer none,.pointer none,.pointer none] va0 c7 (fun w B1 hg n2=>?_);refine U42 ?_;intro G5 hb hW Q4 E5;refine U50 ?_;intro L4 l5 m5;have V5:=V5.mod G5 rfl;have c7:=B1;clear G5;refine U7 ?_;refine U43 ?_;intro r6 hb hW c7 Q4 E5;refine U96 ?_;intro L4 l5 m5 V5;clear r6;generalize w.drew=w at *;refine U32 ?_;refine U465 ?_;refine L.call (j7 rfl rfl rfl rfl Tryz.func55 rfl Wc0 rfl) (Ar0 wb 5 0 0 _ hW) ?_;rintro _ w ⟨s50,rfl,dj1,W5,I1⟩;have Yy0:=Nat.le_trans hb.size dj1;refine U52 ?_;intro hb hW c7 Q4 E5;refine U97 ?_;intro L4 l5 m5 V5;refine L.nil ⟨rfl,trivial,?_⟩;refine U18 ?_;refine L.va (C2 (i:=0) (n:=2) rfl rfl Tryz.underlying70 vb0 (by decide)) ?_;refine L.pu 8 [.pointer (some ⟨s50,0,none⟩)] #[.pointer (some ⟨m10,0,none⟩),.pointer none,.pointer (some ⟨m20,0,none⟩),.pointer none,.pointer (some ⟨s30,0,none⟩),.pointer none,.pointer (some ⟨s40,0,none⟩),.pointer none,.pointer (some ⟨s50,0,none⟩),.pointer none] vb0 c7 (fun w B1 hg n2=>?_);refine U42 ?_;intro G5 hb hW Q4 E5;refine U50 ?_;intro L4 l5 m5;refine U87 ?_;intro V5 W5;have c7:=B1;clear G5;refine L.nil ?_;refine U73 ?_;refine L.va (M8 (r:=1) (by decide) (by decide) rfl rfl) ?_;refine U31 ?_;refine L.va (A2 (r:=true) (by decide) (cr0 (m:=1) (k:=2) rfl rfl)) ?_;refine U147 ?_;refine W.seq ?_;refine U43 ?_;intro r6 hb hW c7 Q4 E5;refine U96 ?_;intro L4 l5 m5 V5;have W5:=W5.E0 r6;clear r6;generalize w.drew=w at *;refine U32 ?_;refine U461 ?_;refine L.call (K3 rfl rfl rfl Tryz.func51 rfl Vy0 rfl) (vy0 wb 1 1 _ hW) ?_;rintro _ w ⟨m11,s11,rfl,dk1,Sl0,T8,e7,I1⟩;have Yz0:=Nat.le_trans hb.size dk1;have Za0:=Nat.le_trans hb.size Sl0;have Sm0:s10≠s11:=Nat.ne_of_lt (Nat.lt_of_lt_of_le (m4 Q4).lt Sl0);have Sn0:s20≠s11:=Nat.ne_of_lt (Nat.lt_of_lt_of_le (m4 L4).lt Sl0);refine U52 ?_;intro hb hW c7 Q4 E5;refine U97 ?_;intro L4 l5 m5 V5;have W5:=W5.E0 I1;refine L.nil ⟨rfl,trivial,?_⟩;refine U18 ?_;refine L.va (C2 (i:=1) (n:=2) rfl rfl Tryz.underlying62 xe0 (by decide)) ?_;refine L.pu 1 [.pointer (some ⟨m11,0,none⟩)] #[.pointer (some ⟨m10,0,none⟩),.pointer (some ⟨m11,0,none⟩),.pointer (some ⟨m20,0,none⟩),.pointer none,.pointer (some ⟨s30,0,none⟩),.pointer none,.pointer (some ⟨s40,0,none⟩),.pointer none,.pointer (some ⟨s50,0,none⟩),.pointer none] xe0 c7 (fun w B1 hg n2=>?_);refine U42 ?_;intro G5 hb hW Q4 E5;refine U50 ?_;intro L4 l5 m5;refine U87 ?_;intro V5 W5;refine U121 ?_;intro e7 T8;have c7:=B1;refine U94 ?_;refine U43 ?_;intro r6 hb hW c7 Q4 E5;refine U96 ?_;intro L4 l5 m5 V5;have W5:=W5.E0 r6;have e7:=e7.E0 r6;have T8:=T8.E0 r6;clear r6;generalize w.drew=w at *;refine U32 ?_;refine U462 ?_;refine L.call (K3 rfl rfl rfl Tryz.func52 rfl Vz0 rfl) (lt0 wb 2 1 _ hW) ?_;rintro _ w ⟨m21,s21,rfl,dl1,Ls0,aw0,q8,I1⟩;have Zb0:=Nat.le_trans hb.size dl1;have Zc0:=Nat.le_trans hb.size Ls0;have So0:s10≠s21:=Nat.ne_of_lt (Nat.lt_of_lt_of_le (m4 Q4).lt Ls0);have Sp0:s20≠s21:=Nat.ne_of_lt (Nat.lt_of_lt_of_le (m4 L4).lt Ls0);have Sq0:s11≠s21:=Nat.ne_of_lt (Nat.lt_of_lt_of_le (m4 e7).lt Ls0);refine U52 ?_;intro hb hW c7 Q4 E5;refine U97 ?_;intro L4 l5 m5 V5;have W5:=W5.E0 I1;have e7:=e7.E0 I1;have T8:=T8.E0 I1;refine L.nil ⟨rfl,trivial,?_⟩;refine U18 ?_;refine L.va (C2 (i:=1) (n:=2) rfl rfl Tryz.underlying64 ta0 (by decide)) ?_;refine L.pu 3 [.pointer (some ⟨m21,0,none⟩)] #[.pointer (some ⟨m10,0,none⟩),.pointer (some ⟨m11,0,none⟩),.pointer (some ⟨m20,0,none⟩),.pointer (some ⟨m21,0,none⟩),.pointer (some ⟨s30,0,none⟩),.pointer none,.pointer (some ⟨s40,0,none⟩),.pointer none,.pointer (some ⟨s50,0,none⟩),.pointer none] ta0 c7 (fun w B1 hg n2=>?_);refine U42 ?_;intro G5 hb hW Q4 E5;refine U50 ?_;intro L4 l5 m5;refine U87 ?_;intro V5 W5;refine U121 ?_;intro e7 T8;have q8:=q8.mod G5 rfl;have aw0:=aw0.mod G5 rfl;have c7:=B1;refine U94 ?_;refine U43 ?_;intro r6 hb hW c7 Q4 E5;refine U96 ?_;intro L4 l5 m5 V5;have W5:=W5.E0 r6;have e7:=e7.E0 r6;have T8:=T8.E0 r6;have q8:=q8.E0 r6;have aw0:=aw0.E0 r6;clear r6;generalize w.drew=w at *;refine U32 ?_;refine U463 ?_;refine L.call (j7 rfl rfl rfl rfl Tryz.func53 rfl Wa0 rfl) (lu0 wb 3 1 0 _ hW) ?_;rintro _ w ⟨s31,a31,rfl,Zd0,P9,I1⟩;have Ze0:=Nat.le_trans hb.size Zd0;have Sr0:s30≠s31:=Nat.ne_of_lt (Nat.lt_of_lt_of_le (m4 m5).lt Zd0);refine U52 ?_;intro hb hW c7 Q4 E5;refine U97 ?_;intro L4 l5 m5 V5;have W5:=W5.E0 I1;have e7:=e7.E0 I1;have T8:=T8.E0 I1;have q8:=q8.E0 I1;have aw0:=aw0.E0 I1;refine L.nil ⟨rfl,trivial,?_⟩;refine U18 ?_;refine L.va (C2 (i:=1) (n:=2) rfl rfl Tryz.underlying66 uz0 (by decide)) ?_;refine L.pu 5 [.pointer (some ⟨s31,0,none⟩)] #[.pointer (some ⟨m10,0,none⟩),.pointer (some ⟨m11,0,none⟩),.pointer (some ⟨m20,0,none⟩),.pointer (some ⟨m21,0,none⟩),.pointer (some ⟨s30,0,none⟩),.pointer (some ⟨s31,0,none⟩),.pointer (some ⟨s40,0,none⟩),.pointer none,.pointer (some ⟨s50,0,none⟩),.pointer none] uz0 c7 (fun w B1 hg n2=>?_);refine U42 ?_;intro G5 hb hW Q4 E5;refine U50 ?_;intro L4 l5 m5;refine U87 ?_;intro V5 W5;refine U121 ?_;intro e7 T8;have q8:=q8.mod G5 rfl;have aw0:=aw0.mod G5 rfl;have P9:=P9.mod G5 rfl;have c7:=B1;refine U94 ?_;refine U43 ?_;intro r6 hb hW c7 Q4 E5;refine U96 ?_;intro L4 l5 m5 V5;have W5:=W5.E0 r6;have e7:=e7.E0 r6;have T8:=T8.E0 r6;have q8:=q8.E0 r6;have aw0:=aw0.E0 r6;have P9:=P9.E0 r6;clear r6;generalize w.drew=w at *;refine U32 ?_;refine U464 ?_;refine L.call (j7 rfl rfl rfl rfl Tryz.func54 rfl Wb0 rfl) (rm0 wb 4 1 0 _ hW) ?_;rintro _ w ⟨s41,a41,rfl,Zf0,dd0,I1⟩;have Zg0:=Nat.le_trans hb.size Zf0;have Ss0:s40≠s41:=Nat.ne_of_lt (Nat.lt_of_lt_of_le (m4 V5).lt Zf0);refine U52 ?_;intro hb hW c7 Q4 E5;refine U97 ?_;intro L4 l5 m5 V5;have W5:=W5.E0 I1;have e7:=e7.E0 I1;have T8:=T8.E0 I1;have q8:=q8.E0 I1;have aw0:=aw0.E0 I1;have P9:=P9.E0 I1;refine L.nil ⟨rfl,trivial,?_⟩;refine U18 ?_;refine L.va (C2 (i:=1) (n:=2) rfl rfl Tryz.underlying68 va0 (by decide)) ?_;refine L.pu 7 [.pointer (some ⟨s41,0,none⟩)] #[.pointer (some ⟨m10,0,none⟩),.pointer (some ⟨m11,0,none⟩),.pointer (some ⟨m20,0,none⟩),.pointer (some ⟨m21,0,none⟩),.pointer (some ⟨s30,0,none⟩),.pointer (some ⟨s31,0,none⟩),.pointer (some ⟨s40,0,none⟩),.pointer (some ⟨s41,0,none⟩),.pointer (some ⟨s50,0,none⟩),.pointer none] va0 c7 (fun w B1 hg n2=>?_);refine U42 ?_;intro G5 hb hW Q4 E5;refine U50 ?_;intro L4 l5 m5;refine U87 ?_;intro V5 W5;refine U121 ?_;intro e7 T8;have q8:=q8.mod G5 rfl;have aw0:=aw0.mod G5 rfl;have P9:=P9.mod G5 rfl;have dd0:=dd0.mod G5 rfl;have c7:=B1;clear G5;refine U7 ?_;refine U43 ?_;intro r6 hb hW c7 Q4 E5;refine U96 ?_;intro L4 l5 m5 V5;have W5:=W5.E0 r6;have e7:=e7.E0 r6;have T8:=T8.E0 r6;have q8:=q8.E0 r6;have aw0:=aw0.E0 r6;have P9:=P9.E0 r6;have dd0:=dd0.E0 r6;clear r6;generalize w.drew=w at *;refine U32 ?_;refine U465 ?_;refine L.call (j7 rfl rfl rfl rfl Tryz.func55 rfl Wc0 rfl) (Ar0 wb 5 1 0 _ hW) ?_;rintro _ w ⟨s51,rfl,Zh0,lv0,I1⟩;have Zi0:=Nat.le_trans hb.size Zh0;have St0:s50≠s51:=Nat.ne_of_lt (Nat.lt_of_lt_of_le (m4 W5).lt Zh0);have hb:=N0 hb I1;have c7:=c7.E0 I1;refine U432 ?_;intro Q4 E5;refine U97 ?_;intro L4 l5 m5 V5;have W5:=W5.E0 I1;have e7:=e7.E0 I1;have T8:=T8.E0 I1;have q8:=q8.E0 I1;have aw0:=aw0.E0 I1;have P9:=P9.E0 I1;have dd0:=dd0.E0 I1;refine L.nil ⟨rfl,trivial,?_⟩;refine U18 ?_;refine L.va (C2 (i:=1) (n:=2) rfl rfl Tryz.underlying70 vb0 (by decide)) ?_;refine L.pu 9 [.pointer (some ⟨s51,0,none⟩)] #[.pointer (some ⟨m10,0,none⟩),.pointer (some ⟨m11,0,none⟩),.pointer (some ⟨m20,0,none⟩),.pointer (some ⟨m21,0,none⟩),.pointer (some ⟨s30,0,none⟩),.pointer (some ⟨s31,0,none⟩),.pointer (some ⟨s40,0,none⟩),.pointer (some ⟨s41,0,none⟩),.pointer (some ⟨s50,0,none⟩),.pointer (some ⟨s51,0,none⟩)] vb0 c7 (fun w B1 hg n2=>?_);refine U343 ?_;intro G5 hb;refine U369 ?_;intro Q4 E5;refine U50 ?_;intro L4 l5 m5;refine U87 ?_;intro V5 W5;refine U121 ?_;intro e7 T8;have q8:=q8.mod G5 rfl;have aw0:=aw0.mod G5 rfl;have P9:=P9.mod G5 rfl;have dd0:=dd0.mod G5 rfl;have lv0:=lv0.mod G5 rfl;have c7:=B1;clear G5;refine L.nil ?_;refine U73 ?_;refine U236 ?_;refine L.va (A2 (r:=false) (by decide) (cr0 (m:=2) (k:=2) rfl rfl)) ?_;refine U7 ?_;refine U290 ?_;refine U79 ?_;refine U309 ?_;refine⟨b6,sel s10 s11 s20 s21 s30 s31 s40 s41 s50 s51,sel m10 m11 m20 m21 0 0 0 0 0 0,rfl,⟨c7,lt6,fun t n h1 h2 h3=>?_,fun t n h1 h2 h3=>?_,fun t n h1 h2 h3=>?_,?_⟩,hb⟩
 ·obtain rfl|rfl:t=1\/t=2:=by omega
  ·obtain rfl|rfl:n=0\/n=1:=by omega
   ·exact⟨E5,Yr0⟩
   ·exact⟨T8,Yz0⟩
  ·obtain rfl|rfl:n=0\/n=1:=by omega
   ·exact⟨l5,Yu0⟩
   ·exact⟨aw0,Zb0⟩
 ·obtain rfl|rfl|rfl|rfl|rfl:t=1\/t=2\/t=3\/t=4\/t=5:=by omega
  ·obtain rfl|rfl:n=0\/n=1:=by omega
   ·exact⟨.bool false,Q4⟩
   ·exact⟨.bool false,e7⟩
  ·obtain rfl|rfl:n=0\/n=1:=by omega
   ·exact⟨.bool false,L4⟩
   ·exact⟨.bool false,q8⟩
  ·obtain rfl|rfl:n=0\/n=1:=by omega
   ·exact⟨a30,m5⟩
   ·exact⟨a31,P9⟩
  ·obtain rfl|rfl:n=0\/n=1:=by omega
   ·exact⟨a40,V5⟩
   ·exact⟨a41,dd0⟩
  ·obtain rfl|rfl:n=0\/n=1:=by omega
   ·exact⟨.bool false,W5⟩
   ·exact⟨.bool false,lv0⟩
 ·obtain rfl|rfl|rfl|rfl|rfl:t=1\/t=2\/t=3\/t=4\/t=5:=by omega
  ·obtain rfl|rfl:n=0\/n=1:=by omega
   ·exact Ys0
   ·exact Za0
  ·obtain rfl|rfl:n=0\/n=1:=by omega
   ·exact Yv0
   ·exact Zc0
  ·obtain rfl|rfl:n=0\/n=1:=by omega
   ·exact Yw0
   ·exact Ze0
  ·obtain rfl|rfl:n=0\/n=1:=by omega
   ·exact Yx0
   ·exact Zg0
  ·obtain rfl|rfl:n=0\/n=1:=by omega
   ·exact Yy0
   ·exact Zi0
 ·refine Sj0 s10 s11 s20 s21 s30 s31 s40 s41 s50 s51 Sm0 Sk0 So0 (A3 Q4 m5 (by decide)) (A3 Q4 P9 (by decide)) (A3 Q4 V5 (by decide)) (A3 Q4 dd0 (by decide)) (A3 Q4 W5 (by decide)) (A3 Q4 lv0 (by decide)) Sn0.symm Sq0 (A3 e7 m5 (by decide)) (A3 e7 P9 (by decide)) (A3 e7 V5 (by decide)) (A3 e7 dd0 (by decide)) (A3 e7 W5 (by decide)) (A3 e7 lv0 (by decide)) Sp0 (A3 L4 m5 (by decide)) (A3 L4 P9 (by decide)) (A3 L4 V5 (by decide)) (A3 L4 dd0 (by decide)) (A3 L4 W5 (by decide)) (A3 L4 lv0 (by decide)) (A3 q8 m5 (by decide)) (A3 q8 P9 (by decide)) (A3 q8 V5 (by decide)) (A3 q8 dd0 (by decide)) (A3 q8 W5 (by decide)) (A3 q8 lv0 (by decide)) Sr0 (A3 m5 V5 (by decide)) (A3 m5 dd0 (by decide)) (A3 m5 W5 (by decide)) (A3 m5 lv0 (by decide)) (A3 P9 V5 (by decide)) (A3 P9 dd0 (by decide)) (A3 P9 W5 (by decide)) (A3 P9 lv0 (by decide)) Ss0 (A3 V5 W5 (by decide)) (A3 V5 lv0 (by decide)) (A3 dd0 W5 (by decide)) (A3 dd0 lv0 (by decide)) St0
end
end Go.Vy.Sc
end
section
namespace Go.Vy.Sc
open Go Go.Conc Go.Yc Go.RowKit Go.Proofs Go.Proofs.YtnifpkopeheodaaGreat Try
open Go.Vc Go.Wg
open Go.ConcN (sumTo)
structure dt0 (w:World) (ba:Option Addr) (m:Nat) (bo:Nat->List N2) (oa:Nat->Option Addr) (oc:Nat->Nat):Prop where
 sl:SL ba m
 row:∀i,i<m->w.cell? ⟨ab ba,ao ba+i*1,none⟩=some (.slice (oa i) (bo i).length (oc i))
 ops:∀i,i<m->hw0 w (oa i) (bo i)
 len:∀i,i<m->(bo i).length <=1048576
theorem dt0.E0 {w w':World} {ba:Option Addr} {m:Nat} {bo:Nat->List N2} {oa:Nat->Option Addr} {oc:Nat->Nat} (h:dt0 w ba m bo oa oc) (hb:Below w.heap.size w w'):dt0 w' ba m bo oa oc :=
 ⟨h.sl,fun i hi=>dq0 (h.row i hi) hb,fun i hi=>(h.ops i hi).E0 hb,h.len⟩
structure Su0 (m:Nat) (bo:Nat->List N2) (sn:Nat):Prop where
 m1:m <=16
 sum:sumTo m (fun i=>(bo i).length) <=3000
 ops:∀i,i<m->∀o,o∈bo i->P8 o
 sn1:sn <=20000
section
variable [Ctx Tryz.prog]
theorem Lt0 (o:N2) (w0:World):C Tryz.prog 37 #[.agg #[.int .i64 o.D5,.int .i64 o.gg0,.int .i64 o.call,.int .i64 o.val]] w0 fun v w=>∃b,v= .bool b/\(b=true↔P8 o)/\Below w0.heap.size w0 w:=by
 refine C.enter (n:=55) Tryz.func37 rfl rfl ?_;refine U539 ?_;intro hb w b1 F1;have lt1:=F1.lq hb.size;have hb:=N0 hb F1.below;have hB1:=F1.blk;refine U30 ?_;refine U25 ?_;refine L.va (F0 rfl Tryz.underlying3 rfl (hB1.A0 0 (v:=.int .i64 o.D5) rfl)) ?_;refine U89 ?_;refine L.va (N4 rfl rfl) ?_;refine U30 ?_;refine W.fo0 rfl (fun h5=>?_) (fun h5=>?_)
 ·refine W.seq ?_;refine U214 ?_;refine L.po0 4 [10,11,12,13,14] 14 (.bool (decide (o.call=1\/o.call=2))) (tj:=10) rfl (fun Sv0=>?_) (fun Sv0=>?_) (fun f=>?_)
  ·refine L.off rfl ?_;refine U212 ?_;refine⟨rfl,congrArg Value.bool (by first|exact Jj0 Sv0|rfl|(simp_all;done)|(rw[Bool.eq_iff_iff];simp_all;omega)),?_⟩;exact K1.upd rfl (K1.upd rfl (K1.upd rfl (K1.upd rfl (K1.upd rfl (K1.refl _ _)))))
  ·refine L.on rfl ?_;refine U213 ?_;refine⟨rfl,congrArg Value.bool (by first|exact Jk0 Sv0|rfl|(simp_all;done)|(rw[Bool.eq_iff_iff];simp_all;omega)),?_⟩;exact K1.upd rfl (K1.upd rfl (K1.upd rfl (K1.upd rfl (K1.upd rfl (K1.refl _ _)))))
  exact U119
 ·refine W.seq ?_;refine U217 ?_;refine W.fo0 rfl (fun h15=>?_) (fun h15=>?_)
  ·refine W.seq ?_;refine U447 ?_;refine L.va (Dn0 rfl rfl) ?_;refine L.va (ij0 rfl) ?_;refine L.po0 4 [20,21,22,23,24] 24 (.bool (decide (1 <=o.call/\o.call <=4))) (tj:=20) rfl (fun Sw0=>?_) (fun Sw0=>?_) (fun f=>?_)
   ·refine L.on rfl ?_;refine U344 ?_;refine L.on rfl ?_;refine L.va (N7 rfl rfl) ?_;refine U177 ?_;refine⟨rfl,congrArg Value.bool (by first|exact Mv0 Sw0|rfl|(simp_all;done)|(rw[Bool.eq_iff_iff];simp_all;omega)),?_⟩;exact K1.upd rfl (K1.upd rfl (K1.upd rfl (K1.upd rfl (K1.upd rfl (K1.refl _ _)))))
   ·refine L.off rfl ?_;refine U144 ?_;refine L.nil ?_;refine⟨rfl,congrArg Value.bool (by first|exact Mu0 Sw0|rfl|(simp_all;done)|(rw[Bool.eq_iff_iff];simp_all;omega)),?_⟩;exact K1.upd rfl (K1.upd rfl (K1.upd rfl (K1.upd rfl (K1.upd rfl (K1.refl _ _)))))
   exact U119
  ·refine W.seq ?_;refine U217 ?_;refine W.fo0 rfl (fun h25=>?_) (fun h25=>?_)
   ·refine W.seq ?_;refine U214 ?_;refine L.po0 4 [30,31,32,33,34] 34 (.bool (decide (o.call=5\/o.call=7))) (tj:=30) rfl (fun Sx0=>?_) (fun Sx0=>?_) (fun f=>?_)
    ·refine L.off rfl ?_;refine U212 ?_;refine⟨rfl,congrArg Value.bool (by first|exact Jj0 Sx0|rfl|(simp_all;done)|(rw[Bool.eq_iff_iff];simp_all;omega)),?_⟩;exact K1.upd rfl (K1.upd rfl (K1.upd rfl (K1.upd rfl (K1.upd rfl (K1.refl _ _)))))
    ·refine L.on rfl ?_;refine U213 ?_;refine⟨rfl,congrArg Value.bool (by first|exact Jk0 Sx0|rfl|(simp_all;done)|(rw[Bool.eq_iff_iff];simp_all;omega)),?_⟩;exact K1.upd rfl (K1.upd rfl (K1.upd rfl (K1.upd rfl (K1.upd rfl (K1.refl _ _)))))
    exact U119
   ·refine W.seq ?_;refine U217 ?_;refine W.fo0 rfl (fun h35=>?_) (fun h35=>?_)
    ·refine W.seq ?_;refine U214 ?_;refine L.po0 4 [40,41,42,43,44] 44 (.bool (decide (o.call=5\/o.call=6))) (tj:=40) rfl (fun Sy0=>?_) (fun Sy0=>?_) (fun f=>?_)
     ·refine L.off rfl ?_;refine U212 ?_;refine⟨rfl,congrArg Value.bool (by first|exact Jj0 Sy0|rfl|(simp_all;done)|(rw[Bool.eq_iff_iff];simp_all;omega)),?_⟩;exact K1.upd rfl (K1.upd rfl (K1.upd rfl (K1.upd rfl (K1.upd rfl (K1.refl _ _)))))
     ·refine L.on rfl ?_;refine U213 ?_;refine⟨rfl,congrArg Value.bool (by first|exact Jk0 Sy0|rfl|(simp_all;done)|(rw[Bool.eq_iff_iff];simp_all;omega)),?_⟩;exact K1.upd rfl (K1.upd rfl (K1.upd rfl (K1.upd rfl (K1.upd rfl (K1.refl _ _)))))
     exact U119
    ·refine W.seq ?_;refine U217 ?_;refine W.fo0 rfl (fun h45=>?_) (fun h45=>?_)
     ·refine W.seq ?_;refine U214 ?_;refine L.po0 4 [50,51,52,53,54] 54 (.bool (decide (o.call=8\/o.call=9))) (tj:=50) rfl (fun Sz0=>?_) (fun Sz0=>?_) (fun f=>?_)
      ·refine L.off rfl ?_;refine U212 ?_;refine⟨rfl,congrArg Value.bool (by first|exact Jj0 Sz0|rfl|(simp_all;done)|(rw[Bool.eq_iff_iff];simp_all;omega)),?_⟩;exact K1.upd rfl (K1.upd rfl (K1.upd rfl (K1.upd rfl (K1.upd rfl (K1.refl _ _)))))
      ·refine L.on rfl ?_;refine U213 ?_;refine⟨rfl,congrArg Value.bool (by first|exact Jk0 Sz0|rfl|(simp_all;done)|(rw[Bool.eq_iff_iff];simp_all;omega)),?_⟩;exact K1.upd rfl (K1.upd rfl (K1.upd rfl (K1.upd rfl (K1.upd rfl (K1.refl _ _)))))
      exact U119
     ·refine W.skip ?_;refine U254 ?_;refine U63 ?_;exact⟨_,rfl,by unfold P8;simp only[Bool.false_eq_true,false_iff];omega,hb⟩
end
theorem As0 {f:Nat->Nat}:∀{m i:Nat},i<m->f i <=sumTo m f
 |m+1,i,h=>by
  show f i <=sumTo m f+f m;rcases Nat.lt_or_eq_of_le (Nat.le_of_lt_succ h)with z|z
  ·have:=As0 (f:=f) z;omega
  ·subst z;omega
theorem Zj0 {p:M4}:∀q,(E4 p).Reach q->q.W2=[]:=by
 refine Sys.ind (Y:=E4 p) (fun q=>q.W2=[]) rfl (fun q h _=>?_) (fun q i l h _ hf _=>?_)
 ·show q.W2++tell _ _ (n4 (p.bo q.ft.length) 0 q.s).W2=[];rw[h];rfl
 ·unfold Sys.P5;rw[hf];show q.W2++tell _ _ (goP (p.bo i) i l q.s).W2=[];rw[h,Am0];rfl
def fvP (b1:Nat->Nat) (bp tp k:Nat):Value:=.func (.func 46) #[] #[.pointer (some ⟨b1 k,0,none⟩),.pointer (some ⟨bp,0,none⟩),.pointer (some ⟨tp,0,none⟩)]
theorem Ce0 {m x bp tp:Nat} {b1:Nat->Nat}:(List.range (m+1)).map (fvP (upN b1 m x) bp tp)=(List.range m).map (fvP b1 bp tp) ++ [.func (.func 46) #[] #[.pointer (some ⟨x,0,none⟩),.pointer (some ⟨bp,0,none⟩),.pointer (some ⟨tp,0,none⟩)]]:=by
 rw[List.range_succ,List.map_append];congr 1
 ·apply List.map_congr_left;intro i hi;have:i≠m:=by have:i<m:=(by simpa using hi);omega
  unfold fvP;rw[A5 this]
 ·simp[fvP,W4]
structure Q9 (w:World) (m:Nat) (bo:Nat->List N2) (oa:Nat->Option Addr) (oc b1:Nat->Nat):Prop where
 blk:∀i,i<m->V0 w (b1 i) #[.slice (oa i) (bo i).length (oc i)] 50
section
variable {w w':World}{m:Nat}{bo:Nat->List N2}{oa:Nat->Option Addr}{oc b1:Nat->Nat}
theorem Q9.E0 (h:Q9 w m bo oa oc b1) (hb:Below w.heap.size w w'):Q9 w' m bo oa oc b1:=⟨fun i hi=>(h.blk i hi).E0 hb⟩
theorem Q9.mod {B:Nat} {TS:List TypeId} (h:Q9 w m bo oa oc b1) (hm:e8 w w' B TS) (hT:TS.contains 50=false):Q9 w' m bo oa oc b1:=⟨fun i hi=>(h.blk i hi).mod hm hT⟩
theorem Q9.snoc {x:Nat} (h:Q9 w m bo oa oc b1) (hx:V0 w x #[.slice (oa m) (bo m).length (oc m)] 50):Q9 w (m+1) bo oa oc (upN b1 m x):=by
 have key:∀i,i<m+1->i≠m->i<m:=fun i hi hn=>by omega
 refine⟨fun i hi=>?_⟩;by_cases hn:i=m
 ·subst hn;rw[W4];exact hx
 ·rw[A5 hn];exact h.blk i (key i hi hn)
end
theorem bz0 {T:TypeId} (h1:T≠195) (h2:T≠123) (h3:T≠132) (h4:T≠115):∀t,T≠tty t:=fun t=>by
 unfold tty;split
 ·exact h1
 split
 ·exact h2
 split
 ·exact h3
 ·exact h4
theorem Hu0 (t:Nat):(∀k,mty t≠tty k)/\mty t≠45/\mty t≠2/\mty t≠0/\mty t≠73:=by
 unfold mty;split
 ·exact⟨bz0 (by decide) (by decide) (by decide) (by decide),by decide,by decide,by decide,by decide⟩
 ·exact⟨bz0 (by decide) (by decide) (by decide) (by decide),by decide,by decide,by decide,by decide⟩
section
variable {w w':World}{B wb tb:Nat}{sb mb:Nat->Nat->Nat}
theorem bq0.E0 (h:bq0 w B wb tb sb mb) (hb:Below w.heap.size w w'):bq0 w' B wb tb sb mb :=
 ⟨h.hT.E0 hb,h.lT,fun t n h1 h2 h3=>⟨(h.hM t n h1 h2 h3).1.E0 hb,(h.hM t n h1 h2 h3).2⟩,fun t n h1 h2 h3=>let⟨sa,hS⟩:=h.hS t n h1 h2 h3;⟨sa,hS.E0 hb⟩,h.lS,h.inj⟩
theorem bq0.down {B':Nat} (h:bq0 w B wb tb sb mb) (hB:B' <=B):bq0 w B' wb tb sb mb :=
 ⟨h.hT,Nat.le_trans hB h.lT,fun t n h1 h2 h3=>⟨(h.hM t n h1 h2 h3).1,Nat.le_trans hB (h.hM t n h1 h2 h3).2⟩,h.hS,fun t n h1 h2 h3=>Nat.le_trans hB (h.lS t n h1 h2 h3),h.inj⟩
theorem bq0.mod {B':Nat} {TS:List TypeId} (h:bq0 w B wb tb sb mb) (hm:e8 w w' B' TS) (hT:(TS.contains 72 ||TS.contains 113 ||TS.contains 125 ||TS.contains 195 ||TS.contains 123 ||TS.contains 132 ||TS.contains 115)=false):bq0 w' B wb tb sb mb:=by
 simp only[Bool.or_eq_false_iff]at hT;obtain⟨⟨⟨⟨⟨⟨a1,a2⟩,a3⟩,a4⟩,a5⟩,a6⟩,a7⟩:=hT;refine⟨h.hT.mod hm a1,h.lT,fun t n h1 h2 h3=>⟨(h.hM t n h1 h2 h3).1.mod hm ?_,(h.hM t n h1 h2 h3).2⟩,fun t n h1 h2 h3=>let⟨sa,hS⟩:=h.hS t n h1 h2 h3;⟨sa,hS.mod hm ?_⟩,h.lS,h.inj⟩
 ·unfold mty;split
  ·exact a2
  ·exact a3
 ·unfold tty;split
  ·exact a4
  split
  ·exact a5
  split
  ·exact a6
  ·exact a7
end
abbrev pS (p:M4) (sc:Nat->Int) (sn:Nat):PS:=((E4 p).pn sc sn).s
structure de0 (p:M4) (sc:Nat->Int) (sn B:Nat) (w:World) (R:Rn) (r:N5):Prop where
 lg:V0 w p.lgb (arr p.m fun i=>.slice (r.la i) ((pS p sc sn).O3 i).length (r.lc i)) 45
 ans:∀i,i<p.m->Own w p.B 2 1 (r.la i) ((pS p sc sn).O3 i).length (r.lc i) (Hq0 ((pS p sc sn).O3 i))
 run:gc0 (E4 p) sc sn B R w
section
variable {p:M4}{sc:Nat->Int}{sn B:Nat}{w w':World}{R:Rn}{r:N5}
theorem de0.E0 (h:de0 p sc sn B w R r) (hb:Below w.heap.size w w'):de0 p sc sn B w' R r :=
 ⟨h.lg.E0 hb,fun i hi=>Own.congr (h.ans i hi) fun ha=>hb.block _ ((h.ans i hi).lt ha),h.run.E0 hb⟩
theorem de0.down {B':Nat} (h:de0 p sc sn B w R r) (hB:B' <=B):de0 p sc sn B' w R r:=⟨h.lg,h.ans,h.run.down hB⟩
theorem de0.K5 (h:de0 p sc sn B w R r) {b:Nat} (hg:w.grownBy w' (some b)) (hn:b<B/\∃cs,V0 w b cs 30):de0 p sc sn B w' R r:=by
 obtain⟨T2,cs,hB⟩:=hn;exact⟨h.lg.other hg (V0.ne h.lg hB (by decide)),fun i hi=>(h.ans i hi).K5 hg (Own.Yj0 (h.ans i hi) (m4 hB) (by decide)),h.run.K5 hg fun z=>by have:=h.run.fp b z;omega⟩
end
theorem Hv0 {w:World} {a:Addr} {v:Value} (h:w.cell? a=some v):w.heap[a.block]? ≠some nothing:=by
 unfold World.cell? at h;intro e;rw[e]at h;simp[nothing]at h
set_option maxHeartbeats 1000000 in
theorem yg0 {lb:Nat} {pl:Nat->j6} {m sn lc scp wb tb lgb bp tp:Nat} {bo:Nat->List N2} {sc:Nat->Int} {ba l sa:Option Addr} {oa:Nat->Option Addr} {oc b1:Nat->Nat} {sb mb:Nat->Nat->Nat} {w0 w:World} (hBo:dt0 w0 ba m bo oa oc) (hz:∀i,m <=i->bo i=[]) (hSc:xq0 w0 sa sn scp sc) (hF:Su0 m bo sn) (hb:Below w0.heap.size w0 w)
  (hl:Own w w0.heap.size 73 1 l m lc ((List.range m).map (fvP b1 bp tp))) (hTh:bq0 w w0.heap.size wb tb sb mb) (hW:V0 w wb #[.bool false] 105)
  (hG:V0 w lgb (arr m fun _=>.slice none 0 0) 45) (hbp:V0 w bp #[.pointer (some ⟨tb,0,none⟩)] 54) (htp:V0 w tp #[.slice (some ⟨lgb,0,none⟩) m m] 31) (hx:Q9 w m bo oa oc b1) (l1:w0.heap.size <=lgb) :
  @C Tryz.prog (P6 lb pl) 48 #[.slice l m lc,.slice sa sn scp] w fun v w'=>∃(p:M4) (R:Rn) (r:N5),v= .tuple #[Ft0 R,.int .i64 0]/\(p.m=m/\p.bo=bo/\p.lgb=lgb/\p.B=w0.heap.size)/\k5 p/\de0 p sc sn w.heap.size w' R r /\
   V0 w' tp #[.slice (some ⟨lgb,0,none⟩) m m] 31/\Below w0.heap.size w0 w'/\(w.heap.size <=w'.heap.size)/\∀(b:Nat) (cs:Array Value),w0.heap.size <=b->V0 w b cs 30->V0 w' b cs 30:=by
 classical
 let RO:Nat->Prop:=fun b=>b=tb\/b=wb\/(∃t n,1 <=t/\t <=2/\n<2/\b=mb t n)\/b=bp\/b=tp\/(∃i,i<m/\b=b1 i)\/∃i,i<m/\0<(bo i).length/\b=ab (oa i)
 let p:M4:=⟨m,bo,tb,wb,sb,mb,lgb,RO,w,w0.heap.size,lb,pl⟩
 have H5:∀i,i<m->0<(bo i).length->∃v,w0.cell? ⟨ab (oa i),ao (oa i)+0*4+0,none⟩=some v:=fun i hi hl0=>by
  obtain⟨o,ho⟩:∃o,(bo i)[0]? =some o:=⟨_,List.getElem?_eq_getElem hl0⟩
  exact⟨_,(hBo.ops i hi).cell 0 o ho 0 _ rfl⟩
 have nu0:∀i,i<m->0<(bo i).length->ab (oa i)<w0.heap.size:=fun i hi hl0=>by
  obtain⟨v,hv⟩:=H5 i hi hl0;exact gb0 hv
 have hRO:∀b,RO b->b<w0.heap.size\/∃cs T,V0 w b cs T/\(∀t,T≠tty t)/\T≠45/\T≠2/\T≠0/\T≠73:=by
  rintro b (h|h|⟨t,n,h1,h2,h3,h⟩|h|h|⟨i,hi,h⟩|⟨i,hi,h0,h⟩)
  ·rw[h];exact .inr ⟨_,_,hTh.hT,bz0 (by decide) (by decide) (by decide) (by decide),by decide,by decide,by decide,by decide⟩
  ·rw[h];exact .inr ⟨_,_,hW,bz0 (by decide) (by decide) (by decide) (by decide),by decide,by decide,by decide,by decide⟩
  ·have:=Hu0 t;rw[h];exact .inr ⟨_,_,(hTh.hM t n h1 h2 h3).1,this.1,this.2.1,this.2.2.1,this.2.2.2.1,this.2.2.2.2⟩
  ·rw[h];exact .inr ⟨_,_,hbp,bz0 (by decide) (by decide) (by decide) (by decide),by decide,by decide,by decide,by decide⟩
  ·rw[h];exact .inr ⟨_,_,htp,bz0 (by decide) (by decide) (by decide) (by decide),by decide,by decide,by decide,by decide⟩
  ·rw[h];exact .inr ⟨_,_,hx.blk i hi,bz0 (by decide) (by decide) (by decide) (by decide),by decide,by decide,by decide,by decide⟩
  ·rw[h];exact .inl (nu0 i hi h0)
 have dm1:∀b,RO b->b<w.heap.size/\w.heap[b]? ≠some nothing:=fun b hr=>by
  rcases hRO b hr with T2|⟨cs,T,hB,_,_,_,h0,_⟩
  ·have hx:∃i,i<m/\0<(bo i).length/\b=ab (oa i)\/∃cs T,V0 w b cs T/\T≠0:=by
    rcases hr with h|h|⟨t,n,h1,h2,h3,h⟩|h|h|⟨i,hi,h⟩|⟨i,hi,h0,h⟩
    ·exact⟨0,.inr ⟨_,_,h▸hTh.hT,by decide⟩⟩
    ·exact⟨0,.inr ⟨_,_,h▸hW,by decide⟩⟩
    ·exact⟨0,.inr ⟨_,_,h▸(hTh.hM t n h1 h2 h3).1,(Hu0 t).2.2.2.1⟩⟩
    ·exact⟨0,.inr ⟨_,_,h▸hbp,by decide⟩⟩
    ·exact⟨0,.inr ⟨_,_,h▸htp,by decide⟩⟩
    ·exact⟨0,.inr ⟨_,_,h▸hx.blk i hi,by decide⟩⟩
    ·exact⟨i,.inl ⟨hi,h0,h⟩⟩
   obtain⟨i,⟨hi,h0,h⟩|⟨cs,T,hB,hT⟩⟩:=hx
   ·obtain⟨v,hv⟩:=H5 i hi h0;have hv':=dq0 hv hb;rw[h];exact⟨gb0 hv',Hv0 hv'⟩
   ·exact gf0 hB hT
  ·exact gf0 hB h0
 have hP:k5 p:=by
  refine⟨dm1,fun b hr=>?_,fun t n h1 h2 h3=>hTh.lS t n h1 h2 h3,hTh.inj,⟨.inl rfl,hTh.hT⟩,⟨.inr (.inl rfl),hW⟩,fun t n h1 h2 h3=>⟨.inr (.inr (.inl ⟨t,n,h1,h2,h3,rfl⟩)),(hTh.hM t n h1 h2 h3).1⟩,fun i o ho=>?_⟩
  ·rcases hRO b hr with h|⟨cs,T,hB,h1,h2,h3,_,_⟩
   ·exact .inl h
   ·exact .inr ⟨cs,T,hB,h1,h2,h3⟩
  ·rcases Nat.lt_or_ge i m with z|z
   ·exact hF.ops i z o ho
   ·rw[show p.bo i=[] from hz i z]at ho;cases ho
 have hlen:∀i,i<m->(bo i).length <=100000:=fun i hi=>by
  have h1:=As0 (f:=fun i=>(bo i).length) hi;have h2:=hF.sum;have h1:(bo i).length <=sumTo m fun i=>(bo i).length:=h1;omega
 have hD:∀i,i<m->od0 p i (b1 i) bp tp (oa i) (oc i):=fun i hi=>⟨.inr (.inr (.inr (.inr (.inr (.inl ⟨i,hi,rfl⟩))))),.inr (.inr (.inr (.inl rfl))),.inr (.inr (.inr (.inr (.inl rfl)))),fun h0=>.inr (.inr (.inr (.inr (.inr (.inr ⟨i,hi,h0,rfl⟩))))),hx.blk i hi,hbp,htp,(hBo.ops i hi).E0 hb,hlen i hi⟩
 have hO:iu0 (E4 p) (fun _=>46) (fun i=>#[.pointer (some ⟨b1 i,0,none⟩),.pointer (some ⟨bp,0,none⟩),.pointer (some ⟨tp,0,none⟩)]) (fvP b1 bp tp) l sa sn sc:=by
  refine⟨gi0 hP,hF.m1,Nat.le_trans hF.sn1 (by decide),hl.sl,hSc.sl,fun i hi=>.inr ⟨rfl,rfl,_,Tryz.func46,rfl,bi1⟩,?_,fun base i cb top u F hi _ hs=>?_⟩
  ·rw[Zj0 _ (.inr ⟨sc,sn,rfl⟩)];exact Nat.zero_le _
  ·obtain⟨s,r,hE,hc,_⟩:=Q8.start hs hP;exact Ca0 rfl (Sa0 (hD i hi) hi u hE hc)
 let r0:N5:=⟨fun _=>none,fun _=>0⟩
 have hM0:ci0 p w ps0 r0:=⟨hTh.hS,hG,fun i hi=>Own.nil _ _ _ _,fun i j _ _ _ h=>absurd rfl h,fun _ _=>rfl,l1⟩
 have hinv:Rx0 p ps0 (fun _=>0) w (PF p r0):=⟨r0,rfl,hM0⟩
 have hFT:∀b,PF p r0 b->b<w0.heap.size/\RO b\/∃cs T,V0 w b cs T/\T≠73:=fun b hb2=>by
  rcases hb2 with⟨t,n,h1,h2,h3,rfl⟩|rfl|⟨i,_,ha,_⟩|h
  ·obtain⟨sa,hS⟩:=hTh.hS t n h1 h2 h3;exact .inr ⟨_,_,hS,(bz0 (T:=73) (by decide) (by decide) (by decide) (by decide) t).symm⟩
  ·exact .inr ⟨_,_,hG,by decide⟩
  ·exact absurd rfl ha
  ·rcases hRO b h with z|⟨cs,T,hB,_,_,_,_,h5⟩
   ·exact .inl ⟨z,h⟩
   ·exact .inr ⟨cs,T,hB,h5⟩
 have hlF:0<m->¬PF p r0 (ab l):=fun hm hh=>by
  obtain⟨cur,hc,hle,_⟩:=hl.row (hl.zo0 hm);rcases hFT _ hh with⟨z,_⟩|⟨cs,T,hB,hT⟩
  ·omega
  ·exact V0.ne hB hc hT rfl
 have Of0:∀b,b<w0.heap.size->PF p r0 b->RO b:=fun b T2 hh=>by
  rcases hh with⟨t,n,h1,h2,h3,e⟩|e|⟨i,_,ha,_⟩|h
  ·have:=hTh.lS t n h1 h2 h3;have e:b=sb t n:=e;omega
  ·have e:b=lgb:=e;omega
  ·exact absurd rfl ha
  ·exact h
 have hsF:0<sn->¬PF p r0 (ab sa)\/∀s m w' F',(E4 p).Inv s m w' F'->w'.heap[ab sa]? =w.heap[ab sa]?:=fun h0=>by
  by_cases hr:RO (ab sa)
  ·refine .inr fun s m w' F' hI=>?_;obtain⟨r,_,hr'⟩:∃r,F'=PF p r/\ci0 p w' s r:=hI;exact hr'.ro _ hr
  ·exact .inl fun hh=>hr (Of0 _ (gb0 (hSc.cell 0 h0)) hh)
 have key:=La0 (Y:=E4 p) (m0:=fun _=>0) (lc:=lc) hO hinv (fun j hj=>by
   have hj:j<m:=hj;rw[hl.off,Nat.zero_add,Nat.mul_one];exact hl.cell (by simp[hj])) hlF (hSc.E0 hb) hsF
 refine @Calls.mono _ (P6 lb pl) _ _ _ _ _ key fun e w' he=>?_;cases e with
 |panicked ch=>exact he.elim
 |outgrown=>exact he.elim
 |returned v=>
  obtain⟨R,rfl,hX,⟨m',F',hI,hdR⟩,hos,et0,Zk0,n2,S7⟩:=he;obtain⟨r,rfl,hR'⟩:∃r,F'=PF p r/\ci0 p w' (pS p sc sn) r:=hI;have g4:∀(b:Nat) (cs:Array Value),w0.heap.size <=b->V0 w b cs 30->V0 w' b cs 30:=fun b cs hlo hB=>by
   refine(S7 b (m4 hB).lt fun hF2=>?_).trans hB;rcases hF2 with⟨t,n,h1,h2,h3,z⟩|z|⟨i,_,ha,_⟩|h
   ·obtain⟨sa,hS⟩:=hTh.hS t n h1 h2 h3;exact V0.ne hB hS (bz0 (by decide) (by decide) (by decide) (by decide) t) z
   ·exact V0.ne hB hG (by decide) z
   ·exact absurd rfl ha
   ·rcases h with h|h|⟨t,n,h1,h2,h3,h⟩|h|h|⟨i,hi,h⟩|⟨i,hi,h0,h⟩
    ·exact V0.ne hB hTh.hT (by decide) h
    ·exact V0.ne hB hW (by decide) h
    ·exact V0.ne hB (hTh.hM t n h1 h2 h3).1 (by unfold mty;split <;> decide) h
    ·exact V0.ne hB hbp (by decide) h
    ·exact V0.ne hB htp (by decide) h
    ·exact V0.ne hB (hx.blk i hi) (by decide) h
    ·have:=nu0 i hi h0;omega
  refine⟨p,R,r,rfl,⟨rfl,rfl,rfl,rfl⟩,hP,⟨hR'.hG,hR'.hL,hX⟩,(hR'.ro tp (.inr (.inr (.inr (.inr (.inl rfl)))))).trans htp,hb.trans ⟨hos,Zk0,et0,n2,fun k hk=>?_⟩,n2,g4⟩;by_cases hkF:PF p r0 k
  ·exact hR'.ro k (Of0 k hk hkF)
  ·exact S7 k (Nat.lt_of_lt_of_le hk hb.size) hkF
end Go.Vy.Sc
end
section
namespace Go.Vy.Sc
open Go Go.Conc Go.Yc Go.RowKit Go.Proofs Go.Proofs.YtnifpkopeheodaaGreat Try
open Go.Vc Go.Wg
theorem Lu0 (m:Nat) (v:Value):Array.replicate (m*1) v=arr m fun _=>v:=by
 rw[Nat.mul_one];apply Array.toList_inj.1;simp[arr,List.map_const']
section
variable [Ctx Tryz.prog]
theorem Zl0 (x:Int) (w0:World):C Tryz.prog 49 #[.int .i64 x] w0 fun v w=>v= .int .i64 x/\w=w0:=by
 refine C.enter (n:=4) Tryz.func49 rfl rfl ?_;refine U3 ?_;refine U34 ?_;refine U99 ?_;refine U10 ?_;exact⟨rfl,rfl⟩
end
section
set_option maxHeartbeats 1000000 in
theorem Ta0 {lb:Nat} {pl:Nat->j6} {m bc sn scp:Nat} {bo:Nat->List N2} {sc:Nat->Int} {ba sa:Option Addr} {oa:Nat->Option Addr} {oc:Nat->Nat} (w0:World) (hBo:dt0 w0 ba m bo oa oc) (hz:∀i,m <=i->bo i=[]) (hSc:xq0 w0 sa sn scp sc) (hF:Su0 m bo sn) :
  @C Tryz.prog (P6 lb pl) 11 #[.slice ba m bc,.slice sa sn scp] w0 fun v w=>∃(p:M4) (R:Rn) (r:N5),v= .tuple #[Ft0 R,.slice (some ⟨p.lgb,0,none⟩) m m,.bool true]/\(p.m=m/\p.bo=bo/\p.B=w0.heap.size)/\k5 p/\de0 p sc sn w0.heap.size w R r/\Below w0.heap.size w0 w:=by
 letI:Ctx Tryz.prog:=P6 lb pl;refine C.enter (n:=44) Tryz.func11 rfl rfl ?_;have hb:Below w0.heap.size w0 w0:=Below.refl _ _;have fy1:=hF.m1;refine U3 ?_;refine L.alloc (cs:=#[.slice none 0 0,.slice none 0 0,.slice none 0 0,.slice none 0 0,.bool false,.int .i64 0]) Jy0 rfl (fun w b4 F4=>?_);have N8:=F4.lq hb.size;have hb:=N0 hb F4.below;have L1:=F4.blk;refine L.va (cc0 rfl) ?_;refine U66 ?_;refine L.call (bv0  Tryz.func36 rfl Vu0 rfl) (iv0 _) ?_;rintro _ w ⟨wb,rfl,hwb,hW,I1⟩;have hwb:=Nat.le_trans hb.size hwb;have hb:=N0 hb I1;have L1:=L1.E0 I1;refine L.call (M0 rfl Tryz.func16 rfl bg1 rfl) (Ht0 wb _ hW) ?_;rintro _ w ⟨tb,sb,mb,rfl,hTh,I1⟩;have hTh:bq0 w w0.heap.size wb tb sb mb:=hTh.down hb.size;have hb:=N0 hb I1;have L1:=L1.E0 I1;have hW:=hW.E0 I1;have df0:=L1;have vz0:=hW;have iw0:=hTh;have lw0:=hb;refine L.alloc (cs:=#[.pointer none]) az1 rfl (fun w b7 F7=>?_);have lt7:=F7.lq hb.size;have hB7:=F7.blk;refine L.pa [.p tb] ay1 hB7 (fun w B1 hg n2=>?_);have hbA:=K4 F7.below F7.below.size hg (by have:=F7.here;omega);have L1:=df0.E0 hbA;have hW:=vz0.E0 hbA;have hTh:=iw0.E0 hbA;have hb:=N0 lw0 hbA;have hB7:=B1;clear B1 hg n2 hbA F7 df0 vz0 iw0 lw0;refine U37 ?_;refine U555 ?_;refine L.make (m:=m) rfl rfl Tryz.underlying31 au1 (z0:=.slice none 0 0) rfl (by decide) (by omega) (by omega) (fun w b18 F18=>?_);have fz1:=F18.lq hb.size;have l18:w0.heap.size <=b18:=by omega
 have hb:=N0 hb F18.below;have L1:=L1.E0 F18.below;have hW:=hW.E0 F18.below;have hTh:=hTh.E0 F18.below;have hB7:=hB7.E0 F18.below;have Zm0:=F18.blk;have hG:V0 w b18 (arr m fun _=>.slice none 0 0) 45:=by have h9:=Zm0;rw[Lu0]at h9;exact h9
 clear Zm0;have df0:=L1;have vz0:=hW;have iw0:=hTh;have wa0:=hB7;have Hw0:=hG;have lw0:=hb;refine L.alloc (cs:=#[.slice none 0 0]) at1 rfl (fun w b8 F8=>?_);have lt8:=F8.lq hb.size;have hB8:=F8.blk;refine L.pa [.slice (some ⟨b18,0,none⟩) m m] as1 hB8 (fun w B1 hg n2=>?_);have hbA:=K4 F8.below F8.below.size hg (by have:=F8.here;omega);have L1:=df0.E0 hbA;have hW:=vz0.E0 hbA;have hTh:=iw0.E0 hbA;have hB7:=wa0.E0 hbA;have hG:=Hw0.E0 hbA;have hb:=N0 lw0 hbA;have hB8:=B1;clear B1 hg n2 hbA F8 df0 vz0 iw0 wa0 Hw0 lw0;refine U37 ?_;refine L.va (cc0 rfl) ?_;refine U33 ?_;refine U192 ?_;refine W.loop (fun k e w=>∃(i:Nat),∃(l:Option Addr),∃(lc:Nat),∃(b1:Nat->Nat),k=m-i/\e 0= .slice ba m bc/\e 1= .slice sa sn scp/\e 4= .pointer (some ⟨b4,0,none⟩)/\e 7= .pointer (some ⟨b7,0,none⟩)/\e 8= .pointer (some ⟨b8,0,none⟩)/\e 9= .slice l i lc/\e 10= .int .i64 (i:Nat)/\i <=m/\Own w w0.heap.size 73 1 l i lc ((List.range i).map (fvP b1 b7 b8))/\Q9 w i bo oa oc b1/\bq0 w w0.heap.size wb tb sb mb/\V0 w wb #[.bool false] 105/\V0 w b18 (arr m fun _=>.slice none 0 0) 45/\V0 w b4 #[.slice none 0 0,.slice none 0 0,.slice none 0 0,.slice none 0 0,.bool false,.int .i64 0] 30/\V0 w b7 #[.pointer (some ⟨tb,0,none⟩)] 54/\V0 w b8 #[.slice (some ⟨b18,0,none⟩) m m] 31/\Below w0.heap.size w0 w) _ ⟨0,none,0,(fun _=>0),rfl,rfl,rfl,rfl,rfl,rfl,rfl,rfl,Nat.zero_le _,Own.nil _ _ _ _,⟨fun i hi=>absurd hi (Nat.not_lt_zero _)⟩,hTh,hW,hG,L1,hB7,hB8,hb⟩ ?_;rintro k e w ⟨i,l,lc,b1,hk,s0,s1,s4,s7,s8,s9,s10,hi,hl,hx,hTh,hW,hG,L1,hB7,hB8,hb⟩;rw[V2 s0,V2 s1,V2 s4,V2 s7,V2 s8,V2 s9,V2 s10];clear s0 s1 s4 s7 s8 s9 s10;refine W.seq ?_;refine U99 ?_;refine U555 ?_;refine L.va (cr0 rfl rfl) ?_;refine U7 ?_;refine W.fo0 rfl (fun h22=>?_) (fun h22=>?_)
 ·have T2:i<m:=by omega
  refine U145 ?_;refine U3 ?_;refine U585 ?_;refine L.va (bc0 (i:=i) rfl rfl Tryz.underlying22 Qa0 hBo.sl T2) ?_;refine L.va (F0 (v:=.slice (oa i) (bo i).length (oc i)) rfl Tryz.underlying50 rfl ((hBo.E0 hb).row i T2)) ?_;have Zn0:=hl;have Zo0:=hx;have iw0:=hTh;have vz0:=hW;have Hw0:=hG;have df0:=L1;have wa0:=hB7;have wb0:=hB8;have lw0:=hb;refine L.alloc (cs:=#[.slice none 0 0]) Ux0 rfl (fun w b11 F11=>?_);have ga1:=F11.lq hb.size;have yh0:=F11.blk;refine L.pa [.slice (oa i) ((bo i).length) (oc i)] Qa0 yh0 (fun w B1 hg n2=>?_);have hbA:=K4 F11.below F11.below.size hg (by have:=F11.here;omega);have hl:=Zn0.E0 hbA;have hx:=Zo0.E0 hbA;have hTh:=iw0.E0 hbA;have hW:=vz0.E0 hbA;have hG:=Hw0.E0 hbA;have L1:=df0.E0 hbA;have hB7:=wa0.E0 hbA;have hB8:=wb0.E0 hbA;have hb:=N0 lw0 hbA;have yh0:=B1;clear B1 hg n2 hbA F11 Zn0 Zo0 iw0 vz0 Hw0 df0 wa0 wb0 lw0;refine U82 ?_;refine L.va (az0 rfl) ?_;refine L.va (S3 (l:=[.tmp 11,.tmp 7,.tmp 8]) (vs:=[.pointer (some ⟨b11,0,none⟩),.pointer (some ⟨b7,0,none⟩),.pointer (some ⟨b8,0,none⟩)]) rfl) ?_;refine L.ku0 (cs:=#[.func (.func 46) #[] #[.pointer (some ⟨b11,0,none⟩),.pointer (some ⟨b7,0,none⟩),.pointer (some ⟨b8,0,none⟩)]]) rfl rfl Tryz.underlying90 Vb0 rfl ⟨_,ba1⟩ (by decide) (fun w b31 F31=>?_);have gb1:=F31.lq hb.size;have hb:=N0 hb F31.below;have hl:=hl.E0 F31.below;have hx:=hx.E0 F31.below;have hTh:=hTh.E0 F31.below;have hW:=hW.E0 F31.below;have hG:=hG.E0 F31.below;have L1:=L1.E0 F31.below;have hB7:=hB7.E0 F31.below;have hB8:=hB8.E0 F31.below;have yh0:=yh0.E0 F31.below;have dn1:=F31.blk;refine L.dn0 (B:=w0.heap.size) (m:=1) rfl rfl Tryz.underlying90 bb1 rfl (by decide) hl (fun h=>by cases h) (news:=[.func (.func 46) #[] #[.p b11,.p b7,.p b8]]) rfl (fun ad had j u hj=>by
   cases had;rw[Addr.add_lit]
   match j,hj with
   |0,hj=>cases hj;exact dn1.A0 0 rfl) (fun u hu=>by simp only[List.mem_cons,List.not_mem_nil,or_false]at hu;subst hu;rfl) (by omega) (by omega) hb.size (fun l2 lc2 w2 hO2 hg2 cw0 _=>?_)
  have hmo:e8 w w2 w0.heap.size [73]:=e8.app hl hg2 cw0 rfl hO2;have hb:=hb.trans cw0;have hx:=hx.mod hmo rfl;have hTh:=hTh.mod hmo rfl;have hW:=hW.mod hmo rfl;have hG:=hG.mod hmo rfl;have L1:=L1.mod hmo rfl;have hB7:=hB7.mod hmo rfl;have hB8:=hB8.mod hmo rfl;have yh0:=yh0.mod hmo rfl;clear hmo hg2 cw0 hl
  rename World=>w
  refine U292 ?_;refine U73 ?_;refine L.va (kp0 rfl rfl (by omega)) ?_;refine U224 ?_;exact⟨_,by omega,⟨i+1,l2,lc2,(upN b1 i b11),rfl,rfl,rfl,rfl,rfl,rfl,rfl,rfl,(by omega),(by rw[Ce0];exact hO2),(hx.snoc yh0),hTh,hW,hG,L1,hB7,hB8,hb⟩⟩
 ·obtain rfl:m=i:=by omega
  refine W.exit ?_;refine U101 ?_;refine U79 ?_;refine L.va (az0 rfl) ?_;refine L.va (az0 rfl) ?_;refine L.call (n3 rfl rfl Tryz.func48 rfl bk1 rfl) (yg0 hBo hz hSc hF hb hl hTh hW hG hB7 hB8 hx l18) ?_;have h4l:=L1.lt;rintro _ w1 ⟨p,R,r1,rfl,⟨pm,pbo,plg,pB⟩,hP,hY,hT2,I1,n2,hrn⟩;have L1:=hrn _ _ N8 L1;have hb:=I1;have hB8:=hT2;clear I1 hT2 hl hTh hW hG hx hrn hB7
  skip
  rename World=>w
  refine L.va (zm0 rfl) ?_;refine U563 ?_;have Hx0:=hY;have df0:=L1;have wb0:=hB8;have lw0:=hb;refine L.alloc (cs:=#[.slice none 0 0,.slice none 0 0,.slice none 0 0,.slice none 0 0,.bool false,.int .i64 0]) Jy0 rfl (fun w b12 F12=>?_);have Lq0:=F12.lq hb.size;have Lv0:=F12.ne L1;have hy0:=F12.blk;refine L.pa [.slice R.ea R.evs.length R.ec,.slice R.na R.W2.length R.nc,.slice (some ⟨R.eb,0,none⟩) R.m R.m,.slice (some ⟨R.wb,0,none⟩) R.m R.m,.bool R.stuck,.int .i64 (R.used:Int)] je0 hy0 (fun w B1 hg n2=>?_);have hbA:=K4 F12.below F12.below.size hg (by have:=F12.here;omega);have hY:=Hx0.E0 hbA;have L1:=df0.E0 hbA;have hB8:=wb0.E0 hbA;have hb:=N0 lw0 hbA;have hy0:=B1;clear B1 hg n2 hbA F12 Hx0 df0 wb0 lw0;refine U34 ?_;refine W.seq ?_;refine W.fl 7 [3,5] [0,1,2,3,4,5,6] (fun w'=>V0 w' b12 #[.slice R.ea R.evs.length R.ec,.slice R.na R.W2.length R.nc,.slice (some ⟨R.eb,0,none⟩) R.m R.m,.slice (some ⟨R.wb,0,none⟩) R.m R.m,.bool R.stuck,.int .i64 (R.used:Int)] 30/\V0 w' b8 #[.slice (some ⟨b18,0,none⟩) m m] 31) (by kernel_rfl) (by kernel_rfl) (by kernel_rfl) (by kernel_rfl) (by kernel_rfl) (⟨hy0.E0 (Below.refl w.heap.size w).drew,hB8.E0 (Below.refl w.heap.size w).drew⟩) ?_;have r6:Below w.heap.size w w.drew:=(Below.refl w.heap.size w).drew;have hb:=N0 hb r6;have hY:=hY.E0 r6;have L1:=L1.E0 r6;have hB8:=hB8.E0 r6;have hy0:=hy0.E0 r6;clear r6;generalize w.drew=w at *;refine F.va rfl rfl (fun w' u3=>(G0 (cs:=[.slice R.ea R.evs.length R.ec,.slice R.na R.W2.length R.nc,.slice (some ⟨R.eb,0,none⟩) R.m R.m,.slice (some ⟨R.wb,0,none⟩) R.m R.m,.bool R.stuck,.int .i64 (R.used:Int)]) rfl Tryz.underlying30 rfl je0 rfl (u3.1.J1 rfl))) ?_;refine F.va rfl rfl (fun w' u3=>(F0 rfl Tryz.underlying31 rfl (u3.2.A0 0 (v:=.slice (some ⟨b18,0,none⟩) m m) rfl))) ?_;refine F.va rfl rfl (fun w' u3=>(C5 rfl)) ?_;refine F.doo rfl rfl ?_;refine L.call (M0 rfl Tryz.func49 rfl bl1 rfl) (Zl0 _ w) ?_;rintro _ w1 ⟨rfl,hw⟩;refine U28 ?_;refine L.nil ⟨rfl,⟨hy0,hB8⟩,?_⟩;refine F.va rfl rfl (fun w' u3=>(A2 (r:=true) (by decide) (N4 (m:=0) (k:=0) rfl rfl))) ?_;refine F.doo rfl rfl ?_;refine L.pu 0 [.slice R.ea R.evs.length R.ec,.slice R.na R.W2.length R.nc,.slice (some ⟨R.eb,0,none⟩) R.m R.m,.slice (some ⟨R.wb,0,none⟩) R.m R.m,.bool R.stuck,.int .i64 (R.used:Int)] #[.slice R.ea R.evs.length R.ec,.slice R.na R.W2.length R.nc,.slice (some ⟨R.eb,0,none⟩) R.m R.m,.slice (some ⟨R.wb,0,none⟩) R.m R.m,.bool R.stuck,.int .i64 (R.used:Int)] je0 L1 (fun w B1 hg n2=>?_);refine U317 ?_;intro G5 hb;have hY:=hY.K5 hg ⟨h4l,_,L1⟩;have hB8:=hB8.mod G5 rfl;have hy0:=hy0.other hg (Ne.symm Lv0);have L1:=B1;clear G5;refine L.nil ⟨rfl,⟨hy0,hB8⟩,?_⟩;refine F.va rfl rfl (fun w' u3=>(cc0 rfl)) ?_;refine U18 ?_;refine U30 ?_;refine U524 ?_;refine ends.Gs0 (cs:=#[.slice R.ea R.evs.length R.ec,.slice R.na R.W2.length R.nc,.slice (some ⟨R.eb,0,none⟩) R.m R.m,.slice (some ⟨R.wb,0,none⟩) R.m R.m,.bool R.stuck,.int .i64 (R.used:Int)]) (.inr rfl) rfl rfl Tryz.underlying30 rfl je0 L1 ?_;exact⟨p,R,r1,by rw[plg];rfl,⟨pm,pbo,pB⟩,hP,hY.down (by omega),hb⟩
end
end Go.Vy.Sc
end
section
namespace Go.Yc
open Go Go.Conc
open Go.ConcN (sumTo upd sumTo_upd upd_ne upd_same sumTo_congr)
section
attribute [local irreducible] KK
def On (L:Q3) (B:Nat->Prop) (a:Touch):Prop:=(a.write=false/\∃p∈L,a.loc= .cell p.1)\/∃ad,a.loc= .cell ad/\B ad.block
theorem On.mono {L:Q3} {B B':Nat->Prop} (hB:∀b,B b->B' b) {a:Touch} (h:On L B a):On L B' a:=h.imp id fun⟨ad,h1,h2⟩=>⟨ad,h1,hB _ h2⟩
structure Apart (L0 Lc:Q3) (B0 Bc:Nat->Prop):Prop where
 l0:∀p∈L0,¬Bc p.1.block
 lc:∀p∈Lc,¬B0 p.1.block
 own:∀b,B0 b->¬Bc b
theorem Apart.no {L0 Lc:Q3} {B0 Bc:Nat->Prop} (H:Apart L0 Lc B0 Bc) {a b:Touch} (ha:On L0 B0 a) (hb:On Lc Bc b) (hl:a.loc=b.loc) (hw:a.write=true\/b.write=true):False:=by
 rcases ha with⟨h1,p,hp,h2⟩|⟨ad,h1,h2⟩ <;> rcases hb with⟨h3,p',hp',h4⟩|⟨ad',h3,h4⟩
 ·rcases hw with h|h
  ·rw[h1]at h;cases h
  ·rw[h3]at h;cases h
 ·rw[h2,h3]at hl;cases hl;exact H.l0 p hp h4
 ·rw[h1,h4]at hl;cases hl;exact H.lc p' hp' h2
 ·rw[h1,h3]at hl;cases hl;exact H.own _ h2 h4
structure TB (Sh:Loc->Prop) (Us:Nat->Prop) (c n0:Nat) (L0 Lc:Q3) (B0 Bc:Nat->Prop) (A:Addr) (r:Option Nat) (t:Trace):Prop where
 clean:∀said,¬Race said t
 pre:∀i a,i<n0->touchAt t i=some a->a.loc.isMemory=true->¬Sh a.loc->Knows t 0 i/\Knows t c i
 post:∀i a g,n0 <=i->touchAt t i=some a->¬Sh a.loc->t.g? i=some g->(g=0/\On L0 B0 a)\/(g=c/\On Lc Bc a/\∀r0,r=some r0->i<r0)
 cj0:∀i a g,touchAt t i=some a->Sh a.loc->t.g? i=some g->(∀g',Us g'->Knows t g' i)\/(a.kind≠.plain/\(g≠0->a.kind= .atomic/\¬t.heard i))
 rel:∀r0,r=some r0->r0<t.size/\t.act? r0=some (.mark (.releaseMerge A))/\t.g? r0=some c/\t.heard r0/\∀k,r0<k->t.act? k≠some (.mark (.release A))
def rp0 (u:Trace):Prop:=∀op∈u,∀a,op.act≠.mark (.release a)
section
variable {Sh:Loc->Prop}{Us Us':Nat->Prop}{c n0:Nat}{L0 Lc:Q3}{B0 Bc B0' Bc':Nat->Prop}{A:Addr}{r:Option Nat}{t u:Trace}
theorem act?_old {i:Nat} (h:i<t.size):(t++u).act? i=t.act? i:=by simp only[Trace.act?,getElem?_append_old h]
theorem TB.grow (H:TB Sh Us c n0 L0 Lc B0 Bc A r t) (h0:∀b,B0 b->B0' b) (hc:∀b,Bc b->Bc' b):TB Sh Us c n0 L0 Lc B0' Bc' A r t :=
 ⟨H.clean,H.pre,fun i a g hi ha hs hg=>(H.post i a g hi ha hs hg).imp (fun z=>⟨z.1,z.2.mono h0⟩) fun z=>⟨z.1,z.2.1.mono hc,z.2.2⟩,H.cj0,H.rel⟩
theorem TB.leave (H:TB Sh Us c n0 L0 Lc B0 Bc A r t) (hU:∀g,Us' g->Us g):TB Sh Us' c n0 L0 Lc B0 Bc A r t :=
 ⟨H.clean,H.pre,H.post,fun i a g ha hs hg=>(H.cj0 i a g ha hs hg).imp (fun z g' z6=>z g' (hU g' z6)) id,H.rel⟩
theorem TB.tp0 (H:TB Sh Us c n0 L0 Lc B0 Bc A r t) (hn:r≠none->rp0 u):∀r0,r=some r0->r0<(t++u).size/\(t++u).act? r0=some (.mark (.releaseMerge A))/\(t++u).g? r0=some c/\(t++u).heard r0/\∀k,r0<k->(t++u).act? k≠some (.mark (.release A)):=by
 intro r0 h0;obtain⟨h1,h2,h3,h4,h5⟩:=H.rel r0 h0;refine⟨by rw[Array.size_append];omega,by rw[act?_old h1];exact h2,by rw[g?_old h1];exact h3,(heard_old h1).2 h4,fun k hk he=>?_⟩;rcases Nat.lt_or_ge k t.size with h|h
 ·rw[act?_old h]at he;exact h5 k hk he
 ·unfold Trace.act? at he;obtain⟨op,ho,he⟩:=Option.map_eq_some_iff.1 he;rcases getElem?_append_cases ho with⟨h',_⟩|⟨_,H5⟩
  ·omega
  ·exact hn (by rw[h0];simp) op H5 A he
theorem TB.K7 (H:TB Sh Us c n0 L0 Lc B0 Bc A r t) {i g:Nat} {a:Touch} {x:MemOp} (W3:t[i]? =some x) (x5:x.act.touch? =some a) (hs:Sh a.loc) (hg:(t++u).g? i=some g) :
  (∀g',Us g'->Knows (t++u) g' i)\/(a.kind≠.plain/\(g≠0->a.kind= .atomic/\¬(t++u).heard i)):=by
 have T2:=lt_size_of_getElem? W3;rw[g?_old T2]at hg;rcases H.cj0 i a g (by rw[touchAt_of W3];exact x5) hs hg with this|this
 ·exact .inl fun g' z6=>(this g' z6).app u
 ·exact .inr ⟨this.1,fun r3=>⟨(this.2 r3).1,fun hh=>(this.2 r3).2 ((heard_old T2).1 hh)⟩⟩
theorem TB.mute (H:TB Sh Us c n0 L0 Lc B0 Bc A r t) (hn0:n0 <=t.size) (hn:∀op∈u,op.act.touch? =none) (hr:r≠none->rp0 u):TB Sh Us c n0 L0 Lc B0 Bc A r (t++u):=by
 refine⟨fun said=>noRace_appendMute (H.clean said) hn,fun i a hi ha hm hs=>?_,fun i a g hi ha hs hg=>?_,fun i a g ha hs hg=>?_,H.tp0 hr⟩
 ·rw[touchAt_old (by omega)]at ha;have:=H.pre i a hi ha hm hs;exact⟨this.1.app u,this.2.app u⟩
 ·obtain⟨x,hx,x5⟩:=touch_of ha;rcases getElem?_append_cases hx with⟨T2,W3⟩|⟨_,L8⟩
  ·rw[g?_old T2]at hg;exact H.post i a g hi (by rw[touchAt_of W3];exact x5) hs hg
  ·rw[hn x L8]at x5;cases x5
 ·obtain⟨x,hx,x5⟩:=touch_of ha;rcases getElem?_append_cases hx with⟨_,W3⟩|⟨_,L8⟩
  ·exact H.K7 W3 x5 hs hg
  ·rw[hn x L8]at x5;cases x5
theorem TB.own (H:TB Sh Us c n0 L0 Lc B0 Bc A r t) (hap:Apart L0 Lc B0 Bc) (hn0:n0 <=t.size) {x:Nat} (hu:∀op∈u,op.g=x) (hs:∀op∈u,∀b,op.act.touch? =some b->¬Sh b.loc/\((x=0/\On L0 B0 b)\/(x=c/\On Lc Bc b/\r=none))) (hr:r≠none->rp0 u):TB Sh Us c n0 L0 Lc B0 Bc A r (t++u):=by
 refine⟨fun said=>noRace_append (H.clean said) hu fun i a ha op H5 b hb hc=>?_,fun i a hi ha hm hs=>?_,fun i a g hi ha hns hg=>?_,fun i a g ha hsh hg=>?_,H.tp0 hr⟩
 ·obtain⟨h1,h2⟩:=hs op H5 b hb;have hns:¬Sh a.loc:=by rw[hc.1];exact h1
  rcases Nat.lt_or_ge i n0 with hi|hi
  ·have:=H.pre i a hi ha hc.2.1 hns;rcases h2 with⟨rfl,_⟩|⟨rfl,_⟩
   ·exact this.1
   ·exact this.2
  ·obtain⟨z,hz,hza⟩:=touch_of ha;have hk:=knows_own hz;rcases H.post i a z.g hi ha hns (g?_of hz)with⟨e,h3⟩|⟨e,h3,_⟩ <;> rcases h2 with⟨rfl,h4⟩|⟨e2,h4,_⟩
   ·rw[e]at hk;exact hk
   ·exact(hap.no h3 h4 hc.1 hc.2.2.1).elim
   ·exact(hap.no h4 h3 hc.1.symm hc.2.2.1.symm).elim
   ·rw[e,<- e2]at hk;exact hk
 ·rw[touchAt_old (by omega)]at ha;have:=H.pre i a hi ha hm hs;exact⟨this.1.app u,this.2.app u⟩
 ·obtain⟨z,hz,hza⟩:=touch_of ha;rcases getElem?_append_cases hz with⟨T2,hz'⟩|⟨_,hzu⟩
  ·rw[g?_old T2]at hg;exact H.post i a g hi (by rw[touchAt_of hz'];exact hza) hns hg
  ·have hgx:g=x:=by rw[g?_of hz]at hg;rw[<- hu z hzu];exact(Option.some.inj hg).symm
   rcases(hs z hzu a hza).2 with⟨e,h⟩|⟨e,h,h'⟩
   ·exact .inl ⟨hgx.trans e,h⟩
   ·exact .inr ⟨hgx.trans e,h,fun r0 e=>by rw[h']at e;cases e⟩
 ·obtain⟨z,hz,hza⟩:=touch_of ha;rcases getElem?_append_cases hz with⟨_,hz'⟩|⟨_,hzu⟩
  ·exact H.K7 hz' hza hsh hg
  ·exact absurd hsh (hs z hzu a hza).1
theorem TB.sh (H:TB Sh Us c n0 L0 Lc B0 Bc A r t) (hn0:n0 <=t.size) {g:Nat} (hUs:Us g) (hu:∀op∈u,op.g=g) (hs:∀op∈u,GOk Sh g op) (hdf:g≠0->∀i,t.size <=i->i<t.size+u.size->(t++u).deaf g i≠0) (hr:r≠none->rp0 u):TB Sh Us c n0 L0 Lc B0 Bc A r (t++u):=by
 refine⟨fun said=>noRace_append (H.clean said) hu fun i a ha op H5 b hb hc=>?_,fun i a hi ha hm hs=>?_,fun i a g' hi ha hns hg=>?_,fun i a g' ha hsh z6=>?_,H.tp0 hr⟩
 ·obtain⟨h1,h2,h3⟩:=hs op H5 b hb;obtain⟨x,hx,x5⟩:=touch_of ha;rcases H.cj0 i a x.g ha (hc.1▸h1) (g?_of hx)with hsx|hsx
  ·exact hsx g hUs
  rcases hc.2.2.2 with y|y|⟨_,y1,y2⟩
  ·exact absurd y hsx.1
  ·exact absurd y h2
  ·have e1:g=0:=Classical.byContradiction fun e=>by have:=h3 e;rw[y2]at this;cases this
   have e2:x.g=0:=Classical.byContradiction fun e=>by have:=(hsx.2 e).1;rw[y1]at this;cases this
   have:=knows_own hx;rw[e2]at this;rw[e1];exact this
 ·rw[touchAt_old (by omega)]at ha;have:=H.pre i a hi ha hm hs;exact⟨this.1.app u,this.2.app u⟩
 ·obtain⟨z,hz,hza⟩:=touch_of ha;rcases getElem?_append_cases hz with⟨T2,hz'⟩|⟨_,hzu⟩
  ·rw[g?_old T2]at hg;exact H.post i a g' hi (by rw[touchAt_of hz'];exact hza) hns hg
  ·exact absurd (hs z hzu a hza).1 hns
 ·obtain⟨x,hx,x5⟩:=touch_of ha;rcases getElem?_append_cases hx with⟨_,W3⟩|⟨hi,L8⟩
  ·exact H.K7 W3 x5 hsh z6
  ·obtain⟨h1,h2,h3⟩:=hs x L8 a x5;have hgx:g'=g:=by rw[g?_of hx]at z6;rw[<- hu x L8];exact(Option.some.inj z6).symm
   subst hgx;refine .inr ⟨h2,fun r3=>⟨h3 r3,?_⟩⟩;rintro⟨g2,hg2,hd2⟩;rw[z6]at hg2;obtain rfl:=Option.some.inj hg2;exact hdf r3 i hi (by have:=lt_size_of_getElem? hx;simpa using this) hd2
theorem TB.release (H:TB Sh Us c n0 L0 Lc B0 Bc A none t) (hn0:n0 <=t.size) {fn:FuncId} {ps:String} (hd:Deaf t c=0):TB Sh Us c n0 L0 Lc B0 Bc A (some t.size) (t ++ #[{g:=c,fn,pos:=ps,act:=.mark (.releaseMerge A)}]):=by
 have M:=H.mute (u:=#[{g:=c,fn,pos:=ps,act:=.mark (.releaseMerge A)}]) hn0 (fun op H5=>by simp at H5;subst H5;rfl) (fun h=>absurd rfl h);have e0:(t ++ #[{g:=c,fn,pos:=ps,act:=MemAct.mark (.releaseMerge A)}])[t.size]? =some {g:=c,fn,pos:=ps,act:=.mark (.releaseMerge A)}:=by simp
 refine⟨M.clean,M.pre,fun i a g hi ha hs hg=>(M.post i a g hi ha hs hg).imp id fun z=>⟨z.1,z.2.1,fun r0 e=>?_⟩,M.cj0,fun r0 e=>?_⟩
 ·obtain⟨x,hx,x5⟩:=touch_of ha;rcases getElem?_append_cases hx with⟨T2,_⟩|⟨_,L8⟩
  ·have:=Option.some.inj e;omega
  ·simp at L8;subst L8;cases x5
 ·obtain rfl:=Option.some.inj e;refine⟨by simp,by rw[act?_of e0],by rw[g?_of e0],⟨c,g?_of e0,by rw[deaf_old (Nat.le_refl _)];exact hd⟩,fun k hk he=>?_⟩;unfold Trace.act? at he;obtain⟨op,ho,he⟩:=Option.map_eq_some_iff.1 he;have:=lt_size_of_getElem? ho;simp at this;omega
theorem TB.acquire {r0:Nat} (H:TB Sh Us c n0 L0 Lc B0 Bc A (some r0) t) (hn0:n0 <=t.size) {fn:FuncId} {ps:String} (hd:Deaf t 0=0) :
  let t':=t ++ #[{g:=0,fn,pos:=ps,act:=.mark (.acquire A)}]
  (∀said,¬Race said t')/\(∀i a,touchAt t' i=some a->a.loc.isMemory=true->¬Sh a.loc->Knows t' 0 i)/\∀i a g,touchAt t' i=some a->Sh a.loc->t'.g? i=some g->(∀g',Us g'->Knows t' g' i)\/(a.kind≠.plain/\(g≠0->a.kind= .atomic/\¬t'.heard i)):=by
 intro t';have hnr:rp0 #[{g:=0,fn,pos:=ps,act:=MemAct.mark (.acquire A)}]:=fun op H5 a=>by simp at H5;subst H5;simp
 have M:TB Sh Us c n0 L0 Lc B0 Bc A (some r0) t':=H.mute hn0 (fun op H5=>by simp at H5;subst H5;rfl) fun _=>hnr;refine⟨M.clean,fun i a ha hm hs=>?_,M.cj0⟩;obtain⟨h1,h2,h3,h4,h5⟩:=M.rel r0 rfl;have e0:t'[t.size]? =some {g:=0,fn,pos:=ps,act:=MemAct.mark (.acquire A)}:=by simp[t']
 have T2:=(H.rel r0 rfl).1;have Av0:HappensBefore t' r0 t.size:=Relation.TransGen.single (.inr ⟨.marked T2 (.inr h2) (act?_of e0) fun k hk _=>h5 k hk,h4,⟨0,g?_of e0,by
  show(t++_).deaf 0 t.size=0;rw[deaf_old (Nat.le_refl _)];exact hd⟩⟩)
 rcases Nat.lt_or_ge i n0 with hi|hi
 ·exact(M.pre i a hi ha hm hs).1
 ·obtain⟨x,hx,x5⟩:=touch_of ha;rcases M.post i a x.g hi ha hs (g?_of hx)with⟨e,_⟩|⟨e,_,h⟩
  ·have:=knows_own hx;rw[e]at this;exact this
  ·have hir:=h r0 rfl;obtain⟨y,hy,hyg⟩:∃y,t'[r0]? =some y/\y.g=c:=by
    unfold Trace.g? at h3;obtain⟨y,hy,h⟩:=Option.map_eq_some_iff.1 h3;exact⟨y,hy,h⟩
   exact⟨t.size,_,e0,rfl,.inr (Relation.TransGen.trans (hb_po hir hx hy (by rw[e,hyg])) Av0)⟩
end
end
end Go.Yc
end
section
namespace Go.Yc
open Go Go.Conc Go.Wg Go.Vy
open Go.Vc (Env upd Y2 ev Y3 H2 H9)
section
attribute [local irreducible] KK
abbrev PM:=List (Nat×Obj)
def ix0 (pm:PM) (b:Nat) (o:Obj):PM:=pm.map fun x=>if x.1=b then(b,o) else x
structure lx0 (gr:I4) (L:Q3) (pm:PM) (w:World):Prop where
 L2:∃st sm,x7 gr st sm w
 stay:∀p∈L,w.cell? p.1=some p.2
 own:∀x∈pm,w.heap[x.1]? =some x.2
def EvM (L:Q3) (pm:PM) (e:Event):Prop:=∃a,e=⟨.cell a,false,false⟩/\((∃v,(a,v)∈L)\/∃o,(a.block,o)∈pm)
def MP (P:Program) (main:Bool) (gr:I4) (L:Q3) (E:Nat->PM->Goroutine->Prop):Nat->PM->Goroutine->Prop
 |0,_,_=>False
 |n+1,pm,g=>E n pm g\/(g.status= .running/\(
   (∃g' es,g'.status= .running/\(∀e∈es,EvM L pm e)/\(∀w,lx0 gr L pm w->stepG P main g w= .go g' w es)/\MP P main gr L E n pm g') \/
   (∃g' b cs T i v es,g'.status= .running/\(b,.cells cs T (0,0))∈pm/\(∀e∈es,e=⟨.cell ⟨b,i,none⟩,true,false⟩)/\(∀w,lx0 gr L pm w->stepG P main g w= .go g' (w.setCell ⟨b,i,none⟩ v) es)/\MP P main gr L E n (ix0 pm b (.cells (cs.setIfInBounds i v) T (0,0))) g') \/
   ∃gf:Nat->Goroutine,∃cs T,(∀b,(gf b).status= .running)/\(∀w,stepG P main g w= .go (gf w.heap.size) (w.alloc (.cells cs T (0,0))) #[])/\∀b,MP P main gr L E n ((b,.cells cs T (0,0))::pm) (gf b)))
section
variable {P:Program}{main:Bool}{gr:I4}{L:Q3}{E:Nat->PM->Goroutine->Prop}{pm:PM}
abbrev YM (P:Program) (main:Bool) (gr:I4) (L:Q3) (E:Nat->PM->Goroutine->Prop) (pm:PM):Nat->Nat->Goroutine->Prop:=fun m d g=>d=0->MP P main gr L E m pm g
theorem I2:HF P main (fun _=>False) (YM P main gr L E pm) :=
 ⟨fun m d g g' es h1 h2 h3 h4 h5 hd=>.inr ⟨h1,.inl ⟨g',es,h2,fun e he=>(h3 e he).elim,fun w _=>h4 w,h5 (by
  have:es=#[]:=by
   obtain⟨l⟩:=es;cases l with
   |nil=>rfl
   |cons e l=>exact(h3 e (by simp)).elim
  subst this;exact hd)⟩⟩⟩
theorem do1:StG P main gr (YM P main gr L E pm):=fun m d g g' h1 h2 h3 h4 hd=>.inr ⟨h1,.inl ⟨g',#[],h2,fun e he=>by simp at he,fun w hw=>by obtain⟨st,sm,h⟩:=hw.L2;exact h3 w st sm h,h4 hd⟩⟩
variable {ft n:Nat}{b:Frame}{cs:List Frame}{ds:List Deferred}{e:Env}{k:List Item}{ops:Array Oper}{i:Nat}{l:List Oper}{dst:Option Nat}{ty:TypeId}{ps:String}{af:Array Edge}{T:TypeId}{x y:Operand}
def Src (L:Q3) (pm:PM) (p:Addr) (v:Value):Prop:=(p,v)∈L\/∃cs T,(p.block,.cells cs T (0,0))∈pm/\p.spot=none/\cs[p.off]? =some v
theorem Src.cell {p:Addr} {v:Value} {w:World} (h:Src L pm p v) (hw:lx0 gr L pm w):w.cell? p=some v:=by
 rcases h with h|⟨cs,T,h1,h2,h3⟩
 ·exact hw.stay _ h
 ·have:=hw.own _ h1;unfold World.cell?;rw[this];simp[h2,h3]
theorem Src.evm {p:Addr} {v:Value} (h:Src L pm p v):EvM L pm ⟨.cell p,false,false⟩:=by
 rcases h with h|⟨cs,T,h1,_⟩
 ·exact⟨p,rfl,.inl ⟨v,h⟩⟩
 ·exact⟨p,rfl,.inr ⟨_,h1⟩⟩
theorem I0.Hy0 {g:Option (Nat×Bool)} {p:Addr} {v:Value} {u:TypeDesc} (hg:∀a,cx0 n a e ds->Region.wanted (⟨dst,.load T x,ty,ps,af,g⟩:Oper) (yielded ops a.tmps)=true) (hk:b.kind≠.early) (hd:Y3 n dst=true) (hx:ev e x= .pointer (some p)) (hT:P.underlying T=some u) (hu:H9 u=true) (hp:Src L pm p v)
  (h:I0 (YM P main gr L E pm) ft n b cs ds 0 (Y2 e dst v) ops (i+1) l k):I0 (YM P main gr L E pm) (ft+1) n b cs ds 0 e ops i (⟨dst,.load T x,ty,ps,af,g⟩::l) k:=by
 intro hl a ha _;obtain⟨ho,n5⟩:=E3 hl;refine .inr ⟨rfl,.inl ⟨_,seen P b.fn #[⟨.cell p,false,false⟩],rfl,fun ev' he=>?_,fun w u3=>?_,h n5 _ (ha.put hd v) rfl⟩⟩
 ·have:=mem_seen he;have:ev'=⟨.cell p,false,false⟩:=by simpa using this
  subst this;exact hp.evm
 ·have hc:=hp.cell u3;show stepG P main (G (b.at a (.inRegion ops (i::List.range' (i+1) l.length)::k)) cs) w=_;rw[stepG_value ho (hg a ha) hk (by rw[ha.eval];exact Go.Vc.F0 hx hT hu hc),listed];have he:∀es,(isAgg T).events P w es=es:=fun es=>by
   cases u <;> simp[isAgg,go_sem,run_underlying hT]
  have hq:(execOp a.eval ⟨dst,.load T x,ty,ps,af,g⟩).events P w #[]=#[⟨.cell p,false,false⟩]:=by
   rw[ha.eval];simp[execOp,Instr.loadAt,hx,Instr.sureAddr,loadVar,Go.Vc.r9 hT,hu,hc,he]
  rw[hq]
theorem I0.iy0 {p:Addr} {v:Value} {u:TypeDesc} (hk:b.kind≠.early) (hd:Y3 n dst=true) (hx:ev e x= .pointer (some p)) (hT:P.underlying T=some u) (hu:H9 u=true) (hp:Src L pm p v)
  (h:I0 (YM P main gr L E pm) ft n b cs ds 0 (Y2 e dst v) ops (i+1) l k):I0 (YM P main gr L E pm) (ft+1) n b cs ds 0 e ops i (⟨dst,.load T x,ty,ps,af,none⟩::l) k:=I0.Hy0 (fun _a _=>rfl) hk hd hx hT hu hp h
theorem I0.Tb0 {g:Nat×Bool} {p:Addr} {v:Value} {u:TypeDesc} (hk:b.kind≠.early) (hw:H2 ops e g.1=some g.2) (hd:Y3 n dst=true) (hx:ev e x= .pointer (some p)) (hT:P.underlying T=some u) (hu:H9 u=true) (hp:Src L pm p v)
  (h:I0 (YM P main gr L E pm) ft n b cs ds 0 (Y2 e dst v) ops (i+1) l k):I0 (YM P main gr L E pm) (ft+1) n b cs ds 0 e ops i (⟨dst,.load T x,ty,ps,af,some g⟩::l) k :=
 I0.Hy0 (fun a ha=>by rw[ha.yielded];simp[Region.wanted,hw]) hk hd hx hT hu hp h
theorem I0.Zp0 {o:Oper} {cs0:List Value} {T0:TypeId} (hg:o.guard=none) (hk:b.kind≠.early) (hd:Y3 n o.dst=true) (hr:∀w,(execOp (ev e) o).run P w= .ok (.value (.pointer (some ⟨w.heap.size,0,none⟩))) (w.alloc (.cells cs0.toArray T0 (0,0)))) (hv:∀w,(execOp (ev e) o).events P w #[]=#[])
  (h:∀bl,I0 (YM P main gr L E ((bl,.cells cs0.toArray T0 (0,0))::pm)) ft n b cs ds 0 (Y2 e o.dst (.pointer (some ⟨bl,0,none⟩))) ops (i+1) l k):I0 (YM P main gr L E pm) (ft+1) n b cs ds 0 e ops i (o::l) k:=by
 intro hl a ha _;obtain⟨ho,n5⟩:=E3 hl;refine .inr ⟨rfl,.inr (.inr ⟨fun bl=>G (b.at (a.put o.dst (.pointer (some ⟨bl,0,none⟩))) (.inRegion ops (List.range' (i+1) l.length)::k)) cs,cs0.toArray,T0,fun _=>rfl,fun w=>?_,fun bl=>h bl n5 _ (ha.put hd _) rfl⟩)⟩;rw[show stepG P main (G (b.at a (.inRegion ops (List.range' i (o::l).length)::k)) cs) w=stepG P main (G (b.at a (.inRegion ops (i::List.range' (i+1) l.length)::k)) cs) w from rfl];rw[stepG_value ho (by obtain⟨d,op,ty,ps,af,g⟩:=o;cases hg;rfl) hk (by rw[ha.eval];exact hr w),listed,ha.eval,hv,seen_none]
theorem I0.Zq0 {v:Value} {cs0:List Value} (hk:b.kind≠.early) (hd:Y3 n dst=true) (hx:ev e x=v) (hc:v.cells=cs0.toArray)
  (h:∀bl,I0 (YM P main gr L E ((bl,.cells cs0.toArray T (0,0))::pm)) ft n b cs ds 0 (Y2 e dst (.pointer (some ⟨bl,0,none⟩))) ops (i+1) l k):I0 (YM P main gr L E pm) (ft+1) n b cs ds 0 e ops i (⟨dst,.box T x,ty,ps,af,none⟩::l) k :=
 I0.Zp0 rfl hk hd (fun w=>by rw[<- hc];exact Go.Vc.uj0 hx) (fun w=>by simp[execOp,Instr.box,newVar,newRow,hx]) h
theorem I0.Tc0 {v:Value} {cs0:List Value} (hk:b.kind≠.early) (hd:Y3 n dst=true) (hz:(P.info? T).bind (·.zero)=some v) (hc:v.cells=cs0.toArray)
  (h:∀bl,I0 (YM P main gr L E ((bl,.cells cs0.toArray T (0,0))::pm)) ft n b cs ds 0 (Y2 e dst (.pointer (some ⟨bl,0,none⟩))) ops (i+1) l k):I0 (YM P main gr L E pm) (ft+1) n b cs ds 0 e ops i (⟨dst,.alloc T,ty,ps,af,none⟩::l) k :=
 I0.Zp0 rfl hk hd (fun w=>by rw[<- hc];exact Go.Vc.jr0 hz) (fun w=>by
  obtain⟨inf,hi,hz'⟩:=Option.bind_eq_some_iff.1 hz;simp[execOp,Instr.alloc,newVar,newRow,zeroValue,typeInfo,hi,hz',go_sem]) h
theorem I0.Hz0 {bl o:Nat} {v v0:Value} {cs0:Array Value} {T0:TypeId} (hk:b.kind≠.early) (hx:ev e x= .pointer (some ⟨bl,o,none⟩)) (hy:ev e y=v) (hs:(P.info? T).map (·.size)=some 1) (h1:v.oneCell'=true) (hm:(bl,.cells cs0 T0 (0,0))∈pm) (hc:cs0[o]? =some v0)
  (h:I0 (YM P main gr L E (ix0 pm bl (.cells (cs0.setIfInBounds o v) T0 (0,0)))) ft n b cs ds 0 e ops (i+1) l k):I0 (YM P main gr L E pm) (ft+1) n b cs ds 0 e ops i (⟨none,.store T x y,ty,ps,af,none⟩::l) k:=by
 intro hl a ha _;obtain⟨ho,n5⟩:=E3 hl;refine .inr ⟨rfl,.inr (.inl ⟨_,bl,cs0,T0,o,v,seen P b.fn #[⟨.cell ⟨bl,o,none⟩,true,false⟩],rfl,hm,fun ev' he=>?_,fun w u3=>?_,h n5 a ha rfl⟩)⟩
 ·have:=mem_seen he;simpa using this
 ·have hb:=u3.own _ hm;have L9:w.cell? ⟨bl,o,none⟩=some v0:=by unfold World.cell?;rw[hb];simp[hc]
  have hfr:w.frozen? ⟨bl,o,none⟩=false:=by simp[World.frozen?,hb]
  show stepG P main (G (b.at a (.inRegion ops (i::List.range' (i+1) l.length)::k)) cs) w=_;rw[stepG_none ho (by rw[ha.yielded];rfl) hk (by rw[ha.eval];exact Go.Vc.jq0 hx hy hs h1 L9 hfr),listed];have hv:v.cells=#[v]:=by cases v <;> first|rfl|(simp[Value.oneCell']at h1)
  have ha0:(⟨bl,o,none⟩:Addr).add 0=⟨bl,o,none⟩:=by simp[Addr.add]
  have hq:(execOp a.eval ⟨none,.store T x y,ty,ps,af,none⟩).events P w #[]=#[⟨.cell ⟨bl,o,none⟩,true,false⟩]:=by
   rw[ha.eval];simp[execOp,Instr.storeAt,hx,hy,Instr.sureAddr,storeVar,Go.Vc.run_sizeOf hs,hv,storeCells,ha0,events_store P w #[] ⟨bl,o,none⟩ v .plain h1,L9,hfr]
  rw[hq];rfl
end
end
end Go.Yc
end
section
namespace Go.Yc
open Go Go.Conc Go.Wg Go.Vy
open Go.ConcN (sumTo upd sumTo_upd upd_ne upd_same sumTo_congr)
section
attribute [local irreducible] KK
def Lw0 (G:I4) (w:World):Array Value×TypeId:=((let c:=w.heap[G.blk]?;match c with|some (.cells c _ _)=>c.extract 0 G.off|_=>#[]),(match w.heap[G.blk]? with|some (.cells _ T _)=>T|_=>0))
structure WF (G:I4) (bx:Nat) (w0 w:World):Prop where
 os:w.os=w0.os
 output:w.output=w0.output
 size:w0.heap.size <=w.heap.size
 old:∀b,b<w0.heap.size->b≠G.blk->b≠bx->w.heap[b]? =w0.heap[b]?
 pre:Lw0 G w=Lw0 G w0
section
variable {G:I4}{bx:Nat}{w0 w:World}
theorem WF.refl:WF G bx w w:=⟨rfl,rfl,Nat.le_refl _,fun _ _ _ _=>rfl,rfl⟩
theorem WF.at (h:WF G bx w0 w) (d:Nat):WF G bx w0 (w.at d):=⟨h.os,h.output,h.size,h.old,h.pre⟩
theorem size_setCell (w:World) (a:Addr) (v:Value):(w.setCell a v).heap.size=w.heap.size:=by simp[World.setCell]
theorem WF.cell (h:WF G bx w0 w) {b i:Nat} (v:Value) (hb:b=bx\/w0.heap.size <=b) (hg:b≠G.blk):WF G bx w0 (w.setCell ⟨b,i,none⟩ v):=by
 refine⟨h.os,h.output,by rw[size_setCell];exact h.size,fun k hk h1 h2=>?_,?_⟩
 ·have:k≠b:=by rintro rfl;rcases hb with e|e;exact h2 e;omega
  rw[D1 w v (a:=⟨b,i,none⟩) this];exact h.old k hk h1 h2
 ·rw[<- h.pre];unfold Lw0;rw[D1 w v (a:=⟨b,i,none⟩) (Ne.symm hg)]
theorem WF.alloc (h:WF G bx w0 w) (o:Obj) (hg:G.blk<w0.heap.size):WF G bx w0 (w.alloc o):=by
 have hh:∀k,k<w0.heap.size->(w.alloc o).heap[k]? =w.heap[k]?:=fun k hk=>by
  have:=h.size;show(w.heap.push o)[k]? =_;rw[Array.getElem?_push,if_neg (by omega)]
 refine⟨h.os,h.output,by have:=h.size;show _ <=(w.heap.push o).size;rw[Array.size_push];omega,fun k hk h1 h2=>by rw[hh k hk];exact h.old k hk h1 h2,?_⟩;rw[<- h.pre];unfold Lw0;rw[hh _ hg]
theorem WF.Ia0 (h:WF G bx w0 w) {st sm:Int} (hg:x7 G st sm w) {a:Addr} (ha:a.block=G.blk) (hs:a.spot=none) (ho:G.off <=a.off) (v:Value):WF G bx w0 (w.setCell a v):=by
 refine⟨h.os,h.output,by rw[size_setCell];exact h.size,fun k hk h1 h2=>?_,?_⟩
 ·rw[D1 w v (by rw[ha];exact h1)];exact h.old k hk h1 h2
 ·rw[<- h.pre];have:=cl0 hg ha hs ho v;exact Prod.ext this.1 this.2
end
inductive Bd where
 |up (wt:Bool)
 |out
 |last (s:Nat)
 |done
def bst:Bd->Int×Int
 | .up wt=>((((0+1)*KK+(if wt then 1 else 0):Nat):Int),0)
 | .out=>(0,0)
 | .last 0=>(0,0)
 | .last (_+1)=>(1,0)
 | .done=>(0,1)
def frB:Bd->Bool
 | .up false=>true
 | .out=>true
 |_=>false
def UsB (c:Nat) (σ:Bd) (g:Nat):Prop:=g=0\/(g=c/\(match σ with| .up _=>True| .last _=>True|_=>False))
def yi0 (P:Program) (G:I4) (A:Addr) (Fp:PM->Prop) (n:Nat) (pm:PM) (g:Goroutine):Prop :=
 g.status= .running/\Fp pm/\∃g',(∀w,stepG P false g w= .go g' w #[⟨.mark (.releaseMerge A),false,true⟩])/\Lt P G n 0 g'
def dg0 (P:Program) (G:I4) (Lc:Q3) (A:Addr) (Fp:PM->Prop) (σ:Bd) (r:Option Nat) (pm:PM) (d n:Nat) (g:Goroutine):Prop:=match σ with
 | .up _=>(r=none/\d=0/\MP P false G Lc (yi0 P G A Fp) n pm g)\/(r≠none/\Lt P G n d g)
 | .last s=>r≠none/\s <=2/\Lst P G n s d g
 |_=>r≠none/\QuitsD P n d g
def GB (X:Gh) (b:Nat):Prop:=∃G,(X.L2=some G\/G∈X.old)/\b=G.blk
structure StB (X:Gh) (G:I4) (c bx:Nat) (w0:World) (L0 Lc:Q3):Prop where
 L2:X.L2=some G
 c0:c≠0
 st:∀p,p∈L0\/p∈Lc->w0.cell? p.1=some p.2/\p.1.block<w0.heap.size/\p.1.block≠bx/\¬GB X p.1.block
 bx:bx<w0.heap.size/\¬GB X bx
 gb:∀b,GB X b->b<w0.heap.size
abbrev BM (pm:PM) (b:Nat):Prop:=∃o,(b,o)∈pm
structure Rb (P:Program) (X:Gh) (G:I4) (c bx n0:Nat) (w0:World) (L0 Lc:Q3) (A:Addr) (Fp:PM->Prop) (N:Nat) (σ:Bd) (r:Option Nat) (v7 R6:PM) (d:Nat) (T:Trace) (gs:Array Goroutine) (w:World) (q:Nat->Nat):Prop where
 wf:WF G bx w0 w
 tb:TB X.Sh (UsB c σ) c n0 L0 Lc (BM v7) (BM R6) A r T
 n0:n0 <=T.size
 d0:Deaf T 0=d
 own:∀x,x∈v7\/x∈R6->(x.1=bx\/w0.heap.size <=x.1)/\w.heap[x.1]? =some x.2
 apart:Apart L0 Lc (BM v7) (BM R6)
 child:∀g,gs[c]? =some g->dg0 P G Lc A Fp σ r R6 (Deaf T c) (q c) g
 rest:∀i g,i≠0->i≠c->gs[i]? =some g->QuitsD P (q i) (Deaf T i) g
 x6:x7 G (bst σ).1 (bst σ).2 w
 size:c<gs.size/\gs.size=N
 above:∀j,gs.size <=j->Deaf T j=0
 fin:r≠none->Fp R6
theorem wc0 {e:Event} {a:Addr} (h:MemAct.ofEvent e= .mark (.release a)):e.loc= .mark (.release a):=by
 obtain⟨l,w,s⟩:=e;cases l with
 |mark m=>cases m <;> simp[MemAct.ofEvent]at h⊢<;> exact h
 |_=>cases w <;> cases s <;> simp[MemAct.ofEvent]at h
section
variable {P:Program}{X:Gh}{G:I4}{c bx n0:Nat}{w0:World}{L0 Lc:Q3}{A:Addr}{Fp:PM->Prop}{N:Nat}{σ σ':Bd}{r r':Option Nat}{v7 R6 pmc':PM}{d:Nat}{T:Trace}{gs:Array Goroutine}{w w':World}{q:Nat->Nat}
theorem norel_of {x:Nat} {fn:FuncId} {pos:String} {es:Array Event} (h:∀e∈es,∀a,e.loc≠.mark (.release a)):rp0 (MemOp.ofEvents x fn pos es):=fun op H5 a e=>by
 obtain⟨ev,he,rfl⟩:=Go.Conc.mem_ofEvents H5;exact h ev he a (wc0 e)
theorem TB.L2 {Us:Nat->Prop} {B0 Bc:Nat->Prop} (H:TB X.Sh Us c n0 L0 Lc B0 Bc A r T) (hn0:n0 <=T.size) (hG:X.L2=some G) {x:Nat} {fn:FuncId} {pos:String} {es:Array Event} (y9:∀e∈es,GEv G x e) (hu:(∀e∈es,(MemAct.ofEvent e).touch? =none)\/(Us x/\(x≠0->∀k,k<es.size->deafBehind (Deaf T x) (es.extract 0 k)≠0))) :
  TB X.Sh Us c n0 L0 Lc B0 Bc A r (T++MemOp.ofEvents x fn pos es):=by
 have hnr:=norel_of (x:=x) (fn:=fn) (pos:=pos) fun e he=>(y9 e he).2;rcases hu with hu|⟨hU,hdf⟩
 ·exact H.mute hn0 (fun op H5=>by obtain⟨e,he,rfl⟩:=Go.Conc.mem_ofEvents H5;exact hu e he) fun _=>hnr
 ·refine H.sh hn0 hU r2 (fun op H5 b hb=>?_) (fun r3 i hi1 hi2=>?_) fun _=>hnr
  ·obtain⟨e,he,rfl⟩:=Go.Conc.mem_ofEvents H5;obtain⟨⟨a,h1,h2,h3⟩,h4⟩:=(y9 e he).1 b hb;exact⟨⟨a,G,.inl hG,h1,h2,h3⟩,h4⟩
  ·obtain⟨m,rfl⟩:∃m,i=T.size+m:=⟨i-T.size,by omega⟩
   have hm:m<es.size:=by
    have n2:(MemOp.ofEvents x fn pos es).size=es.size:=by rw[ofEvents_eq];simp
    omega
   rw[Go.Conc.deaf_inside T x fn pos es m (Nat.le_of_lt hm)];exact hdf r3 m hm
theorem StB.on0 (S:StB X G c bx w0 L0 Lc) (q7:∀b,BM v7 b->b=bx\/w0.heap.size <=b) {a:Touch} (h:On L0 (BM v7) a):¬X.Sh a.loc:=by
 rintro⟨ad,G',hG',e,hb,_⟩;have hgb:GB X ad.block:=⟨G',hG',hb⟩
 rcases h with⟨_,p,hp,h2⟩|⟨ad',h1,h2⟩
 ·rw[e]at h2;cases h2;exact(S.st p (.inl hp)).2.2.2 hgb
 ·rw[e]at h1;cases h1;rcases q7 _ h2 with e|e
  ·rw[e]at hgb;exact S.bx.2 hgb
  ·have:=S.gb _ hgb;omega
theorem StB.onc (S:StB X G c bx w0 L0 Lc) (q7:∀b,BM R6 b->b=bx\/w0.heap.size <=b) {a:Touch} (h:On Lc (BM R6) a):¬X.Sh a.loc:=by
 rintro⟨ad,G',hG',e,hb,_⟩;have hgb:GB X ad.block:=⟨G',hG',hb⟩
 rcases h with⟨_,p,hp,h2⟩|⟨ad',h1,h2⟩
 ·rw[e]at h2;cases h2;exact(S.st p (.inr hp)).2.2.2 hgb
 ·rw[e]at h1;cases h1;rcases q7 _ h2 with e|e
  ·rw[e]at hgb;exact S.bx.2 hgb
  ·have:=S.gb _ hgb;omega
theorem StB.cell (S:StB X G c bx w0 L0 Lc) (hw:WF G bx w0 w) {p:Addr×Value} (hp:p∈L0\/p∈Lc):w.cell? p.1=some p.2:=by
 obtain⟨h1,h2,h3,h4⟩:=S.st p hp;have:=(u5 (u:=w0) (u':=w) (a:=p.1) (hw.old _ h2 (fun e=>h4 ⟨G,.inl S.L2,e⟩) h3)).1;rw[this];exact h1
theorem EvM.on {L:Q3} {pm:PM} {e:Event} (h:EvM L pm e):(∀b,(MemAct.ofEvent e).touch? =some b->On L (BM pm) b)/\(∀a,e.loc≠.mark (.release a))/\e.loc≠.mark .disable/\e.loc≠.mark .enable:=by
 obtain⟨a,rfl,h⟩:=h;refine⟨fun b hb=>?_,by simp,by simp,by simp⟩;simp only[ofEvent_cell0,MemAct.touch?,Option.some.injEq]at hb;subst hb;rcases h with⟨v,hv⟩|⟨o,ho⟩
 ·exact .inl ⟨rfl,_,hv,rfl⟩
 ·exact .inr ⟨a,rfl,o,ho⟩
theorem dh0 {L:Q3} {pm:PM} {bl i:Nat} {o:Obj} (h:(bl,o)∈pm) {e:Event} (he:e=⟨.cell ⟨bl,i,none⟩,true,false⟩):(∀b,(MemAct.ofEvent e).touch? =some b->On L (BM pm) b)/\(∀a,e.loc≠.mark (.release a))/\e.loc≠.mark .disable/\e.loc≠.mark .enable:=by
 subst he;refine⟨fun b hb=>?_,by simp,by simp,by simp⟩;simp only[MemAct.ofEvent,MemAct.touch?,Option.some.injEq]at hb;subst hb;exact .inr ⟨_,rfl,o,h⟩
theorem Rb.Zr0 (C:Rb P X G c bx n0 w0 L0 Lc A Fp N σ r v7 R6 d T gs w q):∀b,BM v7 b->b=bx\/w0.heap.size <=b:=fun _b ⟨_o,h⟩=>(C.own _ (.inl h)).1
theorem Rb.Zs0 (C:Rb P X G c bx n0 w0 L0 Lc A Fp N σ r v7 R6 d T gs w q):∀b,BM R6 b->b=bx\/w0.heap.size <=b:=fun _b ⟨_o,h⟩=>(C.own _ (.inr h)).1
theorem Rb.Ib0 (C:Rb P X G c bx n0 w0 L0 Lc A Fp N σ r v7 R6 d T gs w q) (S:StB X G c bx w0 L0 Lc):lx0 G L0 v7 w:=⟨⟨_,_,C.x6⟩,fun _p hp=>S.cell C.wf (.inl hp),fun x hx=>(C.own x (.inl hx)).2⟩
theorem Rb.Ic0 (C:Rb P X G c bx n0 w0 L0 Lc A Fp N σ r v7 R6 d T gs w q) (S:StB X G c bx w0 L0 Lc):lx0 G Lc R6 w:=⟨⟨_,_,C.x6⟩,fun _p hp=>S.cell C.wf (.inr hp),fun x hx=>(C.own x (.inr hx)).2⟩
theorem Rb.at (C:Rb P X G c bx n0 w0 L0 Lc A Fp N σ r v7 R6 d T gs w q) (k:Nat):Rb P X G c bx n0 w0 L0 Lc A Fp N σ r v7 R6 d T gs (w.at k) q :=
 ⟨C.wf.at k,C.tb,C.n0,C.d0,C.own,C.apart,C.child,C.rest,C.x6,C.size,C.above,C.fin⟩
theorem MP.running {main:Bool} {gr:I4} {L:Q3} {E:Nat->PM->Goroutine->Prop} (hE:∀n pm g,E n pm g->g.status= .running):∀{n:Nat} {pm:PM} {g:Goroutine},MP P main gr L E n pm g->g.status= .running
 |0,_,_,h=>h.elim
 |_+1,_,_,h=>h.elim (hE _ _ _) fun z=>z.1
theorem dg0.status {n:Nat} {g:Goroutine} (h:dg0 P G Lc A Fp σ r R6 d n g):g.status= .running\/g.status= .finished:=by
 cases σ with
 |up wt=>rcases h with⟨_,_,h⟩|⟨_,h⟩;exact .inl (h.running fun _ _ _ z=>z.1);exact .inl h.running
 |last s=>exact .inl h.2.2.running
 |out=>exact h.2.status
 |done=>exact h.2.status
theorem Rb.status (C:Rb P X G c bx n0 w0 L0 Lc A Fp N σ r v7 R6 d T gs w q) {i:Nat} {g:Goroutine} (hi:i≠0) (hg:gs[i]? =some g):g.status= .running\/g.status= .finished:=by
 by_cases e:i=c
 ·subst e;exact(C.child g hg).status
 ·exact(C.rest i g hi e hg).status
theorem Rb.move (C:Rb P X G c bx n0 w0 L0 Lc A Fp N σ r v7 R6 d T gs w q) {i n:Nat} {g g':Goroutine} {es:Array Event} {sl:Option (Nat×Nat)} (hi:gs[i]? =some g) (r3:i≠0) (S2:stepG P false g w= .go g' w' es) (hq:q i=n+1)
  (tb':TB X.Sh (UsB c σ') c n0 L0 Lc (BM v7) (BM pmc') A r' (T++MemOp.ofEvents i g.frame.fn g.frame.place es)) (wf':WF G bx w0 w') (Bi0:∀x,x∈v7\/x∈pmc'->(x.1=bx\/w0.heap.size <=x.1)/\w'.heap[x.1]? =some x.2) (yj0:Apart L0 Lc (BM v7) (BM pmc')) (Id0:x7 G (bst σ').1 (bst σ').2 w') (dp1:r'≠none->Fp pmc')
  (jy0:(i=c->dg0 P G Lc A Fp σ' r' pmc' (deafBehind (Deaf T c) es) n g')/\(i≠c->σ'=σ/\r'=r/\pmc'=R6/\QuitsD P n (deafBehind (Deaf T i) es) g')) :
  ∃G4 ops q',runT P (crowd gs w sl) i=(.next (crowd G4 w' sl),ops)/\G4.size=gs.size/\(∀g0,gs[0]? =some g0->G4[0]? =some (woken P g g' w' g0))/\Rb P X G c bx n0 w0 L0 Lc A Fp N σ' r' v7 pmc' d (T++ops) G4 w' q'/\sumTo G4.size q'<sumTo gs.size q:=by
 have T2:i<gs.size:=(Array.getElem?_eq_some_iff.1 hi).1;have hi0:(i==0)=false:=by simpa using r3
 have n2:((gs.map (woken P g g' w')).setIfInBounds i g').size=gs.size:=by simp
 have hdo:∀x,x≠i->Deaf (T++MemOp.ofEvents i g.frame.fn g.frame.place es) x=Deaf T x:=fun x hx=>Deaf_other T (Ne.symm hx) _ r2;have vq0:∀x y,x≠0->((gs.map (woken P g g' w')).setIfInBounds i g')[x]? =some y->(x=i/\y=g')\/(x≠i/\gs[x]? =some y):=fun x y hx hy=>by
  by_cases e:x=i
  ·subst e;rw[Array.getElem?_setIfInBounds_self_of_lt (by simpa using T2)]at hy;exact .inl ⟨rfl,(Option.some.inj hy).symm⟩
  ·rw[Array.getElem?_setIfInBounds_ne (fun z=>e z.symm),Array.getElem?_map]at hy;obtain⟨y₀,hy₀,rfl⟩:=Option.map_eq_some_iff.1 hy;rw[woken_of_again (again_of_running (C.status hx hy₀) w')];exact .inr ⟨e,hy₀⟩
 refine⟨_,_,upd q i n,runT_crowd_go (sl:=sl) hi (by rw[hi0];exact S2),n2,fun g0 h0=>?_,⟨wf',tb',by rw[Array.size_append];have:=C.n0;omega,(hdo 0 (Ne.symm r3)).trans C.d0,Bi0,yj0,fun y hy=>?_,fun x y hx hxc hy=>?_,Id0,by rw[n2];exact C.size,fun j hj=>?_,dp1⟩,?_⟩
 ·rw[Array.getElem?_setIfInBounds_ne r3,Array.getElem?_map,h0];rfl
 ·have hc0:c≠0\/c=0:=(Decidable.em (c=0)).symm;by_cases e:i=c
  ·subst e;rw[Array.getElem?_setIfInBounds_self_of_lt (by simpa using T2)]at hy;obtain rfl:=Option.some.inj hy;rw[Deaf_own,upd_same];exact jy0.1 rfl
  ·obtain⟨rfl,rfl,rfl,_⟩:=jy0.2 e;have hy':gs[c]? =some y:=by
    rw[Array.getElem?_setIfInBounds_ne e,Array.getElem?_map]at hy;obtain⟨y₀,hy₀,rfl⟩:=Option.map_eq_some_iff.1 hy;rw[woken_of_again (again_of_running (C.child y₀ hy₀).status w')];exact hy₀
   rw[hdo c (Ne.symm e),upd_ne q n (Ne.symm e)];exact C.child y hy'
 ·rcases vq0 x y hx hy with⟨rfl,rfl⟩|⟨e,hy'⟩
  ·rw[Deaf_own,upd_same];exact(jy0.2 hxc).2.2.2
  ·rw[hdo x e,upd_ne q n e];exact C.rest x y hx hxc hy'
 ·rw[n2]at hj;rw[hdo j (by omega)];exact C.above j hj
 ·have h2:sumTo gs.size (upd q i n)+(n+1)=sumTo gs.size q+n:=by
   have:=sumTo_upd q n id T2;simpa [hq]using this
  rw[n2];omega
end
end
end Go.Yc
end
