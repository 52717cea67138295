/- What the claim leans on, part 4. Laws. -/
import Derived.Test.YtnifpkopeheodaaGreatKP3
import Derived.Conc.LeavingOf
import Derived.ProofKit
import Derived.Deep.Slices
import Derived.SizedLaws
import Derived.Conc.SmallLaws
import Derived.Laws.LoneSync
import Derived.FollowTie
set_option linter.unusedVariables false
section
namespace Go.Vy
open Go Go.Conc Go.Yc Go.RowKit
section
variable {P:Program}{main:Bool}{f:FuncId}{args:Array Value}{R:Ending->World->Prop}
theorem oc0 {fr:Frame} {w:World} {e:Ending} {τ:Tape} {d:Nat} (h:Leaves P fr w e):Leaves P fr (Yc.N2 w τ d) e:=by
 cases e with
 |returned v=>exact h
 |panicked ch=>exact h
 |outgrown=>exact h
theorem Calls.N2 {u:World} {τ:Tape} {d:Nat} (h:@Calls P (j2 P main) f args (Yc.N2 u τ d) R):@Calls P (j2 P main) f args u (fun e w'=>∃w2 d2,w'=Yc.N2 w2 u.tape d2/\R e w2):=by
 intro Z hZ cs hk;obtain⟨hc,hi⟩:=hZ;have e7:Cl P main (fun g x=>∀d0,Z g (Yc.N2 x u.tape d0)):=⟨fun g x hr hs d0=>by
  refine hc.own g _ hr fun τ' d'=>?_;obtain⟨g',u',d2,hF,hz⟩:=hs τ' d';exact⟨g',u',0,hF,hz 0⟩⟩
 have:=h (fun g x=>∀d0,Z g (Yc.N2 x u.tape d0)) ⟨e7,fun g x hz d0=>hi g _ fun hv=>hz hv d0⟩ cs (fun e w' fr he hf hl d0=>hk e _ fr ⟨w',d0,rfl,he⟩ hf (oc0 hl)) u.drawn;exact this
end
end Go.Vy
namespace Go.Vy.Sc
open Go Go.Conc Go.Yc Go.RowKit Go.Proofs Go.Proofs.YtnifpkopeheodaaGreat Tryz
open Go.Vc Go.Wg
attribute [local irreducible] KK
structure Lone (X:Gh) (w:World):Prop where
 N1:∀i,X.N1 i=none
 cap:X.cap=0
 pend:X.pend=0
 dn:X.dn=0
 under:X.T9 w.heap.size
 k5:∀b,w.heap.size <=b->X.k5 b= .all
 ki0:0<X.n
theorem Lone.mono {X:Gh} {w w':World} (h:Lone X w) (hs:w.heap.size <=w'.heap.size):Lone X w':=⟨h.N1,h.cap,h.pend,h.dn,h.under.mono hs,fun b hb=>h.k5 b (Nat.le_trans hs hb),h.ki0⟩
section
variable {Y:Sys}{fb:Nat->FuncId}{caps:Nat->Array Value}{fv:Nat->Value}{ba sa:Option Addr}{sn:Nat}{sc:Nat->Int}{Mn:Nat->Option Obj}{w0:World}{rb0:Nat}
theorem Dw0 {q:PR Y} {Γ:Geo} {X:Gh} {R:Rn} {w:World} {p:PR Y} (hF:Fix Y fb q w0 Γ X R w Mn none (fun j=>p.ft[j]?)) (hlen:R.cl.length=Y.m):rdl R.cl (Y.B7 p) Y.m=Y.rds p:=by
 unfold rdl Sys.rds;apply List.filter_congr;intro i hi;have hi:i<Y.m:=by simpa using hi
 obtain⟨c,hc⟩:∃c,R.cl[i]? =some c:=⟨_,List.getElem?_eq_getElem (by omega)⟩
 rw[hc];rcases hF.waits hc with⟨h1,_⟩|⟨h1,x,h2,_⟩
 ·simp[h1]
 ·have h2:p.ft[i]? =some (.inr x):=h2;simp[h1,Sys.B7,h2]
theorem Kz0 {q:PR Y} {Γ:Geo} {X:Gh} {R:Rn} {w:World} {p:PR Y} (hF:Fix Y fb q w0 Γ X R w Mn none (fun j=>p.ft[j]?)) (hlen:R.cl.length=p.ft.length):R.cl.any (·.wt)=p.ft.any (·.isLeft):=by
 rw[Bool.eq_iff_iff,List.any_eq_true,List.any_eq_true];constructor
 ·rintro⟨c,hc,hw⟩;obtain⟨i,hi⟩:=List.mem_iff_getElem?.1 hc;rcases hF.waits hi with⟨h1,_,l,h2,_⟩|⟨h1,_⟩
  ·exact⟨.inl l,List.mem_iff_getElem?.2 ⟨i,h2⟩,rfl⟩
  ·rw[hw]at h1;cases h1
 ·rintro⟨f,hf,hw⟩;obtain⟨i,hi⟩:=List.mem_iff_getElem?.1 hf;have x7:=(List.getElem?_eq_some_iff.1 hi).1;obtain⟨c,hc⟩:∃c,R.cl[i]? =some c:=⟨_,List.getElem?_eq_getElem (by omega)⟩
  rcases hF.waits hc with⟨h1,_⟩|⟨h1,x,h2,_⟩
  ·exact⟨c,List.mem_iff_getElem?.2 ⟨i,hc⟩,h1⟩
  ·have h2:p.ft[i]? =some (.inr x):=h2;rw[hi]at h2;cases h2;cases hw
theorem Main.v5 {q:PR Y} {Γ:Geo} {X:Gh} {R R':Rn} {w w':World} {ft:Nat->Option (Y.L ⊕ Nat)} {s:Y.S} (hY:ny0 Y) (h:Main Y fb q w0 Γ X R w Mn ft s) (hg:Rg R.fp w.heap.size w w' w0.heap.size R') (hrb:R'.rb=R.rb) (hyb:R'.yb=R.yb) (hm:R'.m=R.m) (e7:R'.cl=R.cl) (he:R'.ends=R.ends):Main Y fb q w0 Γ X R' w' Mn ft s:=by
 obtain⟨F,hinv,hFf⟩:=h.inv;have H9:=hY.vis _ _ _ _ hinv;refine⟨h.fix.v5 hY.toLeOk hg.m hrb hyb hm hg.fp (by rw[e7]) (fun j c hc=>⟨c,by rw[<- e7];exact hc,rfl,rfl,fun _=>⟨rfl,by rw[he]⟩⟩) hg.md.size (fun b hb hf _=>.inl (hg.md.block b hb hf)) (fun _=>⟨hg.md.os,hg.md.output⟩),F,hY.loc _ _ w w' F hinv fun b hb=>hg.md.block b (H9 b hb).1 (hFf b hb).1,fun b hb=>⟨fun z=>(hg.fp b z).elim (hFf b hb).1 (Nat.not_le_of_lt (H9 b hb).1),fun z=>(hFf b hb).2 ?_⟩⟩;rcases z with z|⟨k,hk,z⟩|z
 ·exact .inl z
 ·exact .inr (.inl ⟨k,by rw[<- e7];exact hk,z⟩)
 ·exact .inr (.inr z)
theorem Wv0 (hO:lm0 Y fb caps fv ba sa sn sc) {n:Nat} {X:Gh} {R:Rn} {w:World} (hJ:J2 Y fb sn sc Mn w0 rb0 n X R w) {i:Nat} {c:CB} (hc:R.cl[i]? =some c) (hwt:c.wt=true):@wl0 (j2 prog true) w c.rf (Y.B7 (Y.pn sc n) i):=by
 obtain⟨hn,⟨Γ,hM⟩,hT,bc0,bl0⟩:=hJ;have hF:=hM.fix;have Wr0:Y.Le (Y.pn sc n) (Y.pn sc sn):=wu0 hn;have hok:=Sys.zd0 (Y:=Y) sc n;generalize hp:Y.pn sc n=p at *;obtain⟨hnl,l,hl,hW⟩:Y.nil i=false/\∃l,p.ft[i]? =some (.inl l)/\Wt Y fb (Y.pn sc sn) w0 Γ X w i c l:=by
  rcases hF.waits hc with⟨_,h1,l,h2,h3⟩|⟨h,_⟩
  ·exact⟨h1,l,h2,h3⟩
  ·rw[hwt]at h;cases h
 have hs:Y.sAt (Y.pn sc sn) p.outs.length=p.s:=Sys.Py0 hok Wr0;have hr:Y.B7 p i=Y.rdy i l p.s:=by unfold Sys.B7;rw[hl]
 obtain⟨h1,T2,hsp,heb,me,cs,wn,mn,Fn,Rdo,R6,hme,hrf,hdf,hpv,M8,hos,bk0,I2,Bv0,hdo,hgo,mo0⟩:=hW;obtain⟨F,hinv,hFf⟩:=hM.inv;have H9:=hO.sys.vis _ _ _ _ hinv;have ob0:∀b,Γ.pv i b\/F b->b<w.heap.size:=fun b hb=>by
  rcases hb with h|h
  ·exact(hF.pv i b h).1
  ·exact(H9 b h).1
 rcases hrf with⟨hrf,aw0⟩|⟨f,cps,⟨hrf,fn,h2,h3,h4⟩,A5⟩
 ·exact .inl ⟨hrf,by rw[hr];exact aw0 _⟩
 ·refine .inr ⟨f,fn,cps,hrf,h2,h3,h4,fun u hb=>?_⟩;haveI:DecidablePred fun b=>Γ.pv i b\/F b:=fun _=>Classical.propDecidable _;have Wt0:(Y.cfg fb (Y.pn sc sn) w0 i c.cb (Γ.top i)).I5 wn mn Fn (Yc.N2 (M3 (fun b=>Γ.pv i b\/F b) u) (tpT u p.outs.length 0 0 Γ.gm) u.drawn) F:=by
   refine Wt.L7 (u:=Yc.N2 (M3 (fun b=>Γ.pv i b\/F b) u) (tpT u p.outs.length 0 0 Γ.gm) u.drawn) (q:=Y.pn sc sn) (X:=X) (R:=R) (c:=c) (l:=l) hO.sys hpv M8 hos bk0 I2 Bv0 hinv (fun b hb z=>(hFf b hb).2 (.inr (.inr ⟨i,z⟩))) (fun b D8=>?_) ?_ (hb.os.trans (hF.os rfl)) (hb.output.trans (hF.output rfl)) hs (tpm _ _ _ _ _ _ _)
   ·show(M3 (fun b=>Γ.pv i b\/F b) u).heap[b]? =_;rw[an0 (V:=fun b=>Γ.pv i b\/F b) u D8,hb.block b (ob0 b D8)]
   ·show w.heap.size <=(M3 (fun b=>Γ.pv i b\/F b) u).heap.size;rw[X8];exact hb.size
  have h5:=Calls.seen (fun b=>Γ.pv i b\/F b) (Calls.N2 (A5 _ F Wt0));refine @Calls.mono _ (j2 prog true) f cps u _ _ h5 fun e w' he=>?_;obtain⟨u',rfl,hH,w2,d2,rfl,he⟩:=he;cases e with
  |panicked ch=>exact he.elim
  |outgrown=>exact he.elim
  |returned v=>
   obtain⟨hv,cg0⟩:=he;refine⟨?_,⟨cg0.os,rfl,cg0.output,?_,fun b D8=>?_⟩⟩
   ·rw[hv,hr];show Value.bool (Y.rdy i l (Y.sAt (Y.pn sc sn) p.outs.length))=_;rw[hs]
   ·rw[N4];have:=cg0.size;have h6:(M3 (fun b=>Γ.pv i b\/F b) u).heap.size <=w2.heap.size:=this;rw[X8]at h6;exact h6
   ·have h6:b<(M3 (fun b=>Γ.pv i b\/F b) u).heap.size:=by rw[X8];exact D8
    have h7:=cg0.block b h6;by_cases hV:Γ.pv i b\/F b
    ·rw[M5 (Yc.N2 w2 _ d2) (by simp[J8,hV])];show w2.heap[b]? =_;refine h7.trans ?_;show(M3 (fun b=>Γ.pv i b\/F b) u).heap[b]? =_;rw[an0 (V:=fun b=>Γ.pv i b\/F b) u hV]
    ·have h8:J8 (fun b=>Γ.pv i b\/F b) u b=some u.heap[b]:=by
      simp only[J8,hV,if_false];exact Array.getElem?_eq_getElem D8
     rw[C9 h8 (by
      show b<w2.heap.size;have:=cg0.size;have h9:(M3 (fun b=>Γ.pv i b\/F b) u).heap.size <=w2.heap.size:=this;omega),Array.getElem?_eq_getElem D8]
theorem ring (hO:lm0 Y fb caps fv ba sa sn sc) {tb:Nat} {Post:Value->World->Prop} (htb:Mn tb=some (.cells #[.slice none 0 0,.slice none 0 0,.slice none 0 0,.slice none 0 0,.bool false,.i 0] 30 (0,0)))
  (hbc:∀w:World,(∀b,Mn b≠none->w.heap[b]? =Mn b)->∀j,j<Y.m->w.cell? ⟨ab ba,ao ba+j*1,none⟩=some (fv j)) (hsc:∀w:World,(∃s m F,Y.Inv s m w F)->(∀b,Mn b≠none->w.heap[b]? =Mn b)->∀j,j<sn->w.cell? ⟨ab sa,ao sa+j*1,none⟩=some (.i (sc j))) :
  Kd0 rb0 Y.m sn tb ba sa fv sc w0.heap.size Post (JB Y fb sn sc Mn w0 rb0) (J2 Y fb sn sc Mn w0 rb0) (JE Y fb sn sc Mn w0 rb0) (fun n=>Y.B7 (Y.pn sc n)):=by
 have hm1:=hO.m1;have hsn:=hO.sn1;refine⟨fun cs aa0=>⟨hO.bsl,fun i hi=>?_,fun i X R w hJ=>?_,fun i X R w w' a n cb rc hi hJ hf hcb hrc hg=>?_,fun i X R w w' a n cb rc hi hJ hf hcb hrc o3 G6 hg=>?_,aa0⟩,fun X R w hJ=>?_,hO.ssl,fun n X R w hJ=>?_,fun n X R w w' hJ hb=>?_,fun n X R w hJ i c hc hwt=>Wv0 hO hJ hc hwt,fun n X R w i c hJ hn hp hc=>?_,fun n X R w w' b hJ hn hb hg=>?_,fun ca cc cs aa0=>⟨fun i X R w hJ=>?_,fun i X R w c hJ hc hwt=>?_,fun i X R w c hJ hc hwt=>?_,fun X R w hJ=>?_⟩,fun X R w hJ=>?_⟩
 ·rcases hO.fn i hi with h|⟨_,h,fn,h1,h2,h3⟩
  ·exact .inl h.2
  ·exact .inr ⟨fb i,fn,caps i,h,h1,h2,h3⟩
 ·obtain⟨_,⟨Γ,hM⟩,hT,bc0,bl0⟩:=hJ;exact⟨hM.fix.mem,hT.rb,hT.len.trans (Sys.T5 i),hM.fix.m,hM.fix.size,hM.fix.under,hbc w hM.get⟩
 ·obtain⟨_,⟨Γ,hM⟩,hT,bc0,bl0⟩:=hJ;have hnl:Y.nil i=true:=by
   rcases hO.fn i hi with h|h
   ·exact h.1
   ·rw[hf]at h;exact absurd h.2.1 (by simp)
  have hlen:R.cl.length=i:=hT.len.trans (Sys.T5 i);have hbg:Y.P4 (i+1)={Y.P4 i with ft:=(Y.P4 i).ft ++ [.inr 1]}:=by
   show Y.bgn (Y.P4 i)=_;unfold Sys.bgn;rw[Sys.T5 i,hnl];rfl
  have hpl:=Sys.T5 (Y:=Y) i;generalize hp:Y.P4 i=p at *;have ls0:=hM.fix.Wp0 hO.sys.toLeOk hnl hlen (by rw[hM.fix.m];exact hi) hcb hg (by show p.ft[i]? =none;rw[List.getElem?_eq_none (by omega)]);rw[mj0 hpl]at ls0;obtain⟨F,hinv,hFf⟩:=hM.inv;have H9:=hO.sys.vis _ _ _ _ hinv;have hM':Main Y fb (Y.pn sc sn) w0 Γ (X.lower cb) {R with ca:=a,cc:=n,cl:=R.cl ++ [E4 cb rc],ends:=R.ends.set i 1} w' Mn (fun j=>(p.ft ++ [.inr 1])[j]?) p.s:=by
   refine⟨ls0,F,hO.sys.loc _ _ w w' F hinv fun b hb=>hg.md.block b (H9 b hb).1 (hFf b hb).1,fun b hb=>⟨fun z=>(hg.fp b z).elim (hFf b hb).1 (Nat.not_le_of_lt (H9 b hb).1),fun z=>(hFf b hb).2 ?_⟩⟩;rcases z with z|⟨k,hk,hnk,z⟩|z
   ·exact .inl z
   ·refine .inr (.inl ⟨k,?_,hnk,z⟩);have hk:k<(R.cl ++ [E4 cb rc]).length:=hk;rw[List.length_append,List.length_singleton]at hk;rcases Nat.lt_or_ge k R.cl.length with y|y
    ·exact y
    ·have:k=i:=by omega
     rw[this,hnl]at hnk;cases hnk
   ·exact .inr (.inr z)
  refine⟨by omega,⟨Γ,by rw[hbg];exact hM'⟩,?_,bc0,bl0⟩
  ·rw[hbg];refine⟨hT.rb,hT.evs,hT.r2,hT.used,by simp[hT.len],fun j d hd=>?_,fun j hj=>?_⟩
   ·rcases bb0 hd with z|⟨z,rfl⟩
    ·exact hT.n2 j d z
    ·show 0=p.who.count (some j);rw[<- hp];exact(Sys.fh0 i j).symm
   ·have h0:=kl0 (Y:=Y) (f:=.inr 1) (g:=fun j=>p.ft[j]?) (i:=i) hT.ends (by rw[hM.fix.mem.ep0,hM.fix.m]) (by show Y9 p.ft[i]? =0;rw[List.getElem?_eq_none (by omega)];rfl) j hj;exact h0.trans (congrArg (fun f:Nat->Option (Y.L ⊕ Nat)=>some (Y9 (f j))) (mj0 hpl (.inr 1)))
 ·have hF:∃Γ,Fix Y fb (Y.pn sc sn) w0 Γ X R w Mn none (fun j=>(Y.P4 i).ft[j]?):=by obtain⟨_,⟨Γ,hM⟩,_⟩:=hJ;exact⟨Γ,hM.fix⟩
  obtain⟨Γ,hF⟩:=hF;have hT:Tie Y rb0 (Y.P4 i) R:=hJ.2.2.1;have hlen:R.cl.length=i:=hT.len.trans (Sys.T5 i);refine⟨by rw[<- hT.rb];exact hF.l3,hF.pend,by have:=hF.cap;omega,hF.dn,hF.lk0,⟨hF.chy,fun j s2 hs2=>?_⟩,fun me0 hk=>Wq0 hO hi hJ hf hcb hrc o3 G6 hg hk⟩;by_cases hj0:j=0
  ·subst hj0;rw[hF.nx0 rfl]at hs2;cases hs2
  ·obtain⟨k,d,h2,h3,_,h4,_⟩:=hF.n4 j s2 hj0 hs2;rw[h4];exact hF.ry k d h2 h3
 ·obtain⟨_,hM,hT,bc0,bl0⟩:=hJ;exact⟨Nat.zero_le _,hM,hT,bc0,bl0⟩
 ·obtain⟨hn,⟨Γ,hM⟩,hT,bc0,bl0⟩:=hJ;have h1:=Sys.nz0 (Y:=Y) sc n;have h2:=Sys.zd0 (Y:=Y) sc n;refine⟨hM.fix.mem,hT.rb,hT.len.trans (Sys.b9 sc n),hM.fix.size,by rw[hT.evs];omega,by rw[hT.used,<- h2.used];omega,fun i c hc=>?_,hsc w ⟨_,_,_,hM.inv.choose_spec.1⟩ hM.get⟩;rw[hT.n2 i c hc];have h3:=List.count_le_length (a:=some i) (l:=(Y.pn sc n).who);rw[h2.who]at h3;omega
 ·obtain⟨hn,⟨Γ,hM⟩,hT,bc0,bl0⟩:=hJ;exact⟨hn,⟨Γ,hM.v5 hO.sys (hM.fix.mem.rg.j0 hb) rfl rfl rfl rfl rfl⟩,hT,bc0,bl0⟩
 ·have hlen:R.cl.length=Y.m:=hJ.2.2.1.len.trans (Sys.b9 sc n);obtain⟨Γ,hM⟩:=hJ.2.1;rw[Dw0 hM.fix hlen]at hp;exact Qf0 hO hJ hn hp hc
 ·obtain⟨hn',⟨Γ,hM⟩,hT,bc0,bl0⟩:=hJ;have hlen:R.cl.length=Y.m:=hT.len.trans (Sys.b9 sc n);rw[Dw0 hM.fix hlen]at hn hb;have hq:Y.pn sc sn=Y.pn sc n:=by
   rcases hn with rfl|h
   ·rfl
   ·have:=Sys.oa0 h (sn-n)
    rwa [Nat.add_sub_cancel' hn']at this
  rw[Kz0 hM.fix hT.len]at hb;have hM':=hM.v5 hO.sys hg rfl rfl rfl rfl rfl;rw[<- hq]at hM' hT hb;refine⟨Nat.zero_le _,⟨Γ,?_⟩,⟨hT.rb,hT.evs,hT.r2,hT.used,hT.len,hT.n2,hT.ends⟩,fun j hj=>?_,hb⟩
  ·have:(fun j=>if j<0 then o9 ((Y.pn sc sn).ft[j]?) else(Y.pn sc sn).ft[j]?)=fun j=>(Y.pn sc sn).ft[j]?:=by funext j;rw[if_neg (Nat.not_lt_zero j)]
   rw[this];exact hM'
  ·show R.W4[j]? =_;rw[bc0,if_neg (Nat.not_lt_zero j)];simp[hj]
 ·obtain⟨⟨hi,⟨Γ,hM⟩,hT,bc0,bl0⟩,h1,h2⟩:=hJ;exact⟨hM.fix.mem,hT.rb,hT.len.trans (Sys.b9 sc sn),h1,h2⟩
 ·obtain⟨⟨hi,⟨Γ,hM⟩,hT,bc0,bl0⟩,h1,h2⟩:=hJ;have x7:=(List.getElem?_eq_some_iff.1 hc).1;have hlen:R.cl.length=Y.m:=hT.len.trans (Sys.b9 sc sn);obtain⟨x,hx⟩:∃x,(Y.pn sc sn).ft[i]? =some (.inr x):=by
   rcases hM.fix.waits hc with⟨h,_⟩|⟨_,x,h,_⟩
   ·rw[hwt]at h;cases h
   ·exact⟨x,by simpa using h⟩
  have Wu0:(fun j=>if j<i then o9 ((Y.pn sc sn).ft[j]?) else(Y.pn sc sn).ft[j]?)=fun j=>if j<i+1 then o9 ((Y.pn sc sn).ft[j]?) else(Y.pn sc sn).ft[j]?:=by
   funext j;by_cases V2:j=i
   ·subst V2;rw[if_neg (by omega),if_pos (by omega),hx];rfl
   ·by_cases h3:j<i
    ·rw[if_pos h3,if_pos (by omega)]
    ·rw[if_neg h3,if_neg (by omega)]
  rw[Wu0]at hM;refine⟨⟨by omega,⟨Γ,hM⟩,hT,fun j hj=>?_,bl0⟩,h1,h2⟩;rw[bc0 j hj];by_cases V2:j=i
  ·subst V2;rw[if_neg (by omega),if_pos (by omega),hx];rfl
  ·by_cases h3:j<i
   ·rw[if_pos h3,if_pos (by omega)]
   ·rw[if_neg h3,if_neg (by omega)]
 ·obtain⟨hJ,h1,h2⟩:=hJ;obtain⟨g,z1,me1,h3,h4,h5,h6,h7,h8⟩:=Qg0 (Post:=Post) hO hJ hc hwt;exact⟨g,z1,me1,h3,h4,h5,h6,h7,fun w' me0 hg hk=>h8 w' me0 hg fun X' R' u v hJ'=>hk X' R' u v ⟨hJ'.1,hJ'.2.1.trans h1,hJ'.2.2.trans h2⟩⟩
 ·have hJ0:=hJ;obtain⟨⟨hi,⟨Γ,hM⟩,hT,bc0,bl0⟩,h1,h2⟩:=hJ;have hF:=hM.fix;have hlen:R.cl.length=Y.m:=hT.len.trans (Sys.b9 sc sn);refine⟨fun i=>?_,by rw[<- hT.rb];exact hF.l3,hF.pend,hF.dn,by have:=hF.cap;omega,fun fr h3 h4=>aa0 X R w hJ0.1 h1 h2 fr h3 h4⟩;by_cases h0:i=0
  ·subst h0;exact hF.nx0 rfl
  ·cases hs:X.N1 i with
   |none=>rfl
   |some s=>
    obtain⟨j,c,h5,h6,h7,_⟩:=hF.n4 i s h0 hs;have hjl:=(List.getElem?_eq_some_iff.1 h5).1;rcases hF.waits h5 with⟨_,_,l,h8,_⟩|⟨_,x,_,h8⟩
    ·have h8:(if j<Y.m then o9 ((Y.pn sc sn).ft[j]?) else(Y.pn sc sn).ft[j]?)=some (.inl l):=h8;rw[if_pos (by omega)]at h8;cases hx:(Y.pn sc sn).ft[j]? with
     |none=>rw[hx]at h8;cases h8
     |some f=>cases f <;> (rw[hx]at h8;cases h8)
    ·rcases h8 with h8|h8
     ·rw[h6]at h8;cases h8
     ·rw[<- h7,hs]at h8;cases h8
 ·obtain⟨hi,⟨Γ,hM⟩,hT,bc0,bl0⟩:=hJ;exact⟨hM.fix.mem,hT.rb,(hM.get tb (by rw[htb];simp)).trans htb⟩
end
end Go.Vy.Sc
end
section
namespace Go.Vy.Sc
open Go Go.Conc Go.Yc Go.RowKit Go.Proofs Go.Proofs.YtnifpkopeheodaaGreat Tryz
open Go.Vc Go.Wg
section
attribute [local irreducible] KK
def zk0 (lb:Nat) (pl:Nat->V6) (Post:Value->World->Prop) (g:Goroutine) (u:World):Prop:=∀X,Lone X u->lb <=u.heap.size->(∀b,X.low b->lb <=b)->X.k5=pl->Fin prog Post X 0 g u
theorem La0 (lb:Nat) (pl:Nat->V6) (Post:Value->World->Prop):Cl prog true (zk0 lb pl Post):=⟨fun g u hr hs X hX h1 h2 h3=>Fin.Fa0 hr fun τ d=>by
 obtain⟨g',u',d',hF,hz⟩:=hs τ d;refine⟨g',u',hF,fun⟨ρ,w,jt0⟩=>?_⟩;have he:=(hF.2 ρ w jt0).1;have hX':Lone X (Yc.N2 u' u.tape d'):=(hX.mono he.size:Lone X u')|> fun h=>⟨h.N1,h.cap,h.pend,h.dn,h.under,h.k5,h.ki0⟩
 exact mb0 (hz X hX' (Nat.le_trans h1 he.size) h2 h3)⟩
theorem Fp0 (lb:Nat) (pl:Nat->V6) (Post:Value->World->Prop):Ign (zk0 lb pl Post):=fun _g _u hz X hX h1 h2 h3=>ah0 _ _ fun hv=>hz hv X hX h1 h2 h3
@[reducible] def V7 (lb:Nat) (pl:Nat->V6):Ctx prog:=⟨true,fun Z=>∃Post,Z=zk0 lb pl Post,fun Z h=>by obtain⟨Post,rfl⟩:=h;exact La0 lb pl Post⟩
structure Qh0 (Y:Sys) (q:PR Y) (Mn:Nat->Option Obj) (w0 w:World) (R:Rn):Prop where
 mem:k4 w w0.heap.size R
 m:R.m=Y.m
 evs:R.evs=q.evs
 r2:R.r2=q.r2
 used:R.used=q.used
 ends:∀j,j<Y.m->R.ends[j]? =some (Y9 q.ft[j]?)
 W4:∀j,j<Y.m->R.W4[j]? =some (Ks0 Y j (q.ft[j]?))
 stuck:R.stuck=(q.ft.any (·.isLeft)&&(Y.rds q).isEmpty)
 inv:∃m F,Y.Inv q.s m w F/\∀b,F b->¬R.fp b
 fp:∀b,R.fp b->w0.heap.size <=b
 j0:∀b,Mn b≠none->w.heap[b]? =Mn b
 size:w0.heap.size <=w.heap.size
 os:w.os=w0.os
 output:w.output=w0.output
 tape:w.tape=w0.tape
section
variable {Y:Sys}{fb:Nat->FuncId}{caps:Nat->Array Value}{fv:Nat->Value}{ba sa:Option Addr}{sn:Nat}{sc:Nat->Int}{Mn:Nat->Option Obj}{w0:World}
theorem ed1 (hO:lm0 Y fb caps fv ba sa sn sc) (hmn:∀b o,Mn b=some o->w0.heap[b]? =some o) {F:Nat->Prop} {m0:Gm} (hinv:Y.Inv Y.s0 m0 w0 F) (hFm:∀b,F b->Mn b=none)
  (hbc:∀w:World,(∀b,Mn b≠none->w.heap[b]? =Mn b)->∀j,j<Y.m->w.cell? ⟨ab ba,ao ba+j*1,none⟩=some (fv j)) (hsc:∀w:World,(∃s m F,Y.Inv s m w F)->(∀b,Mn b≠none->w.heap[b]? =Mn b)->∀j,j<sn->w.cell? ⟨ab sa,ao sa+j*1,none⟩=some (.i (sc j))) {bc scp:Nat} :
  @C prog (V7 Y.lb Y.pl) 48 #[.slice ba Y.m bc,.slice sa sn scp] w0 fun v w=>∃R,v= .tuple #[Ke0 R,.i 0]/\Qh0 Y (Y.pn sc sn) Mn w0 w R:=by
 intro Z hZ cs hk;obtain⟨Post,rfl⟩:=hZ;intro X hX Y5 hb2 hb3;refine Pv0 (fv:=fv) (sc:=sc) hO.m1 hO.sn1 hX.under hX.k5 hX.cap fun w4 rb yb eb wb tb hB=>?_;have H9:=hO.sys.vis _ _ _ _ hinv;have qx0:=hB.low;have ee1:Mn tb=none:=by
  cases h:Mn tb with
  |none=>rfl
  |some o=>
   have:=(Array.getElem?_eq_some_iff.1 (hmn tb o h)).1;have:=hB.le.2.2.2.2;omega
 have Y1:∀b o,Mn b=some o->b<w0.heap.size:=fun b o h=>(Array.getElem?_eq_some_iff.1 (hmn b o h)).1
 let Mn':Nat->Option Obj:=fun b=>if b=tb then some (.cells #[.slice none 0 0,.slice none 0 0,.slice none 0 0,.slice none 0 0,.bool false,.i 0] 30 (0,0)) else Mn b
 have hMn:∀w:World,(∀b,Mn' b≠none->w.heap[b]? =Mn' b)->∀b,Mn b≠none->w.heap[b]? =Mn b:=fun w h b hb=>by
  have o3:b≠tb:=fun e=>hb (e▸ee1);have:=h b (by show(if b=tb then _ else Mn b)≠none;rw[if_neg o3];exact hb);rw[this];show(if b=tb then _ else Mn b)=_;rw[if_neg o3]
 refine⟨_,_,_,_,ring (Mn:=Mn') (w0:=w0) (rb0:=rb) hO (if_pos rfl) (fun w h=>hbc w (hMn w h)) (fun w hI h=>hsc w hI (hMn w h)),⟨fun X' R w w' fr hJ P3 hfn hl=>?_⟩,?_⟩
 ·obtain⟨_,⟨Γ,hM⟩,hT,bc0,bl0⟩:=hJ;have hF:=hM.fix;have hlen:R.cl.length=Y.m:=hT.len.trans (Sys.b9 sc sn);have zl0:=hMn w hM.get;obtain⟨Fq,Ub0,ef1⟩:=hM.inv;have htb:w.heap[tb]? =Mn' tb:=hM.get tb (by show(if tb=tb then _ else _)≠none;rw[if_pos rfl];simp);have htl:tb<w.heap.size:=by
   have:Mn' tb=some (.cells #[.slice none 0 0,.slice none 0 0,.slice none 0 0,.slice none 0 0,.bool false,.i 0] 30 (0,0)):=if_pos rfl;rw[this]at htb;exact(Array.getElem?_eq_some_iff.1 htb).1
  have vq0:∀b,b<w.heap.size->b≠tb->w'.heap[b]? =w.heap[b]?:=fun b hb o3=>P3.block b hb fun e=>o3 (Option.some.inj e);have htk:Kept Y Γ R Mn' tb:=.inl (by show(if tb=tb then _ else _)≠none;rw[if_pos rfl];simp);have hfp:∀b,R.fp b->b≠tb:=fun b hb e=>(hF.mn tb (by show(if tb=tb then _ else _)≠none;rw[if_pos rfl];simp)).2.1 (e▸hb);refine mb0 (τ:=w0.tape) (d:=w0.drawn) (hk (.returned _) (Yc.N2 w' w0.tape w0.drawn) fr ⟨R,rfl,?_⟩ hfn (oc0 hl) {X' with pend:=0,cap:=0,dn:=0} ?_ (Nat.le_trans Y5 (Nat.le_trans hF.size P3.size)) hF.base.low hF.base.pl)
  ·refine⟨hF.mem.congr fun b hb=>vq0 b (hF.mem.lt hb) (hfp b hb),hF.m,hT.evs,hT.r2,hT.used,hT.ends,fun j hj=>?_,bl0,⟨_,Fq,hO.sys.loc _ _ w _ Fq Ub0 fun b hb=>vq0 b (hO.sys.vis _ _ _ _ Ub0 b hb).1 fun e=>(ef1 b hb).2 (e▸htk),fun b hb=>(ef1 b hb).1⟩,hF.fpB,fun b hb=>?_,Nat.le_trans hF.size P3.size,P3.os.trans (hF.os rfl),P3.output.trans (hF.output rfl),rfl⟩
   ·rw[bc0 j hj,if_pos hj]
   ·have h1:=zl0 b hb;have hbl:b<w.heap.size:=by
     rcases Nat.lt_or_ge b w.heap.size with z|z
     ·exact z
     ·exact absurd (h1.symm.trans (Array.getElem?_eq_none z)) hb
    exact(vq0 b hbl fun e=>hb (e▸ee1)).trans h1
  ·refine⟨fun i=>?_,rfl,rfl,rfl,?_,fun b hb=>hF.k5 b (Nat.le_trans P3.size hb),hF.ki0⟩
   ·show X'.N1 i=none;by_cases h0:i=0
    ·subst h0;exact hF.nx0 rfl
    ·cases hs:X'.N1 i with
     |none=>rfl
     |some s=>
      obtain⟨j,c,h5,h6,h7,_⟩:=hF.n4 i s h0 hs;have hjl:=(List.getElem?_eq_some_iff.1 h5).1;rcases hF.waits h5 with⟨_,_,l,h8,_⟩|⟨_,x,_,h8⟩
      ·have h8:(if j<Y.m then o9 ((Y.pn sc sn).ft[j]?) else(Y.pn sc sn).ft[j]?)=some (.inl l):=h8;rw[if_pos (by omega)]at h8;cases hx:(Y.pn sc sn).ft[j]? with
       |none=>rw[hx]at h8;cases h8
       |some f=>cases f <;> (rw[hx]at h8;cases h8)
      ·rcases h8 with h8|h8
       ·rw[h6]at h8;cases h8
       ·rw[<- h7,hs]at h8;cases h8
   ·have hu:=hF.under.mono P3.size;exact⟨hu.stay,hu.G4,hu.B8,hu.l3,hu.low⟩
 ·have hle:=hB.le;have Ww0:∀b,(rn0 rb yb eb wb Y.m).fp b->w0.heap.size <=b:=fun b hb=>by
   rcases hb with rfl|rfl|rfl|⟨h,_⟩|⟨h,_⟩|⟨h,_⟩|⟨j,c,h,_⟩
   ·exact hle.1
   ·exact hle.2.2.1
   ·exact hle.2.2.2.1
   ·exact absurd rfl h
   ·exact absurd rfl h
   ·exact absurd rfl h
   ·simp[rn0]at h
  have eg1:yb<w4.heap.size:=(Array.getElem?_eq_some_iff.1 hB.yb).1;have li1:¬(rn0 rb yb eb wb Y.m).fp tb:=hB.mem.Tt0 hB.tb (by decide);have hu:=hX.under.mono qx0.size;have hnl:∀{j:Nat},¬j<(rn0 rb yb eb wb Y.m).cl.length:=fun h=>Nat.not_lt_zero _ h;have hnc:∀{j:Nat} {c:CB},(rn0 rb yb eb wb Y.m).cl[j]? =some c->False:=fun h=>by simp[rn0]at h
  refine⟨Nat.zero_le _,⟨⟨m0,fun _=>0,fun _=>0,fun _=>0,fun _=>[],fun _ _=>False⟩,⟨⟨hB.mem,rfl,fun j c hc=>(hnc hc).elim,fun j c hc=>(hnc hc).elim,Ww0,fun j hj=>(hnl hj).elim,fun j b hb=>hb.elim,fun b hb=>?_,hX.ki0,fun _=>qx0.os,fun _=>qx0.output,qx0.size,rfl,show Go.ConcN.upd X.stay 0 _ 0=_ from Go.ConcN.upd_same _ _ _,.inr rfl,fun g s hg hs=>?_,fun j k hj=>(hnl hj).elim,fun j k hj=>(hnl hj).elim,fun j k c d hc=>(hnc hc).elim,fun j c hc=>(hnc hc).elim,hX.dn,hX.pend,?_,?_,fun b hb=>hX.k5 b (Nat.le_trans qx0.size hb),fun _=>hX.N1 0,⟨Y5,fun b hb=>?_,hb3⟩⟩,F,?_,fun b hb=>⟨fun z=>?_,fun z=>?_⟩⟩⟩,⟨rfl,rfl,rfl,rfl,rfl,fun j c hc=>(hnc hc).elim,fun j hj=>?_⟩,rfl,rfl⟩
  ·by_cases hbt:b=tb
   ·subst hbt;refine⟨?_,li1,fun k hk=>(hnl hk).elim⟩;show _=(if b=b then _ else _);rw[if_pos rfl];exact hB.tb
   ·have hMb:Mn' b=Mn b:=if_neg hbt;rw[hMb]at hb⊢;cases ho:Mn b with
    |none=>exact absurd ho hb
    |some o=>
     have hl:=Y1 b o ho;exact⟨(qx0.block b hl).trans (hmn b o ho),fun z=>by have:=Ww0 b z;omega,fun k hk=>(hnl hk).elim⟩
  ·have:=hX.N1 g;have hs:X.N1 g=some s:=hs;rw[this]at hs;cases hs
  ·show X.cap <=0;rw[hX.cap];exact Nat.le_refl _
  ·refine⟨fun g p hp=>?_,hu.G4,fun b hb=>?_,fun G hG=>?_,fun b hb=>?_⟩
   ·by_cases hg:g=0
    ·subst hg;have hp':p∈Go.ConcN.upd X.stay 0 [((⟨rb,8-1,none⟩:Addr),Value.chan (some yb))] 0:=hp;rw[Go.ConcN.upd_same]at hp';simp at hp';rw[hp'];exact hB.mem.run.lt
    ·have hp':p∈Go.ConcN.upd X.stay 0 [((⟨rb,8-1,none⟩:Addr),Value.chan (some yb))] g:=hp;rw[Go.ConcN.upd_ne _ _ hg]at hp';exact hu.stay g p hp'
   ·rcases hb with z|rfl
    ·exact hu.B8 b z
    ·exact eg1
   ·rcases hG with z|z
    ·have z:some (⟨rb,8⟩:j5)=some G:=z;cases z;exact hB.mem.run.lt
    ·have z:G∈X.l3.toList++X.old:=z;rw[List.mem_append]at z;rcases z with z|z
     ·exact hu.l3 G (.inl (by simpa using z))
     ·exact hu.l3 G (.inr z)
   ·rcases hb with(z|rfl)|rfl
    ·exact hu.low b z
    ·exact eg1
    ·exact hB.mem.run.lt
  ·rcases hb with(z|rfl)|rfl
   ·exact hb2 b z
   ·have:=hle.2.1;omega
   ·have:=hle.1;omega
  ·exact hO.sys.loc _ _ w0 w4 F hinv fun b hb=>qx0.block b (H9 b hb).1
  ·have:=Ww0 b z;have:=(H9 b hb).1;omega
  ·rcases z with z|⟨k,hk,_⟩|⟨j,z⟩
   ·by_cases hbt:b=tb
    ·have:=(H9 b hb).1;have:=hle.2.2.2.2;omega
    ·exact z ((if_neg hbt).trans (hFm b hb))
   ·exact(hnl hk).elim
   ·exact z
  ·show(List.replicate Y.m (0:Int))[j]? =_;simp[hj];rfl
end
end
end Go.Vy.Sc
end
section
namespace Go.Vy
open Go Go.Conc Go.Yc Go.RowKit
open Go.Vc
section
variable {P:Program}[Ctx P]
end
section
variable {P:Program}[Ctx P]{n:Nat}{Q:Exit->Env->World->Prop}{e:Env}{w:World}{ops:Array Oper}{rest:List Oper}{d:Nat}{ty:TypeId}{ps:String}{af:Array Edge}{T E:TypeId}
theorem L.wv0 {s m:Nat} {parts:List (Nat×Operand)} {vs:List (Nat×Value)} {zv:Value} {cs:Array Value} (hv:parts.map (fun(i,y)=>(i,ev e y))=vs) (hT:P.underlying T=some (.slice E)) (hs:(P.info? E).map (·.size)=some s) (hz:(P.info? E).bind (·.zero)=some zv) (Y1:0<m*s/\m*s <=16777216)
  (hf:Instr.fill (fun i=>some (i*s,s)) ((Array.range (m*s)).map (fun i=>zv.cells[i%zv.cells.size]!)) vs=some cs)
  (k:∀w1 b,gh0 w w1 b cs E->L P n ops Q rest (upd e d (.slice (some ⟨b,0,none⟩) m m)) w1) :
  L P n ops Q (⟨some d,.buildSlice T m parts.toArray,ty,ps,af,none⟩::rest) e w:=by
 refine L.va (w':=w.alloc (.cells cs E)) (.B1 (K2 rfl _) rfl rfl fun τ d'=>?_) (k _ _ (j7 w _ E));show(execOp (ev e) ⟨some d,.buildSlice T m parts.toArray,ty,ps,af,none⟩).run P (Yc.N2 w τ d')= .ok (.value (.slice (some ⟨(Yc.N2 w τ d').heap.size,0,none⟩) m m)) ((Yc.N2 w τ d').alloc (.cells cs E));generalize Yc.N2 w τ d'=w;have h1:¬(m*s>2 ^ 24):=by omega
 have h2:¬(m*s=0):=by omega
 simp only[execOp,Instr.buildSlice,List.map_toArray,hv,Go.Vc.run_underlying hT,Go.Vc.run_sizeOf hs,Sem.run_bind,Result.andThen_ok,h1,h2,if_false,Sem.run_pure,Go.Vc.ce0 hz];rw[hf];simp[newRow]
end
def eh1 (P:Program) (fn:Func) (R:Ending->World->Prop):Exit->Env->World->Prop:=fun x e w=>match x with
 | .panic ch=>R (.panicked ch) w
 |x=>ends P fn (fun v w=>R (.returned v) w) x e w
theorem Calls.C6 {P:Program} [Ctx P] {f:FuncId} {fn:Func} {c:Code} {args:Array Value} {w:World} {R:Ending->World->Prop} {n:Nat} (hf:P.funcs[f]? =some fn) (hb:fn.body=some c) (hn:args.size+(fn.ntmps-args.size)=n)
  (h:W P n c (eh1 P fn R) (Vc.y8 args) w):Calls P f args w R:=by
 refine calls_of_wp hf hb (wp_mono (h _ ⟨?_,rfl,?_⟩) ?_)
 ·simp[hn]
 ·intro t;simp only[Vc.y8,Array.getD_eq_getD_getElem?,Array.getElem?_append];split
  ·rfl
  ·rename_i ht;rw[Array.getElem?_eq_none (by omega:args.size <=t)];simp only[Array.getElem?_replicate];split <;> rfl
 ·rintro x a w' ⟨e',r,hx⟩;cases x with
  |panic ch=>exact⟨r.defers,hx⟩
  |normal=>obtain⟨_,v,hv,hR⟩:=hx;exact⟨r.defers,v,hv a.tmps r.get,hR⟩
  |ret=>obtain⟨_,v,hv,hR⟩:=hx;exact⟨r.defers,v,hv a.tmps r.get,hR⟩
  |exit id=>obtain⟨hx,_⟩:=hx;rcases hx with hx|hx <;> cases hx
  |goto l=>obtain⟨hx,_⟩:=hx;rcases hx with hx|hx <;> cases hx
  |outgrown=>obtain⟨hx,_⟩:=hx;rcases hx with hx|hx <;> cases hx
end Go.Vy
end
section
namespace Go.Vy.Sc
open Go Go.Conc Go.Yc Go.RowKit Go.Proofs Go.Proofs.YtnifpkopeheodaaGreat Tryz
open Go.Vc Go.Wg
theorem je0 {w:World} {a:Addr} {v:Value} (h:w.cell? a=some v):a.block<w.heap.size:=by
 unfold World.cell? at h;rcases Nat.lt_or_ge a.block w.heap.size with z|z
 ·exact z
 ·rw[Array.getElem?_eq_none z]at h;simp at h
theorem C5 {w0 w:World} {a:Addr} {v:Value} (h:w0.cell? a=some v) (hb:Below w0.heap.size w0 w):w.cell? a=some v:=by
 rw[(R5 (u:=w0) (u':=w) (a:=a) (hb.block _ (je0 h))).1];exact h
theorem k4.down {B B':Nat} {w:World} {R:Rn} (h:k4 w B' R) (hB:B <=B'):k4 w B R:=⟨h.run,h.cls.down hB,h.evs.down hB,h.r2.down hB,h.ends,h.W4,h.ep0,h.iz0,h.lcl,h.blk⟩
theorem E1 {P:Program} {S:Sem Next} {w:World} {b r:Bool} (h:b=r) (hd:Does P S w (.val (.bool b)) w):Does P S w (.val (.bool r)) w:=h▸hd
structure od0 (w:World) (sa:Option Addr) (sn scp:Nat) (sc:Nat->Int):Prop where
 sl:SL sa sn
 nil:sa=none->sn=0/\scp=0
 cap:sn <=scp
 cell:∀j,j<sn->w.cell? ⟨ab sa,ao sa+j*1,none⟩=some (.i (sc j))
theorem od0.j0 {w w':World} {sa:Option Addr} {sn scp:Nat} {sc:Nat->Int} (h:od0 w sa sn scp sc) (hb:Below w.heap.size w w'):od0 w' sa sn scp sc:=⟨h.sl,h.nil,h.cap,fun j hj=>C5 (h.cell j hj) hb⟩
theorem Sys.ind {Y:Sys} (I:PR Y->Prop) (h0:I Y.p0) (hb:∀p,I p->p.ft.length<Y.m->I (Y.bgn p)) (ht:∀p i l,I p->p.ft.length=Y.m->p.ft[i]? =some (.inl l)->Y.rdy i l p.s=true->I (Y.v5 p i)):∀p,Y.Reach p->I p:=by
 have hB:∀n,n <=Y.m->I (Y.P4 n):=by
  intro n
  induction n with
  |zero=>exact fun _=>h0
  |succ n ih=>exact fun hn=>hb _ (ih (by omega)) (by rw[Sys.T5];omega)
 have hP:∀(sc:Nat->Int) n,I (Y.pn sc n):=by
  intro sc n
  induction n with
  |zero=>exact hB Y.m (Nat.le_refl _)
  |succ n ih=>
   show I (Y.step (Y.pn sc n) (sc n));unfold Sys.step;split
   ·rename_i i hi;obtain⟨_,hr⟩:=Sys.mi0 hi;unfold Sys.B7 at hr;cases hx:(Y.pn sc n).ft[i]? with
    |none=>rw[hx]at hr;cases hr
    |some f=>
     cases f with
     |inl l=>rw[hx]at hr;exact ht _ i l ih (Sys.b9 sc n) hx hr
     |inr x=>rw[hx]at hr;cases hr
   ·exact ih
 rintro p (⟨n,hn,rfl⟩|⟨sc,n,rfl⟩)
 ·exact hB n hn
 ·exact hP sc n
end Go.Vy.Sc
end
section
namespace Go.Vy
open Go Go.Conc Go.Yc Go.RowKit
open Go.Vc
theorem ei1 {P:Program} {fr:Frame} {fn:Func} {v:Value} {t:Tmp} (hm:fr.mode= .returning) (hd:fr.defers=[]) (hk:fr.kind= .normal) (hf:P.funcs[fr.fn]? =some fn) (hr:fn.results=#[.tmp t]) (hv:fr.tmps.getD t undef=v) (hi:P.inits.idxOf? fr.fn=none) (w:World):stepG P true (G fr []) w= .ended (.done v) w #[]:=by
 have h1:=results_tmp hr fr.tmps P w;have h2:=events_results_tmp (P:=P) (w:=w) hr fr.tmps;simp[G,stepG,unwind,doReturn,hm,hd,hk,hf,hi,h1,h2,hv,seen,GStep.after]
theorem Bw0 {P:Program} {fr:Frame} {fn:Func} {w:World} {v:Value} {t:Tmp} (hl:Leaves P fr w (.returned v)) (hf:P.funcs[fr.fn]? =some fn) (hr:fn.results=#[.tmp t]) (hnv:P6 w):fr.tmps.getD t undef=v:=by
 obtain⟨h1,h2,h3,fn',h4,h5⟩:=hl;rw[hf]at h4;obtain rfl:=Option.some.inj h4;obtain⟨x',es,h6,_⟩:=h5 w.tape w.drawn _ w hnv.sim;have h7:=results_tmp hr fr.tmps P w;rw[Sem.runT_eq]at h6;have h8:=(Prod.mk.inj h6).1;rw[h7]at h8;injection h8
end Go.Vy
namespace Go.Vy.Sc
open Go Go.Conc Go.Yc Go.RowKit Go.Proofs Go.Proofs.YtnifpkopeheodaaGreat Tryz
open Go.Vc Go.Wg
def oe0 (W w':World):Prop:=Below W.heap.size W {w' with tape:=W.tape}
theorem oe0.frame {W w':World} (h:oe0 W w') (may:MemPlace->Prop):W.keptBut w' may:=Below.frame h may
theorem oe0.trod {H:Type} {enc:TypeId×Value->H} {P:Program} {t:TypeId} (hl:laidOutB P=true) (hr:P.readableRec t=true) (lj1:t<P.types.size) {W W':World} {v:Value} {d:DataW H} {ps:List MemPlace}
  (h:DataW.Trod enc P W 0 (fun _=>true) true t v d ps) (hb:oe0 W W') (Y1:∀x∈ps,x.block<W.heap.size) :
  DataW.Trod enc P W' 0 (fun b=>decide (b<W.heap.size)) true t v d ps :=
 WideElems.Trod_stays hl hr lj1 h (fun x hx=>(Below.same hb (Y1 x hx):W.sameAt {W' with tape:=W.tape} x)) (fun x hx=>by simpa using Y1 x hx)
theorem Lb0 {x y:Obj} (h:dq0 .all x y):y=x:=by cases h;rfl
theorem Fr0 {o x y:Obj} (h:dq0 (.gone o) x y):y=o:=by cases h;rfl
theorem Zw0 {f:FuncId} {fn:Func} {t:Tmp} {args:Array Value} {W:World} (hf:prog.funcs[f]? =some fn) (hr:fn.results=#[.tmp t]) (hi:prog.inits.idxOf? f=none) (h:@C prog (V7 W.heap.size (X0 W).k5) f args (ev0 W) fun v w=>v= .bool true/\Below (ev0 W).heap.size (ev0 W) w) :
  Yc.Ends prog (fun v w'=>v= .bool true/\oe0 W w') (solo (G (Frame.enter prog f args .normal) []) W) #[]:=by
 have I2:(ev0 W).heap.size=W.heap.size:=by simp[ev0]
 refine Fin.start (h _ ⟨_,rfl⟩ [] (fun e w' fr he hfr hl=>?_) (X0 W) ⟨fun _=>rfl,rfl,rfl,rfl,Hk0 W _,fun b hb=>Da0 (by rw[<- I2];exact hb),Nat.one_pos⟩ (by rw[I2];exact Nat.le_refl _) (fun _ hb=>hb.elim) rfl);cases e with
 |panicked ch=>exact he.elim
 |outgrown=>exact he.elim
 |returned v=>
  obtain⟨rfl,hb⟩:=he;rw[I2]at hb;refine Fp0 _ _ _ _ _ fun hnv X hX h1 h2 h3=>?_;have zm0:prog.funcs[fr.fn]? =some fn:=by rw[hfr];exact hf
  have hv:=Bw0 hl zm0 hr hnv;obtain⟨hm,hd,hk,_⟩:=hl;refine Fin.ends rfl hX.N1 hX.cap (ei1 hm hd hk zm0 hr hv (by rw[hfr];exact hi)) fun ρ w hs hρ=>⟨rfl,?_⟩
  refine⟨hs.os.trans hb.os,rfl,hs.output.trans hb.output,?_,fun k hk=>?_⟩
  ·show W.heap.size <=w.heap.size;rw[hs.size];show W.heap.size <=w'.heap.size;rw[<- I2];exact hb.size
  ·show w.heap[k]? =W.heap[k]?;have hk':k<w'.heap.size:=by have:=hb.size;rw[I2]at this;omega
   obtain⟨y,hy,hlk⟩:=hs.obj k _ (Array.getElem?_eq_getElem hk');have e1:some w'.heap[k]=(ev0 W).heap[k]?:=by rw[<- hb.block k hk];exact(Array.getElem?_eq_getElem hk').symm
   have e2:(ev0 W).heap[k]? =(W.heap[k]?).map fun o=>if y4 o then nothing else o:=by
    show(W.heap.map _)[k]? =_;rw[Array.getElem?_map]
   rw[Array.getElem?_eq_getElem hk]at e2;rw[e2]at e1;have e1:=Option.some.inj e1;have hp:ρ k=(X0 W).k5 k:=by
    rw[hρ k fun z=>by have:=h2 k z;omega,h3]
   have hp2:(X0 W).k5 k=if y4 W.heap[k] then .gone W.heap[k] else .all:=by
    show(match W.heap[k]? with|some o=>if y4 o then V6.gone o else .all|none=>.all)=_;rw[Array.getElem?_eq_getElem hk]
   rw[hy,Array.getElem?_eq_getElem hk];have hlk:dq0 (ρ k) w'.heap[k] y:=hlk;rw[hp,hp2,e1]at hlk;cases hv:y4 W.heap[k]
   ·simp only[hv,Bool.false_eq_true,if_false]at hlk;rw[Lb0 hlk]
   ·simp only[hv,if_true]at hlk;rw[Fr0 hlk]
end Go.Vy.Sc
end
section
namespace Go.Vy.Sc
open Go Go.Conc Go.Yc Go.RowKit Go.Proofs Go.Proofs.YtnifpkopeheodaaGreat Tryz
open Go.Vc Go.Wg Go.ChangeShapes Go.WideShapes Go.ChangeAt Go.Deep
theorem km0 {W:World} {a:Addr} {v:Value} (h:W.cell? a=some v):(ev0 W).cell? a=some v:=by
 unfold World.cell? at h⊢;cases ho:W.heap[a.block]? with
 |none=>rw[ho]at h;cases h
 |some o=>
  cases o with
  |cells c e f=>
   rw[Hl0 ho rfl];rw[ho]at h;exact h
  |_=>rw[ho]at h;cases h
theorem of0 {α:Type} [Inhabited α] {n:Nat} {p:Nat->α->Prop} (h:∀i,i<n->∃x,p i x):∃f:Nat->α,∀i,i<n->p i (f i):=by
 classical
 exact⟨fun i=>if hi:i<n then(h i hi).choose else default,fun i hi=>by
  show p i (if hi:i<n then(h i hi).choose else default);rw[dif_pos hi];exact(h i hi).choose_spec⟩
section
variable {H:Type}{enc:TypeId×Value->H}{W:World}{base:Nat}{spare:Nat->Bool}{held:Bool}{P:Program}
theorem Bx0 {t:TypeId} {fs:Array Field} {fuel:Nat} {cs:List Value} {x:DataW H×List MemPlace} (ht:P.underlying t=some (.struct fs)) (h:DataW.trod enc P W base spare held fuel t cs=some x) :
  ∃m,cs.length=P.cellsOf t/\∀(j:Nat) f,fs[j]? =some f->∃y,DataW.trod enc P W base spare held m f.type ((cs.drop f.offset).take (P.cellsOf f.type))=some y:=by
 obtain⟨xs,m,_,_,hl,hxl,hf⟩:=DataW.trod_struct ht h;refine⟨m,hl,fun j f hj=>?_⟩;have hjl:j<xs.length:=by rw[hxl];exact(Array.getElem?_eq_some_iff.1 hj).1
 exact⟨xs[j],by rw[hf j f hj];exact List.getElem?_eq_getElem hjl⟩
end
section
theorem zn0:prog.cellsOf 3=1:=by kernel_rfl
end
end Go.Vy.Sc
end
section
namespace Go.Vy
open Go Go.Conc Go.Yc
open Go.Vc (Env upd j3 ev)
theorem Does.quiet {P:Program} {S:Sem Next} {u:World} {r:Out} (h:∀τ d ρ x,l6 ρ (N2 u τ d) x->S.run P x=r.res x/\S.events P x #[]=#[]):Does P S u r u :=
 ⟨rfl,rfl,fun τ d ρ x hs=>by
  obtain⟨h1,h2⟩:=h τ d ρ x hs;exact⟨S9.refl _,x,#[],by rw[Sem.runT_eq,h1,h2],hs,fun e he=>by simp at he⟩⟩
section
variable {P:Program}{ρ:Operand->Value}{d:Option Nat}{ty:TypeId}{ps:String}{af:Array Edge}{g:Option (Nat×Bool)}{x y:Operand}{w:World}
theorem gn0 {src dst t:TypeId} {a:Addr} {v:Value} (hx:ρ x= .pointer (some a)) (hs:P.underlying src=some (.pointer t)) (hd:P.underlying dst=some .unsafePointer) (hz:(P.info? t).map (fun i=>decide (i.size=0))=some false) (hc:w.cell? a=some v) :
  Does P (execOp ρ ⟨d,.convert src dst x,ty,ps,af,g⟩) w (.val (.pointer (some a))) w :=
 .quiet fun τ dd ρ' X h=>by
  have p7:=h.cell (a:=a) (v:=v) hc;refine⟨Go.Vc.gn0 hx hs hd hz p7,?_⟩;simp[execOp,hx,events_convert_to_unsafe hs hd hz p7]
theorem Lc0 {f:FuncId} {fn:Func} {args:Array Value} {e:Array Value->Sem Value} (hf:P.funcs[f]? =some fn) (k3:(fn.name== "runtime.NumGoroutine")=false) (hb:fn.body.isNone=true) (hn:Extern.findNext fn=none) (he:Extern.find fn=some e) (ht:D1 P (e args)):D1 P (callFunc f args):=by
 unfold callFunc;refine it0 ?_;rw[hf];simp only[k3,Bool.false_eq_true,if_false,hb,if_true,hn,he];exact G1 (s:=mark (Mark.extern f)) (show(if Am0 (Mark.extern f)=true then D1 P (.pure ()) else dead P (.pure ()))by rw[if_pos (show Am0 (Mark.extern f)=true from rfl)];trivial) fun _=>G1 ht fun _=>I1 _
theorem ne0 {f:FuncId} {fn:Func} {aT:Array TypeId} {a:Addr} {p:Option Addr} {u:Value} (hx:ρ x= .pointer (some a)) (hy:ρ y= .pointer p) (hf:P.funcs[f]? =some fn) (k3:(fn.name== "runtime.NumGoroutine")=false) (hb:fn.body.isNone=true) (hn:Extern.findNext fn=none)
  (he:Extern.find fn=some Extern.Atomic.storeT) (hc:w.cell? a=some u) (hz:w.frozen? a=false) (hρ:ρ (.func f)= .func (.func f) #[] #[]) :
  Does P (execOp ρ ⟨d,.call ⟨.value (.func f),#[x,y],aT⟩,ty,ps,af,g⟩) w (.val (.tuple #[])) (w.setCell a (.pointer p)) :=
 .B1 (by
  show D1 P (do let d <- Deferred.ofValue (ρ (.func f)) (#[x,y].map ρ);invoke d.target d.args);rw[hρ];refine U516 ?_;have e1:(#[] ++ #[x,y].map ρ ++ #[]:Array Value)=#[.pointer (some a),.pointer p]:=by simp[hx,hy]
  rw[e1];show D1 P (do store (<- asAddr (.pointer (some a))) (.pointer p) .atomic;pure Extern.Atomic.none_);exact G1 (ig0 _) fun b=>G1 (vs0 _ _ _) fun _=>I1 _) rfl rfl fun τ dd=>Go.Vc.ne0 hx hy hf k3 hb hn he hc hz hρ
end
section
open Go.Vc Go.RowKit
variable {P:Program}[Ctx P]
end
end Go.Vy
end
section
namespace Go.Vy.Sc
open Go Go.Conc Go.Yc Go.RowKit Go.Proofs Go.Proofs.YtnifpkopeheodaaGreat Tryz
open Go.Vc Go.Wg
structure CSt (K:L9 prog) (w:World) (o:ix0 K.S K.L):Prop where
 on:gh w 2=0
 r2:gh w 1=0
 out:K.out (gh w 0)=o
 none:o.r2=[]
 os:w.os=K.base.os
 output:w.output=K.base.output
section
variable {K:L9 prog}{w w':World}{o:ix0 K.S K.L}
theorem CSt.to (h:CSt K w o) (ht:w'.tape=w.tape) (ho:w'.os=w.os) (ho2:w'.output=w.output):CSt K w' o :=
 ⟨by rw[K4 ht];exact h.on,by rw[K4 ht];exact h.r2,by rw[K4 ht];exact h.out,h.none,ho.trans h.os,ho2.trans h.output⟩
theorem CSt.j0 {B:Nat} (h:CSt K w o) (hb:Below B w w'):CSt K w' o:=h.to hb.tape hb.os hb.output
theorem CSt.G5 {r:Option Nat} (h:CSt K w o) (hg:w.grownBy w' r) (_:True):CSt K w' o:=h.to hg.tape hg.os hg.output
theorem CSt.W1 {F:Nat->Prop} {m:Gm} {f:K.L ⊕ Nat} (h:CSt K w o) (hf:o.K8=f) (hm:K.gu (gm w) m) (hi:K.Inv o.s m w F):K.Told w m F f :=
 ⟨h.on,by rw[h.out];exact hf,by rw[h.r2,h.out,h.none];rfl,by rw[h.out];exact hi,hm,h.os,h.output⟩
theorem CSt.done {F:Nat->Prop} {m:Gm} {v:Value} (h:CSt K w o) (hf:o.K8= .inr 1) (hm:K.gu (gm w) m) (hi:K.Inv o.s m w F):K.Bf0 w F (.returned v):=.inl ⟨m,h.W1 hf hm hi⟩
theorem CSt.goes {F F':Nat->Prop} {m:Gm} {u:World} {l:K.L} (h:CSt K w o) (hg:K.Goes w m F l u F') (hn:∀s,(K.go l s).r2=[]):CSt K u (K.go l (K.sOf (gh u 0))) :=
 ⟨hg.on,hg.r2,hg.out,hn _,hg.L7.os.trans h.os,hg.L7.output.trans h.output⟩
end
structure gc0 (Y:Sys) (sc:Nat->Int) (sn B:Nat) (R:Rn) (w:World):Prop where
 mem:k4 w B R
 hm:R.m=Y.m
 evs:R.evs=(Y.pn sc sn).evs
 r2:R.r2=(Y.pn sc sn).r2
 used:R.used=(Y.pn sc sn).used
 ends:∀j,j<Y.m->R.ends[j]? =some (Y9 (Y.pn sc sn).ft[j]?)
 W4:∀j,j<Y.m->R.W4[j]? =some (Ks0 Y j ((Y.pn sc sn).ft[j]?))
 stuck:R.stuck=((Y.pn sc sn).ft.any (·.isLeft)&&(Y.rds (Y.pn sc sn)).isEmpty)
 fp:∀b,R.fp b->B <=b
section
variable {Y:Sys}{sc:Nat->Int}{sn B B':Nat}{R:Rn}{w w':World}
theorem gc0.congr (h:gc0 Y sc sn B R w) (he:∀k,R.fp k->w'.heap[k]? =w.heap[k]?):gc0 Y sc sn B R w' :=
 ⟨h.mem.congr he,h.hm,h.evs,h.r2,h.used,h.ends,h.W4,h.stuck,h.fp⟩
theorem gc0.j0 (h:gc0 Y sc sn B R w) (hb:Below w.heap.size w w'):gc0 Y sc sn B R w':=h.congr fun k hk=>hb.block k (h.mem.lt hk)
theorem gc0.G5 {b:Nat} (h:gc0 Y sc sn B R w) (hg:w.grownBy w' (some b)) (hn:¬R.fp b):gc0 Y sc sn B R w':=h.congr fun k hk=>hg.block k (h.mem.lt hk) fun e=>hn (by cases e;exact hk)
theorem gc0.down (h:gc0 Y sc sn B' R w) (hB:B <=B'):gc0 Y sc sn B R w :=
 ⟨h.mem.down hB,h.hm,h.evs,h.r2,h.used,h.ends,h.W4,h.stuck,fun b hb=>Nat.le_trans hB (h.fp b hb)⟩
theorem Qi0 {fb:Nat->FuncId} {caps:Nat->Array Value} {fv:Nat->Value} {l sa:Option Addr} {lc scp:Nat} {F:Nat->Prop} (hO:lm0 Y fb caps fv l sa sn sc) {m0:Gm} (hinv:Y.Inv Y.s0 m0 w F) (hl:∀j,j<Y.m->w.cell? ⟨ab l,ao l+j*1,none⟩=some (fv j)) (hlF:0<Y.m->¬F (ab l)) (hSc:od0 w sa sn scp sc) (hsF:0<sn->¬F (ab sa)\/∀s m w' F',Y.Inv s m w' F'->w'.heap[ab sa]? =w.heap[ab sa]?) :
  @C prog (V7 Y.lb Y.pl) 48 #[.slice l Y.m lc,.slice sa sn scp] w fun v w'=>∃R,v= .tuple #[Ke0 R,.i 0]/\gc0 Y sc sn w.heap.size R w'/\(∃m' F',Y.Inv (Y.pn sc sn).s m' w' F'/\∀b,F' b->¬R.fp b)/\w'.os=w.os/\w'.output=w.output/\w'.tape=w.tape/\w.heap.size <=w'.heap.size/\∀b,b<w.heap.size->¬F b->w'.heap[b]? =w.heap[b]?:=by
 classical
 let Mn:Nat->Option Obj:=fun b=>if F b then none else w.heap[b]?
 have ba0:∀(w':World) (a:Addr) (v:Value),(∀b,Mn b≠none->w'.heap[b]? =Mn b)->¬F a.block->w.cell? a=some v->w'.cell? a=some v:=fun w' a v hw hF ha=>by
  have h1:Mn a.block=w.heap[a.block]?:=if_neg hF;have h2:w'.heap[a.block]? =w.heap[a.block]?:=by
   rw[<- h1];refine hw _ ?_;rw[h1,Array.getElem?_eq_getElem (je0 ha)];simp
  rw[(R5 (u:=w) (u':=w') (a:=a) h2).1];exact ha
 have key:=ed1 (Mn:=Mn) (w0:=w) (F:=F) (bc:=lc) (scp:=scp) hO (fun b o h=>by
   have h:(if F b then none else w.heap[b]?)=some o:=h;split at h
   ·cases h
   ·exact h) hinv (fun b hb=>if_pos hb) (fun w' hw j hj=>ba0 w' _ _ hw (hlF (by omega)) (hl j hj)) (fun w' hI hw j hj=>by
   rcases hsF (by omega)with h|h
   ·exact ba0 w' _ _ hw h (hSc.cell j hj)
   ·obtain⟨s,m,F',hI⟩:=hI;rw[(R5 (u:=w) (u':=w') (a:=⟨ab sa,ao sa+j*1,none⟩) (h s m w' F' hI)).1];exact hSc.cell j hj)
 refine @Calls.mono _ (V7 Y.lb Y.pl) _ _ _ _ _ key fun e w' he=>?_;cases e with
 |panicked ch=>exact he.elim
 |outgrown=>exact he.elim
 |returned v=>
  obtain⟨R,rfl,hD⟩:=he;refine⟨R,rfl,⟨hD.mem,hD.m,hD.evs,hD.r2,hD.used,hD.ends,hD.W4,hD.stuck,hD.fp⟩,hD.inv,hD.os,hD.output,hD.tape,hD.size,fun b hb hF=>?_⟩;have h1:Mn b=w.heap[b]?:=if_neg hF;rw[<- h1];refine hD.j0 b ?_;rw[h1,Array.getElem?_eq_getElem hb];simp
end
section
variable [Ctx prog]
theorem jf0 (wb:Nat) (w0:World) (hW:O0 w0 wb #[.bool false] 105):C prog 44 #[.p wb] w0 fun v w=>v= .bool false/\w=w0:=by
 refine C.enter (n:=11) func44 rfl rfl ?_;refine U2 ?_;refine U73 ?_;refine U563 ?_;refine U133 ?_;refine U549 ?_;refine L.on rfl ?_;refine L.va (A0 rfl underlying4 rfl (hW.E0 0 (v:=.bool false) rfl)) ?_;refine U126 ?_;exact⟨rfl,rfl⟩
theorem Wx0 (b0 b1 cb:Nat) (obj num:Int) (q:Value) (x:Int) (x2:Int) (w0:World) (K6:O0 w0 b0 #[.p cb] 69) (hB1:O0 w0 b1 #[.i x2] 2) (hC:O0 w0 cb #[.i obj,.i num,q,.i x] 115) :
  C prog 58 #[.p b0,.p b1] w0 fun v w=>v= .tuple #[]/\O0 w b1 #[.i x] 2/\w0.grownBy w (some b1):=by
 refine C.enter (n:=6) func58 rfl rfl ?_;refine W.region rfl ?_;refine L.va (A0 rfl underlying69 rfl (K6.E0 0 (v:=.p cb) rfl)) ?_;refine U511 ?_;refine L.va (A0 rfl underlying2 rfl (hC.E0 3 (v:=.i x) rfl)) ?_;refine L.pu 0 [.i x] #[.i x] sz2 hB1 (fun w Z0 hg I2=>?_);have x6:=T3.eo0 hB1 hg;have hB1:=Z0;exact U317
theorem Wy0 (b0 b1 cb:Nat) (obj num:Int) (q:Value) (x:Int) (x2:Int) (w0:World) (K6:O0 w0 b0 #[.i x] 2) (hB1:O0 w0 b1 #[.p cb] 69) (hC:O0 w0 cb #[.i obj,.i num,q,.i x2] 115) :
  C prog 57 #[.p b0,.p b1] w0 fun v w=>v= .tuple #[]/\O0 w cb #[.i obj,.i num,q,.i x] 115/\w0.grownBy w (some cb):=by
 refine C.enter (n:=6) func57 rfl rfl ?_;refine W.region rfl ?_;refine L.va (A0 rfl underlying69 rfl (hB1.E0 0 (v:=.p cb) rfl)) ?_;refine L.va (A0 rfl underlying2 rfl (K6.E0 0 (v:=.i x) rfl)) ?_;refine U511 ?_;refine L.pu 3 [.i x] #[.i obj,.i num,q,.i x] sz2 hC (fun w Z0 hg I2=>?_);have x6:=T3.eo0 hC hg;have hC:=Z0;refine U128 ?_;exact⟨rfl,hC,hg⟩
end
theorem em0 {w:World} {b:Nat} {cs:Array Value} {T:TypeId} {f:Nat×Nat} (h:S1 w b cs T f) (h0:0<cs.size):w.heap[b]? ≠some nothing:=by
 unfold S1 at h;rw[h];intro e;have e1:=Option.some.inj e;unfold nothing at e1;injection e1 with e2
 rw[e2]at h0;exact absurd h0 (Nat.lt_irrefl 0)
theorem bm0 {P:Program} {f:FuncId} {fn:Func} {caps:Array Value} (hf:P.funcs[f]? =some fn) (hb:fn.body.isSome=true) (hn:(fn.name== "runtime.NumGoroutine")=false):Oy0 P (.func (.func f) #[] caps) f caps:=⟨rfl,fn,hf,hb,hn⟩
structure Fs0 (w:World) (t:Nat):Prop where
 eq:gh w 0=t
structure KOk (K:L9 prog):Prop where
 loc:∀s m (w w':World) F,K.Inv s m w F->(∀b,F b->w'.heap[b]? =w.heap[b]?)->K.Inv s m w' F
 vis:∀s m (w:World) F,K.Inv s m w F->∀b,F b->b<w.heap.size/\w.heap[b]? ≠some nothing
 refl:∀a,K.gu a a
 step:K.lg0=83
 number:K.X3=47
theorem Sys.kok {Y:Sys} (h:ny0 Y) {fb:Nat->FuncId} {q:PR Y} {w0:World} {i cb:Nat} {top:List Frame}:KOk (Y.cfg fb q w0 i cb top):=⟨h.loc,h.vis,fun a j _=>h.refl j a,rfl,rfl⟩
section
variable {K:L9 prog}{w0 w u u':World}{m:Gm}{F F':Nat->Prop}{l:K.L}{f:K.L ⊕ Nat}
theorem KOk.W1 (hK:KOk K) (h:K.Told w0 m F f) (ht:w.tape=w0.tape) (ho:w.os=w0.os) (hp:w.output=w0.output) (hk:∀b,F b->w.heap[b]? =w0.heap[b]?):K.Told w m F f :=
 ⟨by rw[K4 ht];exact h.on,by rw[K4 ht];exact h.K8,by rw[K4 ht,K4 ht];exact h.r2,hK.loc _ _ w0 w F (by rw[K4 ht];exact h.inv) hk,by rw[iw0 ht];exact h.le,ho.trans h.os,hp.trans h.output⟩
theorem KOk.j0 (hK:KOk K) (h:K.Told w0 m F f) (hb:Below w0.heap.size w0 w):K.Told w m F f :=
 hK.W1 h hb.tape hb.os hb.output fun b hF=>hb.block b (hK.vis _ _ _ _ h.inv b hF).1
theorem KOk.tlt (hK:KOk K) (h:K.Told w0 m F f) {b:Nat} (hF:F b):b<w0.heap.size:=(hK.vis _ _ _ _ h.inv b hF).1
theorem I5.down (hb:Below w0.heap.size w0 w) (h:K.I5 w m F u F'):K.I5 w0 m F u F' :=
 ⟨Nat.le_trans hb.size h.size,fun b Y1 hn hF=>by
  have e:=hb.block b Y1;have:=h.j0 b (Nat.lt_of_lt_of_le Y1 hb.size) (by rw[e];exact hn) hF;exact⟨this.1.trans e,this.2⟩,h.inv,h.le,h.os.trans hb.os,h.output.trans hb.output⟩
theorem Goes.down (hb:Below w0.heap.size w0 w) (h:K.Goes w m F l u F'):K.Goes w0 m F l u F':=⟨I5.down hb h.L7,h.r2,h.on,h.out,h.rdy,h.at_⟩
theorem Goes.own (hK:KOk K) (h:K.Goes w0 m F l u F') (ht:u'.tape=u.tape) (ho:u'.os=u.os) (hp:u'.output=u.output) (hs:u.heap.size <=u'.heap.size) (hk:∀b,(b<w0.heap.size\/F' b)->b<u.heap.size->u'.heap[b]? =u.heap[b]?):K.Goes w0 m F l u' F':=by
 have hv:=hK.vis _ _ _ _ h.L7.inv;refine⟨⟨Nat.le_trans h.L7.size hs,fun b Y1 hn hF=>?_,?_,?_,ho.trans h.L7.os,hp.trans h.L7.output⟩,?_,?_,?_,?_,?_⟩
 ·have:=h.L7.j0 b Y1 hn hF;exact⟨(hk b (.inl Y1) (Nat.lt_of_lt_of_le Y1 h.L7.size)).trans this.1,this.2⟩
 ·rw[K4 ht,iw0 ht];exact hK.loc _ _ u u' F' h.L7.inv fun b hb=>hk b (.inr hb) (hv b hb).1
 ·rw[iw0 ht];exact h.L7.le
 ·rw[K4 ht];exact h.r2
 ·rw[K4 ht];exact h.on
 ·rw[K4 ht];exact h.out
 ·rw[K4 ht];exact h.rdy
 ·rw[K4 ht];exact h.at_
structure Gn (K:L9 prog) (w0:World) (m:Gm) (F:Nat->Prop) (l:K.L) (u:World) (F':Nat->Prop):Prop where
 ok:KOk K
 goes:K.Goes w0 m F l u F'
theorem Gn.G5 (h:Gn K w0 m F l u F') {b:Nat} (hg:u.grownBy u' (some b)) (hn:w0.heap.size <=b/\¬F' b):Gn K w0 m F l u' F' :=
 ⟨h.ok,Goes.own h.ok h.goes hg.tape hg.os hg.output hg.size fun k hk hl=>hg.block k hl fun e=>by cases e;rcases hk with hk|hk;omega;exact hn.2 hk⟩
theorem Goes.bn0 (h:K.Goes w0 m F l u F') {b:Nat} {cs:Array Value} {T:TypeId} (hB:O0 w0 b cs T) (h0:0<cs.size) (hF:¬F b):O0 u b cs T/\¬F' b:=by
 have hB':S1 w0 b cs T (0,0):=K3 hB;have:=h.L7.j0 b hB'.lt (em0 hB' h0) hF;exact⟨this.1.trans hB',this.2⟩
end
structure gw0 (K:L9 prog) (w0 u:World):Prop where
 g2:gh u 2=1
 inv:∃F',K.Inv (K.sOf (gh u 0)) (gm u) u F'
 os:u.os=w0.os
 output:u.output=w0.output
theorem gw0.at {K:L9 prog} {w0 w1 u:World} (h:gw0 K w1 u) (ho:w1.os=w0.os) (hp:w1.output=w0.output):gw0 K w0 u:=⟨h.g2,h.inv,h.os.trans ho,h.output.trans hp⟩
theorem ww0 {K:L9 prog} {w0 u:World} {m:Gm} {F F':Nat->Prop} (h:K.I5 w0 m F u F') (h2:gh u 2=1):gw0 K w0 u:=⟨h2,⟨F',h.inv⟩,h.os,h.output⟩
theorem gw0.done {K:L9 prog} {w0 u:World} {ch:List PanicEntry} (hK:KOk K) (h:gw0 K w0 u) (hr:cj0 ch) (ho:w0.os=K.base.os) (hp:w0.output=K.base.output):∃F,K.Bf0 u F (.panicked ch):=by
 obtain⟨F',hi⟩:=h.inv;exact⟨F',hr,.inr ⟨h.g2,⟨gm u,hK.refl _,hi⟩,h.os.trans ho,h.output.trans hp⟩⟩
def L3 (K:L9 prog) (w0:World) (R:Value->World->Prop):Ending->World->Prop
 | .returned v,u=>R v u
 | .panicked ch,u=>cj0 ch/\gw0 K w0 u
 | .outgrown,_=>False
theorem Wz0 (x0:Int) (x1:Int) (x2:Int):prog.built 47 [(0,.i x0),(1,.i x1),(2,.i x2)]=some #[.i x0,.i x1,.i x2]:=by kernel_rfl
theorem p9 {K:L9 prog} (hK:KOk K) {l:K.L} {m:Gm} {F:Nat->Prop} {o n ki:Int} {rd df:Value} (w0:World) (hT:K.Told w0 m F (.inl l)) (T2:K.stp l=⟨ki,o,n⟩) (hr:∀w,Below w0.heap.size w0 w->K.ed0 w m F rd l) (_hrc:∃f caps,rd= .nilFunc\/rd= .func (.func f) #[] caps) (hdf:FnV prog df) (Rdo:World->World->Prop) (hdo:∀w,Below w0.heap.size w0 w->∀u F',K.Goes w m F l u F'->Fb0 prog K.T4 df u (Rdo u)) :
  @Calls prog (N0 K) 56 #[.agg #[.i o,.i n],.p K.ptr,.i ki,rd,df] w0 (L3 K w0 fun v u=>v= .tuple #[]/\∃u0 F',K.Goes w0 m F l u0 F'/\Rdo u0 u/\u.tape=u0.tape):=by
 letI:Ctx prog:=N0 K;refine Calls.C6 (n:=20) func56 rfl rfl ?_;refine U3 ?_;intro hb;refine L.box (cs:=#[.i o,.i n]) rfl rfl (fun w b5 F5=>?_);refine U277 ?_;intro lt5 hb;have B5:=F5.blk;refine U49 ?_;refine U58 ?_;refine L.va (G0 rfl underlying107 rfl z8 (by decide)) ?_;refine L.va (A0 rfl underlying3 rfl (B5.E0 0 (v:=.i o) rfl)) ?_;refine L.va (G0 rfl underlying107 rfl z8 (by decide)) ?_;refine L.va (A0 rfl underlying3 rfl (B5.E0 1 (v:=.i n) rfl)) ?_;refine L.va (C3 (parts:=[(0,.tmp 11),(1,.tmp 13),(2,.tmp 15)]) rfl (Wz0 ki o n)) ?_;refine L.va dw0 ?_;refine L.va dw0 ?_;have hbL:=hb;refine L.B4 rfl (m9 rfl rfl rfl rfl func83 rfl ki1 rfl) (hK.step▸Fc0 (K:=K) (hK.j0 hT hb) (by rw[T2];rfl) (hr _ hb) hdf Rdo (hdo _ hb)) ?_ ?_ (fun _ h=>h)
 ·rintro v u ⟨rfl,u0,F',hg,hR,ht⟩;rename_i wL;refine U85 ?_;exact⟨rfl,u0,F',Goes.down hbL hg,hR,ht⟩
 ·rintro ch u ⟨n7,F',hl,h2⟩;exact⟨n7,(ww0 hl h2).at hbL.os hbL.output⟩
set_option maxHeartbeats 400000 in
theorem Qj0 {K:L9 prog} (hK:KOk K) {o5:K.L} {m:Gm} {F:Nat->Prop} (cb wb:Nat) (obj num:Int) (x:Nat->Int) (x2:Int) (w0:World) (hT:K.Told w0 m F (.inl o5)) (T2:K.stp o5=⟨8,obj,num⟩) (hrd:∀s,K.rdy o5 s=true) (hW:O0 w0 wb #[.bool false] 105) (hC:O0 w0 cb #[.i obj,.i num,.p wb,.i x2] 115) (hgo:∀u F',K.Goes w0 m F o5 u F'->O0 u cb #[.i obj,.i num,.p wb,.i (x (gh u 0))] 115) :
  @Calls prog (N0 K) 22 #[.p cb,.p K.ptr] w0 (L3 K w0 fun v u=>∃F' tt,Gn K w0 m F o5 u F'/\Fs0 u tt/\v= .i (x tt)):=by
 letI:Ctx prog:=N0 K;refine Calls.C6 (n:=26) func22 rfl rfl ?_;refine U3 ?_;intro hb;refine L.box (cs:=#[.p cb]) rfl rfl (fun w b2 F2=>?_);refine U16 ?_;intro lt2 hb;have hW:=hW.j0 F2.below;refine U77 ?_;intro hC Z1;refine U7 ?_;refine L.alloc (cs:=#[.i 0]) zr2 rfl (fun w b5 F5=>?_);refine U100 ?_;intro lt5 hb hW hC;have Z1:=Z1.j0 F5.below;have B5:=F5.blk;refine U137 ?_;refine L.va (A0 rfl underlying69 rfl (Z1.E0 0 (v:=.p cb) rfl)) ?_;refine L.va (E5 rfl rfl underlying69) ?_;refine U213 ?_;refine U493 ?_;refine U571 ?_;rintro _ w1 ⟨rfl,hw⟩;refine U19 ?_;refine U102 ?_;refine U493 ?_;refine U413 ?_;refine L.va (W3 rfl) ?_;refine L.va (o4 (l:=[.tmp 2,.tmp 5]) (vs:=[.p b2,.p b5]) rfl) ?_;have hbL:=hb;refine U283 ?_;intro hF5 hF2;have hpl:@Calls prog (N0 K) 56 #[.agg #[.i obj,.i num],.p K.ptr,.i 8,.nilFunc,.func (.func 58) #[] #[.p b2,.p b5]] w (L3 K w fun v u=>v= .tuple #[]/\∃u0 F',K.Goes w m F o5 u0 F'/\(O0 u b5 #[.i (x (gh u0 0))] 2/\u0.grownBy u (some b5))/\u.tape=u0.tape):=by
  refine p9 hK w (hK.j0 hT hb) T2 (fun w1 Y5=>.inl ⟨rfl,hrd⟩) ⟨0,#[],.inl rfl⟩ (.inr ⟨58,_,bm0 func58 rfl cc1⟩) (fun u u2=>O0 u2 b5 #[.i (x (gh u 0))] 2/\u.grownBy u2 (some b5)) (fun w1 Y5 u F' hg=>.inr ⟨58,_,bm0 func58 rfl cc1,?_⟩);exact @C.mono _ (T4 prog K.X3 K.ptr K.num) _ _ _ _ _ (@Wx0 (T4 prog K.X3 K.ptr K.num) b2 b5 cb obj num _ _ _ u (Goes.bn0 hg (Z1.j0 Y5) (Nat.zero_lt_succ _) hF2).1 (Goes.bn0 hg (B5.j0 Y5) (Nat.zero_lt_succ _) hF5).1 (hgo u F' (Goes.down (P0 hb Y5) hg))) fun v w' h=>h.2
 refine L.B4 rfl (R7 rfl rfl rfl rfl rfl func56 rfl qm0 rfl) hpl ?_ ?_ (fun _ h=>h)
 ·rintro v u ⟨rfl,u0,F',hg,⟨og0,P3⟩,ht⟩;refine U262 ?_;intro h5 hgn;obtain⟨tt,htt⟩:∃tt,gh u0 0=tt:=⟨_,rfl⟩
  rw[htt]at og0;have htt:Fs0 u tt:=⟨(K4 ht 0).trans htt⟩
  have B5:=og0;clear hb og0 Z1 hC hpl;rename_i wL;clear hW;refine U13 ?_;refine L.va (A0 rfl underlying2 rfl (B5.E0 0 (v:=.i (x tt)) rfl)) ?_;refine U38 ?_;exact⟨F',tt,hgn,htt,rfl⟩
 ·rintro ch u ⟨n7,hh⟩;exact⟨n7,hh.at hbL.os hbL.output⟩
set_option maxHeartbeats 400000 in
theorem Qk0 {K:L9 prog} (hK:KOk K) {o5:K.L} {m:Gm} {F:Nat->Prop} (cb wb:Nat) (obj num:Int) (x:Int) (x2:Int) (w0:World) (hT:K.Told w0 m F (.inl o5)) (T2:K.stp o5=⟨9,obj,num⟩) (hrd:∀s,K.rdy o5 s=true) (hW:O0 w0 wb #[.bool false] 105) (hC:O0 w0 cb #[.i obj,.i num,.p wb,.i x2] 115) (hgo:∀u F',K.Goes w0 m F o5 u F'->∃x2,O0 u cb #[.i obj,.i num,.p wb,.i x2] 115) :
  @Calls prog (N0 K) 21 #[.p cb,.p K.ptr,.i x] w0 (L3 K w0 fun v u=>v= .tuple #[]/\∃u0 F',Gn K w0 m F o5 u0 F'/\O0 u cb #[.i obj,.i num,.p wb,.i x] 115/\u0.grownBy u (some cb)):=by
 letI:Ctx prog:=N0 K;refine Calls.C6 (n:=26) func21 rfl rfl ?_;refine U3 ?_;intro hb;refine L.box (cs:=#[.p cb]) rfl rfl (fun w b3 F3=>?_);refine U82 ?_;intro lt3 hb;have hW:=hW.j0 F3.below;have hC:=hC.j0 F3.below;have n3:=F3.blk;refine L.box (cs:=#[.i x]) rfl rfl (fun w b5 F5=>?_);refine U100 ?_;intro lt5 hb hW hC;have n3:=n3.j0 F5.below;have B5:=F5.blk;refine U8 ?_;refine L.va (A0 rfl underlying69 rfl (n3.E0 0 (v:=.p cb) rfl)) ?_;refine L.va (E5 rfl rfl underlying69) ?_;refine U4 ?_;refine U494 ?_;refine U571 ?_;rintro _ w1 ⟨rfl,hw⟩;refine U19 ?_;refine U68 ?_;refine U494 ?_;refine U413 ?_;refine L.va (W3 rfl) ?_;refine L.va (o4 (l:=[.tmp 5,.tmp 3]) (vs:=[.p b5,.p b3]) rfl) ?_;have hbL:=hb;have hF5:¬F b5:=fun z=>by have:=hK.tlt hT z;omega
 have hF3:¬F b3:=fun z=>by have:=hK.tlt hT z;omega
 have hpl:@Calls prog (N0 K) 56 #[.agg #[.i obj,.i num],.p K.ptr,.i 9,.nilFunc,.func (.func 57) #[] #[.p b5,.p b3]] w (L3 K w fun v u=>v= .tuple #[]/\∃u0 F',K.Goes w m F o5 u0 F'/\(O0 u cb #[.i obj,.i num,.p wb,.i x] 115/\u0.grownBy u (some cb))/\u.tape=u0.tape):=by
  refine p9 hK w (hK.j0 hT hb) T2 (fun w1 Y5=>.inl ⟨rfl,hrd⟩) ⟨0,#[],.inl rfl⟩ (.inr ⟨57,_,bm0 func57 rfl cb1⟩) (fun u u2=>O0 u2 cb #[.i obj,.i num,.p wb,.i x] 115/\u.grownBy u2 (some cb)) (fun w1 Y5 u F' hg=>.inr ⟨57,_,bm0 func57 rfl cb1,?_⟩);obtain⟨y0,hCu⟩:=hgo u F' (Goes.down (P0 hb Y5) hg);exact @C.mono _ (T4 prog K.X3 K.ptr K.num) _ _ _ _ _ (@Wy0 (T4 prog K.X3 K.ptr K.num) b5 b3 cb obj num _ x _ u (Goes.bn0 hg (B5.j0 Y5) (Nat.zero_lt_succ _) hF5).1 (Goes.bn0 hg (n3.j0 Y5) (Nat.zero_lt_succ _) hF3).1 hCu) fun v w' h=>h.2
 refine L.B4 rfl (R7 rfl rfl rfl rfl rfl func56 rfl qm0 rfl) hpl ?_ ?_ (fun _ h=>h)
 ·rintro v u ⟨rfl,u0,F',hg,⟨hCn,P3⟩,ht⟩;have F9:=Goes.down hbL hg;rename_i wL;refine U318 ?_;refine U145 ?_;exact⟨rfl,u0,F',⟨hK,F9⟩,hCn,P3⟩
 ·rintro ch u ⟨n7,hh⟩;exact⟨n7,hh.at hbL.os hbL.output⟩
end Go.Vy.Sc
end
section
namespace Go.Vy
open Go Go.Yc Go.RowKit
open Go.Vc
theorem Ld0 {P:Program} [Ctx P] {n:Nat} {l0:List Oper} {k:Nat} {I:(Nat->Bool)->Env->World->Prop} {V:(Nat->Bool)->Prop} (h:qf0 n l0.toArray k) (hk:k <=l0.length)
  (aw0:∀D,V D->∀i,k <=i->i<l0.toArray.size->D i=true->∀j,j<i->D j=true)
  (jd0:∀i o,i<k->l0[i]? =some o->∀D e w,D i=false->O6 o D->I D e w->Sw0 P l0.toArray I i o D e w)
  {Q':Exit->Act->World->Prop} (hQ:∀D a w e,Rep n a e->(∀j,j<k->D j=true)->I D e w->wpOps P l0.toArray Q' (List.range' k (l0.toArray.size-k)) a w) :
  ∀{listed:Array Bool} {σ:List Nat},Lin l0.toArray listed σ->(∀τ ρ,σ=τ++ρ->V (fun j=>listed.getD j false ||τ.contains j)) ->
   ∀(a:Act) (e:Env) (w:World),listed.size=l0.toArray.size->(∀j,k <=j->listed.getD j false=false)->Rep n a e->I (fun j=>listed.getD j false) e w->wpOps P l0.toArray Q' σ a w:=by
 intro listed σ H5
 induction H5 with
 | @nil listed hr=>
  intro _ a e w hs hkf ha hI;have n7:=go0 h.bk hs hr;have hkl:l0.toArray.size <=k:=by
   rcases Nat.lt_or_ge k l0.toArray.size with h3|h3
   ·have:=n7 k h3;rw[hkf k (Nat.le_refl _)]at this;cases this
   ·exact h3
  have:=hQ _ a w e ha (fun j hj=>n7 j (by simp;omega)) hI;rw[show l0.toArray.size-k=0 by omega]at this;exact this
 | @cons listed i σ hi hl ih=>
  intro hV a e w hs hkf ha hI;have hi0:=hi;obtain⟨h1,o,ec0,ad0⟩:=mem_ready.1 hi;have hlo:l0[i]? =some o:=by simpa using ec0
  have hio:i<l0.toArray.size:=(Array.getElem?_eq_some_iff.1 ec0).1;have x7:i<listed.size:=by omega
  have hDi:listed.getD i false=false:=by
   simp only[Array.getD_eq_getD_getElem?,x7,Array.getElem?_eq_getElem,Option.getD_some]at h1⊢;exact h1
  have hVD:V (O4 (fun j=>listed.getD j false) i):=by
   have:=hV [i] σ rfl;have e1:(fun j=>listed.getD j false ||([i]:List Nat).contains j)=O4 (fun j=>listed.getD j false) i:=funext fun j=>by
    unfold O4;by_cases hj:j=i
    ·simp[hj]
    ·simp[hj]
   rw[e1]at this;exact this
  by_cases hik:k <=i
  ·have A6:∀j,j<i->listed.getD j false=true:=fun j hj=>by
    have:=aw0 _ hVD i hik hio (by simp[O4]) j hj;unfold O4 at this;rw[if_neg (by omega)]at this;exact this
   have z9:i=k:=by
    rcases Nat.lt_or_ge k i with h3|h3
    ·have:=A6 k h3;rw[hkf k (Nat.le_refl _)]at this;cases this
    ·omega
   subst z9;rw[ld0 (V:=V) h.bk (.cons hi0 hl) i (by omega) hs A6 (fun j hj=>hkf j hj) aw0 hV];exact hQ _ a w e ha A6 hI
  ·have hik:i<k:=by omega
   have hV':∀τ ρ,σ=τ++ρ->V (fun j=>(listed.setIfInBounds i true).getD j false ||τ.contains j):=by
    intro τ ρ hσ;have:=hV (i::τ) ρ (by rw[hσ];rfl);have e1:(fun j=>listed.getD j false ||(i::τ).contains j)=fun j=>(listed.setIfInBounds i true).getD j false ||τ.contains j:=by
     funext j;by_cases hj:i=j
     ·subst hj;simp[Array.getD_eq_getD_getElem?,x7]
     ·rw[getD_set_ne false hj];have:(i::τ).contains j=τ.contains j:=by
       simp[Ne.symm hj]
      rw[this]
    rw[e1]at this;exact this
   have Ow0:∀j,k <=j->(listed.setIfInBounds i true).getD j false=false:=fun j hj=>by
    rw[getD_set_ne false (by omega)];exact hkf j hj
   have next:∀v w',I (O4 (fun j=>listed.getD j false) i) (j3 e o.dst v) w'->wpOps P l0.toArray Q' σ (a.put o.dst v) w':=fun v w' hI'=>
    ih hV' _ _ w' (by simpa using hs) Ow0 (ha.put (h.dst i o ec0) v) (by rw[ij0 x7];exact hI')
   have hs':=jd0 i o hik hlo (fun j=>listed.getD j false) e w hDi ad0 hI;unfold wpOps;rw[ec0];simp only;rw[p5 ha];rcases hs' with⟨hw,hr⟩|⟨hw,hr⟩
   ·rw[if_pos hw];intro τ d;rw[ha.eval];obtain⟨r,w',h1,h2⟩:=hr τ d;refine⟨r,w',h1,?_⟩;cases r with
    |val u=>exact next u _ h2
    |skip=>exact next undef _ h2
    |enter f args=>
     refine Calls.mono h2 fun x w'' hx=>?_;cases x with
     |returned u=>exact next u w'' hx
     |panicked ch=>exact hx.elim
     |outgrown=>exact hx.elim
    |panic u=>exact h2.elim
   ·rw[if_neg (by rw[hw];simp)];exact next undef w hr
theorem W.ek1 {P:Program} [Ctx P] {n:Nat} {id:Nat} {l:List Oper} {Q:Exit->Env->World->Prop} {e:Env} {w:World} (k:Nat) (I:(Nat->Bool)->Env->World->Prop) (hm:P.follows .mixedOrders=true) (hB:ng0 n l.toArray k=true) (hA:ka0 l k=true) (hk:Nat.ble k l.length=true) (h0:I (fun _=>false) e w.drew)
  (jd0:∀i o,i<k->l[i]? =some o->∀D e w,D i=false->O6 o D->I D e w->Sw0 P l.toArray I i o D e w)
  (aa0:∀D e w,(∀j,j<k->D j=true)->I D e w->L P n l.toArray Q (l.drop k) e w):W P n (.region id l.toArray true) Q e w:=by
 intro a ha;refine wp_region_draw fun t=>?_;simp only[Region.schedule,hm,Bool.true_or,if_true];have H5:=jx0 l.toArray l.toArray.size t (Array.replicate l.toArray.size false) (by simp) (by simp);unfold Region.linearise;generalize Region.linearise.go .any l.toArray l.toArray.size t (Array.replicate l.toArray.size false) []=σ at H5⊢;have ho:=is0 hB;have e0:(fun j=>(Array.replicate l.toArray.size false).getD j false)=fun _=>false:=funext fun j=>K0 _ _;refine Ld0 (V:=Pre σ) (I:=I) ho (Nat.le_of_ble_eq_true hk) (fun D hD i z9 x7=>iq0 hA (cw0 H5) hD i z9 (by simpa using x7)) jd0 (fun D a' w' e' ha' hD hI=>?_) H5 ?_ a e _ (by simp) (fun j _=>K0 _ _) ha (by rw[e0];exact h0)
 ·have h4:=aa0 D e' w' hD hI (fun o' ho'=>by
   obtain⟨i,hi⟩:=List.mem_iff_getElem?.1 ho';rw[List.getElem?_drop]at hi;exact ho.dst (k+i) o' (by simpa using hi)) a' ha'
  have h5:=wpOps_eq_wpList (P:=P) (ops:=l.toArray) (Q:=lift n Q) (l.drop k) k (fun j=>by rw[List.getElem?_drop];simp);rw[List.length_drop]at h5;have h6:l.toArray.size-k=l.length-k:=by simp
  rw[h6,h5];exact h4
 ·intro τ ρ hσ;exact⟨τ,ρ,hσ,fun k=>by show((Array.replicate l.toArray.size false).getD k false ||τ.contains k)=true↔_;rw[K0];simp⟩
inductive NK where
 |lk (v:Value)
 |nw (mk:Nat->Value) (cs:Array Value) (T:TypeId)
def NK.ok (sp:NK) (N d:Nat) (e:Env) (w:World):Prop:=match sp with
 | .lk v=>e d=v
 | .nw mk cs T=>∃b,e d=mk b/\O0 w b cs T/\N <=b
def oh0 (l:List Oper) (k t:Nat):Bool:=(l.take k).all fun o=>o.dst !=some t
def wx0 (o:Oper) (j:Nat):Bool:=o.after.any fun x=>Region.binds .any x&&x.on==j
structure NI (l:List Oper) (k:Nat) (sp:Nat->NK) (e0:Env) (w0:World) (D:Nat->Bool) (e:Env) (w:World):Prop where
 hb:Below w0.heap.size w0 w
 slot:∀i o d,i<k->l[i]? =some o->o.dst=some d->D i=true->(sp i).ok w0.heap.size d e w
 free:∀t,oh0 l k t=true->e t=e0 t
def NOp (P:Program) (l:List Oper) (k:Nat) (sp:Nat->NK) (e0:Env) (i:Nat) (o:Oper):Prop :=
 ∀(e:Env) (w:World),(∀t,oh0 l k t=true->e t=e0 t)->(∀j p t v,j<k->l[j]? =some p->p.dst=some t->wx0 o j=true->sp j= .lk v->e t=v) ->
  match sp i with
  | .lk v=>Does P (execOp (ev e) o) w (.val v) w
  | .nw mk cs T=>Does P (execOp (ev e) o) w (.val (mk w.heap.size)) (w.alloc (.cells cs T))
theorem NK.Le0 {sp:NK} {N d t:Nat} {e:Env} {w w':World} {v:Value} (h:sp.ok N d e w) (o3:d≠t) (hb:Below w.heap.size w w'):sp.ok N d (upd e t v) w':=by
 cases sp with
 |lk u=>exact(upd_ne _ _ o3).trans h
 |nw mk cs T=>
  obtain⟨b,h1,h2,h3⟩:=h;exact⟨b,(upd_ne _ _ o3).trans h1,h2.j0 hb,h3⟩
theorem W.news {P:Program} [Ctx P] {n:Nat} {id:Nat} {l:List Oper} {Q:Exit->Env->World->Prop} {e:Env} {w:World} (k:Nat) (sp:Nat->NK) (hm:P.follows .mixedOrders=true) (hB:ng0 n l.toArray k=true) (hA:ka0 l k=true) (hk:Nat.ble k l.length=true)
  (hg:(l.take k).all (fun o=>o.guard.isNone&&o.dst.isSome)=true) (W5:∀i o,i<k->l[i]? =some o->NOp P l k sp e i o)
  (aa0:∀e' w',NI l k sp e w (fun _=>true) e' w'->L P n l.toArray Q (l.drop k) e' w'):W P n (.region id l.toArray true) Q e w:=by
 have ho:=is0 hB;have hk':=Nat.le_of_ble_eq_true hk;have hgo:∀i o,i<k->l[i]? =some o->o.guard=none/\∃d,o.dst=some d:=fun i o hi hl=>by
  have h1:=List.all_eq_true.1 hg o (List.mem_iff_getElem?.2 ⟨i,by rw[List.getElem?_take,if_pos hi];exact hl⟩);simp only[Bool.and_eq_true]at h1;refine⟨by simpa using h1.1,?_⟩;cases hd:o.dst with
  |none=>rw[hd]at h1;cases h1.2
  |some d=>exact⟨d,rfl⟩
 refine W.ek1 k (NI l k sp e w) hm hB hA hk ⟨(Below.refl w.heap.size w).drew,(fun i o d _ _ _ h=>by cases h),fun _ _=>rfl⟩ (fun i o hi hl D e' w' hDi ad0 hI=>?_) (fun D e' w' hD hI=>aa0 e' w' ⟨hI.hb,fun i o d hi hl hd _=>hI.slot i o d hi hl hd (hD i hi),hI.free⟩);obtain⟨hgn,d,hd⟩:=hgo i o hi hl;have hnf:oh0 l k d=false:=by
  cases hf:oh0 l k d with
  |false=>rfl
  |true=>
   have h1:=List.all_eq_true.1 hf o (List.mem_iff_getElem?.2 ⟨i,by rw[List.getElem?_take,if_pos hi];exact hl⟩);rw[hd]at h1;simp at h1
 have hw1:Region.wanted o (W2 l.toArray e')=true:=by unfold Region.wanted;rw[hgn]
 have vz0:∀j p t,j<k->l[j]? =some p->p.dst=some t->j≠i->t≠d:=fun j p t hj hp ht V2 e9=>V2 (ho.one j i p o t hj hi (by simpa using hp) (by simpa using hl) ht (by rw[hd,e9]));have hx:=W5 i o hi hl e' w' hI.free (fun j p t v hj hp ht hdj hs=>by
  unfold wx0 at hdj;obtain⟨q,hq,hx2⟩:=Array.any_eq_true.1 hdj;simp only[Bool.and_eq_true,beq_iff_eq]at hx2;have hDj:=ad0 _ (Array.getElem_mem hq) hx2.1;rw[hx2.2]at hDj;have:=hI.slot j p t hj hp ht hDj;rw[hs]at this;exact this)
 have fin:∀v w2,w2.tape=w'.tape->w2.drawn=w'.drawn->Below w'.heap.size w' w2->(sp i).ok w.heap.size d (upd e' d v) w2->NI l k sp e w (O4 D i) (j3 e' o.dst v) w2:=fun v w2 _ _ hb2 hok=>by
  rw[hd];refine⟨P0 hI.hb hb2,fun j p t hj hp ht hDj=>?_,fun t ht=>?_⟩
  ·by_cases V2:j=i
   ·subst V2;obtain rfl:p=o:=Option.some.inj (hp.symm.trans hl);rw[hd]at ht;cases ht;exact hok
   ·have hDj:D j=true:=by
     unfold O4 at hDj;rw[if_neg V2]at hDj;exact hDj
    exact NK.Le0 (hI.slot j p t hj hp ht hDj) (vz0 j p t hj hp ht V2) hb2
  ·have o3:t≠d:=fun e9=>by subst e9;rw[hnf]at ht;cases ht
   exact(upd_ne _ _ o3).trans (hI.free t ht)
 refine .inl ⟨hw1,fun τ dd=>?_⟩;cases hs:sp i with
 |lk v=>
  rw[hs]at hx;have hx:Does P (execOp (ev e') o) w' (.val v) w':=hx;refine⟨.val v,N2 w' τ dd,hx.go τ dd,?_⟩;show NI l k sp e w (O4 D i) (j3 e' o.dst v) (N2 (N2 w' τ dd) w'.tape w'.drawn);have e9:N2 (N2 w' τ dd) w'.tape w'.drawn=w':=rfl;rw[e9];refine fin v w' rfl rfl (Below.refl _ _) ?_;rw[hs];exact upd_same _ _ _
 |nw mk cs T=>
  rw[hs]at hx;have hx:Does P (execOp (ev e') o) w' (.val (mk w'.heap.size)) (w'.alloc (.cells cs T)):=hx;refine⟨.val (mk w'.heap.size),N2 (w'.alloc (.cells cs T)) τ dd,hx.go τ dd,?_⟩;show NI l k sp e w (O4 D i) (j3 e' o.dst (mk w'.heap.size)) (N2 (N2 (w'.alloc (.cells cs T)) τ dd) w'.tape w'.drawn);have e9:N2 (N2 (w'.alloc (.cells cs T)) τ dd) w'.tape w'.drawn=w'.alloc (.cells cs T):=rfl;rw[e9];have F:=j7 w' cs T;refine fin _ _ rfl rfl F.below ?_;exact U588
structure NI3 (l:List Oper) (k:Nat) (sp:Nat->NK) (jv dv:Nat) (f:Env->Value) (js:List (Nat×Nat)) (e0:Env) (w0:World) (D:Nat->Bool) (e:Env) (w:World):Prop where
 hb:Below w0.heap.size w0 w
 slot:∀i o d,i<k->i≠jv->l[i]? =some o->o.dst=some d->D i=true->(sp i).ok w0.heap.size d e w
 evl:D jv=true->e dv=f e/\∀p∈js,D p.1=true
 free:∀t,oh0 l k t=true->e t=e0 t
theorem W.el1 {P:Program} [Ctx P] {n:Nat} {id:Nat} {l:List Oper} {Q:Exit->Env->World->Prop} {e:Env} {w:World} (k:Nat) (sp:Nat->NK) (jv dv:Nat) (f:Env->Value) (js:List (Nat×Nat)) (hm:P.follows .mixedOrders=true) (hB:ng0 n l.toArray k=true) (hA:ka0 l k=true) (hk:Nat.ble k l.length=true)
  (hg:(l.take k).all (fun o=>o.guard.isNone&&o.dst.isSome)=true) (hjv:(match l[jv]? with|some o=>o.dst==some dv&&js.all fun p=>Nat.blt p.1 k&&p.1 !=jv&&wx0 o p.1&&(match l[p.1]? with|some q=>q.dst==some p.2|none=>false)|none=>false)=true) (hjk:Nat.blt jv k=true) (hf:∀e e':Env,(∀p∈js,e p.2=e' p.2)->f e=f e')
  (W5:∀i o,i<k->i≠jv->l[i]? =some o->NOp P l k sp e i o) (hev:∀o,l[jv]? =some o->∀(e':Env) (w':World),(∀p∈js,(sp p.1).ok w.heap.size p.2 e' w')->Does P (execOp (ev e') o) w' (.val (f e')) w')
  (Nw0:∀j o,j<k->l[j]? =some o->wx0 o jv=false)
  (aa0:∀e' w',NI3 l k sp jv dv f js e w (fun _=>true) e' w'->L P n l.toArray Q (l.drop k) e' w'):W P n (.region id l.toArray true) Q e w:=by
 have ho:=is0 hB;have hk':=Nat.le_of_ble_eq_true hk;have em1:jv<k:=by simpa [Nat.blt_eq]using hjk
 have hgo:∀i o,i<k->l[i]? =some o->o.guard=none/\∃d,o.dst=some d:=fun i o hi hl=>by
  have h1:=List.all_eq_true.1 hg o (List.mem_iff_getElem?.2 ⟨i,by rw[List.getElem?_take,if_pos hi];exact hl⟩);simp only[Bool.and_eq_true]at h1;refine⟨by simpa using h1.1,?_⟩;cases hd:o.dst with
  |none=>rw[hd]at h1;cases h1.2
  |some d=>exact⟨d,rfl⟩
 obtain⟨ov,hov⟩:∃o,l[jv]? =some o:=⟨_,List.getElem?_eq_getElem (by omega)⟩
 rw[hov]at hjv;simp only[Bool.and_eq_true,beq_iff_eq]at hjv;obtain⟨hdv,hjs⟩:=hjv;have Ql0:∀p∈js,p.1<k/\p.1≠jv/\wx0 ov p.1=true/\∃q,l[p.1]? =some q/\q.dst=some p.2:=fun p hp=>by
  have h1:=List.all_eq_true.1 hjs p hp;simp only[Bool.and_eq_true,bne_iff_ne,ne_eq]at h1;obtain⟨⟨⟨h2,h3⟩,h4⟩,h5⟩:=h1;refine⟨by simpa [Nat.blt_eq]using h2,h3,h4,?_⟩;cases hq:l[p.1]? with
  |none=>rw[hq]at h5;cases h5
  |some q=>rw[hq]at h5;exact⟨q,rfl,by simpa using h5⟩
 refine W.ek1 k (NI3 l k sp jv dv f js e w) hm hB hA hk ⟨(Below.refl w.heap.size w).drew,(fun i o d _ _ _ _ h=>by cases h),(fun h=>by cases h),fun _ _=>rfl⟩ (fun i o hi hl D e' w' hDi ad0 hI=>?_) (fun D e' w' hD hI=>aa0 e' w' ⟨hI.hb,fun i o d hi o3 hl hd _=>hI.slot i o d hi o3 hl hd (hD i hi),fun _=>⟨(hI.evl (hD jv em1)).1,fun _ _=>rfl⟩,hI.free⟩);obtain⟨hgn,d,hd⟩:=hgo i o hi hl;have hnf:oh0 l k d=false:=by
  cases hf:oh0 l k d with
  |false=>rfl
  |true=>
   have h1:=List.all_eq_true.1 hf o (List.mem_iff_getElem?.2 ⟨i,by rw[List.getElem?_take,if_pos hi];exact hl⟩);rw[hd]at h1;simp at h1
 have hw1:Region.wanted o (W2 l.toArray e')=true:=by unfold Region.wanted;rw[hgn]
 have vz0:∀j p t,j<k->l[j]? =some p->p.dst=some t->j≠i->t≠d:=fun j p t hj hp ht V2 e9=>V2 (ho.one j i p o t hj hi (by simpa using hp) (by simpa using hl) ht (by rw[hd,e9]));have dep:∀j,wx0 o j=true->D j=true:=fun j hdj=>by
  unfold wx0 at hdj;obtain⟨q,hq,hx2⟩:=Array.any_eq_true.1 hdj;simp only[Bool.and_eq_true,beq_iff_eq]at hx2;have hDj:=ad0 _ (Array.getElem_mem hq) hx2.1;rw[hx2.2]at hDj;exact hDj
 have fin:∀v w2,Below w'.heap.size w' w2->(i≠jv->(sp i).ok w.heap.size d (upd e' d v) w2)->(i=jv->v=f e'/\∀p∈js,D p.1=true)->NI3 l k sp jv dv f js e w (O4 D i) (j3 e' o.dst v) w2:=fun v w2 hb2 hok hvv=>by
  rw[hd];refine⟨P0 hI.hb hb2,fun j p t hj en1 hp ht hDj=>?_,fun hDv=>?_,fun t ht=>?_⟩
  ·by_cases V2:j=i
   ·subst V2;obtain rfl:p=o:=Option.some.inj (hp.symm.trans hl);rw[hd]at ht;cases ht;exact hok en1
   ·have hDj:D j=true:=by
     unfold O4 at hDj;rw[if_neg V2]at hDj;exact hDj
    exact NK.Le0 (hI.slot j p t hj en1 hp ht hDj) (vz0 j p t hj hp ht V2) hb2
  ·have Uc0:∀x,D x=true->O4 D i x=true:=fun x hx=>by
    unfold O4;split
    ·rfl
    ·exact hx
   by_cases V2:jv=i
   ·obtain⟨h1,h2⟩:=hvv V2.symm;have hdd:d=dv:=by
     subst V2;rw[hov]at hl;cases hl;rw[hdv]at hd;cases hd;rfl
    subst hdd;refine⟨?_,fun p hp=>Uc0 _ (h2 p hp)⟩;show upd e' d v d=f (upd e' d v);rw[upd_same,h1];refine hf _ _ fun p hp=>?_;obtain⟨q1,q2,_,q,hq,hqd⟩:=Ql0 p hp;exact(upd_ne _ _ (vz0 p.1 q p.2 q1 hq hqd (fun z=>q2 (z.trans V2.symm)))).symm
   ·have hDv:D jv=true:=by
     unfold O4 at hDv;rw[if_neg V2]at hDv;exact hDv
    obtain⟨h1,h2⟩:=hI.evl hDv;refine⟨?_,fun p hp=>Uc0 _ (h2 p hp)⟩;show upd e' d v dv=f (upd e' d v);rw[upd_ne _ _ (vz0 jv ov dv em1 hov hdv V2),h1];refine hf _ _ fun p hp=>?_;obtain⟨q1,q2,_,q,hq,hqd⟩:=Ql0 p hp;refine(upd_ne _ _ (vz0 p.1 q p.2 q1 hq hqd fun z=>?_)).symm;have:=h2 p hp;rw[z,hDi]at this;cases this
  ·have o3:t≠d:=fun e9=>by subst e9;rw[hnf]at ht;cases ht
   exact(upd_ne _ _ o3).trans (hI.free t ht)
 by_cases hiv:i=jv
 ·subst hiv;rw[hov]at hl;cases hl;have hx:=hev ov hov e' w' fun p hp=>by
   obtain⟨q1,q2,q3,q,hq,hqd⟩:=Ql0 p hp;exact hI.slot p.1 q p.2 q1 q2 hq hqd (dep p.1 q3)
  refine .inl ⟨hw1,fun τ dd=>⟨.val (f e'),N2 w' τ dd,hx.go τ dd,?_⟩⟩;show NI3 l k sp i dv f js e w (O4 D i) (j3 e' ov.dst (f e')) (N2 (N2 w' τ dd) w'.tape w'.drawn);have e9:N2 (N2 w' τ dd) w'.tape w'.drawn=w':=rfl;rw[e9];exact fin _ w' (Below.refl _ _) (fun z=>absurd rfl z) (fun _=>⟨rfl,fun p hp=>dep p.1 (Ql0 p hp).2.2.1⟩)
 have hx:=W5 i o hi hiv hl e' w' hI.free (fun j p t v hj hp ht hdj hs=>by
  have lk1:j≠jv:=fun z=>by rw[z]at hdj;rw[Nw0 i o hi hl]at hdj;cases hdj
  have:=hI.slot j p t hj lk1 hp ht (dep j hdj);rw[hs]at this;exact this)
 refine .inl ⟨hw1,fun τ dd=>?_⟩;cases hs:sp i with
 |lk v=>
  rw[hs]at hx;have hx:Does P (execOp (ev e') o) w' (.val v) w':=hx;refine⟨.val v,N2 w' τ dd,hx.go τ dd,?_⟩;show NI3 l k sp jv dv f js e w (O4 D i) (j3 e' o.dst v) (N2 (N2 w' τ dd) w'.tape w'.drawn);have e9:N2 (N2 w' τ dd) w'.tape w'.drawn=w':=rfl;rw[e9];refine fin v w' (Below.refl _ _) (fun _=>?_) (fun z=>absurd z hiv);rw[hs];exact upd_same _ _ _
 |nw mk cs T=>
  rw[hs]at hx;have hx:Does P (execOp (ev e') o) w' (.val (mk w'.heap.size)) (w'.alloc (.cells cs T)):=hx;refine⟨.val (mk w'.heap.size),N2 (w'.alloc (.cells cs T)) τ dd,hx.go τ dd,?_⟩;show NI3 l k sp jv dv f js e w (O4 D i) (j3 e' o.dst (mk w'.heap.size)) (N2 (N2 (w'.alloc (.cells cs T)) τ dd) w'.tape w'.drawn);have e9:N2 (N2 (w'.alloc (.cells cs T)) τ dd) w'.tape w'.drawn=w'.alloc (.cells cs T):=rfl;rw[e9];have F:=j7 w' cs T;refine fin _ _ F.below (fun _=>?_) (fun z=>absurd z hiv);exact U588
theorem Lf0 {l:List Oper} {k jv:Nat} (h:((l.take k).all fun o=>!wx0 o jv)=true):∀j o,j<k->l[j]? =some o->wx0 o jv=false:=fun j o hj hl=>by
 have h1:=List.all_eq_true.1 h o (List.mem_iff_getElem?.2 ⟨j,by rw[List.getElem?_take,if_pos hj];exact hl⟩);simpa using h1
section
variable {P:Program}[Ctx P]
end
section
variable {P:Program}{ρ:Operand->Value}{w:World}{d:Option Nat}{ty:TypeId}{ps:String}{af:Array Edge}{g:Option (Nat×Bool)}{T E:TypeId}{x y:Operand}
theorem Dx0 {m s bytes:Nat} {zv:Value} (hx:ρ x= .int .i64 (m:Int)) (hy:ρ y= .int .i64 (m:Int)) (hT:P.underlying T=some (.slice E)) (hi:(P.info? E).map (fun i=>(i.zero,i.size,i.bytes))=some (some zv,s,bytes)) (hm:m <=9223372036854775807) (hb:m*bytes <=281474976710656) :
  Does P (execOp ρ ⟨d,.makeSlice T x y,ty,ps,af,g⟩) w (.val (.slice (some ⟨w.heap.size,0,none⟩) m m)) (w.alloc (.cells (madeCells zv.cells (m*s)) E)):=by
 refine .B1 (K2 rfl _) rfl rfl fun τ d'=>?_;show(execOp ρ ⟨d,.makeSlice T x y,ty,ps,af,g⟩).run P (N2 w τ d')= .ok (.value (.slice (some ⟨(N2 w τ d').heap.size,0,none⟩) m m)) ((N2 w τ d').alloc (.cells (madeCells zv.cells (m*s)) E));generalize N2 w τ d'=w;obtain⟨i,hi'⟩:∃i,P.info? E=some i:=by cases hh:P.info? E with|none=>rw[hh]at hi;cases hi|some i=>exact⟨i,rfl⟩
 rw[hi']at hi;simp only[Option.map_some,Option.some.injEq,Prod.mk.injEq]at hi;obtain⟨h1,rfl,rfl⟩:=hi;have hr:=run_make (P:=P) w T E i zv hT hi' h1 .i64 .i64 (m:Int) (m:Int) (by omega) (Int.le_refl _) (by
  have:((m*i.bytes:Nat):Int) <=281474976710656:=by omega
  rw[Int.natCast_mul,Int.mul_comm]at this;exact this) (by omega)
 simp only[Int.toNat_natCast]at hr;simp only[execOp,hx,hy,Sem.run_bind,hr,Result.andThen_ok,Sem.run_pure]
end
section
variable {P:Program}[Ctx P]
end
section
variable {P:Program}{ρ:Operand->Value}{w:World}{d:Option Nat}{ty:TypeId}{ps:String}{af:Array Edge}{g:Option (Nat×Bool)}
theorem oi0 {S:Sem Next} {r:Out} (h:∀x,S.run P x=r.res x) (he:∀x,S.events P x #[]=#[]):Does P S w r w :=
 ⟨rfl,rfl,fun τ d ρ x hs=>⟨S9.refl _,x,#[],by rw[Sem.runT_eq,h,he],hs,fun e he=>by simp at he⟩⟩
theorem ao0 {T:TypeId} {r x0:Operand} {v v0:Value} {name:String} {aT:Array TypeId} {F:FuncId} {fn:Func} (hx:ρ r= .iface T v) (h0:ρ x0=v0) (hm:∀recv w,(Go.method (P.types.size+Made.depth) T recv name).run P w= .ok (F,recv) w) (hme:∀recv w,(Go.method (P.types.size+Made.depth) T recv name).events P w #[]=#[]) (hf:P.funcs[F]? =some fn) (hb:fn.body.isSome=true) (hn:(fn.name== "runtime.NumGoroutine")=false) :
  Does P (execOp ρ ⟨d,.call ⟨.invoke r name,#[x0],aT⟩,ty,ps,af,g⟩) w (.enter F #[v,v0]) w:=by
 have D8:fn.body.isNone=false:=by cases h:fn.body <;> simp_all
 have hn':fn.name≠ "runtime.NumGoroutine":=by simpa using hn
 have hb2:fn.body≠none:=by intro h;rw[h]at hb;cases hb
 refine oi0 (fun x=>?_) fun x=>?_
 ·have hm':Sem.run P (Go.method (P.types.size+100) T v name) x= .ok (F,v) x:=hm v x;show _=Result.ok (Next.enter F #[v,v0]) x;simp[execOp,resolve,hx,h0,invoke,callMethod,go_sem,hm',callFunc,hf,hn',hb2]
 ·have hm':Sem.run P (Go.method (P.types.size+100) T v name) x= .ok (F,v) x:=hm v x;have ll1:Sem.events P (Go.method (P.types.size+100) T v name) x #[]=#[]:=hme v x;simp[execOp,resolve,hx,h0,invoke,callMethod,go_sem,hm',ll1,callFunc,hf,hn',hb2]
end
end Go.Vy
end
section
namespace Go.Vy.Sc
open Go Go.Conc Go.Yc Go.RowKit Go.Proofs Go.Proofs.YtnifpkopeheodaaGreat Tryz
open Go.Vc Go.Wg
theorem Xa0 [Ctx prog] (b0 b1 cb:Nat) (obj num:Int) (q:Value) (x x2:Int) (sa:Value) (w0:World) (K6:O0 w0 b0 #[.pointer (some ⟨cb,0,none⟩)] 67) (hB1:O0 w0 b1 #[.int .i64 x2] 2) (hC:O0 w0 cb #[.int .i64 obj,.int .i64 num,q,.int .i64 x,sa] 132) :
  C prog 64 #[.pointer (some ⟨b0,0,none⟩),.pointer (some ⟨b1,0,none⟩)] w0 fun v w=>v= .tuple #[]/\O0 w b1 #[.int .i64 x] 2/\w0.grownBy w (some b1):=by
 refine C.enter (n:=6) func64 rfl rfl ?_;refine U454 ?_;refine U512 ?_;refine U541 ?_;intro w Z0 hg I2;have x6:=T3.eo0 hB1 hg;have hB1:=Z0;exact U317
set_option maxHeartbeats 400000 in
theorem Qm0 {K:L9 prog} (hK:KOk K) {o5:K.L} {m:Gm} {F:Nat->Prop} (cb wb:Nat) (obj num:Int) (x:Nat->Int) (x2:Int) (sa:Value) (w0:World) (hT:K.Told w0 m F (.inl o5)) (T2:K.stp o5=⟨5,obj,num⟩) (hrd:∀s,K.rdy o5 s=true) (hW:O0 w0 wb #[.bool false] 105) (hC:O0 w0 cb #[.int .i64 obj,.int .i64 num,.pointer (some ⟨wb,0,none⟩),.int .i64 x2,sa] 132) (hgo:∀u F',K.Goes w0 m F o5 u F'->∃sa,O0 u cb #[.int .i64 obj,.int .i64 num,.pointer (some ⟨wb,0,none⟩),.int .i64 (x (gh u 0)),sa] 132) :
  @Calls prog (N0 K) 29 #[.pointer (some ⟨cb,0,none⟩),.pointer (some ⟨K.ptr,0,none⟩)] w0 (L3 K w0 fun v u=>∃F' tt,Gn K w0 m F o5 u F'/\Fs0 u tt/\v= .int .i64 (x tt)):=by
 letI:Ctx prog:=N0 K;refine Calls.C6 (n:=28) func29 rfl rfl ?_;refine U3 ?_;intro hb;refine L.box (cs:=#[.pointer (some ⟨cb,0,none⟩)]) rfl rfl (fun w b2 F2=>?_);refine U16 ?_;intro lt2 hb;have hW:=hW.j0 F2.below;refine U77 ?_;intro hC Z1;refine U7 ?_;refine L.alloc (cs:=#[.int .i64 0]) zr2 rfl (fun w b5 F5=>?_);refine U100 ?_;intro lt5 hb hW hC;have Z1:=Z1.j0 F5.below;have B5:=F5.blk;refine U137 ?_;refine L.va (A0 rfl underlying67 rfl (Z1.E0 0 (v:=.pointer (some ⟨cb,0,none⟩)) rfl)) ?_;refine L.va (E5 rfl rfl underlying67) ?_;refine U213 ?_;refine U438 ?_;refine U568 ?_;rintro _ w1 ⟨rfl,hw⟩;refine U19 ?_;refine U102 ?_;refine U438 ?_;refine L.va (G0 rfl underlying132 rfl li0 (by decide)) ?_;refine U432 ?_;have hbL:=hb;refine U283 ?_;intro hF5 hF2;have hpl:@Calls prog (N0 K) 56 #[.agg #[.int .i64 obj,.int .i64 num],.pointer (some ⟨K.ptr,0,none⟩),.int .i64 5,.nilFunc,.func (.func 64) #[] #[.pointer (some ⟨b2,0,none⟩),.pointer (some ⟨b5,0,none⟩)]] w (L3 K w fun v u=>v= .tuple #[]/\∃u0 F',K.Goes w m F o5 u0 F'/\(O0 u b5 #[.int .i64 (x (gh u0 0))] 2/\u0.grownBy u (some b5))/\u.tape=u0.tape):=by
  refine p9 hK w (hK.j0 hT hb) T2 (fun w1 Y5=>.inl ⟨rfl,hrd⟩) ⟨0,#[],.inl rfl⟩ (.inr ⟨64,_,bm0 func64 rfl cg1⟩) (fun u u2=>O0 u2 b5 #[.int .i64 (x (gh u 0))] 2/\u.grownBy u2 (some b5)) (fun w1 Y5 u F' hg=>.inr ⟨64,_,bm0 func64 rfl cg1,?_⟩);obtain⟨y0,hCu⟩:=hgo u F' (Goes.down (P0 hb Y5) hg);exact @C.mono _ (T4 prog K.X3 K.ptr K.num) _ _ _ _ _ (@Xa0 (T4 prog K.X3 K.ptr K.num) b2 b5 cb obj num _ _ _ _ u (Goes.bn0 hg (Z1.j0 Y5) (Nat.zero_lt_succ _) hF2).1 (Goes.bn0 hg (B5.j0 Y5) (Nat.zero_lt_succ _) hF5).1 hCu) fun v w' h=>h.2
 refine L.B4 rfl (R7 rfl rfl rfl rfl rfl func56 rfl qm0 rfl) hpl ?_ ?_ (fun _ h=>h)
 ·rintro v u ⟨rfl,u0,F',hg,⟨og0,P3⟩,ht⟩;refine U262 ?_;intro h5 hgn;obtain⟨tt,htt⟩:∃tt,gh u0 0=tt:=⟨_,rfl⟩
  rw[htt]at og0;have htt:Fs0 u tt:=⟨(K4 ht 0).trans htt⟩
  clear hb Z1 hC hpl B5;have B5:=og0;clear og0;rename_i wL;clear hW;refine U13 ?_;refine U503 ?_;exact⟨F',tt,hgn,htt,rfl⟩
 ·rintro ch u ⟨n7,hh⟩;exact⟨n7,hh.at hbL.os hbL.output⟩
theorem Xb0 [Ctx prog] (b0 b1 cb:Nat) (obj num:Int) (q:Value) (x x2:Int) (sa:Value) (w0:World) (K6:O0 w0 b0 #[.pointer (some ⟨cb,0,none⟩)] 67) (hB1:O0 w0 b1 #[.int .i64 x] 2) (hC:O0 w0 cb #[.int .i64 obj,.int .i64 num,q,.int .i64 x2,sa] 132) :
  C prog 62 #[.pointer (some ⟨b1,0,none⟩),.pointer (some ⟨b0,0,none⟩)] w0 fun v w=>v= .tuple #[]/\O0 w cb #[.int .i64 obj,.int .i64 num,q,.int .i64 x,sa] 132/\w0.grownBy w (some cb):=by
 refine C.enter (n:=6) func62 rfl rfl ?_;refine U454 ?_;refine L.va (A0 rfl underlying2 rfl (hB1.E0 0 (v:=.int .i64 x) rfl)) ?_;refine U512 ?_;refine L.pu 3 [.int .i64 x] #[.int .i64 obj,.int .i64 num,q,.int .i64 x,sa] sz2 hC (fun w Z0 hg I2=>?_);have x6:=T3.eo0 hC hg;have hC:=Z0;refine U128 ?_;exact⟨rfl,hC,hg⟩
set_option maxHeartbeats 400000 in
theorem Qn0 {K:L9 prog} (hK:KOk K) {o5:K.L} {m:Gm} {F:Nat->Prop} (cb wb:Nat) (obj num:Int) (x:Int) (x2:Int) (sa:Value) (w0:World) (hT:K.Told w0 m F (.inl o5)) (T2:K.stp o5=⟨6,obj,num⟩) (hrd:∀s,K.rdy o5 s=true) (hW:O0 w0 wb #[.bool false] 105) (hC:O0 w0 cb #[.int .i64 obj,.int .i64 num,.pointer (some ⟨wb,0,none⟩),.int .i64 x2,sa] 132) (hgo:∀u F',K.Goes w0 m F o5 u F'->∃x2 sa,O0 u cb #[.int .i64 obj,.int .i64 num,.pointer (some ⟨wb,0,none⟩),.int .i64 x2,sa] 132) :
  @Calls prog (N0 K) 26 #[.pointer (some ⟨cb,0,none⟩),.pointer (some ⟨K.ptr,0,none⟩),.int .i64 x] w0 (L3 K w0 fun v u=>v= .tuple #[]/\∃u0 F',Gn K w0 m F o5 u0 F'/\(∃sa,O0 u cb #[.int .i64 obj,.int .i64 num,.pointer (some ⟨wb,0,none⟩),.int .i64 x,sa] 132)/\u0.grownBy u (some cb)/\u.tape=u0.tape):=by
 letI:Ctx prog:=N0 K;refine Calls.C6 (n:=26) func26 rfl rfl ?_;refine U3 ?_;intro hb;refine L.box (cs:=#[.pointer (some ⟨cb,0,none⟩)]) rfl rfl (fun w b3 F3=>?_);refine U82 ?_;intro lt3 hb;have hW:=hW.j0 F3.below;have hC:=hC.j0 F3.below;have n3:=F3.blk;refine L.box (cs:=#[.int .i64 x]) rfl rfl (fun w b5 F5=>?_);refine U100 ?_;intro lt5 hb hW hC;have n3:=n3.j0 F5.below;have B5:=F5.blk;refine U8 ?_;refine L.va (A0 rfl underlying67 rfl (n3.E0 0 (v:=.pointer (some ⟨cb,0,none⟩)) rfl)) ?_;refine L.va (E5 rfl rfl underlying67) ?_;refine U4 ?_;refine U439 ?_;refine U568 ?_;rintro _ w1 ⟨rfl,hw⟩;refine U19 ?_;refine U68 ?_;refine U439 ?_;refine L.va (G0 rfl underlying132 rfl li0 (by decide)) ?_;refine U146 ?_;refine L.va (o4 (l:=[.tmp 5,.tmp 3]) (vs:=[.pointer (some ⟨b5,0,none⟩),.pointer (some ⟨b3,0,none⟩)]) rfl) ?_;have hbL:=hb;have hF5:¬F b5:=fun z=>by have:=hK.tlt hT z;omega
 have hF3:¬F b3:=fun z=>by have:=hK.tlt hT z;omega
 have hpl:@Calls prog (N0 K) 56 #[.agg #[.int .i64 obj,.int .i64 num],.pointer (some ⟨K.ptr,0,none⟩),.int .i64 6,.nilFunc,.func (.func 62) #[] #[.pointer (some ⟨b5,0,none⟩),.pointer (some ⟨b3,0,none⟩)]] w (L3 K w fun v u=>v= .tuple #[]/\∃u0 F',K.Goes w m F o5 u0 F'/\((∃sa,O0 u cb #[.int .i64 obj,.int .i64 num,.pointer (some ⟨wb,0,none⟩),.int .i64 x,sa] 132)/\u0.grownBy u (some cb))/\u.tape=u0.tape):=by
  refine p9 hK w (hK.j0 hT hb) T2 (fun w1 Y5=>.inl ⟨rfl,hrd⟩) ⟨0,#[],.inl rfl⟩ (.inr ⟨62,_,bm0 func62 rfl ce1⟩) (fun u u2=>(∃sa,O0 u2 cb #[.int .i64 obj,.int .i64 num,.pointer (some ⟨wb,0,none⟩),.int .i64 x,sa] 132)/\u.grownBy u2 (some cb)) (fun w1 Y5 u F' hg=>.inr ⟨62,_,bm0 func62 rfl ce1,?_⟩);obtain⟨y,y0,hCu⟩:=hgo u F' (Goes.down (P0 hb Y5) hg);exact @C.mono _ (T4 prog K.X3 K.ptr K.num) _ _ _ _ _ (@Xb0 (T4 prog K.X3 K.ptr K.num) b3 b5 cb obj num _ _ _ _ u (Goes.bn0 hg (n3.j0 Y5) (Nat.zero_lt_succ _) hF3).1 (Goes.bn0 hg (B5.j0 Y5) (Nat.zero_lt_succ _) hF5).1 hCu) fun v w' h=>⟨⟨_,h.2.1⟩,h.2.2⟩
 refine L.B4 rfl (R7 rfl rfl rfl rfl rfl func56 rfl qm0 rfl) hpl ?_ ?_ (fun _ h=>h)
 ·rintro v u ⟨rfl,u0,F',hg,⟨hCn,P3⟩,ht⟩;have F9:=Goes.down hbL hg;rename_i wL;refine U318 ?_;refine U145 ?_;exact⟨rfl,u0,F',⟨hK,F9⟩,hCn,P3,ht⟩
 ·rintro ch u ⟨n7,hh⟩;exact⟨n7,hh.at hbL.os hbL.output⟩
theorem Xc0 [Ctx prog] (b0 b1 cb:Nat) (obj num:Int) (q:Value) (x x2:Int) (sa:Value) (w0:World) (K6:O0 w0 b0 #[.pointer (some ⟨cb,0,none⟩)] 65) (hB1:O0 w0 b1 #[.int .i64 x2] 2) (hC:O0 w0 cb #[.int .i64 obj,.int .i64 num,q,.int .i64 x,sa] 123) :
  C prog 72 #[.pointer (some ⟨b0,0,none⟩),.pointer (some ⟨b1,0,none⟩)] w0 fun v w=>v= .tuple #[]/\O0 w b1 #[.int .i64 x] 2/\w0.grownBy w (some b1):=by
 refine C.enter (n:=6) func72 rfl rfl ?_;refine W.region rfl ?_;refine U579 ?_;refine U541 ?_;intro w Z0 hg I2;have x6:=T3.eo0 hB1 hg;have hB1:=Z0;exact U317
set_option maxHeartbeats 400000 in
theorem Qo0 {K:L9 prog} (hK:KOk K) {o5:K.L} {m:Gm} {F:Nat->Prop} (cb wb:Nat) (obj num:Int) (x:Nat->Int) (x2:Int) (sa:Value) (w0:World) (hT:K.Told w0 m F (.inl o5)) (T2:K.stp o5=⟨5,obj,num⟩) (hrd:∀s,K.rdy o5 s=true) (hW:O0 w0 wb #[.bool false] 105) (hC:O0 w0 cb #[.int .i64 obj,.int .i64 num,.pointer (some ⟨wb,0,none⟩),.int .i64 x2,sa] 123) (hgo:∀u F',K.Goes w0 m F o5 u F'->∃sa,O0 u cb #[.int .i64 obj,.int .i64 num,.pointer (some ⟨wb,0,none⟩),.int .i64 (x (gh u 0)),sa] 123) :
  @Calls prog (N0 K) 34 #[.pointer (some ⟨cb,0,none⟩),.pointer (some ⟨K.ptr,0,none⟩)] w0 (L3 K w0 fun v u=>∃F' tt,Gn K w0 m F o5 u F'/\Fs0 u tt/\v= .int .i64 (x tt)):=by
 letI:Ctx prog:=N0 K;refine Calls.C6 (n:=25) func34 rfl rfl ?_;refine U3 ?_;intro hb;refine L.box (cs:=#[.pointer (some ⟨cb,0,none⟩)]) rfl rfl (fun w b2 F2=>?_);refine U16 ?_;intro lt2 hb;have hW:=hW.j0 F2.below;refine U77 ?_;intro hC Z1;refine U9 ?_;refine U14 ?_;refine L.va (A0 rfl underlying65 rfl (Z1.E0 0 (v:=.pointer (some ⟨cb,0,none⟩)) rfl)) ?_;refine U596 ?_;refine U440 ?_;refine U567 ?_;rintro _ w1 ⟨rfl,hw⟩;refine U19 ?_;refine U102 ?_;refine L.alloc (cs:=#[.int .i64 0]) zr2 rfl (fun w b5 F5=>?_);refine U100 ?_;intro lt5 hb hW hC;have Z1:=Z1.j0 F5.below;have B5:=F5.blk;refine L.pu 0 [.int .i64 0] #[.int .i64 0] sz2 B5 (fun w Z0 hg I2=>?_);have x6:=T3.eo0 B5 hg;have hb:=D3 hb hb.size hg lt5;have hW:=hW.mod x6 rfl;have hC:=hC.mod x6 rfl;have Z1:=Z1.mod x6 rfl;have B5:=Z0;clear x6;refine U13 ?_;refine U440 ?_;refine L.va (G0 rfl underlying123 rfl li0 (by decide)) ?_;refine U432 ?_;have hbL:=hb;refine U283 ?_;intro hF5 hF2;have hpl:@Calls prog (N0 K) 56 #[.agg #[.int .i64 obj,.int .i64 num],.pointer (some ⟨K.ptr,0,none⟩),.int .i64 5,.nilFunc,.func (.func 72) #[] #[.pointer (some ⟨b2,0,none⟩),.pointer (some ⟨b5,0,none⟩)]] w (L3 K w fun v u=>v= .tuple #[]/\∃u0 F',K.Goes w m F o5 u0 F'/\(O0 u b5 #[.int .i64 (x (gh u0 0))] 2/\u0.grownBy u (some b5))/\u.tape=u0.tape):=by
  refine p9 hK w (hK.j0 hT hb) T2 (fun w1 Y5=>.inl ⟨rfl,hrd⟩) ⟨0,#[],.inl rfl⟩ (.inr ⟨72,_,bm0 func72 rfl cj1⟩) (fun u u2=>O0 u2 b5 #[.int .i64 (x (gh u 0))] 2/\u.grownBy u2 (some b5)) (fun w1 Y5 u F' hg=>.inr ⟨72,_,bm0 func72 rfl cj1,?_⟩);obtain⟨y0,hCu⟩:=hgo u F' (Goes.down (P0 hb Y5) hg);exact @C.mono _ (T4 prog K.X3 K.ptr K.num) _ _ _ _ _ (@Xc0 (T4 prog K.X3 K.ptr K.num) b2 b5 cb obj num _ _ _ _ u (Goes.bn0 hg (Z1.j0 Y5) (Nat.zero_lt_succ _) hF2).1 (Goes.bn0 hg (B5.j0 Y5) (Nat.zero_lt_succ _) hF5).1 hCu) fun v w' h=>h.2
 refine L.B4 rfl (R7 rfl rfl rfl rfl rfl func56 rfl qm0 rfl) hpl ?_ ?_ (fun _ h=>h)
 ·rintro v u ⟨rfl,u0,F',hg,⟨og0,P3⟩,ht⟩;refine U262 ?_;intro h5 hgn;obtain⟨tt,htt⟩:∃tt,gh u0 0=tt:=⟨_,rfl⟩
  rw[htt]at og0;have htt:Fs0 u tt:=⟨(K4 ht 0).trans htt⟩
  clear hb Z1 hC hpl B5;have B5:=og0;clear og0;rename_i wL;clear hW;refine U13 ?_;refine U503 ?_;exact⟨F',tt,hgn,htt,rfl⟩
 ·rintro ch u ⟨n7,hh⟩;exact⟨n7,hh.at hbL.os hbL.output⟩
end Go.Vy.Sc
end
section
namespace Go.Vc
open Go Go.RowKit
theorem O0.G5 {w w':World} {b k:Nat} {cs:Array Value} {T:TypeId} (h:O0 w k cs T) (hg:w.grownBy w' (some b)) (hk:k≠b):O0 w' k cs T:=O0.other h hg hk
end Go.Vc
namespace Go.Vy
open Go Go.Conc Go.Yc Go.RowKit
open Go.Vc
theorem jg0 {fn:Func} {p u v:Tmp} {ty:TypeId} (h:fn.results=#[.cell p ty,.tmp u,.tmp v]) (tmps:Array Value) (P:Program) (w:World) :
  (results fn tmps).run P w=((do let a <- asAddr (tmps.getD p undef);let x <- loadVar ty a;pure (.tuple #[x,tmps.getD u undef,tmps.getD v undef])):Sem Value).run P w:=by
 simp[results,h]
theorem gx0 {P:Program} {w:World} {b:Nat} {cs:Array Value} {T E:TypeId} {d:TypeDesc} (hT:P.underlying T=some d) (hu:g7 d=false) (hs:(P.info? T).map (·.size)=some cs.size) (hB:O0 w b cs E):(loadVar T ⟨b,0,Option.none⟩).run P w= .ok (.agg cs) w:=by
 have h2:∀j v,cs.toList[j]? =some v->w.cell? ((⟨b,0,Option.none⟩:Addr).add j)=some v:=fun j v hj=>by
  rw[Addr.add_lit,Nat.zero_add];exact hB.cell (by simpa using hj)
 have:=run_loadCells_list (P:=P) (w:=w) ⟨b,0,Option.none⟩ cs.toList h2;simp only[Array.length_toList]at this;simp[loadVar,Go.Vc.W8 hT,hu,Go.Vc.run_sizeOf hs,this]
theorem ends.Lg0 {P:Program} [Ctx P] {fn:Func} {R:Value->World->Prop} {x:Exit} {e:Env} {w:World} {t u v b:Nat} {cs:Array Value} {T E:TypeId} {d:TypeDesc} (hx:x= .normal\/x= .ret) (hr:fn.results=#[.cell t T,.tmp u,.tmp v])
  (he:e t= .pointer (some ⟨b,0,Option.none⟩)) (hT:P.underlying T=some d) (hu:g7 d=false) (hs:(P.info? T).map (·.size)=some cs.size) (hB:O0 w b cs E) (h:R (.tuple #[.agg cs,e u,e v]) w):ends P fn R x e w :=
 ⟨hx,_,fun tmps ht=>af0 ag0 fun τ d'=>by
  have hB:O0 (N2 w τ d') b cs E:=hB;generalize N2 w τ d'=w at hB⊢;have h3:tmps.getD t undef= .pointer (some ⟨b,0,Option.none⟩):=by rw[ht,he]
  rw[jg0 hr,h3];simp[asAddr,gx0 hT hu hs hB,ht],h⟩
theorem Own.Lh0 {w:World} {B s n c b:Nat} {E T:TypeId} {a:Option Addr} {xs:List Value} {cs:Array Value} {f:Nat×Nat} (h:Own w B E s a n c xs) (hb:S1 w b cs T f) (o3:E≠T):a≠none->ab a≠b:=fun ha=>by
 obtain⟨cur,hc,_⟩:=h.row ha;have hc:S1 w (ab a) cur E (0,0):=hc;exact hc.ne hb o3
end Go.Vy
end
section
namespace Go.Vy.Sc
open Go Go.Conc Go.Yc Go.RowKit Go.Proofs Go.Proofs.YtnifpkopeheodaaGreat Tryz
open Go.Vc Go.Wg
theorem Xd0 {P:Program} {ρ:Operand->Value} {w:World} {d:Option Nat} {ty:TypeId} {ps:String} {af:Array Edge} {g:Option (Nat×Bool)} {x y:Operand} {m k:Int} {aT:Array TypeId} (hx:ρ x= .int .i64 m) (hy:ρ y= .int .i64 k):Does P (execOp ρ ⟨d,.call ⟨.builtin .max,#[x,y],aT⟩,ty,ps,af,g⟩) w (.val (.int .i64 (max m k))) w :=
 oi0 (fun x=>Go.Vc.an1 hx hy) fun x=>by simp[execOp,resolve,invoke,builtin,hx,hy,Builtin.max_,Builtin.max2]
structure aj0 (w w':World) (x y:Nat):Prop where
 os:w'.os=w.os
 output:w'.output=w.output
 tape:w'.tape=w.tape
 size:w.heap.size <=w'.heap.size
 block:∀b,b<w.heap.size->b≠x->b≠y->w'.heap[b]? =w.heap[b]?
theorem aj0.refl (w:World) (x y:Nat):aj0 w w x y:=⟨rfl,rfl,rfl,Nat.le_refl _,fun _ _ _ _=>rfl⟩
theorem aj0.step {w w1 w2:World} {x y b:Nat} (h:aj0 w w1 x y) (hb:b=x\/b=y) (hg:w1.grownBy w2 (some b)):aj0 w w2 x y :=
 ⟨hg.os.trans h.os,hg.output.trans h.output,hg.tape.trans h.tape,Nat.le_trans h.size hg.size,fun k hk h1 h2=>(hg.block k (Nat.lt_of_lt_of_le hk h.size) fun e=>by cases e;rcases hb with e|e;exact h1 e;exact h2 e).trans (h.block k hk h1 h2)⟩
theorem aj0.v5 {w w1 w2:World} {x y:Nat} (h:aj0 w w1 x y) (hb:Below w1.heap.size w1 w2):aj0 w w2 x y :=
 ⟨hb.os.trans h.os,hb.output.trans h.output,hb.tape.trans h.tape,Nat.le_trans h.size hb.size,fun k hk h1 h2=>(hb.block k (Nat.lt_of_lt_of_le hk h.size)).trans (h.block k hk h1 h2)⟩
theorem Xe0 [Ctx prog] (b0 b1 b2 cb:Nat) (obj num:Int) (q sa:Value) (x d y:Int) (w0:World) (K6:O0 w0 b0 #[.pointer (some ⟨cb,0,none⟩)] 65) (hB1:O0 w0 b1 #[.int .i64 d] 2) (Z1:O0 w0 b2 #[.int .i64 y] 2) (o3:b2≠b1) (hC:O0 w0 cb #[.int .i64 obj,.int .i64 num,q,.int .i64 x,sa] 123) :
  C prog 60 #[.pointer (some ⟨b0,0,none⟩),.pointer (some ⟨b1,0,none⟩),.pointer (some ⟨b2,0,none⟩)] w0 fun v w=>v= .tuple #[]/\O0 w b2 #[.int .i64 (IntKind.i64.wrap (x+d))] 2/\O0 w cb #[.int .i64 obj,.int .i64 num,q,.int .i64 (IntKind.i64.wrap (x+d)),sa] 123/\aj0 w0 w cb b2:=by
 refine C.enter (n:=15) func60 rfl rfl ?_;have hm2:aj0 w0 w0 cb b2:=aj0.refl _ _ _;generalize w0=w at *;refine W.seq ?_;refine W.ej0 8 (fun w'=>Below w.heap.size w w') (by kernel_rfl) (by kernel_rfl) (by kernel_rfl) (by kernel_rfl) ((Below.refl w.heap.size w).drew) ?_;refine D.va (fun w' C1=>(A0 rfl underlying65 rfl ((K6.j0 C1).E0 0 (v:=.pointer (some ⟨cb,0,none⟩)) rfl))) ?_;refine U455 ?_;refine D.va (fun w' C1=>(A0 rfl underlying2 rfl ((hC.j0 C1).E0 3 (v:=.int .i64 x) rfl))) ?_;refine D.va (fun w' C1=>(A0 rfl underlying2 rfl ((hB1.j0 C1).E0 0 (v:=.int .i64 d) rfl))) ?_;refine D.va (fun w' C1=>(il0 (κ:=.i64) rfl rfl)) ?_;refine U455 ?_;refine D.nil (fun w P1=>?_);have hm2:=hm2.v5 P1;have hC:=hC.j0 P1;have K6:=K6.j0 P1;have hB1:=hB1.j0 P1;have Z1:=Z1.j0 P1;clear P1;refine L.pu 3 [.int .i64 (IntKind.i64.wrap (x+d))] #[.int .i64 obj,.int .i64 num,q,.int .i64 (IntKind.i64.wrap (x+d)),sa] sz2 hC (fun w Z0 hg I2=>?_);have hm2:=hm2.step (.inl rfl) hg;have x6:=T3.eo0 hC hg;have K6:=K6.mod x6 rfl;have hB1:=hB1.mod x6 rfl;have Z1:=Z1.mod x6 rfl;have hC:=Z0;clear x6;refine U49 ?_;refine U579 ?_;refine L.va (A0 rfl underlying2 rfl (hC.E0 3 (v:=.int .i64 (IntKind.i64.wrap (x+d))) rfl)) ?_;refine L.pu 0 [.int .i64 (IntKind.i64.wrap (x+d))] #[.int .i64 (IntKind.i64.wrap (x+d))] sz2 Z1 (fun w Z0 hg I2=>?_);have hm2:=hm2.step (.inr rfl) hg;have x6:=T3.eo0 Z1 hg;have hC:=hC.mod x6 rfl;have hB1:=hB1.G5 hg o3.symm;have Z1:=Z0;refine U128 ?_;exact⟨rfl,Z1,hC,hm2⟩
theorem eo1 [Ctx prog] (b0:Nat) (sb:Nat) (obj num:Int) (h:Bool) (r:Int) (w0:World) (K6:O0 w0 b0 #[.pointer (some ⟨sb,0,none⟩)] 193) (hC:O0 w0 sb #[.int .i64 obj,.int .i64 num,.bool h,.int .i64 r] 195) :
  C prog 167 #[.pointer (some ⟨b0,0,none⟩)] w0 fun v w=>v= .tuple #[]/\O0 w sb #[.int .i64 obj,.int .i64 num,.bool true,.int .i64 r] 195/\w0.grownBy w (some sb):=by
 refine C.enter (n:=4) func167 rfl rfl ?_;have P3:=fu0 w0 (some sb);refine W.region rfl ?_;refine U180 ?_;refine L.pu 2 [.bool true] #[.int .i64 obj,.int .i64 num,.bool true,.int .i64 r] sz4 hC (fun w Z0 hg I2=>?_);have x6:=T3.eo0 hC hg;have P3:=ip0 P3 hg;have hC:=Z0;exact U209
theorem Qp0 [Ctx prog] (b0:Nat) (sb:Nat) (obj num:Int) (h:Bool) (r:Int) (w0:World) (K6:O0 w0 b0 #[.pointer (some ⟨sb,0,none⟩)] 193) (hC:O0 w0 sb #[.int .i64 obj,.int .i64 num,.bool h,.int .i64 r] 195) :
  C prog 171 #[.pointer (some ⟨b0,0,none⟩)] w0 fun v w=>v= .tuple #[]/\O0 w sb #[.int .i64 obj,.int .i64 num,.bool false,.int .i64 r] 195/\w0.grownBy w (some sb):=by
 refine C.enter (n:=4) func171 rfl rfl ?_;have P3:=fu0 w0 (some sb);refine W.region rfl ?_;refine U180 ?_;refine L.pu 2 [.bool false] #[.int .i64 obj,.int .i64 num,.bool false,.int .i64 r] sz4 hC (fun w Z0 hg I2=>?_);have x6:=T3.eo0 hC hg;have P3:=ip0 P3 hg;have hC:=Z0;exact U209
theorem Xf0 [Ctx prog] (b0:Nat) (sb:Nat) (obj num:Int) (h:Bool) (r:Int) (w0:World) (K6:O0 w0 b0 #[.pointer (some ⟨sb,0,none⟩)] 193) (hC:O0 w0 sb #[.int .i64 obj,.int .i64 num,.bool h,.int .i64 r] 195) :
  C prog 169 #[.pointer (some ⟨b0,0,none⟩)] w0 fun v w=>v= .tuple #[]/\O0 w sb #[.int .i64 obj,.int .i64 num,.bool h,.int .i64 (IntKind.i64.wrap (r+1))] 195/\w0.grownBy w (some sb):=by
 refine C.enter (n:=8) func169 rfl rfl ?_;have P3:=fu0 w0 (some sb);refine W.region rfl ?_;refine U330 ?_;refine L.va (G0 rfl underlying195 rfl z8 (by decide)) ?_;refine L.va (A0 rfl underlying3 rfl (hC.E0 3 (v:=.int .i64 r) rfl)) ?_;refine L.va (il0 (κ:=.i64) rfl rfl) ?_;refine L.va (J1 rfl) ?_;refine L.va (G0 rfl underlying195 rfl z8 (by decide)) ?_;refine L.pu 3 [.int .i64 (IntKind.i64.wrap (r+1))] #[.int .i64 obj,.int .i64 num,.bool h,.int .i64 (IntKind.i64.wrap (r+1))] z8 hC (fun w Z0 hg I2=>?_);have x6:=T3.eo0 hC hg;have P3:=ip0 P3 hg;have hC:=Z0;exact U209
theorem Li0 [Ctx prog] (b0:Nat) (sb:Nat) (obj num:Int) (h:Bool) (r:Int) (w0:World) (K6:O0 w0 b0 #[.pointer (some ⟨sb,0,none⟩)] 193) (hC:O0 w0 sb #[.int .i64 obj,.int .i64 num,.bool h,.int .i64 r] 195) :
  C prog 170 #[.pointer (some ⟨b0,0,none⟩)] w0 fun v w=>v= .tuple #[]/\O0 w sb #[.int .i64 obj,.int .i64 num,.bool h,.int .i64 (max 0 (IntKind.i64.wrap (r-1)))] 195/\w0.grownBy w (some sb):=by
 refine C.enter (n:=10) func170 rfl rfl ?_;have P3:=fu0 w0 (some sb);generalize w0=w at *;refine W.ej0 9 (fun w'=>Below w.heap.size w w') (by kernel_rfl) (by kernel_rfl) (by kernel_rfl) (by kernel_rfl) ((Below.refl w.heap.size w).drew) ?_;refine D.va (fun w' C1=>(A0 rfl underlying193 rfl ((K6.j0 C1).E0 0 (v:=.pointer (some ⟨sb,0,none⟩)) rfl))) ?_;refine D.va (fun w' C1=>(A0 rfl underlying193 rfl ((K6.j0 C1).E0 0 (v:=.pointer (some ⟨sb,0,none⟩)) rfl))) ?_;refine U456 ?_;refine D.va (fun w' C1=>(A0 rfl underlying3 rfl ((hC.j0 C1).E0 3 (v:=.int .i64 r) rfl))) ?_;refine D.va (fun w' C1=>(yg0 (κ:=.i64) rfl rfl)) ?_;refine D.va (fun w' C1=>(Xd0 rfl rfl)) ?_;refine U456 ?_;refine D.nil (fun w P1=>?_);have P3:=Oq0 P3 P1;have hC:=hC.j0 P1;clear P1;refine L.pu 3 [.int .i64 (max 0 (IntKind.i64.wrap (r-1)))] #[.int .i64 obj,.int .i64 num,.bool h,.int .i64 (max 0 (IntKind.i64.wrap (r-1)))] z8 hC (fun w Z0 hg I2=>?_);have x6:=T3.eo0 hC hg;have P3:=ip0 P3 hg;have hC:=Z0;exact U209
theorem ep1 [Ctx prog] (b0:Nat) (sb:Nat) (obj num:Int) (h:Bool) (r:Int) (w0:World) (K6:O0 w0 b0 #[.pointer (some ⟨sb,0,none⟩)] 193) (hC:O0 w0 sb #[.int .i64 obj,.int .i64 num,.bool h,.int .i64 r] 195) :
  C prog 166 #[.pointer (some ⟨b0,0,none⟩)] w0 fun v w=>v= .bool (!h&&decide (r=0))/\Below w0.heap.size w0 w:=by
 refine C.enter (n:=14) func166 rfl rfl ?_;refine U3 ?_;intro hb;refine U73 ?_;refine U180 ?_;refine U498 ?_;refine L.va (y9 rfl) ?_;refine L.fc0 6 [7,8,9,10,11,12,13] 13 (.bool (!h&&decide (r=0))) (tj:=7) rfl (fun hb7=>?_) (fun hb7=>?_) (fun f=>?_)
 ·refine L.on rfl ?_;refine L.va (A0 rfl underlying193 rfl (K6.E0 0 (v:=.pointer (some ⟨sb,0,none⟩)) rfl)) ?_;refine U366 ?_;refine L.on rfl ?_;refine L.va (G0 rfl underlying195 rfl z8 (by decide)) ?_;refine L.on rfl ?_;refine L.va (A0 rfl underlying3 rfl (hC.E0 3 (v:=.int .i64 r) rfl)) ?_;refine U116 ?_;refine U83 ?_;refine⟨rfl,congrArg Value.bool (by first|exact yk0 hb7|rfl|(simp_all;done)|(rw[Bool.eq_iff_iff];simp_all;omega)),?_⟩;exact S0.upd rfl (S0.upd rfl (S0.upd rfl (S0.upd rfl (S0.upd rfl (S0.upd rfl (S0.upd rfl (S0.refl _ _)))))))
 ·refine L.off rfl ?_;refine U70 ?_;refine U115 ?_;refine⟨rfl,congrArg Value.bool (by first|exact yj0 hb7|rfl|(simp_all;done)|(rw[Bool.eq_iff_iff];simp_all;omega)),?_⟩;exact S0.upd rfl (S0.upd rfl (S0.upd rfl (S0.upd rfl (S0.upd rfl (S0.upd rfl (S0.upd rfl (S0.refl _ _)))))))
 exact U96
theorem Xg0 [Ctx prog] (b0:Nat) (sb:Nat) (obj num:Int) (h:Bool) (r:Int) (w0:World) (K6:O0 w0 b0 #[.pointer (some ⟨sb,0,none⟩)] 193) (hC:O0 w0 sb #[.int .i64 obj,.int .i64 num,.bool h,.int .i64 r] 195) :
  C prog 168 #[.pointer (some ⟨b0,0,none⟩)] w0 fun v w=>v= .bool (!h)/\Below w0.heap.size w0 w:=by
 refine C.enter (n:=7) func168 rfl rfl ?_;refine U3 ?_;intro hb;refine U73 ?_;refine U180 ?_;refine U498 ?_;exact U96
theorem I5.bn0 {K:L9 prog} {w0 u:World} {m:Gm} {F F':Nat->Prop} (h:K.I5 w0 m F u F') {b:Nat} {cs:Array Value} {T:TypeId} (hB:O0 w0 b cs T) (h0:0<cs.size) (hF:¬F b):O0 u b cs T/\¬F' b:=by
 have hB':S1 w0 b cs T (0,0):=K3 hB;have:=h.j0 b hB'.lt (em0 hB' h0) hF;exact⟨this.1.trans hB',this.2⟩
theorem Dy0:∀(recv:Value) (w:World),(Go.method (prog.types.size+Made.depth) 193 recv "docket/prim.lock").run prog w= .ok (162,recv) w:=by intro recv w;kernel_rfl
theorem zo0:∀(recv:Value) (w:World),(Go.method (prog.types.size+Made.depth) 193 recv "docket/prim.lock").events prog w #[]=#[]:=by intro recv w;kernel_rfl
theorem um0:∀(recv:Value) (w:World),(Go.method (prog.types.size+Made.depth) 193 recv "docket/prim.unlock").run prog w= .ok (165,recv) w:=by intro recv w;kernel_rfl
theorem oj0:∀(recv:Value) (w:World),(Go.method (prog.types.size+Made.depth) 193 recv "docket/prim.unlock").events prog w #[]=#[]:=by intro recv w;kernel_rfl
theorem Lj0:∀(recv:Value) (w:World),(Go.method (prog.types.size+Made.depth) 193 recv "docket/prim.rlock").run prog w= .ok (163,recv) w:=by intro recv w;kernel_rfl
theorem Ft0:∀(recv:Value) (w:World),(Go.method (prog.types.size+Made.depth) 193 recv "docket/prim.rlock").events prog w #[]=#[]:=by intro recv w;kernel_rfl
theorem By0:∀(recv:Value) (w:World),(Go.method (prog.types.size+Made.depth) 193 recv "docket/prim.runlock").run prog w= .ok (164,recv) w:=by intro recv w;kernel_rfl
theorem zp0:∀(recv:Value) (w:World),(Go.method (prog.types.size+Made.depth) 193 recv "docket/prim.runlock").events prog w #[]=#[]:=by intro recv w;kernel_rfl
set_option maxHeartbeats 400000 in
theorem Qq0 {K:L9 prog} (hK:KOk K) {o5:K.L} {m:Gm} {F:Nat->Prop} (cb wb:Nat) (obj num:Int) (x:Nat->Int) (x2 d:Int) (sa:Value) (w0:World) (hT:K.Told w0 m F (.inl o5)) (T2:K.stp o5=⟨7,obj,num⟩) (hrd:∀s,K.rdy o5 s=true) (hW:O0 w0 wb #[.bool false] 105) (hC:O0 w0 cb #[.int .i64 obj,.int .i64 num,.pointer (some ⟨wb,0,none⟩),.int .i64 x2,sa] 123) (hgo:∀u F',K.Goes w0 m F o5 u F'->∃sa,O0 u cb #[.int .i64 obj,.int .i64 num,.pointer (some ⟨wb,0,none⟩),.int .i64 (x (gh u 0)),sa] 123) :
  @Calls prog (N0 K) 24 #[.pointer (some ⟨cb,0,none⟩),.pointer (some ⟨K.ptr,0,none⟩),.int .i64 d] w0 (L3 K w0 fun v u=>∃u0 F' tt sa,Gn K w0 m F o5 u0 F'/\gh u0 0=tt/\v= .int .i64 (IntKind.i64.wrap (x tt+d))/\O0 u cb #[.int .i64 obj,.int .i64 num,.pointer (some ⟨wb,0,none⟩),.int .i64 (IntKind.i64.wrap (x tt+d)),sa] 123/\∃y,w0.heap.size <=y/\¬F' y/\aj0 u0 u cb y/\u.tape=u0.tape):=by
 letI:Ctx prog:=N0 K;refine Calls.C6 (n:=28) func24 rfl rfl ?_;refine U3 ?_;intro hb;refine L.box (cs:=#[.pointer (some ⟨cb,0,none⟩)]) rfl rfl (fun w b3 F3=>?_);refine U82 ?_;intro lt3 hb;have hW:=hW.j0 F3.below;have hC:=hC.j0 F3.below;have n3:=F3.blk;refine L.box (cs:=#[.int .i64 d]) rfl rfl (fun w b5 F5=>?_);refine U100 ?_;intro lt5 hb hW hC;have n3:=n3.j0 F5.below;have B5:=F5.blk;refine U9 ?_;refine U14 ?_;refine L.va (A0 rfl underlying65 rfl (n3.E0 0 (v:=.pointer (some ⟨cb,0,none⟩)) rfl)) ?_;refine U596 ?_;refine U441 ?_;refine U567 ?_;rintro _ w1 ⟨rfl,hw⟩;refine U19 ?_;refine U102 ?_;refine L.alloc (cs:=#[.int .i64 0]) zr2 rfl (fun w b7 F7=>?_);have lt7:=F7.lq hb.size;have Xh0:=F7.ne B5;have eq1:b7≠b5:=by have h9:=F7.here;have h8:=B5.lt;omega
 have hb:=P0 hb F7.below;have hW:=hW.j0 F7.below;have hC:=hC.j0 F7.below;have n3:=n3.j0 F7.below;have B5:=B5.j0 F7.below;have hB7:=F7.blk;refine L.pu 0 [.int .i64 0] #[.int .i64 0] sz2 hB7 (fun w Z0 hg I2=>?_);have x6:=T3.eo0 hB7 hg;have hb:=D3 hb hb.size hg lt7;have hW:=hW.mod x6 rfl;have hC:=hC.mod x6 rfl;have n3:=n3.mod x6 rfl;have B5:=B5.other hg Xh0;have hB7:=Z0;clear x6;refine U13 ?_;refine U441 ?_;refine L.va (G0 rfl underlying123 rfl li0 (by decide)) ?_;refine U146 ?_;refine L.va (o4 (l:=[.tmp 3,.tmp 5,.tmp 7]) (vs:=[.pointer (some ⟨b3,0,none⟩),.pointer (some ⟨b5,0,none⟩),.pointer (some ⟨b7,0,none⟩)]) rfl) ?_;have hbL:=hb;have hF3:¬F b3:=fun z=>by have:=hK.tlt hT z;omega
 have hF5:¬F b5:=fun z=>by have:=hK.tlt hT z;omega
 have hF7:¬F b7:=fun z=>by have:=hK.tlt hT z;omega
 have hpl:@Calls prog (N0 K) 56 #[.agg #[.int .i64 obj,.int .i64 num],.pointer (some ⟨K.ptr,0,none⟩),.int .i64 7,.nilFunc,.func (.func 60) #[] #[.pointer (some ⟨b3,0,none⟩),.pointer (some ⟨b5,0,none⟩),.pointer (some ⟨b7,0,none⟩)]] w (L3 K w fun v u=>v= .tuple #[]/\∃u0 F',K.Goes w m F o5 u0 F'/\(∃sa,O0 u b7 #[.int .i64 (IntKind.i64.wrap (x (gh u0 0)+d))] 2/\O0 u cb #[.int .i64 obj,.int .i64 num,.pointer (some ⟨wb,0,none⟩),.int .i64 (IntKind.i64.wrap (x (gh u0 0)+d)),sa] 123/\aj0 u0 u cb b7)/\u.tape=u0.tape):=by
  refine p9 hK w (hK.j0 hT hb) T2 (fun w1 Y5=>.inl ⟨rfl,hrd⟩) ⟨0,#[],.inl rfl⟩ (.inr ⟨60,_,bm0 func60 rfl cd1⟩) (fun u u2=>∃sa,O0 u2 b7 #[.int .i64 (IntKind.i64.wrap (x (gh u 0)+d))] 2/\O0 u2 cb #[.int .i64 obj,.int .i64 num,.pointer (some ⟨wb,0,none⟩),.int .i64 (IntKind.i64.wrap (x (gh u 0)+d)),sa] 123/\aj0 u u2 cb b7) (fun w1 Y5 u F' hg=>.inr ⟨60,_,bm0 func60 rfl cd1,?_⟩);obtain⟨y0,hCu⟩:=hgo u F' (Goes.down (P0 hb Y5) hg);exact @C.mono _ (T4 prog K.X3 K.ptr K.num) _ _ _ _ _ (@Xe0 (T4 prog K.X3 K.ptr K.num) b3 b5 b7 cb obj num _ _ _ d _ u (Goes.bn0 hg (n3.j0 Y5) (Nat.zero_lt_succ _) hF3).1 (Goes.bn0 hg (B5.j0 Y5) (Nat.zero_lt_succ _) hF5).1 (Goes.bn0 hg (hB7.j0 Y5) (Nat.zero_lt_succ _) hF7).1 eq1 hCu) fun v w' h=>⟨_,h.2⟩
 refine L.B4 rfl (R7 rfl rfl rfl rfl rfl func56 rfl qm0 rfl) hpl ?_ ?_ (fun _ h=>h)
 ·rintro v u ⟨rfl,u0,F',hg,⟨sa',Xi0,hCn,hm2⟩,ht⟩;have h7:=(Goes.bn0 hg hB7 (Nat.zero_lt_succ _) hF7).2;have F9:=Goes.down hbL hg;obtain⟨tt,htt⟩:∃tt,gh u0 0=tt:=⟨_,rfl⟩
  rw[htt]at Xi0 hCn;clear hb n3 B5 hC hpl hB7;have hB7:=Xi0;clear Xi0;rename_i wL;clear hW;refine U13 ?_;refine L.va (A0 rfl underlying2 rfl (hB7.E0 0 (v:=.int .i64 (IntKind.i64.wrap (x tt+d))) rfl)) ?_;refine U38 ?_;exact⟨u0,F',tt,_,⟨hK,F9⟩,htt,rfl,hCn,b7,lt7,h7,hm2,ht⟩
 ·rintro ch u ⟨n7,hh⟩;exact⟨n7,hh.at hbL.os hbL.output⟩
theorem Dz0 {K:L9 prog} (hK:KOk K) {o5:K.L} {m:Gm} {F:Nat->Prop} (sb:Nat) (obj num:Int) (h:Bool) (r:Int) (w0:World) (hT:K.Told w0 m F (.inl o5)) (T2:K.stp o5=⟨1,obj,num⟩) (hC:O0 w0 sb #[.int .i64 obj,.int .i64 num,.bool h,.int .i64 r] 195) (hla:∀u F',K.I5 w0 m F u F'->∃h r,O0 u sb #[.int .i64 obj,.int .i64 num,.bool h,.int .i64 r] 195/\K.rdy o5 (K.sOf (gh u 0))=(!h&&decide (r=0))) :
  @Calls prog (N0 K) 162 #[.pointer (some ⟨sb,0,none⟩),.pointer (some ⟨K.ptr,0,none⟩)] w0 (L3 K w0 fun v u=>v= .tuple #[]/\∃u0 F' h r,Gn K w0 m F o5 u0 F'/\O0 u0 sb #[.int .i64 obj,.int .i64 num,.bool h,.int .i64 r] 195/\O0 u sb #[.int .i64 obj,.int .i64 num,.bool true,.int .i64 r] 195/\u0.grownBy u (some sb)/\u.tape=u0.tape):=by
 letI:Ctx prog:=N0 K;refine Calls.C6 (n:=12) func162 rfl rfl ?_;refine U182 ?_;intro hb w b2 F2;refine U16 ?_;intro lt2 hb;refine U77 ?_;intro hC Z1;refine U49 ?_;refine U178 ?_;refine U502 ?_;refine U207 ?_;intro hbL hF2;have hpl:@Calls prog (N0 K) 56 #[.agg #[.int .i64 obj,.int .i64 num],.pointer (some ⟨K.ptr,0,none⟩),.int .i64 1,.func (.func 166) #[] #[.pointer (some ⟨b2,0,none⟩)],.func (.func 167) #[] #[.pointer (some ⟨b2,0,none⟩)]] w (L3 K w fun v u=>v= .tuple #[]/\∃u0 F',K.Goes w m F o5 u0 F'/\(∃h r,O0 u0 sb #[.int .i64 obj,.int .i64 num,.bool h,.int .i64 r] 195/\O0 u sb #[.int .i64 obj,.int .i64 num,.bool true,.int .i64 r] 195/\u0.grownBy u (some sb))/\u.tape=u0.tape):=by
  refine p9 hK w (hK.j0 hT hb) T2 (fun w1 Y5=>.inr ⟨166,_,bm0 func166 rfl cy1,fun u F' hl=>?_⟩) ⟨166,_,.inr rfl⟩ (.inr ⟨167,_,bm0 func167 rfl Tk0⟩) (fun u u2=>∃h r,O0 u sb #[.int .i64 obj,.int .i64 num,.bool h,.int .i64 r] 195/\O0 u2 sb #[.int .i64 obj,.int .i64 num,.bool true,.int .i64 r] 195/\u.grownBy u2 (some sb)) (fun w1 Y5 u F' hg=>.inr ⟨167,_,bm0 func167 rfl Tk0,?_⟩)
  ·obtain⟨h,r,hCu,hrr⟩:=hla u F' (I5.down (P0 hb Y5) hl);refine @C.mono _ (j2 prog true) _ _ _ _ _ (@ep1 (j2 prog true) b2 sb obj num h r u (I5.bn0 hl (Z1.j0 Y5) (Nat.zero_lt_succ _) hF2).1 hCu) fun v w' h=>?_;rw[hrr];exact h
  ·obtain⟨h,r,hCu,_⟩:=hla u F' (Goes.down (P0 hb Y5) hg).L7;exact @C.mono _ (T4 prog K.X3 K.ptr K.num) _ _ _ _ _ (@eo1 (T4 prog K.X3 K.ptr K.num) b2 sb obj num h r u (Goes.bn0 hg (Z1.j0 Y5) (Nat.zero_lt_succ _) hF2).1 hCu) fun v w' hh=>⟨h,r,hCu,hh.2⟩
 refine L.B4 rfl (R7 rfl rfl rfl rfl rfl func56 rfl qm0 rfl) hpl ?_ ?_ (fun _ h=>h)
 ·rintro v u ⟨rfl,u0,F',hg,⟨h',r',hC0,hCn,P3⟩,ht⟩;have F9:=Goes.down hbL hg;rename_i wL;exact U183
 ·rintro ch u ⟨n7,hh⟩;exact⟨n7,hh.at hbL.os hbL.output⟩
theorem Lk0 {K:L9 prog} (hK:KOk K) {o5:K.L} {m:Gm} {F:Nat->Prop} (sb:Nat) (obj num:Int) (h:Bool) (r:Int) (mb:Nat) (w0:World) (hT:K.Told w0 m F (.inl o5)) (T2:K.stp o5=⟨1,obj,num⟩) (hM:O0 w0 mb #[.iface 193 (.pointer (some ⟨sb,0,none⟩))] 113) (hC:O0 w0 sb #[.int .i64 obj,.int .i64 num,.bool h,.int .i64 r] 195) (hla:∀u F',K.I5 w0 m F u F'->∃h r,O0 u sb #[.int .i64 obj,.int .i64 num,.bool h,.int .i64 r] 195/\K.rdy o5 (K.sOf (gh u 0))=(!h&&decide (r=0))) :
  @Calls prog (N0 K) 20 #[.pointer (some ⟨mb,0,none⟩),.pointer (some ⟨K.ptr,0,none⟩)] w0 (L3 K w0 fun v u=>v= .tuple #[]/\∃u0 F' h r,Gn K w0 m F o5 u0 F'/\O0 u0 sb #[.int .i64 obj,.int .i64 num,.bool h,.int .i64 r] 195/\O0 u sb #[.int .i64 obj,.int .i64 num,.bool true,.int .i64 r] 195/\u0.grownBy u (some sb)/\u.tape=u0.tape):=by
 letI:Ctx prog:=N0 K;refine Calls.C6 (n:=12) func20 rfl rfl ?_;refine U3 ?_;intro hb;refine U564 ?_;refine U50 ?_;refine U565 ?_;refine U80 ?_;have hbL:=hb;refine L.B4 rfl (ao0 rfl rfl Dy0 zo0 func162 rfl Ti0) (Dz0 hK sb obj num h r w0 hT T2 hC hla) ?_ ?_ (fun _ h=>h)
 ·rintro v u cd0;obtain⟨rfl,cd0⟩:=cd0;exact U95
 ·rintro ch u ⟨n7,hh⟩;exact⟨n7,hh⟩
theorem Ll0 {K:L9 prog} (hK:KOk K) {o5:K.L} {m:Gm} {F:Nat->Prop} (sb:Nat) (obj num:Int) (h:Bool) (r:Int) (mb:Nat) (w0:World) (hT:K.Told w0 m F (.inl o5)) (T2:K.stp o5=⟨1,obj,num⟩) (hM:O0 w0 mb #[.iface 193 (.pointer (some ⟨sb,0,none⟩))] 125) (hC:O0 w0 sb #[.int .i64 obj,.int .i64 num,.bool h,.int .i64 r] 195) (hla:∀u F',K.I5 w0 m F u F'->∃h r,O0 u sb #[.int .i64 obj,.int .i64 num,.bool h,.int .i64 r] 195/\K.rdy o5 (K.sOf (gh u 0))=(!h&&decide (r=0))) :
  @Calls prog (N0 K) 25 #[.pointer (some ⟨mb,0,none⟩),.pointer (some ⟨K.ptr,0,none⟩)] w0 (L3 K w0 fun v u=>v= .tuple #[]/\∃u0 F' h r,Gn K w0 m F o5 u0 F'/\O0 u0 sb #[.int .i64 obj,.int .i64 num,.bool h,.int .i64 r] 195/\O0 u sb #[.int .i64 obj,.int .i64 num,.bool true,.int .i64 r] 195/\u0.grownBy u (some sb)/\u.tape=u0.tape):=by
 letI:Ctx prog:=N0 K;refine Calls.C6 (n:=12) func25 rfl rfl ?_;refine U3 ?_;intro hb;refine U175 ?_;refine U50 ?_;refine U177 ?_;refine U80 ?_;have hbL:=hb;refine L.B4 rfl (ao0 rfl rfl Dy0 zo0 func162 rfl Ti0) (Dz0 hK sb obj num h r w0 hT T2 hC hla) ?_ ?_ (fun _ h=>h)
 ·rintro v u cd0;obtain⟨rfl,cd0⟩:=cd0;exact U95
 ·rintro ch u ⟨n7,hh⟩;exact⟨n7,hh⟩
theorem un0 {K:L9 prog} (hK:KOk K) {o5:K.L} {m:Gm} {F:Nat->Prop} (sb:Nat) (obj num:Int) (h:Bool) (r:Int) (w0:World) (hT:K.Told w0 m F (.inl o5)) (T2:K.stp o5=⟨2,obj,num⟩) (hrd:∀s,K.rdy o5 s=true) (hC:O0 w0 sb #[.int .i64 obj,.int .i64 num,.bool h,.int .i64 r] 195) (hla:∀u F',K.I5 w0 m F u F'->∃h r,O0 u sb #[.int .i64 obj,.int .i64 num,.bool h,.int .i64 r] 195) :
  @Calls prog (N0 K) 165 #[.pointer (some ⟨sb,0,none⟩),.pointer (some ⟨K.ptr,0,none⟩)] w0 (L3 K w0 fun v u=>v= .tuple #[]/\∃u0 F' h r,Gn K w0 m F o5 u0 F'/\O0 u0 sb #[.int .i64 obj,.int .i64 num,.bool h,.int .i64 r] 195/\O0 u sb #[.int .i64 obj,.int .i64 num,.bool false,.int .i64 r] 195/\u0.grownBy u (some sb)/\u.tape=u0.tape):=by
 letI:Ctx prog:=N0 K;refine Calls.C6 (n:=11) func165 rfl rfl ?_;refine U182 ?_;intro hb w b2 F2;refine U16 ?_;intro lt2 hb;refine U77 ?_;intro hC Z1;refine U49 ?_;refine U178 ?_;refine U254 ?_;refine U207 ?_;intro hbL hF2;have hpl:@Calls prog (N0 K) 56 #[.agg #[.int .i64 obj,.int .i64 num],.pointer (some ⟨K.ptr,0,none⟩),.int .i64 2,.nilFunc,.func (.func 171) #[] #[.pointer (some ⟨b2,0,none⟩)]] w (L3 K w fun v u=>v= .tuple #[]/\∃u0 F',K.Goes w m F o5 u0 F'/\(∃h r,O0 u0 sb #[.int .i64 obj,.int .i64 num,.bool h,.int .i64 r] 195/\O0 u sb #[.int .i64 obj,.int .i64 num,.bool false,.int .i64 r] 195/\u0.grownBy u (some sb))/\u.tape=u0.tape):=by
  refine p9 hK w (hK.j0 hT hb) T2 (fun w1 Y5=>.inl ⟨rfl,hrd⟩) ⟨0,#[],.inl rfl⟩ (.inr ⟨171,_,bm0 func171 rfl Tn0⟩) (fun u u2=>∃h r,O0 u sb #[.int .i64 obj,.int .i64 num,.bool h,.int .i64 r] 195/\O0 u2 sb #[.int .i64 obj,.int .i64 num,.bool false,.int .i64 r] 195/\u.grownBy u2 (some sb)) (fun w1 Y5 u F' hg=>.inr ⟨171,_,bm0 func171 rfl Tn0,?_⟩)
  ·obtain⟨h,r,hCu⟩:=hla u F' (Goes.down (P0 hb Y5) hg).L7;exact @C.mono _ (T4 prog K.X3 K.ptr K.num) _ _ _ _ _ (@Qp0 (T4 prog K.X3 K.ptr K.num) b2 sb obj num h r u (Goes.bn0 hg (Z1.j0 Y5) (Nat.zero_lt_succ _) hF2).1 hCu) fun v w' hh=>⟨h,r,hCu,hh.2⟩
 refine L.B4 rfl (R7 rfl rfl rfl rfl rfl func56 rfl qm0 rfl) hpl ?_ ?_ (fun _ h=>h)
 ·rintro v u ⟨rfl,u0,F',hg,⟨h',r',hC0,hCn,P3⟩,ht⟩;have F9:=Goes.down hbL hg;rename_i wL;exact U183
 ·rintro ch u ⟨n7,hh⟩;exact⟨n7,hh.at hbL.os hbL.output⟩
theorem Bz0 {K:L9 prog} (hK:KOk K) {o5:K.L} {m:Gm} {F:Nat->Prop} (sb:Nat) (obj num:Int) (h:Bool) (r:Int) (mb:Nat) (w0:World) (hT:K.Told w0 m F (.inl o5)) (T2:K.stp o5=⟨2,obj,num⟩) (hrd:∀s,K.rdy o5 s=true) (hM:O0 w0 mb #[.iface 193 (.pointer (some ⟨sb,0,none⟩))] 113) (hC:O0 w0 sb #[.int .i64 obj,.int .i64 num,.bool h,.int .i64 r] 195) (hla:∀u F',K.I5 w0 m F u F'->∃h r,O0 u sb #[.int .i64 obj,.int .i64 num,.bool h,.int .i64 r] 195) :
  @Calls prog (N0 K) 23 #[.pointer (some ⟨mb,0,none⟩),.pointer (some ⟨K.ptr,0,none⟩)] w0 (L3 K w0 fun v u=>v= .tuple #[]/\∃u0 F' h r,Gn K w0 m F o5 u0 F'/\O0 u0 sb #[.int .i64 obj,.int .i64 num,.bool h,.int .i64 r] 195/\O0 u sb #[.int .i64 obj,.int .i64 num,.bool false,.int .i64 r] 195/\u0.grownBy u (some sb)/\u.tape=u0.tape):=by
 letI:Ctx prog:=N0 K;refine Calls.C6 (n:=12) func23 rfl rfl ?_;refine U3 ?_;intro hb;refine U564 ?_;refine U50 ?_;refine U565 ?_;refine U80 ?_;have hbL:=hb;refine L.B4 rfl (ao0 rfl rfl um0 oj0 func165 rfl Tj0) (un0 hK sb obj num h r w0 hT T2 hrd hC hla) ?_ ?_ (fun _ h=>h)
 ·rintro v u cd0;obtain⟨rfl,cd0⟩:=cd0;exact U95
 ·rintro ch u ⟨n7,hh⟩;exact⟨n7,hh⟩
theorem Ca0 {K:L9 prog} (hK:KOk K) {o5:K.L} {m:Gm} {F:Nat->Prop} (sb:Nat) (obj num:Int) (h:Bool) (r:Int) (mb:Nat) (w0:World) (hT:K.Told w0 m F (.inl o5)) (T2:K.stp o5=⟨2,obj,num⟩) (hrd:∀s,K.rdy o5 s=true) (hM:O0 w0 mb #[.iface 193 (.pointer (some ⟨sb,0,none⟩))] 125) (hC:O0 w0 sb #[.int .i64 obj,.int .i64 num,.bool h,.int .i64 r] 195) (hla:∀u F',K.I5 w0 m F u F'->∃h r,O0 u sb #[.int .i64 obj,.int .i64 num,.bool h,.int .i64 r] 195) :
  @Calls prog (N0 K) 27 #[.pointer (some ⟨mb,0,none⟩),.pointer (some ⟨K.ptr,0,none⟩)] w0 (L3 K w0 fun v u=>v= .tuple #[]/\∃u0 F' h r,Gn K w0 m F o5 u0 F'/\O0 u0 sb #[.int .i64 obj,.int .i64 num,.bool h,.int .i64 r] 195/\O0 u sb #[.int .i64 obj,.int .i64 num,.bool false,.int .i64 r] 195/\u0.grownBy u (some sb)/\u.tape=u0.tape):=by
 letI:Ctx prog:=N0 K;refine Calls.C6 (n:=12) func27 rfl rfl ?_;refine U3 ?_;intro hb;refine U175 ?_;refine U50 ?_;refine U177 ?_;refine U80 ?_;have hbL:=hb;refine L.B4 rfl (ao0 rfl rfl um0 oj0 func165 rfl Tj0) (un0 hK sb obj num h r w0 hT T2 hrd hC hla) ?_ ?_ (fun _ h=>h)
 ·rintro v u cd0;obtain⟨rfl,cd0⟩:=cd0;exact U95
 ·rintro ch u ⟨n7,hh⟩;exact⟨n7,hh⟩
theorem Lm0 {K:L9 prog} (hK:KOk K) {o5:K.L} {m:Gm} {F:Nat->Prop} (sb:Nat) (obj num:Int) (h:Bool) (r:Int) (w0:World) (hT:K.Told w0 m F (.inl o5)) (T2:K.stp o5=⟨3,obj,num⟩) (hC:O0 w0 sb #[.int .i64 obj,.int .i64 num,.bool h,.int .i64 r] 195) (hla:∀u F',K.I5 w0 m F u F'->∃h r,O0 u sb #[.int .i64 obj,.int .i64 num,.bool h,.int .i64 r] 195/\K.rdy o5 (K.sOf (gh u 0))=(!h)) :
  @Calls prog (N0 K) 163 #[.pointer (some ⟨sb,0,none⟩),.pointer (some ⟨K.ptr,0,none⟩)] w0 (L3 K w0 fun v u=>v= .tuple #[]/\∃u0 F' h r,Gn K w0 m F o5 u0 F'/\O0 u0 sb #[.int .i64 obj,.int .i64 num,.bool h,.int .i64 r] 195/\O0 u sb #[.int .i64 obj,.int .i64 num,.bool h,.int .i64 (IntKind.i64.wrap (r+1))] 195/\u0.grownBy u (some sb)/\u.tape=u0.tape):=by
 letI:Ctx prog:=N0 K;refine Calls.C6 (n:=12) func163 rfl rfl ?_;refine U182 ?_;intro hb w b2 F2;refine U16 ?_;intro lt2 hb;refine U77 ?_;intro hC Z1;refine U49 ?_;refine U178 ?_;refine U502 ?_;refine U207 ?_;intro hbL hF2;have hpl:@Calls prog (N0 K) 56 #[.agg #[.int .i64 obj,.int .i64 num],.pointer (some ⟨K.ptr,0,none⟩),.int .i64 3,.func (.func 168) #[] #[.pointer (some ⟨b2,0,none⟩)],.func (.func 169) #[] #[.pointer (some ⟨b2,0,none⟩)]] w (L3 K w fun v u=>v= .tuple #[]/\∃u0 F',K.Goes w m F o5 u0 F'/\(∃h r,O0 u0 sb #[.int .i64 obj,.int .i64 num,.bool h,.int .i64 r] 195/\O0 u sb #[.int .i64 obj,.int .i64 num,.bool h,.int .i64 (IntKind.i64.wrap (r+1))] 195/\u0.grownBy u (some sb))/\u.tape=u0.tape):=by
  refine p9 hK w (hK.j0 hT hb) T2 (fun w1 Y5=>.inr ⟨168,_,bm0 func168 rfl cz1,fun u F' hl=>?_⟩) ⟨168,_,.inr rfl⟩ (.inr ⟨169,_,bm0 func169 rfl Tl0⟩) (fun u u2=>∃h r,O0 u sb #[.int .i64 obj,.int .i64 num,.bool h,.int .i64 r] 195/\O0 u2 sb #[.int .i64 obj,.int .i64 num,.bool h,.int .i64 (IntKind.i64.wrap (r+1))] 195/\u.grownBy u2 (some sb)) (fun w1 Y5 u F' hg=>.inr ⟨169,_,bm0 func169 rfl Tl0,?_⟩)
  ·obtain⟨h,r,hCu,hrr⟩:=hla u F' (I5.down (P0 hb Y5) hl);refine @C.mono _ (j2 prog true) _ _ _ _ _ (@Xg0 (j2 prog true) b2 sb obj num h r u (I5.bn0 hl (Z1.j0 Y5) (Nat.zero_lt_succ _) hF2).1 hCu) fun v w' h=>?_;rw[hrr];exact h
  ·obtain⟨h,r,hCu,_⟩:=hla u F' (Goes.down (P0 hb Y5) hg).L7;exact @C.mono _ (T4 prog K.X3 K.ptr K.num) _ _ _ _ _ (@Xf0 (T4 prog K.X3 K.ptr K.num) b2 sb obj num h r u (Goes.bn0 hg (Z1.j0 Y5) (Nat.zero_lt_succ _) hF2).1 hCu) fun v w' hh=>⟨h,r,hCu,hh.2⟩
 refine L.B4 rfl (R7 rfl rfl rfl rfl rfl func56 rfl qm0 rfl) hpl ?_ ?_ (fun _ h=>h)
 ·rintro v u ⟨rfl,u0,F',hg,⟨h',r',hC0,hCn,P3⟩,ht⟩;have F9:=Goes.down hbL hg;rename_i wL;exact U183
 ·rintro ch u ⟨n7,hh⟩;exact⟨n7,hh.at hbL.os hbL.output⟩
theorem Fu0 {K:L9 prog} (hK:KOk K) {o5:K.L} {m:Gm} {F:Nat->Prop} (sb:Nat) (obj num:Int) (h:Bool) (r:Int) (mb:Nat) (w0:World) (hT:K.Told w0 m F (.inl o5)) (T2:K.stp o5=⟨3,obj,num⟩) (hM:O0 w0 mb #[.iface 193 (.pointer (some ⟨sb,0,none⟩))] 125) (hC:O0 w0 sb #[.int .i64 obj,.int .i64 num,.bool h,.int .i64 r] 195) (hla:∀u F',K.I5 w0 m F u F'->∃h r,O0 u sb #[.int .i64 obj,.int .i64 num,.bool h,.int .i64 r] 195/\K.rdy o5 (K.sOf (gh u 0))=(!h)) :
  @Calls prog (N0 K) 28 #[.pointer (some ⟨mb,0,none⟩),.pointer (some ⟨K.ptr,0,none⟩)] w0 (L3 K w0 fun v u=>v= .tuple #[]/\∃u0 F' h r,Gn K w0 m F o5 u0 F'/\O0 u0 sb #[.int .i64 obj,.int .i64 num,.bool h,.int .i64 r] 195/\O0 u sb #[.int .i64 obj,.int .i64 num,.bool h,.int .i64 (IntKind.i64.wrap (r+1))] 195/\u0.grownBy u (some sb)/\u.tape=u0.tape):=by
 letI:Ctx prog:=N0 K;refine Calls.C6 (n:=12) func28 rfl rfl ?_;refine U3 ?_;intro hb;refine U175 ?_;refine U50 ?_;refine U177 ?_;refine U80 ?_;have hbL:=hb;refine L.B4 rfl (ao0 rfl rfl Lj0 Ft0 func163 rfl cw1) (Lm0 hK sb obj num h r w0 hT T2 hC hla) ?_ ?_ (fun _ h=>h)
 ·rintro v u cd0;obtain⟨rfl,cd0⟩:=cd0;exact U95
 ·rintro ch u ⟨n7,hh⟩;exact⟨n7,hh⟩
theorem Cb0 {K:L9 prog} (hK:KOk K) {o5:K.L} {m:Gm} {F:Nat->Prop} (sb:Nat) (obj num:Int) (h:Bool) (r:Int) (w0:World) (hT:K.Told w0 m F (.inl o5)) (T2:K.stp o5=⟨4,obj,num⟩) (hrd:∀s,K.rdy o5 s=true) (hC:O0 w0 sb #[.int .i64 obj,.int .i64 num,.bool h,.int .i64 r] 195) (hla:∀u F',K.I5 w0 m F u F'->∃h r,O0 u sb #[.int .i64 obj,.int .i64 num,.bool h,.int .i64 r] 195) :
  @Calls prog (N0 K) 164 #[.pointer (some ⟨sb,0,none⟩),.pointer (some ⟨K.ptr,0,none⟩)] w0 (L3 K w0 fun v u=>v= .tuple #[]/\∃u0 F' h r,Gn K w0 m F o5 u0 F'/\O0 u0 sb #[.int .i64 obj,.int .i64 num,.bool h,.int .i64 r] 195/\O0 u sb #[.int .i64 obj,.int .i64 num,.bool h,.int .i64 (max 0 (IntKind.i64.wrap (r-1)))] 195/\u0.grownBy u (some sb)/\u.tape=u0.tape):=by
 letI:Ctx prog:=N0 K;refine Calls.C6 (n:=11) func164 rfl rfl ?_;refine U182 ?_;intro hb w b2 F2;refine U16 ?_;intro lt2 hb;refine U77 ?_;intro hC Z1;refine U49 ?_;refine U178 ?_;refine U254 ?_;refine U207 ?_;intro hbL hF2;have hpl:@Calls prog (N0 K) 56 #[.agg #[.int .i64 obj,.int .i64 num],.pointer (some ⟨K.ptr,0,none⟩),.int .i64 4,.nilFunc,.func (.func 170) #[] #[.pointer (some ⟨b2,0,none⟩)]] w (L3 K w fun v u=>v= .tuple #[]/\∃u0 F',K.Goes w m F o5 u0 F'/\(∃h r,O0 u0 sb #[.int .i64 obj,.int .i64 num,.bool h,.int .i64 r] 195/\O0 u sb #[.int .i64 obj,.int .i64 num,.bool h,.int .i64 (max 0 (IntKind.i64.wrap (r-1)))] 195/\u0.grownBy u (some sb))/\u.tape=u0.tape):=by
  refine p9 hK w (hK.j0 hT hb) T2 (fun w1 Y5=>.inl ⟨rfl,hrd⟩) ⟨0,#[],.inl rfl⟩ (.inr ⟨170,_,bm0 func170 rfl Tm0⟩) (fun u u2=>∃h r,O0 u sb #[.int .i64 obj,.int .i64 num,.bool h,.int .i64 r] 195/\O0 u2 sb #[.int .i64 obj,.int .i64 num,.bool h,.int .i64 (max 0 (IntKind.i64.wrap (r-1)))] 195/\u.grownBy u2 (some sb)) (fun w1 Y5 u F' hg=>.inr ⟨170,_,bm0 func170 rfl Tm0,?_⟩)
  ·obtain⟨h,r,hCu⟩:=hla u F' (Goes.down (P0 hb Y5) hg).L7;exact @C.mono _ (T4 prog K.X3 K.ptr K.num) _ _ _ _ _ (@Li0 (T4 prog K.X3 K.ptr K.num) b2 sb obj num h r u (Goes.bn0 hg (Z1.j0 Y5) (Nat.zero_lt_succ _) hF2).1 hCu) fun v w' hh=>⟨h,r,hCu,hh.2⟩
 refine L.B4 rfl (R7 rfl rfl rfl rfl rfl func56 rfl qm0 rfl) hpl ?_ ?_ (fun _ h=>h)
 ·rintro v u ⟨rfl,u0,F',hg,⟨h',r',hC0,hCn,P3⟩,ht⟩;have F9:=Goes.down hbL hg;rename_i wL;exact U183
 ·rintro ch u ⟨n7,hh⟩;exact⟨n7,hh.at hbL.os hbL.output⟩
theorem zq0 {K:L9 prog} (hK:KOk K) {o5:K.L} {m:Gm} {F:Nat->Prop} (sb:Nat) (obj num:Int) (h:Bool) (r:Int) (mb:Nat) (w0:World) (hT:K.Told w0 m F (.inl o5)) (T2:K.stp o5=⟨4,obj,num⟩) (hrd:∀s,K.rdy o5 s=true) (hM:O0 w0 mb #[.iface 193 (.pointer (some ⟨sb,0,none⟩))] 125) (hC:O0 w0 sb #[.int .i64 obj,.int .i64 num,.bool h,.int .i64 r] 195) (hla:∀u F',K.I5 w0 m F u F'->∃h r,O0 u sb #[.int .i64 obj,.int .i64 num,.bool h,.int .i64 r] 195) :
  @Calls prog (N0 K) 30 #[.pointer (some ⟨mb,0,none⟩),.pointer (some ⟨K.ptr,0,none⟩)] w0 (L3 K w0 fun v u=>v= .tuple #[]/\∃u0 F' h r,Gn K w0 m F o5 u0 F'/\O0 u0 sb #[.int .i64 obj,.int .i64 num,.bool h,.int .i64 r] 195/\O0 u sb #[.int .i64 obj,.int .i64 num,.bool h,.int .i64 (max 0 (IntKind.i64.wrap (r-1)))] 195/\u0.grownBy u (some sb)/\u.tape=u0.tape):=by
 letI:Ctx prog:=N0 K;refine Calls.C6 (n:=12) func30 rfl rfl ?_;refine U3 ?_;intro hb;refine U175 ?_;refine U50 ?_;refine U177 ?_;refine U80 ?_;have hbL:=hb;refine L.B4 rfl (ao0 rfl rfl By0 zp0 func164 rfl cx1) (Cb0 hK sb obj num h r w0 hT T2 hrd hC hla) ?_ ?_ (fun _ h=>h)
 ·rintro v u cd0;obtain⟨rfl,cd0⟩:=cd0;exact U95
 ·rintro ch u ⟨n7,hh⟩;exact⟨n7,hh⟩
theorem jh0 {w:World} {b:Nat} {cs:Array Value} {T:TypeId} (h:O0 w b cs T) (hT:T≠0):b<w.heap.size/\w.heap[b]? ≠some nothing:=by
 refine⟨(K3 h).lt,fun e=>?_⟩;have h':w.heap[b]? =some (.cells cs T (0,0)):=h;rw[h']at e;have e1:=Option.some.inj e;unfold nothing at e1;injection e1 with _ e2
 exact hT e2
def Canon (a:Option Addr):Prop:=∀x,a=some x->x=⟨x.block,0,none⟩
theorem kn0 {w:World} {B:Nat} {E:TypeId} {s n c:Nat} {a:Option Addr} {xs:List Value} (h:Own w B E s a n c xs):Canon a:=fun x hx=>by
 rcases h.2 with⟨hv,_⟩|⟨g,cap,cur,hv,_⟩
 ·cases hv;cases hx
 ·cases hv;cases hx;rfl
theorem Ea0 {w:World} {B s n c b:Nat} {E T:TypeId} {a:Option Addr} {xs:List Value} {cs:Array Value} (h:Own w B E s a n c xs) (hB:O0 w b cs T) (hT:T≠E) (ha:a≠none):b≠ab a:=by
 obtain⟨cur,hc,_⟩:=h.row ha;exact O0.ne hB hc hT
theorem zr0 {w:World} {B s n c:Nat} {E:TypeId} {xs:List Value} (h:Own w B E s none n c xs):n=0:=by
 rcases h.2 with⟨hv,h0⟩|⟨g,cap,cur,hv,_⟩
 ·cases hv;first|exact h0|omega
 ·cases hv
theorem Ln0 {a:Option Addr} {n c:Nat} (hc:Canon a):Value.ownBlock (.slice a n c)=if a=none then none else some (ab a):=by
 cases a with
 |none=>rfl
 |some x=>rw[hc x rfl];rfl
theorem O0.app {w w':World} {B:Nat} {b:Nat} {cs:Array Value} {T E:TypeId} {a:Option Addr} {n c s:Nat} {xs:List Value} (hB:O0 w b cs T) (hO:Own w B E s a n c xs) (hg:w.grownBy w' (Value.ownBlock (.slice a n c))) (hT:T≠E):O0 w' b cs T:=by
 refine hB.grown hg ?_;cases a with
 |none=>simp[Value.ownBlock]
 |some x=>
  obtain⟨cur,hc,_⟩:=hO.row (by simp);intro e;exact O0.ne hB hc hT (Option.some.inj e)
theorem I9 {N i:Nat} {f:Nat->Value} {v:Value}:setRow (arr N f) i [v]=arr N (fun x=>if x=i then v else f x):=by
 show(arr N f).setIfInBounds i v=_;exact Oo0
structure O1 where
 I3:Int
 J9:Int
 call:Int
 val:Int
def re0 (o:O1):List Value:=[.int .i64 o.I3,.int .i64 o.J9,.int .i64 o.call,.int .i64 o.val]
def Q0 (o:O1):Nat:=(o.J9%2).toNat
theorem J0 (o:O1):Q0 o<2:=by unfold Q0;omega
def POk (o:O1):Prop:=(o.I3=1/\(o.call=1\/o.call=2))\/(o.I3=2/\(o.call=1\/o.call=2\/o.call=3\/o.call=4))\/(o.I3=3/\(o.call=5\/o.call=7))\/(o.I3=4/\(o.call=5\/o.call=6))\/(o.I3=5/\(o.call=8\/o.call=9))
def up2 {α:Type} (f:Nat->Nat->α) (t n:Nat) (v:α):Nat->Nat->α:=fun a b=>if a=t/\b=n then v else f a b
theorem fi0 {α:Type} {f:Nat->Nat->α} {t n:Nat} {v:α}:up2 f t n v t n=v:=if_pos ⟨rfl,rfl⟩
theorem wy0 {α:Type} {f:Nat->Nat->α} {t n a b:Nat} {v:α} (h:¬(a=t/\b=n)):up2 f t n v a b=f a b:=if_neg h
structure PS where
 held:Nat->Nat->Bool
 u4:Nat->Int
 val:Nat->Nat->Int
 W1:Nat->List Int
def ps0:PS:=⟨fun _ _=>false,fun _=>0,fun _ _=>0,fun _=>[]⟩
def prd (s:PS) (t n:Nat):Int:=if t=2 then s.u4 n else 0
def pT (o:O1):Nat:=o.I3.toNat
def O8 (o:O1) (s:PS):Bool:=if o.call=1 then !s.held (pT o) (Q0 o)&&decide (prd s (pT o) (Q0 o)=0) else if o.call=3 then !s.held 2 (Q0 o) else true
def Z5 (o:O1) (s:PS):PS×Int :=
 if o.call=1 then({s with held:=up2 s.held (pT o) (Q0 o) true},0)
 else if o.call=2 then({s with held:=up2 s.held (pT o) (Q0 o) false},0)
 else if o.call=3 then({s with u4:=D7 s.u4 (Q0 o) (IntKind.i64.wrap (s.u4 (Q0 o)+1))},0)
 else if o.call=4 then({s with u4:=D7 s.u4 (Q0 o) (max 0 (IntKind.i64.wrap (s.u4 (Q0 o)-1)))},0)
 else if o.call=6\/o.call=9 then({s with val:=up2 s.val (pT o) (Q0 o) o.val},0)
 else if o.call=7 then({s with val:=up2 s.val (pT o) (Q0 o) (IntKind.i64.wrap (s.val (pT o) (Q0 o)+o.val))},IntKind.i64.wrap (s.val (pT o) (Q0 o)+o.val))
 else(s,s.val (pT o) (Q0 o))
theorem K9 (o:O1) (s:PS):(Z5 o s).1.W1=s.W1:=by
 unfold Z5
 repeat' split
 all_goals rfl
def J5 (i:Nat) (x:PS×Int):PS:={x.1 with W1:=D7 x.1.W1 i (x.1.W1 i ++ [x.2])}
def R8 (ops:List O1) (k:Nat):Nat ⊕ Nat:=if k<ops.length then .inl k else .inr 1
def C4 (ops:List O1) (k:Nat) (s:PS):ix0 PS Nat:=⟨s,[],R8 ops k⟩
def goP (ops:List O1) (i k:Nat) (s:PS):ix0 PS Nat:=match ops[k]? with
 |some o=>C4 ops (k+1) (J5 i (Z5 o s))
 |none=>⟨s,[],.inr 1⟩
theorem wz0 {ops:List O1} {i k:Nat} {s:PS} {o:O1} (h:ops[k]? =some o):goP ops i k s=C4 ops (k+1) (J5 i (Z5 o s)):=by unfold goP;rw[h]
theorem Eb0 (ops:List O1) (i k:Nat) (s:PS):(goP ops i k s).r2=[]:=by unfold goP;split <;> rfl
theorem N5 {ops:List O1} {k:Nat} {s:PS} {o:O1} (h:ops[k]? =some o):C4 ops k s=⟨s,[],.inl k⟩:=by
 unfold C4 R8;rw[if_pos (List.getElem?_eq_some_iff.1 h).1]
theorem Cc0 {ops:List O1} {k:Nat} {s:PS} (h:¬k<ops.length):C4 ops k s=⟨s,[],.inr 1⟩:=by
 unfold C4 R8;rw[if_neg h]
def O7 (wb:Nat) (s:PS) (t n:Nat) (sa:Value):Array Value :=
 if t <=2 then #[.int .i64 (t:Nat),.int .i64 (n:Nat),.bool (s.held t n),.int .i64 (prd s t n)]
 else if t <=4 then #[.int .i64 (t:Nat),.int .i64 (n:Nat),.pointer (some ⟨wb,0,none⟩),.int .i64 (s.val t n),sa]
 else #[.int .i64 (t:Nat),.int .i64 (n:Nat),.pointer (some ⟨wb,0,none⟩),.int .i64 (s.val t n)]
def tty (t:Nat):TypeId:=if t <=2 then 195 else if t=3 then 123 else if t=4 then 132 else 115
theorem ok0 (t:Nat):tty t≠0/\tty t≠45/\tty t≠2:=by
 unfold tty;split
 ·exact⟨by decide,by decide,by decide⟩
 split
 ·exact⟨by decide,by decide,by decide⟩
 split <;> exact⟨by decide,by decide,by decide⟩
structure j6 where
 la:Nat->Option Addr
 lc:Nat->Nat
structure V3 where
 m:Nat
 bo:Nat->List O1
 tb:Nat
 wb:Nat
 sb:Nat->Nat->Nat
 mb:Nat->Nat->Nat
 lgb:Nat
 RO:Nat->Prop
 wI:World
 B:Nat
 lb:Nat
 pl:Nat->V6
def pob (p:V3) (t n:Nat):Nat:=if t <=2 then p.mb t n else p.sb t n
def Qr0 (p:V3):Array Value:=arr 10 fun j=>.pointer (some ⟨pob p (j/2+1) (j%2),0,none⟩)
def mty (t:Nat):TypeId:=if t=1 then 113 else 125
structure eq0 (p:V3) (w:World) (s:PS) (r:j6):Prop where
 hS:∀t n,1 <=t->t <=5->n<2->∃sa,O0 w (p.sb t n) (O7 p.wb s t n sa) (tty t)
 hG:O0 w p.lgb (arr p.m fun i=>.slice (r.la i) (s.W1 i).length (r.lc i)) 45
 hL:∀i,i<p.m->Own w p.B 2 1 (r.la i) (s.W1 i).length (r.lc i) ((s.W1 i).map (.int .i64 ·))
 inj:∀i j,i<p.m->j<p.m->i≠j->r.la i≠none->r.la j≠none->ab (r.la i)≠ab (r.la j)
 ro:∀b,p.RO b->w.heap[b]? =p.wI.heap[b]?
 lG:p.B <=p.lgb
def PF (p:V3) (r:j6) (b:Nat):Prop:=(∃t n,1 <=t/\t <=5/\n<2/\b=p.sb t n)\/b=p.lgb\/(∃i,i<p.m/\r.la i≠none/\b=ab (r.la i))\/p.RO b
def Xj0 (p:V3) (s:PS) (_:Gm) (w:World) (F:Nat->Prop):Prop:=∃r,F=PF p r/\eq0 p w s r
@[reducible] def L1 (p:V3):Sys where
 S:=PS
 L:=Nat
 m:=p.m
 s0:=ps0
 nil:=fun _=>false
 stp:=fun i k=>match(p.bo i)[k]? with
  |some o=>⟨o.call,o.I3,(Q0 o:Nat)⟩
  |none=>⟨0,0,0⟩
 rdy:=fun i k s=>match(p.bo i)[k]? with
  |some o=>O8 o s
  |none=>true
 beg:=fun i s=>C4 (p.bo i) 0 s
 go:=fun i k s=>goP (p.bo i) i k s
 le:=fun _ _ _=>True
 Inv:=Xj0 p
 lb:=p.lb
 pl:=p.pl
structure y5 (p:V3):Prop where
 ro:∀b,p.RO b->b<p.wI.heap.size/\p.wI.heap[b]? ≠some nothing
 roD:∀b,p.RO b->b<p.B\/∃cs T,O0 p.wI b cs T/\(∀t,T≠tty t)/\T≠45/\T≠2
 sB:∀t n,1 <=t->t <=5->n<2->p.B <=p.sb t n
 lm1:∀t n t' n',1 <=t->t <=5->n<2->1 <=t'->t' <=5->n'<2->p.sb t n=p.sb t' n'->t=t'/\n=n'
 hT:p.RO p.tb/\O0 p.wI p.tb (Qr0 p) 72
 hW:p.RO p.wb/\O0 p.wI p.wb #[.bool false] 105
 hM:∀t n,1 <=t->t <=2->n<2->p.RO (p.mb t n)/\O0 p.wI (p.mb t n) #[.iface 193 (.pointer (some ⟨p.sb t n,0,none⟩))] (mty t)
 ops:∀i o,o∈p.bo i->POk o
section
variable {p:V3}{w w' wI:World}{s:PS}{r:j6}
theorem eq0.congr (h:eq0 p w s r) (he:∀b,PF p r b->w'.heap[b]? =w.heap[b]?):eq0 p w' s r :=
 ⟨fun t n h1 h2 h3=>let⟨sa,hB⟩:=h.hS t n h1 h2 h3;⟨sa,(he _ (.inl ⟨t,n,h1,h2,h3,rfl⟩)).trans hB⟩,(he _ (.inr (.inl rfl))).trans h.hG,fun i hi=>Own.congr (h.hL i hi) fun ha=>he _ (.inr (.inr (.inl ⟨i,hi,ha,rfl⟩))),h.inj,fun b hb=>(he _ (.inr (.inr (.inr hb)))).trans (h.ro b hb),h.lG⟩
theorem eq0.vis (h:eq0 p w s r) (hp:y5 p) {b:Nat} (hb:PF p r b):b<w.heap.size/\w.heap[b]? ≠some nothing:=by
 rcases hb with⟨t,n,h1,h2,h3,rfl⟩|rfl|⟨i,hi,ha,rfl⟩|hb
 ·obtain⟨sa,hB⟩:=h.hS t n h1 h2 h3;exact jh0 hB (ok0 t).1
 ·exact jh0 h.hG (by decide)
 ·obtain⟨cur,hc,_⟩:=(h.hL i hi).row ha;exact jh0 hc (by decide)
 ·have h1:=h.ro b hb;have h2:=hp.ro b hb;refine⟨?_,by rw[h1];exact h2.2⟩;rcases Nat.lt_or_ge b w.heap.size with z|z
  ·exact z
  ·rw[Array.getElem?_eq_none z,Array.getElem?_eq_getElem h2.1]at h1;cases h1
theorem eq0.er1 (h:eq0 p w s r) (hp:y5 p) {b:Nat} (hb:p.RO b):(∀t n,1 <=t->t <=5->n<2->b≠p.sb t n)/\b≠p.lgb/\∀i,i<p.m->r.la i≠none->b≠ab (r.la i):=by
 rcases hp.roD b hb with Y1|⟨cs,T,hB,t1,t2,t3⟩
 ·refine⟨fun t n h1 h2 h3 e=>?_,fun e=>?_,fun i hi ha e=>?_⟩
  ·have:=hp.sB t n h1 h2 h3;omega
  ·have:=h.lG;omega
  ·obtain⟨_,_,h2,_⟩:=(h.hL i hi).row ha;omega
 ·have hB':O0 w b cs T:=(h.ro b hb).trans hB;exact⟨fun t n h1 h2 h3=>let⟨_,hS⟩:=h.hS t n h1 h2 h3;O0.ne hB' hS (t1 t),O0.ne hB' h.hG t2,fun i hi ha=>Ea0 (h.hL i hi) hB' t3 ha⟩
theorem eq0.rob (h:eq0 p w s r) {b:Nat} {cs:Array Value} {T:TypeId} (hb:p.RO b/\O0 p.wI b cs T):O0 w b cs T:=(h.ro b hb.1).trans hb.2
theorem ji0 (hp:y5 p):ny0 (L1 p):=by
 refine⟨⟨fun _ _=>trivial,fun _ _ _ _ _ _=>trivial⟩,fun s m w w' F h he=>?_,fun s m w F h b hb=>?_⟩
 ·obtain⟨r,rfl,hM⟩:=h;exact⟨r,rfl,hM.congr he⟩
 ·obtain⟨r,rfl,hM⟩:=h;exact hM.vis hp hb
theorem eq0.set (h:eq0 p w s r) (hp:y5 p) {s':PS} {t n y:Nat} {sa:Value} (h1:1 <=t) (h2:t <=5) (h3:n<2) (hg:aj0 w w' (p.sb t n) y) (hy:y=p.sb t n\/¬PF p r y) (hB:O0 w' (p.sb t n) (O7 p.wb s' t n sa) (tty t)) (ht:s'.W1=s.W1) (hs:∀t' n' sa,1 <=t'->t' <=5->n'<2->¬(t'=t/\n'=n)->O7 p.wb s' t' n' sa=O7 p.wb s t' n' sa):eq0 p w' s' r:=by
 have stay:∀b,PF p r b->b≠p.sb t n->w'.heap[b]? =w.heap[b]?:=fun b hb o3=>hg.block b (h.vis hp hb).1 o3 fun e=>by
  subst e;rcases hy with z|z
  ·exact o3 z
  ·exact z hb
 obtain⟨_,hS⟩:=h.hS t n h1 h2 h3;refine⟨fun t' n' g1 g2 g3=>?_,?_,fun i hi=>?_,h.inj,fun b hb=>?_,h.lG⟩
 ·by_cases e:t'=t/\n'=n
  ·obtain⟨rfl,rfl⟩:=e;exact⟨sa,hB⟩
  ·obtain⟨sa',hS'⟩:=h.hS t' n' g1 g2 g3;exact⟨sa',by rw[hs t' n' sa' g1 g2 g3 e];exact(stay _ (.inl ⟨t',n',g1,g2,g3,rfl⟩) fun z=>e (hp.lm1 _ _ _ _ g1 g2 g3 h1 h2 h3 z)).trans hS'⟩
 ·rw[ht];exact(stay _ (.inr (.inl rfl)) (O0.ne h.hG hS (ok0 t).2.1.symm)).trans h.hG
 ·rw[ht];exact Own.congr (h.hL i hi) fun ha=>stay _ (.inr (.inr (.inl ⟨i,hi,ha,rfl⟩))) fun e=>Ea0 (h.hL i hi) hS (ok0 t).2.2 ha e.symm
 ·exact(stay b (.inr (.inr (.inr hb))) ((h.er1 hp hb).1 t n h1 h2 h3)).trans (h.ro b hb)
theorem aj0.of {b:Nat} (hg:w.grownBy w' (some b)):aj0 w w' b b:=(aj0.refl w b b).step (.inl rfl) hg
end
structure es1 (p:V3) (q:PR (L1 p)):Prop where
 new:∀i,q.ft.length <=i->q.s.W1 i=[]
 o5:∀i k,q.ft[i]? =some (.inl k)->(q.s.W1 i).length=k/\k<(p.bo i).length
 all:∀i,(q.s.W1 i).length <=(p.bo i).length
theorem up0 {ops:List O1} {k l:Nat} (h:R8 ops k= .inl l):l=k/\k<ops.length:=by
 unfold R8 at h;split at h
 ·cases h;exact⟨rfl,by assumption⟩
 ·cases h
theorem eg0 {p:V3}:∀q,(L1 p).Reach q->es1 p q:=by
 refine Sys.ind (Y:=L1 p) (fun q=>es1 p q) ⟨fun _ _=>rfl,(fun i l h=>by cases h),fun _=>Nat.zero_le _⟩ (fun q hq _=>?_) (fun q i k hq _ hf _=>?_)
 ·have hb:(L1 p).bgn q={q with s:=q.s,ft:=q.ft ++ [R8 (p.bo q.ft.length) 0],r2:=q.r2++tell q.ft.length q.evs.length [],outs:=q.outs ++ [C4 (p.bo q.ft.length) 0 q.s],who:=q.who ++ [none]}:=rfl;rw[hb];refine⟨fun j hj=>?_,fun j l h=>?_,hq.all⟩
  ·have hj:(q.ft ++ [R8 (p.bo q.ft.length) 0]).length <=j:=hj;rw[List.length_append,List.length_singleton]at hj;exact hq.new j (by omega)
  ·have h:(q.ft ++ [R8 (p.bo q.ft.length) 0])[j]? =some (.inl l):=h;rcases bb0 h with h'|⟨hj,h'⟩
   ·exact hq.o5 j l h'
   ·obtain⟨rfl,h2⟩:=up0 h';rw[hj];exact⟨by show(q.s.W1 q.ft.length).length=0;rw[hq.new _ (Nat.le_refl _)];rfl,h2⟩
 ·have hl:=(List.getElem?_eq_some_iff.1 hf).1;obtain⟨h1,h2⟩:=hq.o5 i k hf;obtain⟨o,ho⟩:∃o,(p.bo i)[k]? =some o:=⟨_,List.getElem?_eq_getElem h2⟩
  have ht:(L1 p).v5 q i={q with s:=(goP (p.bo i) i k q.s).s,ft:=q.ft.set i (goP (p.bo i) i k q.s).K8,evs:=q.evs ++ [(i,(L1 p).stp i k)],r2:=q.r2++tell i (q.evs.length+1) (goP (p.bo i) i k q.s).r2,outs:=q.outs ++ [goP (p.bo i) i k q.s],who:=q.who ++ [some i],used:=q.used+1}:=by
   unfold Sys.v5;rw[hf]
  rw[ht,wz0 ho];have e1:(J5 i (Z5 o q.s)).W1 i=q.s.W1 i ++ [(Z5 o q.s).2]:=by show D7 _ i _ i=_;rw[R3,K9]
  have e2:∀j,j≠i->(J5 i (Z5 o q.s)).W1 j=q.s.W1 j:=fun j hj=>by show D7 _ i _ j=_;rw[j4 hj,K9]
  refine⟨fun j hj=>?_,fun j l h=>?_,fun j=>?_⟩
  ·have hj:(q.ft.set i _).length <=j:=hj;rw[List.length_set]at hj;exact(e2 j (by omega)).trans (hq.new j hj)
  ·have h:(q.ft.set i (R8 (p.bo i) (k+1)))[j]? =some (.inl l):=h;by_cases V2:j=i
   ·subst V2;rw[List.getElem?_set_self hl]at h;obtain⟨rfl,h3⟩:=up0 (Option.some.inj h);exact⟨by show((J5 j (Z5 o q.s)).W1 j).length=_;rw[e1,List.length_append,h1];rfl,h3⟩
   ·rw[List.getElem?_set_ne (Ne.symm V2)]at h;exact⟨by show((J5 i (Z5 o q.s)).W1 j).length=_;rw[e2 j V2];exact(hq.o5 j l h).1,(hq.o5 j l h).2⟩
  ·show((J5 i (Z5 o q.s)).W1 j).length <=_;by_cases V2:j=i
   ·subst V2;rw[e1,List.length_append,h1];exact h2
   ·rw[e2 j V2];exact hq.all j
noncomputable abbrev O2 (p:V3) (fb:Nat->FuncId) (q:PR (L1 p)) (w00:World) (i cb:Nat) (top:List Frame):L9 prog:=(L1 p).cfg fb q w00 i cb top
structure O9 (p:V3) (w:World) (s:PS) (r:j6):Prop where
 ok:y5 p
 mem:eq0 p w s r
section
variable {p:V3}{w w' u:World}{fb:Nat->FuncId}{q:PR (L1 p)}{w00:World}{i cb:Nat}{top:List Frame}{s:PS}{r:j6}{k:Nat}{o:O1}
theorem O9.j0 (h:O9 p w s r) (hb:Below w.heap.size w w'):O9 p w' s r:=⟨h.ok,h.mem.congr fun b hF=>hb.block b (h.mem.vis h.ok hF).1⟩
theorem O9.fresh (h:O9 p w s r) {b:Nat} (hb:w.heap.size <=b):¬PF p r b:=fun z=>by have:=(h.mem.vis h.ok z).1;omega
theorem O9.W1 (h:O9 p w s r) (hc:CSt (O2 p fb q w00 i cb top) w ⟨s,[],.inl k⟩):(O2 p fb q w00 i cb top).Told w (gm w) (PF p r) (.inl k):=hc.W1 rfl (fun _ _=>trivial) ⟨r,rfl,h.mem⟩
theorem O9.done {v:Value} (h:O9 p w s r) (hc:CSt (O2 p fb q w00 i cb top) w ⟨s,[],.inr 1⟩):∃F,(O2 p fb q w00 i cb top).Bf0 w F (.returned v):=⟨_,hc.done (m:=gm w) rfl (fun _ _=>trivial) ⟨r,rfl,h.mem⟩⟩
theorem O9.start {F:Nat->Prop} (hs:Bt0 (O2 p fb q w00 i cb top) (fun s=>C4 (p.bo i) 0 s) u F) (hp:y5 p):∃s r,O9 p u s r/\CSt (O2 p fb q w00 i cb top) u (C4 (p.bo i) 0 s)/\(s.W1 i).length <=0:=by
 obtain⟨ht,p',hR,_,h1,h2⟩:=hs.at_
 have hl:=eg0 p' hR;have Z0:=hl.new i (Nat.le_of_eq h2);rw[h1]at Z0;obtain⟨r,hF,hM⟩:Xj0 p ((L1 p).sAt q (gh u 0)) (gm u) u F:=hs.inv;exact⟨_,r,⟨hp,hM⟩,⟨hs.on,hs.r2,hs.out,rfl,hs.os,hs.output⟩,by rw[Z0];exact Nat.le_refl _⟩
theorem g9 {F F':Nat->Prop} {m:Gm} (hg:(O2 p fb q w00 i cb top).I5 w m F u F'):∃r1,F'=PF p r1/\eq0 p u ((L1 p).sAt q (gh u 0)) r1:=hg.inv
theorem Y4 (hp:y5 p) {F F':Nat->Prop} {m:Gm} (hc:CSt (O2 p fb q w00 i cb top) w ⟨s,[],.inl k⟩) (ho:(p.bo i)[k]? =some o) (hg:(O2 p fb q w00 i cb top).Goes w m F k u F'):∃r1,F'=PF p r1/\O9 p u ((L1 p).sAt q (gh u 0)) r1/\CSt (O2 p fb q w00 i cb top) u (C4 (p.bo i) (k+1) (J5 i (Z5 o ((L1 p).sAt q (gh u 0)))))/\(((L1 p).sAt q (gh u 0)).W1 i).length=k:=by
 obtain⟨r1,hF,hM⟩:=g9 hg.L7;obtain⟨ht,p',hR,_,h1,h2⟩:=hg.at_
 have hl:=(eg0 p' hR).o5 i k h2;rw[h1]at hl;have j9:=hc.goes hg (fun s=>Eb0 (p.bo i) i k s);have e1:(O2 p fb q w00 i cb top).go k ((O2 p fb q w00 i cb top).sOf (gh u 0))=C4 (p.bo i) (k+1) (J5 i (Z5 o ((L1 p).sAt q (gh u 0)))):=wz0 ho;rw[e1]at j9;exact⟨r1,hF,⟨hp,hM⟩,j9,hl.1⟩
theorem P9 (ho:(p.bo i)[k]? =some o) {a b:Int} (ha:o.call=a) (hb:o.I3=b):(O2 p fb q w00 i cb top).stp k=⟨a,b,(Q0 o:Nat)⟩:=by
 show(match(p.bo i)[k]? with|some o=>(⟨o.call,o.I3,(Q0 o:Nat)⟩:Stp)|none=>⟨0,0,0⟩)=_;rw[ho,<- ha,<- hb]
theorem xa0 (ho:(p.bo i)[k]? =some o) (s:PS):(O2 p fb q w00 i cb top).rdy k s=O8 o s:=by
 show(match(p.bo i)[k]? with|some o=>O8 o s|none=>true)=_;rw[ho]
theorem ak0 (ho:(p.bo i)[k]? =some o) (h1:o.call≠1) (h3:o.call≠3) (s:PS):(O2 p fb q w00 i cb top).rdy k s=true:=by
 rw[xa0 ho];unfold O8;rw[if_neg h1,if_neg h3]
theorem bw0 (h:o.call=5\/o.call=8) {t:Nat} (hT:pT o=t) (s:PS):Z5 o s=(s,s.val t (Q0 o)):=by
 unfold Z5;rw[hT];rw[if_neg (by omega),if_neg (by omega),if_neg (by omega),if_neg (by omega),if_neg (by omega),if_neg (by omega)]
theorem fy0 (h:o.call=6\/o.call=9) {t:Nat} (hT:pT o=t) (s:PS):Z5 o s=({s with val:=up2 s.val t (Q0 o) o.val},0):=by
 unfold Z5;rw[hT];rw[if_neg (by omega),if_neg (by omega),if_neg (by omega),if_neg (by omega),if_pos (by omega)]
theorem xb0 (h:o.call=7) {t:Nat} (hT:pT o=t) (s:PS):Z5 o s=({s with val:=up2 s.val t (Q0 o) (IntKind.i64.wrap (s.val t (Q0 o)+o.val))},IntKind.i64.wrap (s.val t (Q0 o)+o.val)):=by
 unfold Z5;rw[hT];rw[if_neg (by omega),if_neg (by omega),if_neg (by omega),if_neg (by omega),if_neg (by omega),if_pos (by omega)]
theorem Ec0 (h:o.call=1) {t:Nat} (hT:pT o=t) (s:PS):Z5 o s=({s with held:=up2 s.held t (Q0 o) true},0):=by
 unfold Z5;rw[hT,if_pos h]
theorem Ed0 (h:o.call=2) {t:Nat} (hT:pT o=t) (s:PS):Z5 o s=({s with held:=up2 s.held t (Q0 o) false},0):=by
 unfold Z5;rw[hT,if_neg (by omega),if_pos h]
theorem Lo0 (h:o.call=3) {t:Nat} (_:pT o=t) (s:PS):Z5 o s=({s with u4:=D7 s.u4 (Q0 o) (IntKind.i64.wrap (s.u4 (Q0 o)+1))},0):=by
 unfold Z5;rw[if_neg (by omega),if_neg (by omega),if_pos h]
theorem Ee0 (h:o.call=4) {t:Nat} (_:pT o=t) (s:PS):Z5 o s=({s with u4:=D7 s.u4 (Q0 o) (max 0 (IntKind.i64.wrap (s.u4 (Q0 o)-1)))},0):=by
 unfold Z5;rw[if_neg (by omega),if_neg (by omega),if_neg (by omega),if_pos h]
theorem Cd0 {wb t n t' n':Nat} {v:Int} {sa:Value} (h:¬(t'=t/\n'=n)):O7 wb {s with val:=up2 s.val t n v} t' n' sa=O7 wb s t' n' sa:=by
 unfold O7;simp only[wy0 h];rfl
theorem Ef0 {wb t n t' n':Nat} {v:Bool} {sa:Value} (h:¬(t'=t/\n'=n)):O7 wb {s with held:=up2 s.held t n v} t' n' sa=O7 wb s t' n' sa:=by
 unfold O7;simp only[wy0 h];rfl
theorem Eg0 {wb n t' n':Nat} {v:Int} {sa:Value} (h:¬(t'=2/\n'=n)):O7 wb {s with u4:=D7 s.u4 n v} t' n' sa=O7 wb s t' n' sa:=by
 have e:prd {s with u4:=D7 s.u4 n v} t' n'=prd s t' n':=by
  unfold prd;split
  ·exact j4 fun e=>h ⟨by assumption,e⟩
  ·rfl
 unfold O7;rw[e]
theorem ko0 {b:Nat} {a1 a2:Value} {h h':Bool} {x x':Int} {T T':TypeId} (h1:O0 w b #[a1,a2,.bool h,.int .i64 x] T) (h2:O0 w b #[a1,a2,.bool h',.int .i64 x'] T'):h=h'/\x=x':=by
 have e:(some (Obj.cells #[a1,a2,.bool h,.int .i64 x] T (0,0)))=some (Obj.cells #[a1,a2,.bool h',.int .i64 x'] T' (0,0)):=h1.symm.trans h2;injection e with e
 injection e with e
 have e3:=congrArg (fun a:Array Value=>a.toList) e;simp at e3;exact e3
def L6 (p:V3) (fb:Nat->FuncId) (q:PR (L1 p)) (w00:World) (i cb:Nat) (top:List Frame) (k:Nat) (o:O1) (w:World) (A:Value->Int->Prop):Ending->World->Prop :=
 L3 (O2 p fb q w00 i cb top) w fun v u=>∃s1 r1,O9 p u (Z5 o s1).1 r1/\CSt (O2 p fb q w00 i cb top) u (C4 (p.bo i) (k+1) (J5 i (Z5 o s1)))/\(s1.W1 i).length=k/\A v (Z5 o s1).2
end
theorem Qs0 {p:V3} {fb:Nat->FuncId} {q:PR (L1 p)} {w00:World} {i cb:Nat} {top:List Frame} {s:PS} {r:j6} {k:Nat} {o:O1} (hp:y5 p) (w0:World) (hE:O9 p w0 s r) (hc:CSt (O2 p fb q w00 i cb top) w0 ⟨s,[],.inl k⟩) (ho:(p.bo i)[k]? =some o) (h5:o.I3=5) (h8:o.call=8) :
  @Calls prog (N0 (O2 p fb q w00 i cb top)) 22 #[.pointer (some ⟨p.sb 5 (Q0 o),0,none⟩),.pointer (some ⟨cb,0,none⟩)] w0 (L6 p fb q w00 i cb top k o w0 fun v x=>v= .int .i64 x):=by
 have hT:=hE.W1 hc;have hP:pT o=5:=by unfold pT;rw[h5];rfl
 obtain⟨sa,hC⟩:=hE.mem.hS 5 (Q0 o) (by decide) (by decide) (J0 o);refine @Calls.mono _ (N0 (O2 p fb q w00 i cb top)) _ _ _ _ _ (Qj0 (Sys.kok (ji0 hp)) (p.sb 5 (Q0 o)) p.wb 5 (Q0 o:Nat) (fun tt=>((L1 p).sAt q tt).val 5 (Q0 o)) _ w0 hT (P9 ho h8 h5) (ak0 ho (by omega) (by omega)) (hE.mem.rob hp.hW) hC (fun u F' hg=>?_)) fun e u he=>?_
 ·obtain⟨r1,rfl,W7,_,_⟩:=Y4 hp hc ho hg;obtain⟨_,hh⟩:=W7.mem.hS 5 (Q0 o) (by decide) (by decide) (J0 o);exact hh
 ·cases e with
  |outgrown=>exact he
  |panicked ch=>exact he
  |returned v=>
   obtain⟨F',tt,hg,htt,rfl⟩:=he;obtain⟨r1,rfl,W7,j9,hl⟩:=Y4 hp hc ho hg.goes;have e1:=htt.eq;refine⟨_,r1,?_,j9,hl,?_⟩
   ·rw[bw0 (by omega) hP];exact W7
   ·rw[bw0 (by omega) hP,e1]
theorem Qt0 {p:V3} {fb:Nat->FuncId} {q:PR (L1 p)} {w00:World} {i cb:Nat} {top:List Frame} {s:PS} {r:j6} {k:Nat} {o:O1} (hp:y5 p) (w0:World) (hE:O9 p w0 s r) (hc:CSt (O2 p fb q w00 i cb top) w0 ⟨s,[],.inl k⟩) (ho:(p.bo i)[k]? =some o) (h5:o.I3=4) (h8:o.call=5) :
  @Calls prog (N0 (O2 p fb q w00 i cb top)) 29 #[.pointer (some ⟨p.sb 4 (Q0 o),0,none⟩),.pointer (some ⟨cb,0,none⟩)] w0 (L6 p fb q w00 i cb top k o w0 fun v x=>v= .int .i64 x):=by
 have hT:=hE.W1 hc;have hP:pT o=4:=by unfold pT;rw[h5];rfl
 obtain⟨sa,hC⟩:=hE.mem.hS 4 (Q0 o) (by decide) (by decide) (J0 o);refine @Calls.mono _ (N0 (O2 p fb q w00 i cb top)) _ _ _ _ _ (Qm0 (Sys.kok (ji0 hp)) (p.sb 4 (Q0 o)) p.wb 4 (Q0 o:Nat) (fun tt=>((L1 p).sAt q tt).val 4 (Q0 o)) _ sa w0 hT (P9 ho h8 h5) (ak0 ho (by omega) (by omega)) (hE.mem.rob hp.hW) hC (fun u F' hg=>?_)) fun e u he=>?_
 ·obtain⟨r1,rfl,W7,_,_⟩:=Y4 hp hc ho hg;obtain⟨_,hh⟩:=W7.mem.hS 4 (Q0 o) (by decide) (by decide) (J0 o);exact⟨_,hh⟩
 ·cases e with
  |outgrown=>exact he
  |panicked ch=>exact he
  |returned v=>
   obtain⟨F',tt,hg,htt,rfl⟩:=he;obtain⟨r1,rfl,W7,j9,hl⟩:=Y4 hp hc ho hg.goes;have e1:=htt.eq;refine⟨_,r1,?_,j9,hl,?_⟩
   ·rw[bw0 (by omega) hP];exact W7
   ·rw[bw0 (by omega) hP,e1]
theorem Qu0 {p:V3} {fb:Nat->FuncId} {q:PR (L1 p)} {w00:World} {i cb:Nat} {top:List Frame} {s:PS} {r:j6} {k:Nat} {o:O1} (hp:y5 p) (w0:World) (hE:O9 p w0 s r) (hc:CSt (O2 p fb q w00 i cb top) w0 ⟨s,[],.inl k⟩) (ho:(p.bo i)[k]? =some o) (h5:o.I3=3) (h8:o.call=5) :
  @Calls prog (N0 (O2 p fb q w00 i cb top)) 34 #[.pointer (some ⟨p.sb 3 (Q0 o),0,none⟩),.pointer (some ⟨cb,0,none⟩)] w0 (L6 p fb q w00 i cb top k o w0 fun v x=>v= .int .i64 x):=by
 have hT:=hE.W1 hc;have hP:pT o=3:=by unfold pT;rw[h5];rfl
 obtain⟨sa,hC⟩:=hE.mem.hS 3 (Q0 o) (by decide) (by decide) (J0 o);refine @Calls.mono _ (N0 (O2 p fb q w00 i cb top)) _ _ _ _ _ (Qo0 (Sys.kok (ji0 hp)) (p.sb 3 (Q0 o)) p.wb 3 (Q0 o:Nat) (fun tt=>((L1 p).sAt q tt).val 3 (Q0 o)) _ sa w0 hT (P9 ho h8 h5) (ak0 ho (by omega) (by omega)) (hE.mem.rob hp.hW) hC (fun u F' hg=>?_)) fun e u he=>?_
 ·obtain⟨r1,rfl,W7,_,_⟩:=Y4 hp hc ho hg;obtain⟨_,hh⟩:=W7.mem.hS 3 (Q0 o) (by decide) (by decide) (J0 o);exact⟨_,hh⟩
 ·cases e with
  |outgrown=>exact he
  |panicked ch=>exact he
  |returned v=>
   obtain⟨F',tt,hg,htt,rfl⟩:=he;obtain⟨r1,rfl,W7,j9,hl⟩:=Y4 hp hc ho hg.goes;have e1:=htt.eq;refine⟨_,r1,?_,j9,hl,?_⟩
   ·rw[bw0 (by omega) hP];exact W7
   ·rw[bw0 (by omega) hP,e1]
theorem Qv0 {p:V3} {fb:Nat->FuncId} {q:PR (L1 p)} {w00:World} {i cb:Nat} {top:List Frame} {s:PS} {r:j6} {k:Nat} {o:O1} (hp:y5 p) (w0:World) (hE:O9 p w0 s r) (hc:CSt (O2 p fb q w00 i cb top) w0 ⟨s,[],.inl k⟩) (ho:(p.bo i)[k]? =some o) (h5:o.I3=5) (h8:o.call=9) :
  @Calls prog (N0 (O2 p fb q w00 i cb top)) 21 #[.pointer (some ⟨p.sb 5 (Q0 o),0,none⟩),.pointer (some ⟨cb,0,none⟩),.int .i64 o.val] w0 (L6 p fb q w00 i cb top k o w0 fun v x=>v= .tuple #[]/\x=0):=by
 have hT:=hE.W1 hc;have hP:pT o=5:=by unfold pT;rw[h5];rfl
 obtain⟨sa,hC⟩:=hE.mem.hS 5 (Q0 o) (by decide) (by decide) (J0 o);refine @Calls.mono _ (N0 (O2 p fb q w00 i cb top)) _ _ _ _ _ (Qk0 (Sys.kok (ji0 hp)) (p.sb 5 (Q0 o)) p.wb 5 (Q0 o:Nat) o.val _ w0 hT (P9 ho h8 h5) (ak0 ho (by omega) (by omega)) (hE.mem.rob hp.hW) hC (fun u F' hg=>?_)) fun e u he=>?_
 ·obtain⟨r1,rfl,W7,_,_⟩:=Y4 hp hc ho hg;obtain⟨_,hh⟩:=W7.mem.hS 5 (Q0 o) (by decide) (by decide) (J0 o);exact⟨_,hh⟩
 ·cases e with
  |outgrown=>exact he
  |panicked ch=>exact he
  |returned v=>
   obtain⟨rfl,u0,F',hg,hB,P3⟩:=he;obtain⟨r1,rfl,W7,j9,hl⟩:=Y4 hp hc ho hg.goes
   skip
   refine⟨_,r1,?_,j9.G5 P3 trivial,hl,rfl,by rw[fy0 (by omega) hP]⟩;rw[fy0 (by omega) hP];exact⟨hp,W7.mem.set hp (sa:=sa) (by decide) (by decide) (J0 o) (aj0.of P3) (.inl rfl) (by unfold O7;simp only[fi0];exact hB) rfl fun _ _ _ _ _ _ h=>Cd0 h⟩
theorem Qw0 {p:V3} {fb:Nat->FuncId} {q:PR (L1 p)} {w00:World} {i cb:Nat} {top:List Frame} {s:PS} {r:j6} {k:Nat} {o:O1} (hp:y5 p) (w0:World) (hE:O9 p w0 s r) (hc:CSt (O2 p fb q w00 i cb top) w0 ⟨s,[],.inl k⟩) (ho:(p.bo i)[k]? =some o) (h5:o.I3=4) (h8:o.call=6) :
  @Calls prog (N0 (O2 p fb q w00 i cb top)) 26 #[.pointer (some ⟨p.sb 4 (Q0 o),0,none⟩),.pointer (some ⟨cb,0,none⟩),.int .i64 o.val] w0 (L6 p fb q w00 i cb top k o w0 fun v x=>v= .tuple #[]/\x=0):=by
 have hT:=hE.W1 hc;have hP:pT o=4:=by unfold pT;rw[h5];rfl
 obtain⟨sa,hC⟩:=hE.mem.hS 4 (Q0 o) (by decide) (by decide) (J0 o);refine @Calls.mono _ (N0 (O2 p fb q w00 i cb top)) _ _ _ _ _ (Qn0 (Sys.kok (ji0 hp)) (p.sb 4 (Q0 o)) p.wb 4 (Q0 o:Nat) o.val _ sa w0 hT (P9 ho h8 h5) (ak0 ho (by omega) (by omega)) (hE.mem.rob hp.hW) hC (fun u F' hg=>?_)) fun e u he=>?_
 ·obtain⟨r1,rfl,W7,_,_⟩:=Y4 hp hc ho hg;obtain⟨_,hh⟩:=W7.mem.hS 4 (Q0 o) (by decide) (by decide) (J0 o);exact⟨_,_,hh⟩
 ·cases e with
  |outgrown=>exact he
  |panicked ch=>exact he
  |returned v=>
   obtain⟨rfl,u0,F',hg,hB,P3,_⟩:=he;obtain⟨r1,rfl,W7,j9,hl⟩:=Y4 hp hc ho hg.goes;obtain⟨sa2,hB⟩:=hB;refine⟨_,r1,?_,j9.G5 P3 trivial,hl,rfl,by rw[fy0 (by omega) hP]⟩;rw[fy0 (by omega) hP];exact⟨hp,W7.mem.set hp (sa:=sa2) (by decide) (by decide) (J0 o) (aj0.of P3) (.inl rfl) (by unfold O7;simp only[fi0];exact hB) rfl fun _ _ _ _ _ _ h=>Cd0 h⟩
theorem Qx0 {p:V3} {fb:Nat->FuncId} {q:PR (L1 p)} {w00:World} {i cb:Nat} {top:List Frame} {s:PS} {r:j6} {k:Nat} {o:O1} (hp:y5 p) (w0:World) (hE:O9 p w0 s r) (hc:CSt (O2 p fb q w00 i cb top) w0 ⟨s,[],.inl k⟩) (ho:(p.bo i)[k]? =some o) (h5:o.I3=3) (h8:o.call=7) :
  @Calls prog (N0 (O2 p fb q w00 i cb top)) 24 #[.pointer (some ⟨p.sb 3 (Q0 o),0,none⟩),.pointer (some ⟨cb,0,none⟩),.int .i64 o.val] w0 (L6 p fb q w00 i cb top k o w0 fun v x=>v= .int .i64 x):=by
 have hT:=hE.W1 hc;have hP:pT o=3:=by unfold pT;rw[h5];rfl
 obtain⟨sa,hC⟩:=hE.mem.hS 3 (Q0 o) (by decide) (by decide) (J0 o);refine @Calls.mono _ (N0 (O2 p fb q w00 i cb top)) _ _ _ _ _ (Qq0 (Sys.kok (ji0 hp)) (p.sb 3 (Q0 o)) p.wb 3 (Q0 o:Nat) (fun tt=>((L1 p).sAt q tt).val 3 (Q0 o)) _ o.val sa w0 hT (P9 ho h8 h5) (ak0 ho (by omega) (by omega)) (hE.mem.rob hp.hW) hC (fun u F' hg=>?_)) fun e u he=>?_
 ·obtain⟨r1,rfl,W7,_,_⟩:=Y4 hp hc ho hg;obtain⟨_,hh⟩:=W7.mem.hS 3 (Q0 o) (by decide) (by decide) (J0 o);exact⟨_,hh⟩
 ·cases e with
  |outgrown=>exact he
  |panicked ch=>exact he
  |returned v=>
   obtain⟨u0,F',tt,sa2,hg,htt,rfl,hB,y,hy1,hy2,hm2,_⟩:=he;obtain⟨r1,rfl,W7,j9,hl⟩:=Y4 hp hc ho hg.goes;subst htt;refine⟨_,r1,?_,j9.to hm2.tape hm2.os hm2.output,hl,by rw[xb0 h8 hP]⟩;rw[xb0 h8 hP];exact⟨hp,W7.mem.set hp (sa:=sa2) (by decide) (by decide) (J0 o) hm2 (.inr hy2) (by unfold O7;simp only[fi0];exact hB) rfl fun _ _ _ _ _ _ h=>Cd0 h⟩
theorem Lp0 {p:V3} {fb:Nat->FuncId} {q:PR (L1 p)} {w00:World} {i cb:Nat} {top:List Frame} {s:PS} {r:j6} {k:Nat} {o:O1} (hp:y5 p) (w0:World) (hE:O9 p w0 s r) (hc:CSt (O2 p fb q w00 i cb top) w0 ⟨s,[],.inl k⟩) (ho:(p.bo i)[k]? =some o) (h5:o.I3=1) (h8:o.call=1) :
  @Calls prog (N0 (O2 p fb q w00 i cb top)) 20 #[.pointer (some ⟨p.mb 1 (Q0 o),0,none⟩),.pointer (some ⟨cb,0,none⟩)] w0 (L6 p fb q w00 i cb top k o w0 fun v x=>v= .tuple #[]/\x=0):=by
 have hT:=hE.W1 hc;have hP:pT o=1:=by unfold pT;rw[h5];rfl
 obtain⟨sa,hC⟩:=hE.mem.hS 1 (Q0 o) (by decide) (by decide) (J0 o);refine @Calls.mono _ (N0 (O2 p fb q w00 i cb top)) _ _ _ _ _ (Lk0 (Sys.kok (ji0 hp)) (p.sb 1 (Q0 o)) 1 (Q0 o:Nat) _ _ (p.mb 1 (Q0 o)) w0 hT (P9 ho h8 h5) (hE.mem.rob (hp.hM 1 (Q0 o) (by decide) (by decide) (J0 o))) hC (fun u F' hl=>?_)) fun e u he=>?_
 ·obtain⟨r1,rfl,hM⟩:=g9 hl;obtain⟨_,hh⟩:=hM.hS 1 (Q0 o) (by decide) (by decide) (J0 o);exact⟨_,_,hh,by refine(xa0 (fb:=fb) (w00:=w00) (cb:=cb) (top:=top) ho _).trans ?_;unfold O8;rw[if_pos h8,hP];rfl⟩
 ·cases e with
  |outgrown=>exact he
  |panicked ch=>exact he
  |returned v=>
   obtain⟨rfl,u0,F',h',r',hg,K6,hB,P3,_⟩:=he;obtain⟨r1,rfl,W7,j9,hl⟩:=Y4 hp hc ho hg.goes;obtain⟨_,hS1⟩:=W7.mem.hS 1 (Q0 o) (by decide) (by decide) (J0 o);obtain⟨rfl,rfl⟩:=ko0 K6 hS1;refine⟨_,r1,?_,j9.G5 P3 trivial,hl,rfl,by rw[Ec0 h8 hP]⟩;exact U379
theorem Ce0 {p:V3} {fb:Nat->FuncId} {q:PR (L1 p)} {w00:World} {i cb:Nat} {top:List Frame} {s:PS} {r:j6} {k:Nat} {o:O1} (hp:y5 p) (w0:World) (hE:O9 p w0 s r) (hc:CSt (O2 p fb q w00 i cb top) w0 ⟨s,[],.inl k⟩) (ho:(p.bo i)[k]? =some o) (h5:o.I3=1) (h8:o.call=2) :
  @Calls prog (N0 (O2 p fb q w00 i cb top)) 23 #[.pointer (some ⟨p.mb 1 (Q0 o),0,none⟩),.pointer (some ⟨cb,0,none⟩)] w0 (L6 p fb q w00 i cb top k o w0 fun v x=>v= .tuple #[]/\x=0):=by
 have hT:=hE.W1 hc;have hP:pT o=1:=by unfold pT;rw[h5];rfl
 obtain⟨sa,hC⟩:=hE.mem.hS 1 (Q0 o) (by decide) (by decide) (J0 o);refine @Calls.mono _ (N0 (O2 p fb q w00 i cb top)) _ _ _ _ _ (Bz0 (Sys.kok (ji0 hp)) (p.sb 1 (Q0 o)) 1 (Q0 o:Nat) _ _ (p.mb 1 (Q0 o)) w0 hT (P9 ho h8 h5) (ak0 ho (by omega) (by omega)) (hE.mem.rob (hp.hM 1 (Q0 o) (by decide) (by decide) (J0 o))) hC (fun u F' hl=>?_)) fun e u he=>?_
 ·obtain⟨r1,rfl,hM⟩:=g9 hl;obtain⟨_,hh⟩:=hM.hS 1 (Q0 o) (by decide) (by decide) (J0 o);exact⟨_,_,hh⟩
 ·cases e with
  |outgrown=>exact he
  |panicked ch=>exact he
  |returned v=>
   obtain⟨rfl,u0,F',h',r',hg,K6,hB,P3,_⟩:=he;obtain⟨r1,rfl,W7,j9,hl⟩:=Y4 hp hc ho hg.goes;obtain⟨_,hS1⟩:=W7.mem.hS 1 (Q0 o) (by decide) (by decide) (J0 o);obtain⟨rfl,rfl⟩:=ko0 K6 hS1;refine⟨_,r1,?_,j9.G5 P3 trivial,hl,rfl,by rw[Ed0 h8 hP]⟩;exact U380
theorem Lq0 {p:V3} {fb:Nat->FuncId} {q:PR (L1 p)} {w00:World} {i cb:Nat} {top:List Frame} {s:PS} {r:j6} {k:Nat} {o:O1} (hp:y5 p) (w0:World) (hE:O9 p w0 s r) (hc:CSt (O2 p fb q w00 i cb top) w0 ⟨s,[],.inl k⟩) (ho:(p.bo i)[k]? =some o) (h5:o.I3=2) (h8:o.call=1) :
  @Calls prog (N0 (O2 p fb q w00 i cb top)) 25 #[.pointer (some ⟨p.mb 2 (Q0 o),0,none⟩),.pointer (some ⟨cb,0,none⟩)] w0 (L6 p fb q w00 i cb top k o w0 fun v x=>v= .tuple #[]/\x=0):=by
 have hT:=hE.W1 hc;have hP:pT o=2:=by unfold pT;rw[h5];rfl
 obtain⟨sa,hC⟩:=hE.mem.hS 2 (Q0 o) (by decide) (by decide) (J0 o);refine @Calls.mono _ (N0 (O2 p fb q w00 i cb top)) _ _ _ _ _ (Ll0 (Sys.kok (ji0 hp)) (p.sb 2 (Q0 o)) 2 (Q0 o:Nat) _ _ (p.mb 2 (Q0 o)) w0 hT (P9 ho h8 h5) (hE.mem.rob (hp.hM 2 (Q0 o) (by decide) (by decide) (J0 o))) hC (fun u F' hl=>?_)) fun e u he=>?_
 ·obtain⟨r1,rfl,hM⟩:=g9 hl;obtain⟨_,hh⟩:=hM.hS 2 (Q0 o) (by decide) (by decide) (J0 o);exact⟨_,_,hh,by refine(xa0 (fb:=fb) (w00:=w00) (cb:=cb) (top:=top) ho _).trans ?_;unfold O8;rw[if_pos h8,hP];rfl⟩
 ·cases e with
  |outgrown=>exact he
  |panicked ch=>exact he
  |returned v=>
   obtain⟨rfl,u0,F',h',r',hg,K6,hB,P3,_⟩:=he;obtain⟨r1,rfl,W7,j9,hl⟩:=Y4 hp hc ho hg.goes;obtain⟨_,hS1⟩:=W7.mem.hS 2 (Q0 o) (by decide) (by decide) (J0 o);obtain⟨rfl,rfl⟩:=ko0 K6 hS1;refine⟨_,r1,?_,j9.G5 P3 trivial,hl,rfl,by rw[Ec0 h8 hP]⟩;exact U379
theorem Cf0 {p:V3} {fb:Nat->FuncId} {q:PR (L1 p)} {w00:World} {i cb:Nat} {top:List Frame} {s:PS} {r:j6} {k:Nat} {o:O1} (hp:y5 p) (w0:World) (hE:O9 p w0 s r) (hc:CSt (O2 p fb q w00 i cb top) w0 ⟨s,[],.inl k⟩) (ho:(p.bo i)[k]? =some o) (h5:o.I3=2) (h8:o.call=2) :
  @Calls prog (N0 (O2 p fb q w00 i cb top)) 27 #[.pointer (some ⟨p.mb 2 (Q0 o),0,none⟩),.pointer (some ⟨cb,0,none⟩)] w0 (L6 p fb q w00 i cb top k o w0 fun v x=>v= .tuple #[]/\x=0):=by
 have hT:=hE.W1 hc;have hP:pT o=2:=by unfold pT;rw[h5];rfl
 obtain⟨sa,hC⟩:=hE.mem.hS 2 (Q0 o) (by decide) (by decide) (J0 o);refine @Calls.mono _ (N0 (O2 p fb q w00 i cb top)) _ _ _ _ _ (Ca0 (Sys.kok (ji0 hp)) (p.sb 2 (Q0 o)) 2 (Q0 o:Nat) _ _ (p.mb 2 (Q0 o)) w0 hT (P9 ho h8 h5) (ak0 ho (by omega) (by omega)) (hE.mem.rob (hp.hM 2 (Q0 o) (by decide) (by decide) (J0 o))) hC (fun u F' hl=>?_)) fun e u he=>?_
 ·obtain⟨r1,rfl,hM⟩:=g9 hl;obtain⟨_,hh⟩:=hM.hS 2 (Q0 o) (by decide) (by decide) (J0 o);exact⟨_,_,hh⟩
 ·cases e with
  |outgrown=>exact he
  |panicked ch=>exact he
  |returned v=>
   obtain⟨rfl,u0,F',h',r',hg,K6,hB,P3,_⟩:=he;obtain⟨r1,rfl,W7,j9,hl⟩:=Y4 hp hc ho hg.goes;obtain⟨_,hS1⟩:=W7.mem.hS 2 (Q0 o) (by decide) (by decide) (J0 o);obtain⟨rfl,rfl⟩:=ko0 K6 hS1;refine⟨_,r1,?_,j9.G5 P3 trivial,hl,rfl,by rw[Ed0 h8 hP]⟩;exact U380
theorem Fv0 {p:V3} {fb:Nat->FuncId} {q:PR (L1 p)} {w00:World} {i cb:Nat} {top:List Frame} {s:PS} {r:j6} {k:Nat} {o:O1} (hp:y5 p) (w0:World) (hE:O9 p w0 s r) (hc:CSt (O2 p fb q w00 i cb top) w0 ⟨s,[],.inl k⟩) (ho:(p.bo i)[k]? =some o) (h5:o.I3=2) (h8:o.call=3) :
  @Calls prog (N0 (O2 p fb q w00 i cb top)) 28 #[.pointer (some ⟨p.mb 2 (Q0 o),0,none⟩),.pointer (some ⟨cb,0,none⟩)] w0 (L6 p fb q w00 i cb top k o w0 fun v x=>v= .tuple #[]/\x=0):=by
 have hT:=hE.W1 hc;have hP:pT o=2:=by unfold pT;rw[h5];rfl
 obtain⟨sa,hC⟩:=hE.mem.hS 2 (Q0 o) (by decide) (by decide) (J0 o);refine @Calls.mono _ (N0 (O2 p fb q w00 i cb top)) _ _ _ _ _ (Fu0 (Sys.kok (ji0 hp)) (p.sb 2 (Q0 o)) 2 (Q0 o:Nat) _ _ (p.mb 2 (Q0 o)) w0 hT (P9 ho h8 h5) (hE.mem.rob (hp.hM 2 (Q0 o) (by decide) (by decide) (J0 o))) hC (fun u F' hl=>?_)) fun e u he=>?_
 ·obtain⟨r1,rfl,hM⟩:=g9 hl;obtain⟨_,hh⟩:=hM.hS 2 (Q0 o) (by decide) (by decide) (J0 o);exact⟨_,_,hh,by refine(xa0 (fb:=fb) (w00:=w00) (cb:=cb) (top:=top) ho _).trans ?_;unfold O8;rw[if_neg (by omega),if_pos h8];rfl⟩
 ·cases e with
  |outgrown=>exact he
  |panicked ch=>exact he
  |returned v=>
   obtain⟨rfl,u0,F',h',r',hg,K6,hB,P3,_⟩:=he;obtain⟨r1,rfl,W7,j9,hl⟩:=Y4 hp hc ho hg.goes;obtain⟨_,hS1⟩:=W7.mem.hS 2 (Q0 o) (by decide) (by decide) (J0 o);obtain⟨rfl,rfl⟩:=ko0 K6 hS1;refine⟨_,r1,?_,j9.G5 P3 trivial,hl,rfl,by rw[Lo0 h8 hP]⟩;rw[Lo0 h8 hP];exact⟨hp,W7.mem.set hp (sa:=sa) (by decide) (by decide) (J0 o) (aj0.of P3) (.inl rfl) (by unfold O7 prd;simp only[R3];exact hB) rfl fun _ _ _ _ _ _ h=>Eg0 h⟩
theorem zs0 {p:V3} {fb:Nat->FuncId} {q:PR (L1 p)} {w00:World} {i cb:Nat} {top:List Frame} {s:PS} {r:j6} {k:Nat} {o:O1} (hp:y5 p) (w0:World) (hE:O9 p w0 s r) (hc:CSt (O2 p fb q w00 i cb top) w0 ⟨s,[],.inl k⟩) (ho:(p.bo i)[k]? =some o) (h5:o.I3=2) (h8:o.call=4) :
  @Calls prog (N0 (O2 p fb q w00 i cb top)) 30 #[.pointer (some ⟨p.mb 2 (Q0 o),0,none⟩),.pointer (some ⟨cb,0,none⟩)] w0 (L6 p fb q w00 i cb top k o w0 fun v x=>v= .tuple #[]/\x=0):=by
 have hT:=hE.W1 hc;have hP:pT o=2:=by unfold pT;rw[h5];rfl
 obtain⟨sa,hC⟩:=hE.mem.hS 2 (Q0 o) (by decide) (by decide) (J0 o);refine @Calls.mono _ (N0 (O2 p fb q w00 i cb top)) _ _ _ _ _ (zq0 (Sys.kok (ji0 hp)) (p.sb 2 (Q0 o)) 2 (Q0 o:Nat) _ _ (p.mb 2 (Q0 o)) w0 hT (P9 ho h8 h5) (ak0 ho (by omega) (by omega)) (hE.mem.rob (hp.hM 2 (Q0 o) (by decide) (by decide) (J0 o))) hC (fun u F' hl=>?_)) fun e u he=>?_
 ·obtain⟨r1,rfl,hM⟩:=g9 hl;obtain⟨_,hh⟩:=hM.hS 2 (Q0 o) (by decide) (by decide) (J0 o);exact⟨_,_,hh⟩
 ·cases e with
  |outgrown=>exact he
  |panicked ch=>exact he
  |returned v=>
   obtain⟨rfl,u0,F',h',r',hg,K6,hB,P3,_⟩:=he;obtain⟨r1,rfl,W7,j9,hl⟩:=Y4 hp hc ho hg.goes;obtain⟨_,hS1⟩:=W7.mem.hS 2 (Q0 o) (by decide) (by decide) (J0 o);obtain⟨rfl,rfl⟩:=ko0 K6 hS1;refine⟨_,r1,?_,j9.G5 P3 trivial,hl,rfl,by rw[Ee0 h8 hP]⟩;rw[Ee0 h8 hP];exact⟨hp,W7.mem.set hp (sa:=sa) (by decide) (by decide) (J0 o) (aj0.of P3) (.inl rfl) (by unfold O7 prd;simp only[R3];exact hB) rfl fun _ _ _ _ _ _ h=>Eg0 h⟩
theorem O5 {p:V3} {w:World} {s:PS} {r:j6} (h:O9 p w s r) {t n:Nat} (h1:1 <=t) (h5:t <=5) (hn:n<2):w.cell? ⟨p.tb,2*(t-1)+n*1,none⟩=some (.pointer (some ⟨pob p t n,0,none⟩)):=by
 have hB:=h.mem.rob h.ok.hT;have e1:(2*(t-1)+n*1)/2+1=t:=by omega
 have e2:(2*(t-1)+n*1)%2=n:=by omega
 refine O0.E0 hB _ ((v7 (by omega)).trans ?_);rw[e1,e2]
theorem Qy0 (x:Int):Int.tmod (IntKind.i64.wrap (Int.tmod x 2+2)) 2=((x%2).toNat:Nat):=by
 have h1:=Int.tmod_lt_of_pos x (b:=2) (by decide);have h2:=Int.lt_tmod_of_pos x (b:=2) (by decide);have e1:IntKind.i64.wrap (Int.tmod x 2+2)=Int.tmod x 2+2:=by simp[IntKind.wrap,IntKind.signed,IntKind.bits];omega
 rw[e1];have e2:Int.tmod (Int.tmod x 2+2) 2=x%2:=by
  rw[Int.tmod_eq_emod_of_nonneg (by omega)];rw[Int.tmod_eq_emod];split <;> omega
 rw[e2];omega
section
variable [Ctx prog]
theorem l5 (o:O1) (w0:World):C prog 15 #[.agg #[.int .i64 o.I3,.int .i64 o.J9,.int .i64 o.call,.int .i64 o.val]] w0 fun v w=>v= .int .i64 (Q0 o:Nat)/\Below w0.heap.size w0 w:=by
 refine C.enter (n:=8) func15 rfl rfl ?_;refine U266 ?_;intro hb w b1 F1;have lt1:=F1.lq hb.size;have hb:=P0 hb F1.below;have hB1:=F1.blk;refine U9 ?_;refine U42 ?_;refine L.va (A0 rfl underlying3 rfl (hB1.E0 1 (v:=.int .i64 o.J9) rfl)) ?_;refine L.va (lc0 (κ:=.i64) rfl rfl (by decide)) ?_;refine L.va (il0 (κ:=.i64) rfl rfl) ?_;refine L.va (lc0 (κ:=.i64) rfl rfl (by decide)) ?_;refine U38 ?_;exact⟨by show(Value.int .i64 (Int.tmod (IntKind.i64.wrap (Int.tmod o.J9 2+2)) 2))=_;rw[Qy0];rfl,hb⟩
end
set_option maxHeartbeats 1000000 in
theorem Lr0 {p:V3} {fb:Nat->FuncId} {q:PR (L1 p)} {w00:World} {i cb:Nat} {top:List Frame} {s:PS} {r:j6} {k:Nat} (wh vv:Int) (w0:World) (hE:O9 p w0 s r) (hc:CSt (O2 p fb q w00 i cb top) w0 (C4 (p.bo i) k s)) (ho:(p.bo i)[k]? =some (⟨1,wh,1,vv⟩:O1)) :
  @Calls prog (N0 (O2 p fb q w00 i cb top)) 39 #[.pointer (some ⟨p.tb,0,none⟩),.pointer (some ⟨cb,0,none⟩),.agg #[.int .i64 1,.int .i64 wh,.int .i64 1,.int .i64 vv]] w0 (L6 p fb q w00 i cb top k (⟨1,wh,1,vv⟩:O1) w0 fun v x=>v= .int .i64 x):=by
 letI:Ctx prog:=N0 (O2 p fb q w00 i cb top);refine U18 ?_;intro Q9 M6;refine L.box (cs:=#[.int .i64 1,.int .i64 wh,.int .i64 1,.int .i64 vv]) rfl rfl (fun w b5 F5=>?_);refine U20 ?_;intro lt5 hE hc B5;refine L.va (j1 (cs:=[.int .i64 1,.int .i64 wh,.int .i64 1,.int .i64 vv]) rfl underlying52 rfl w6 rfl (B5.J4 rfl)) ?_;refine L.call (C2 rfl func15 rfl E9 rfl) (l5 (⟨1,wh,1,vv⟩:O1) w) ?_;rintro _ w ⟨rfl,P1⟩;refine U17 ?_;intro hE hc B5;refine U530 ?_;refine U172 ?_;refine U525 ?_;refine L.va (E1 (r:=true) (by decide) (H2 (m:=1) (k:=1) rfl rfl)) ?_;refine U50 ?_;refine U578 ?_;refine L.va (M1 (i:=Q0 (⟨1,wh,1,vv⟩:O1)) (n:=2) rfl rfl underlying62 Ff0 (J0 _)) ?_;refine L.va (A0 (v:=.pointer (some ⟨p.mb 1 (Q0 (⟨1,wh,1,vv⟩:O1)),0,none⟩)) rfl underlying61 rfl (O5 hE (t:=1) (n:=Q0 (⟨1,wh,1,vv⟩:O1)) (by decide) (by decide) (J0 _))) ?_;refine L.va (W3 rfl) ?_;rw[N5 ho]at hc;have A5:=Lp0 hE.ok w hE hc ho rfl rfl;refine L.B4 rfl (Q3 rfl rfl func20 rfl iz1 rfl) A5 ?_ ?_ (fun _ h=>h)
 rotate_left
 ·rintro ch u ⟨n7,hh⟩;exact⟨n7,hh.at (hc.os.trans Q9.symm) (hc.output.trans M6.symm)⟩
 rintro _ w ⟨s1,r1,W7,j9,hl1,rfl,hx⟩;refine U123 ?_;refine U56 ?_;exact⟨s1,r1,W7,j9,hl1,by show(Value.int .i64 0)= .int .i64 (Z5 (⟨1,wh,1,vv⟩:O1) s1).2;rw[hx]⟩
set_option maxHeartbeats 1000000 in
theorem Ls0 {p:V3} {fb:Nat->FuncId} {q:PR (L1 p)} {w00:World} {i cb:Nat} {top:List Frame} {s:PS} {r:j6} {k:Nat} (wh vv:Int) (w0:World) (hE:O9 p w0 s r) (hc:CSt (O2 p fb q w00 i cb top) w0 (C4 (p.bo i) k s)) (ho:(p.bo i)[k]? =some (⟨1,wh,2,vv⟩:O1)) :
  @Calls prog (N0 (O2 p fb q w00 i cb top)) 39 #[.pointer (some ⟨p.tb,0,none⟩),.pointer (some ⟨cb,0,none⟩),.agg #[.int .i64 1,.int .i64 wh,.int .i64 2,.int .i64 vv]] w0 (L6 p fb q w00 i cb top k (⟨1,wh,2,vv⟩:O1) w0 fun v x=>v= .int .i64 x):=by
 letI:Ctx prog:=N0 (O2 p fb q w00 i cb top);refine U18 ?_;intro Q9 M6;refine L.box (cs:=#[.int .i64 1,.int .i64 wh,.int .i64 2,.int .i64 vv]) rfl rfl (fun w b5 F5=>?_);refine U20 ?_;intro lt5 hE hc B5;refine L.va (j1 (cs:=[.int .i64 1,.int .i64 wh,.int .i64 2,.int .i64 vv]) rfl underlying52 rfl w6 rfl (B5.J4 rfl)) ?_;refine L.call (C2 rfl func15 rfl E9 rfl) (l5 (⟨1,wh,2,vv⟩:O1) w) ?_;rintro _ w ⟨rfl,P1⟩;refine U17 ?_;intro hE hc B5;refine U530 ?_;refine U172 ?_;refine U524 ?_;refine L.va (E1 (r:=false) (by decide) (H2 (m:=2) (k:=1) rfl rfl)) ?_;refine U113 ?_;refine W.region rfl ?_;refine U578 ?_;refine L.va (M1 (i:=Q0 (⟨1,wh,2,vv⟩:O1)) (n:=2) rfl rfl underlying62 Ff0 (J0 _)) ?_;refine L.va (A0 (v:=.pointer (some ⟨p.mb 1 (Q0 (⟨1,wh,2,vv⟩:O1)),0,none⟩)) rfl underlying61 rfl (O5 hE (t:=1) (n:=Q0 (⟨1,wh,2,vv⟩:O1)) (by decide) (by decide) (J0 _))) ?_;refine L.va (W3 rfl) ?_;rw[N5 ho]at hc;have A5:=Ce0 hE.ok w hE hc ho rfl rfl;refine L.B4 rfl (Q3 rfl rfl func23 rfl jc1 rfl) A5 ?_ ?_ (fun _ h=>h)
 rotate_left
 ·rintro ch u ⟨n7,hh⟩;exact⟨n7,hh.at (hc.os.trans Q9.symm) (hc.output.trans M6.symm)⟩
 rintro _ w ⟨s1,r1,W7,j9,hl1,rfl,hx⟩;refine U123 ?_;refine U56 ?_;exact⟨s1,r1,W7,j9,hl1,by show(Value.int .i64 0)= .int .i64 (Z5 (⟨1,wh,2,vv⟩:O1) s1).2;rw[hx]⟩
set_option maxHeartbeats 1000000 in
theorem Lt0 {p:V3} {fb:Nat->FuncId} {q:PR (L1 p)} {w00:World} {i cb:Nat} {top:List Frame} {s:PS} {r:j6} {k:Nat} (wh vv:Int) (w0:World) (hE:O9 p w0 s r) (hc:CSt (O2 p fb q w00 i cb top) w0 (C4 (p.bo i) k s)) (ho:(p.bo i)[k]? =some (⟨2,wh,1,vv⟩:O1)) :
  @Calls prog (N0 (O2 p fb q w00 i cb top)) 39 #[.pointer (some ⟨p.tb,0,none⟩),.pointer (some ⟨cb,0,none⟩),.agg #[.int .i64 2,.int .i64 wh,.int .i64 1,.int .i64 vv]] w0 (L6 p fb q w00 i cb top k (⟨2,wh,1,vv⟩:O1) w0 fun v x=>v= .int .i64 x):=by
 letI:Ctx prog:=N0 (O2 p fb q w00 i cb top);refine U18 ?_;intro Q9 M6;refine L.box (cs:=#[.int .i64 2,.int .i64 wh,.int .i64 1,.int .i64 vv]) rfl rfl (fun w b5 F5=>?_);refine U20 ?_;intro lt5 hE hc B5;refine L.va (j1 (cs:=[.int .i64 2,.int .i64 wh,.int .i64 1,.int .i64 vv]) rfl underlying52 rfl w6 rfl (B5.J4 rfl)) ?_;refine L.call (C2 rfl func15 rfl E9 rfl) (l5 (⟨2,wh,1,vv⟩:O1) w) ?_;rintro _ w ⟨rfl,P1⟩;refine U17 ?_;intro hE hc B5;refine U169 ?_;refine U101 ?_;refine U525 ?_;refine U8 ?_;refine U172 ?_;refine U208 ?_;refine L.va (M1 (i:=Q0 (⟨2,wh,1,vv⟩:O1)) (n:=2) rfl rfl underlying64 yx0 (J0 _)) ?_;refine L.va (A0 (v:=.pointer (some ⟨p.mb 2 (Q0 (⟨2,wh,1,vv⟩:O1)),0,none⟩)) rfl underlying63 rfl (O5 hE (t:=2) (n:=Q0 (⟨2,wh,1,vv⟩:O1)) (by decide) (by decide) (J0 _))) ?_;refine L.va (W3 rfl) ?_;rw[N5 ho]at hc;have A5:=Lq0 hE.ok w hE hc ho rfl rfl;refine L.B4 rfl (Q3 rfl rfl func25 rfl je1 rfl) A5 ?_ ?_ (fun _ h=>h)
 rotate_left
 ·rintro ch u ⟨n7,hh⟩;exact⟨n7,hh.at (hc.os.trans Q9.symm) (hc.output.trans M6.symm)⟩
 rintro _ w ⟨s1,r1,W7,j9,hl1,rfl,hx⟩;refine U215 ?_;refine U56 ?_;exact⟨s1,r1,W7,j9,hl1,by show(Value.int .i64 0)= .int .i64 (Z5 (⟨2,wh,1,vv⟩:O1) s1).2;rw[hx]⟩
set_option maxHeartbeats 1000000 in
theorem Lu0 {p:V3} {fb:Nat->FuncId} {q:PR (L1 p)} {w00:World} {i cb:Nat} {top:List Frame} {s:PS} {r:j6} {k:Nat} (wh vv:Int) (w0:World) (hE:O9 p w0 s r) (hc:CSt (O2 p fb q w00 i cb top) w0 (C4 (p.bo i) k s)) (ho:(p.bo i)[k]? =some (⟨2,wh,2,vv⟩:O1)) :
  @Calls prog (N0 (O2 p fb q w00 i cb top)) 39 #[.pointer (some ⟨p.tb,0,none⟩),.pointer (some ⟨cb,0,none⟩),.agg #[.int .i64 2,.int .i64 wh,.int .i64 2,.int .i64 vv]] w0 (L6 p fb q w00 i cb top k (⟨2,wh,2,vv⟩:O1) w0 fun v x=>v= .int .i64 x):=by
 letI:Ctx prog:=N0 (O2 p fb q w00 i cb top);refine U18 ?_;intro Q9 M6;refine L.box (cs:=#[.int .i64 2,.int .i64 wh,.int .i64 2,.int .i64 vv]) rfl rfl (fun w b5 F5=>?_);refine U20 ?_;intro lt5 hE hc B5;refine L.va (j1 (cs:=[.int .i64 2,.int .i64 wh,.int .i64 2,.int .i64 vv]) rfl underlying52 rfl w6 rfl (B5.J4 rfl)) ?_;refine L.call (C2 rfl func15 rfl E9 rfl) (l5 (⟨2,wh,2,vv⟩:O1) w) ?_;rintro _ w ⟨rfl,P1⟩;refine U17 ?_;intro hE hc B5;refine U169 ?_;refine U101 ?_;refine U524 ?_;refine U8 ?_;refine U101 ?_;refine U208 ?_;refine L.va (M1 (i:=Q0 (⟨2,wh,2,vv⟩:O1)) (n:=2) rfl rfl underlying64 yx0 (J0 _)) ?_;refine L.va (A0 (v:=.pointer (some ⟨p.mb 2 (Q0 (⟨2,wh,2,vv⟩:O1)),0,none⟩)) rfl underlying63 rfl (O5 hE (t:=2) (n:=Q0 (⟨2,wh,2,vv⟩:O1)) (by decide) (by decide) (J0 _))) ?_;refine L.va (W3 rfl) ?_;rw[N5 ho]at hc;have A5:=Cf0 hE.ok w hE hc ho rfl rfl;refine L.B4 rfl (Q3 rfl rfl func27 rfl jg1 rfl) A5 ?_ ?_ (fun _ h=>h)
 rotate_left
 ·rintro ch u ⟨n7,hh⟩;exact⟨n7,hh.at (hc.os.trans Q9.symm) (hc.output.trans M6.symm)⟩
 rintro _ w ⟨s1,r1,W7,j9,hl1,rfl,hx⟩;refine U215 ?_;refine U56 ?_;exact⟨s1,r1,W7,j9,hl1,by show(Value.int .i64 0)= .int .i64 (Z5 (⟨2,wh,2,vv⟩:O1) s1).2;rw[hx]⟩
set_option maxHeartbeats 1000000 in
theorem Lv0 {p:V3} {fb:Nat->FuncId} {q:PR (L1 p)} {w00:World} {i cb:Nat} {top:List Frame} {s:PS} {r:j6} {k:Nat} (wh vv:Int) (w0:World) (hE:O9 p w0 s r) (hc:CSt (O2 p fb q w00 i cb top) w0 (C4 (p.bo i) k s)) (ho:(p.bo i)[k]? =some (⟨2,wh,3,vv⟩:O1)) :
  @Calls prog (N0 (O2 p fb q w00 i cb top)) 39 #[.pointer (some ⟨p.tb,0,none⟩),.pointer (some ⟨cb,0,none⟩),.agg #[.int .i64 2,.int .i64 wh,.int .i64 3,.int .i64 vv]] w0 (L6 p fb q w00 i cb top k (⟨2,wh,3,vv⟩:O1) w0 fun v x=>v= .int .i64 x):=by
 letI:Ctx prog:=N0 (O2 p fb q w00 i cb top);refine U18 ?_;intro Q9 M6;refine L.box (cs:=#[.int .i64 2,.int .i64 wh,.int .i64 3,.int .i64 vv]) rfl rfl (fun w b5 F5=>?_);refine U20 ?_;intro lt5 hE hc B5;refine L.va (j1 (cs:=[.int .i64 2,.int .i64 wh,.int .i64 3,.int .i64 vv]) rfl underlying52 rfl w6 rfl (B5.J4 rfl)) ?_;refine L.call (C2 rfl func15 rfl E9 rfl) (l5 (⟨2,wh,3,vv⟩:O1) w) ?_;rintro _ w ⟨rfl,P1⟩;refine U17 ?_;intro hE hc B5;refine U169 ?_;refine U101 ?_;refine U42 ?_;refine L.va (A0 rfl underlying3 rfl (B5.E0 2 (v:=.int .i64 3) rfl)) ?_;refine U8 ?_;refine U170 ?_;refine U171 ?_;refine U173 ?_;refine U208 ?_;refine L.va (M1 (i:=Q0 (⟨2,wh,3,vv⟩:O1)) (n:=2) rfl rfl underlying64 yx0 (J0 _)) ?_;refine L.va (A0 (v:=.pointer (some ⟨p.mb 2 (Q0 (⟨2,wh,3,vv⟩:O1)),0,none⟩)) rfl underlying63 rfl (O5 hE (t:=2) (n:=Q0 (⟨2,wh,3,vv⟩:O1)) (by decide) (by decide) (J0 _))) ?_;refine L.va (W3 rfl) ?_;rw[N5 ho]at hc;have A5:=Fv0 hE.ok w hE hc ho rfl rfl;refine L.B4 rfl (Q3 rfl rfl func28 rfl jh1 rfl) A5 ?_ ?_ (fun _ h=>h)
 rotate_left
 ·rintro ch u ⟨n7,hh⟩;exact⟨n7,hh.at (hc.os.trans Q9.symm) (hc.output.trans M6.symm)⟩
 rintro _ w ⟨s1,r1,W7,j9,hl1,rfl,hx⟩;refine U215 ?_;refine U56 ?_;exact⟨s1,r1,W7,j9,hl1,by show(Value.int .i64 0)= .int .i64 (Z5 (⟨2,wh,3,vv⟩:O1) s1).2;rw[hx]⟩
set_option maxHeartbeats 1000000 in
theorem Lw0 {p:V3} {fb:Nat->FuncId} {q:PR (L1 p)} {w00:World} {i cb:Nat} {top:List Frame} {s:PS} {r:j6} {k:Nat} (wh vv:Int) (w0:World) (hE:O9 p w0 s r) (hc:CSt (O2 p fb q w00 i cb top) w0 (C4 (p.bo i) k s)) (ho:(p.bo i)[k]? =some (⟨2,wh,4,vv⟩:O1)) :
  @Calls prog (N0 (O2 p fb q w00 i cb top)) 39 #[.pointer (some ⟨p.tb,0,none⟩),.pointer (some ⟨cb,0,none⟩),.agg #[.int .i64 2,.int .i64 wh,.int .i64 4,.int .i64 vv]] w0 (L6 p fb q w00 i cb top k (⟨2,wh,4,vv⟩:O1) w0 fun v x=>v= .int .i64 x):=by
 letI:Ctx prog:=N0 (O2 p fb q w00 i cb top);refine U18 ?_;intro Q9 M6;refine L.box (cs:=#[.int .i64 2,.int .i64 wh,.int .i64 4,.int .i64 vv]) rfl rfl (fun w b5 F5=>?_);refine U20 ?_;intro lt5 hE hc B5;refine L.va (j1 (cs:=[.int .i64 2,.int .i64 wh,.int .i64 4,.int .i64 vv]) rfl underlying52 rfl w6 rfl (B5.J4 rfl)) ?_;refine L.call (C2 rfl func15 rfl E9 rfl) (l5 (⟨2,wh,4,vv⟩:O1) w) ?_;rintro _ w ⟨rfl,P1⟩;refine U17 ?_;intro hE hc B5;refine U169 ?_;refine U101 ?_;refine U42 ?_;refine L.va (A0 rfl underlying3 rfl (B5.E0 2 (v:=.int .i64 4) rfl)) ?_;refine U8 ?_;refine U139 ?_;refine U208 ?_;refine L.va (M1 (i:=Q0 (⟨2,wh,4,vv⟩:O1)) (n:=2) rfl rfl underlying64 yx0 (J0 _)) ?_;refine L.va (A0 (v:=.pointer (some ⟨p.mb 2 (Q0 (⟨2,wh,4,vv⟩:O1)),0,none⟩)) rfl underlying63 rfl (O5 hE (t:=2) (n:=Q0 (⟨2,wh,4,vv⟩:O1)) (by decide) (by decide) (J0 _))) ?_;refine L.va (W3 rfl) ?_;rw[N5 ho]at hc;have A5:=zs0 hE.ok w hE hc ho rfl rfl;refine L.B4 rfl (Q3 rfl rfl func30 rfl jj1 rfl) A5 ?_ ?_ (fun _ h=>h)
 rotate_left
 ·rintro ch u ⟨n7,hh⟩;exact⟨n7,hh.at (hc.os.trans Q9.symm) (hc.output.trans M6.symm)⟩
 rintro _ w ⟨s1,r1,W7,j9,hl1,rfl,hx⟩;refine U215 ?_;refine U56 ?_;exact⟨s1,r1,W7,j9,hl1,by show(Value.int .i64 0)= .int .i64 (Z5 (⟨2,wh,4,vv⟩:O1) s1).2;rw[hx]⟩
set_option maxHeartbeats 1000000 in
theorem Lx0 {p:V3} {fb:Nat->FuncId} {q:PR (L1 p)} {w00:World} {i cb:Nat} {top:List Frame} {s:PS} {r:j6} {k:Nat} (wh vv:Int) (w0:World) (hE:O9 p w0 s r) (hc:CSt (O2 p fb q w00 i cb top) w0 (C4 (p.bo i) k s)) (ho:(p.bo i)[k]? =some (⟨3,wh,7,vv⟩:O1)) :
  @Calls prog (N0 (O2 p fb q w00 i cb top)) 39 #[.pointer (some ⟨p.tb,0,none⟩),.pointer (some ⟨cb,0,none⟩),.agg #[.int .i64 3,.int .i64 wh,.int .i64 7,.int .i64 vv]] w0 (L6 p fb q w00 i cb top k (⟨3,wh,7,vv⟩:O1) w0 fun v x=>v= .int .i64 x):=by
 letI:Ctx prog:=N0 (O2 p fb q w00 i cb top);refine U18 ?_;intro Q9 M6;refine L.box (cs:=#[.int .i64 3,.int .i64 wh,.int .i64 7,.int .i64 vv]) rfl rfl (fun w b5 F5=>?_);refine U20 ?_;intro lt5 hE hc B5;refine L.va (j1 (cs:=[.int .i64 3,.int .i64 wh,.int .i64 7,.int .i64 vv]) rfl underlying52 rfl w6 rfl (B5.J4 rfl)) ?_;refine L.call (C2 rfl func15 rfl E9 rfl) (l5 (⟨3,wh,7,vv⟩:O1) w) ?_;rintro _ w ⟨rfl,P1⟩;refine U17 ?_;intro hE hc B5;refine U527 ?_;refine U170 ?_;refine U171 ?_;refine U173 ?_;refine U59 ?_;refine L.va (A0 rfl underlying3 rfl (B5.E0 2 (v:=.int .i64 7) rfl)) ?_;refine L.va (E1 (r:=true) (by decide) (H2 (m:=7) (k:=7) rfl rfl)) ?_;refine U23 ?_;refine W.seq ?_;refine U243 ?_;refine U276 ?_;refine D.va (fun w' C1=>(G0 rfl underlying72 rfl Vt0 (by decide))) ?_;refine D.va (fun w' C1=>(M1 (i:=Q0 (⟨3,wh,7,vv⟩:O1)) (n:=2) rfl rfl underlying66 Fg0 (J0 _))) ?_;refine D.va (fun w' C1=>(A0 (v:=.pointer (some ⟨p.sb 3 (Q0 (⟨3,wh,7,vv⟩:O1)),0,none⟩)) rfl underlying65 rfl (O5 (hE.j0 C1) (t:=3) (n:=Q0 (⟨3,wh,7,vv⟩:O1)) (by decide) (by decide) (J0 _)))) ?_;refine U294 ?_;refine D.nil (fun w P1=>?_);refine U121 ?_;intro hE hc;clear P1;rw[N5 ho]at hc;have A5:=Qx0 hE.ok w hE hc ho rfl rfl;refine L.B4 rfl (G8 rfl rfl rfl func24 rfl jd1 rfl) A5 ?_ ?_ (fun _ h=>h)
 rotate_left
 ·rintro ch u ⟨n7,hh⟩;exact⟨n7,hh.at (hc.os.trans Q9.symm) (hc.output.trans M6.symm)⟩
 rintro _ w ⟨s1,r1,W7,j9,hl1,rfl⟩;exact U210
set_option maxHeartbeats 1000000 in
theorem Ly0 {p:V3} {fb:Nat->FuncId} {q:PR (L1 p)} {w00:World} {i cb:Nat} {top:List Frame} {s:PS} {r:j6} {k:Nat} (wh vv:Int) (w0:World) (hE:O9 p w0 s r) (hc:CSt (O2 p fb q w00 i cb top) w0 (C4 (p.bo i) k s)) (ho:(p.bo i)[k]? =some (⟨3,wh,5,vv⟩:O1)) :
  @Calls prog (N0 (O2 p fb q w00 i cb top)) 39 #[.pointer (some ⟨p.tb,0,none⟩),.pointer (some ⟨cb,0,none⟩),.agg #[.int .i64 3,.int .i64 wh,.int .i64 5,.int .i64 vv]] w0 (L6 p fb q w00 i cb top k (⟨3,wh,5,vv⟩:O1) w0 fun v x=>v= .int .i64 x):=by
 letI:Ctx prog:=N0 (O2 p fb q w00 i cb top);refine U18 ?_;intro Q9 M6;refine L.box (cs:=#[.int .i64 3,.int .i64 wh,.int .i64 5,.int .i64 vv]) rfl rfl (fun w b5 F5=>?_);refine U20 ?_;intro lt5 hE hc B5;refine L.va (j1 (cs:=[.int .i64 3,.int .i64 wh,.int .i64 5,.int .i64 vv]) rfl underlying52 rfl w6 rfl (B5.J4 rfl)) ?_;refine L.call (C2 rfl func15 rfl E9 rfl) (l5 (⟨3,wh,5,vv⟩:O1) w) ?_;rintro _ w ⟨rfl,P1⟩;refine U17 ?_;intro hE hc B5;refine U527 ?_;refine U170 ?_;refine U171 ?_;refine U173 ?_;refine U526 ?_;refine L.va (E1 (r:=false) (by decide) (H2 (m:=5) (k:=7) rfl rfl)) ?_;refine U102 ?_;refine U118 ?_;refine L.va (G0 rfl underlying72 rfl Vt0 (by decide)) ?_;refine L.va (M1 (i:=Q0 (⟨3,wh,5,vv⟩:O1)) (n:=2) rfl rfl underlying66 Fg0 (J0 _)) ?_;refine L.va (A0 (v:=.pointer (some ⟨p.sb 3 (Q0 (⟨3,wh,5,vv⟩:O1)),0,none⟩)) rfl underlying65 rfl (O5 hE (t:=3) (n:=Q0 (⟨3,wh,5,vv⟩:O1)) (by decide) (by decide) (J0 _))) ?_;refine L.va (W3 rfl) ?_;rw[N5 ho]at hc;have A5:=Qu0 hE.ok w hE hc ho rfl rfl;refine L.B4 rfl (Q3 rfl rfl func34 rfl jl1 rfl) A5 ?_ ?_ (fun _ h=>h)
 rotate_left
 ·rintro ch u ⟨n7,hh⟩;exact⟨n7,hh.at (hc.os.trans Q9.symm) (hc.output.trans M6.symm)⟩
 rintro _ w ⟨s1,r1,W7,j9,hl1,rfl⟩;exact U210
set_option maxHeartbeats 1000000 in
theorem Lz0 {p:V3} {fb:Nat->FuncId} {q:PR (L1 p)} {w00:World} {i cb:Nat} {top:List Frame} {s:PS} {r:j6} {k:Nat} (wh vv:Int) (w0:World) (hE:O9 p w0 s r) (hc:CSt (O2 p fb q w00 i cb top) w0 (C4 (p.bo i) k s)) (ho:(p.bo i)[k]? =some (⟨4,wh,5,vv⟩:O1)) :
  @Calls prog (N0 (O2 p fb q w00 i cb top)) 39 #[.pointer (some ⟨p.tb,0,none⟩),.pointer (some ⟨cb,0,none⟩),.agg #[.int .i64 4,.int .i64 wh,.int .i64 5,.int .i64 vv]] w0 (L6 p fb q w00 i cb top k (⟨4,wh,5,vv⟩:O1) w0 fun v x=>v= .int .i64 x):=by
 letI:Ctx prog:=N0 (O2 p fb q w00 i cb top);refine U18 ?_;intro Q9 M6;refine L.box (cs:=#[.int .i64 4,.int .i64 wh,.int .i64 5,.int .i64 vv]) rfl rfl (fun w b5 F5=>?_);refine U20 ?_;intro lt5 hE hc B5;refine L.va (j1 (cs:=[.int .i64 4,.int .i64 wh,.int .i64 5,.int .i64 vv]) rfl underlying52 rfl w6 rfl (B5.J4 rfl)) ?_;refine L.call (C2 rfl func15 rfl E9 rfl) (l5 (⟨4,wh,5,vv⟩:O1) w) ?_;rintro _ w ⟨rfl,P1⟩;refine U17 ?_;intro hE hc B5;refine U528 ?_;refine U139 ?_;refine U526 ?_;refine L.va (E1 (r:=true) (by decide) (H2 (m:=5) (k:=5) rfl rfl)) ?_;refine U23 ?_;refine U2 ?_;refine U118 ?_;refine L.va (G0 rfl underlying72 rfl Vu0 (by decide)) ?_;refine L.va (M1 (i:=Q0 (⟨4,wh,5,vv⟩:O1)) (n:=2) rfl rfl underlying68 Fh0 (J0 _)) ?_;refine L.va (A0 (v:=.pointer (some ⟨p.sb 4 (Q0 (⟨4,wh,5,vv⟩:O1)),0,none⟩)) rfl underlying67 rfl (O5 hE (t:=4) (n:=Q0 (⟨4,wh,5,vv⟩:O1)) (by decide) (by decide) (J0 _))) ?_;refine L.va (W3 rfl) ?_;rw[N5 ho]at hc;have A5:=Qt0 hE.ok w hE hc ho rfl rfl;refine L.B4 rfl (Q3 rfl rfl func29 rfl ji1 rfl) A5 ?_ ?_ (fun _ h=>h)
 rotate_left
 ·rintro ch u ⟨n7,hh⟩;exact⟨n7,hh.at (hc.os.trans Q9.symm) (hc.output.trans M6.symm)⟩
 rintro _ w ⟨s1,r1,W7,j9,hl1,rfl⟩;exact U210
set_option maxHeartbeats 1000000 in
theorem Ma0 {p:V3} {fb:Nat->FuncId} {q:PR (L1 p)} {w00:World} {i cb:Nat} {top:List Frame} {s:PS} {r:j6} {k:Nat} (wh vv:Int) (w0:World) (hE:O9 p w0 s r) (hc:CSt (O2 p fb q w00 i cb top) w0 (C4 (p.bo i) k s)) (ho:(p.bo i)[k]? =some (⟨4,wh,6,vv⟩:O1)) :
  @Calls prog (N0 (O2 p fb q w00 i cb top)) 39 #[.pointer (some ⟨p.tb,0,none⟩),.pointer (some ⟨cb,0,none⟩),.agg #[.int .i64 4,.int .i64 wh,.int .i64 6,.int .i64 vv]] w0 (L6 p fb q w00 i cb top k (⟨4,wh,6,vv⟩:O1) w0 fun v x=>v= .int .i64 x):=by
 letI:Ctx prog:=N0 (O2 p fb q w00 i cb top);refine U18 ?_;intro Q9 M6;refine L.box (cs:=#[.int .i64 4,.int .i64 wh,.int .i64 6,.int .i64 vv]) rfl rfl (fun w b5 F5=>?_);refine U20 ?_;intro lt5 hE hc B5;refine L.va (j1 (cs:=[.int .i64 4,.int .i64 wh,.int .i64 6,.int .i64 vv]) rfl underlying52 rfl w6 rfl (B5.J4 rfl)) ?_;refine L.call (C2 rfl func15 rfl E9 rfl) (l5 (⟨4,wh,6,vv⟩:O1) w) ?_;rintro _ w ⟨rfl,P1⟩;refine U17 ?_;intro hE hc B5;refine U528 ?_;refine U139 ?_;refine U59 ?_;refine L.va (A0 rfl underlying3 rfl (B5.E0 2 (v:=.int .i64 6) rfl)) ?_;refine L.va (E1 (r:=false) (by decide) (H2 (m:=6) (k:=5) rfl rfl)) ?_;refine U48 ?_;refine U243 ?_;refine U276 ?_;refine D.va (fun w' C1=>(G0 rfl underlying72 rfl Vu0 (by decide))) ?_;refine D.va (fun w' C1=>(M1 (i:=Q0 (⟨4,wh,6,vv⟩:O1)) (n:=2) rfl rfl underlying68 Fh0 (J0 _))) ?_;refine D.va (fun w' C1=>(A0 (v:=.pointer (some ⟨p.sb 4 (Q0 (⟨4,wh,6,vv⟩:O1)),0,none⟩)) rfl underlying67 rfl (O5 (hE.j0 C1) (t:=4) (n:=Q0 (⟨4,wh,6,vv⟩:O1)) (by decide) (by decide) (J0 _)))) ?_;refine U294 ?_;refine D.nil (fun w P1=>?_);refine U121 ?_;intro hE hc;clear P1;rw[N5 ho]at hc;have A5:=Qw0 hE.ok w hE hc ho rfl rfl;refine L.B4 rfl (G8 rfl rfl rfl func26 rfl jf1 rfl) A5 ?_ ?_ (fun _ h=>h)
 rotate_left
 ·rintro ch u ⟨n7,hh⟩;exact⟨n7,hh.at (hc.os.trans Q9.symm) (hc.output.trans M6.symm)⟩
 rintro _ w ⟨s1,r1,W7,j9,hl1,rfl,hx⟩;refine U123 ?_;refine U56 ?_;exact⟨s1,r1,W7,j9,hl1,by show(Value.int .i64 0)= .int .i64 (Z5 (⟨4,wh,6,vv⟩:O1) s1).2;rw[hx]⟩
set_option maxHeartbeats 1000000 in
theorem Mb0 {p:V3} {fb:Nat->FuncId} {q:PR (L1 p)} {w00:World} {i cb:Nat} {top:List Frame} {s:PS} {r:j6} {k:Nat} (wh vv:Int) (w0:World) (hE:O9 p w0 s r) (hc:CSt (O2 p fb q w00 i cb top) w0 (C4 (p.bo i) k s)) (ho:(p.bo i)[k]? =some (⟨5,wh,8,vv⟩:O1)) :
  @Calls prog (N0 (O2 p fb q w00 i cb top)) 39 #[.pointer (some ⟨p.tb,0,none⟩),.pointer (some ⟨cb,0,none⟩),.agg #[.int .i64 5,.int .i64 wh,.int .i64 8,.int .i64 vv]] w0 (L6 p fb q w00 i cb top k (⟨5,wh,8,vv⟩:O1) w0 fun v x=>v= .int .i64 x):=by
 letI:Ctx prog:=N0 (O2 p fb q w00 i cb top);refine U18 ?_;intro Q9 M6;refine L.box (cs:=#[.int .i64 5,.int .i64 wh,.int .i64 8,.int .i64 vv]) rfl rfl (fun w b5 F5=>?_);refine U20 ?_;intro lt5 hE hc B5;refine L.va (j1 (cs:=[.int .i64 5,.int .i64 wh,.int .i64 8,.int .i64 vv]) rfl underlying52 rfl w6 rfl (B5.J4 rfl)) ?_;refine L.call (C2 rfl func15 rfl E9 rfl) (l5 (⟨5,wh,8,vv⟩:O1) w) ?_;rintro _ w ⟨rfl,P1⟩;refine U17 ?_;intro hE hc B5;refine U531 ?_;refine U271 ?_;refine U4 ?_;refine U272 ?_;refine U4 ?_;refine U274 ?_;refine U59 ?_;refine L.va (A0 rfl underlying3 rfl (B5.E0 2 (v:=.int .i64 8) rfl)) ?_;refine L.va (E1 (r:=true) (by decide) (H2 (m:=8) (k:=8) rfl rfl)) ?_;refine U23 ?_;refine U2 ?_;refine U118 ?_;refine L.va (G0 rfl underlying72 rfl Vv0 (by decide)) ?_;refine L.va (M1 (i:=Q0 (⟨5,wh,8,vv⟩:O1)) (n:=2) rfl rfl underlying70 Fi0 (J0 _)) ?_;refine L.va (A0 (v:=.pointer (some ⟨p.sb 5 (Q0 (⟨5,wh,8,vv⟩:O1)),0,none⟩)) rfl underlying69 rfl (O5 hE (t:=5) (n:=Q0 (⟨5,wh,8,vv⟩:O1)) (by decide) (by decide) (J0 _))) ?_;refine L.va (W3 rfl) ?_;rw[N5 ho]at hc;have A5:=Qs0 hE.ok w hE hc ho rfl rfl;refine L.B4 rfl (Q3 rfl rfl func22 rfl jb1 rfl) A5 ?_ ?_ (fun _ h=>h)
 rotate_left
 ·rintro ch u ⟨n7,hh⟩;exact⟨n7,hh.at (hc.os.trans Q9.symm) (hc.output.trans M6.symm)⟩
 rintro _ w ⟨s1,r1,W7,j9,hl1,rfl⟩;exact U210
set_option maxHeartbeats 1000000 in
theorem Mc0 {p:V3} {fb:Nat->FuncId} {q:PR (L1 p)} {w00:World} {i cb:Nat} {top:List Frame} {s:PS} {r:j6} {k:Nat} (wh vv:Int) (w0:World) (hE:O9 p w0 s r) (hc:CSt (O2 p fb q w00 i cb top) w0 (C4 (p.bo i) k s)) (ho:(p.bo i)[k]? =some (⟨5,wh,9,vv⟩:O1)) :
  @Calls prog (N0 (O2 p fb q w00 i cb top)) 39 #[.pointer (some ⟨p.tb,0,none⟩),.pointer (some ⟨cb,0,none⟩),.agg #[.int .i64 5,.int .i64 wh,.int .i64 9,.int .i64 vv]] w0 (L6 p fb q w00 i cb top k (⟨5,wh,9,vv⟩:O1) w0 fun v x=>v= .int .i64 x):=by
 letI:Ctx prog:=N0 (O2 p fb q w00 i cb top);refine U18 ?_;intro Q9 M6;refine L.box (cs:=#[.int .i64 5,.int .i64 wh,.int .i64 9,.int .i64 vv]) rfl rfl (fun w b5 F5=>?_);refine U20 ?_;intro lt5 hE hc B5;refine L.va (j1 (cs:=[.int .i64 5,.int .i64 wh,.int .i64 9,.int .i64 vv]) rfl underlying52 rfl w6 rfl (B5.J4 rfl)) ?_;refine L.call (C2 rfl func15 rfl E9 rfl) (l5 (⟨5,wh,9,vv⟩:O1) w) ?_;rintro _ w ⟨rfl,P1⟩;refine U17 ?_;intro hE hc B5;refine U531 ?_;refine U271 ?_;refine U4 ?_;refine U272 ?_;refine U4 ?_;refine U274 ?_;refine U59 ?_;refine L.va (A0 rfl underlying3 rfl (B5.E0 2 (v:=.int .i64 9) rfl)) ?_;refine L.va (E1 (r:=false) (by decide) (H2 (m:=9) (k:=8) rfl rfl)) ?_;refine U48 ?_;refine U243 ?_;refine U276 ?_;refine D.va (fun w' C1=>(G0 rfl underlying72 rfl Vv0 (by decide))) ?_;refine D.va (fun w' C1=>(M1 (i:=Q0 (⟨5,wh,9,vv⟩:O1)) (n:=2) rfl rfl underlying70 Fi0 (J0 _))) ?_;refine D.va (fun w' C1=>(A0 (v:=.pointer (some ⟨p.sb 5 (Q0 (⟨5,wh,9,vv⟩:O1)),0,none⟩)) rfl underlying69 rfl (O5 (hE.j0 C1) (t:=5) (n:=Q0 (⟨5,wh,9,vv⟩:O1)) (by decide) (by decide) (J0 _)))) ?_;refine U294 ?_;refine D.nil (fun w P1=>?_);refine U121 ?_;intro hE hc;clear P1;rw[N5 ho]at hc;have A5:=Qv0 hE.ok w hE hc ho rfl rfl;refine L.B4 rfl (G8 rfl rfl rfl func21 rfl ja1 rfl) A5 ?_ ?_ (fun _ h=>h)
 rotate_left
 ·rintro ch u ⟨n7,hh⟩;exact⟨n7,hh.at (hc.os.trans Q9.symm) (hc.output.trans M6.symm)⟩
 rintro _ w ⟨s1,r1,W7,j9,hl1,rfl,hx⟩;refine U123 ?_;refine U56 ?_;exact⟨s1,r1,W7,j9,hl1,by show(Value.int .i64 0)= .int .i64 (Z5 (⟨5,wh,9,vv⟩:O1) s1).2;rw[hx]⟩
end Go.Vy.Sc
end
section
namespace Go.Vy
open Go Go.Yc Go.RowKit
open Go.Vc
theorem W.fp {P:Program} [Ctx P] {n:Nat} {id:Nat} {l:List Oper} {Q:Exit->Env->World->Prop} {e:Env} {w:World} (k:Nat) (ch aw:List Nat) (os:List Nat) (PQ:List PanicEntry->World->Prop) (K:World->Prop) (hm:P.follows .mixedOrders=true) (hB:ng0 n l.toArray k=true) (hA:ka0 l k=true) (hk:Nat.ble k l.length=true) (hO:Dg0 l k (fun i=>ch.contains i) os=true) (hal:av1 l os (fun i=>aw.contains i)=true)
  (hPQ:∀c w e,PQ c w->Q (.panic c) e w) (hK:K w.drew) (h:FP P n l PQ (fun i=>ch.contains i) (fun i=>aw.contains i) (fun e' w'=>L P n l.toArray Q (l.drop k) e' w') os K e w.drew):W P n (.region id l.toArray true) Q e w:=by
 intro a ha;refine wp_region_draw fun t=>?_;simp only[Region.schedule,hm,Bool.true_or,if_true];have H5:=jx0 l.toArray l.toArray.size t (Array.replicate l.toArray.size false) (by simp) (by simp);unfold Region.linearise;generalize Region.linearise.go .any l.toArray l.toArray.size t (Array.replicate l.toArray.size false) []=σ at H5⊢;exact Sy0 (is0 hB) hA (Nat.le_of_ble_eq_true hk) (yl0 (cw0 H5) (fun p hp=>by cases hp) hO) (Ov0 (cw0 H5) hal) H5 (cw0 H5) hPQ hK h ha
end Go.Vy
end
section
namespace Go.Vy.Sc
open Go Go.Conc Go.Yc Go.RowKit Go.Proofs Go.Proofs.YtnifpkopeheodaaGreat Tryz
open Go.Vc Go.Wg
theorem Xk0 {p:V3} {fb:Nat->FuncId} {q:PR (L1 p)} {w00:World} {i cb:Nat} {top:List Frame} {s:PS} {r:j6} {k:Nat} {o:O1} (w0:World) (hE:O9 p w0 s r) (hc:CSt (O2 p fb q w00 i cb top) w0 (C4 (p.bo i) k s)) (ho:(p.bo i)[k]? =some o) :
  @Calls prog (N0 (O2 p fb q w00 i cb top)) 39 #[.pointer (some ⟨p.tb,0,none⟩),.pointer (some ⟨cb,0,none⟩),.agg #[.int .i64 o.I3,.int .i64 o.J9,.int .i64 o.call,.int .i64 o.val]] w0 (L6 p fb q w00 i cb top k o w0 fun v x=>v= .int .i64 x):=by
 have hk:=hE.ok.ops i o (List.mem_of_getElem? ho);obtain⟨th,wh,ca,vv⟩:=o;rcases hk with⟨h,h2|h2⟩|⟨h,h2|h2|h2|h2⟩|⟨h,h2|h2⟩|⟨h,h2|h2⟩|⟨h,h2|h2⟩ <;> simp only at h h2 <;> subst h <;> subst h2
 ·exact Lr0 wh vv w0 hE hc ho
 ·exact Ls0 wh vv w0 hE hc ho
 ·exact Lt0 wh vv w0 hE hc ho
 ·exact Lu0 wh vv w0 hE hc ho
 ·exact Lv0 wh vv w0 hE hc ho
 ·exact Lw0 wh vv w0 hE hc ho
 ·exact Ly0 wh vv w0 hE hc ho
 ·exact Lx0 wh vv w0 hE hc ho
 ·exact Lz0 wh vv w0 hE hc ho
 ·exact Ma0 wh vv w0 hE hc ho
 ·exact Mb0 wh vv w0 hE hc ho
 ·exact Mc0 wh vv w0 hE hc ho
structure gy0 (w:World) (oa:Option Addr) (ops:List O1):Prop where
 sl:SL oa ops.length
 cell:∀(k:Nat) (o:O1),ops[k]? =some o->∀(j:Nat) (v:Value),(re0 o)[j]? =some v->w.cell? ⟨ab oa,ao oa+k*4+j,none⟩=some v
theorem gy0.j0 {w w':World} {oa:Option Addr} {ops:List O1} (h:gy0 w oa ops) (hb:Below w.heap.size w w'):gy0 w' oa ops:=⟨h.sl,fun k o ho j v hj=>C5 (h.cell k o ho j v hj) hb⟩
structure rg0 (p:V3) (i ob bp tp:Nat) (oa:Option Addr) (oc:Nat):Prop where
 rob:p.RO ob
 rbp:p.RO bp
 rtp:p.RO tp
 roa:0<(p.bo i).length->p.RO (ab oa)
 hob:O0 p.wI ob #[.slice oa (p.bo i).length oc] 50
 hbp:O0 p.wI bp #[.pointer (some ⟨p.tb,0,none⟩)] 54
 htp:O0 p.wI tp #[.slice (some ⟨p.lgb,0,none⟩) p.m p.m] 31
 ops:gy0 p.wI oa (p.bo i)
 len:(p.bo i).length <=100000
section
variable {p:V3}{w:World}{s:PS}{r:j6}{i ob bp tp oc:Nat}{oa:Option Addr}
theorem rg0.ob_ (h:rg0 p i ob bp tp oa oc) (hE:O9 p w s r):O0 w ob #[.slice oa (p.bo i).length oc] 50:=(hE.mem.ro ob h.rob).trans h.hob
theorem rg0.bp_ (h:rg0 p i ob bp tp oa oc) (hE:O9 p w s r):O0 w bp #[.pointer (some ⟨p.tb,0,none⟩)] 54:=(hE.mem.ro bp h.rbp).trans h.hbp
theorem rg0.tp_ (h:rg0 p i ob bp tp oa oc) (hE:O9 p w s r):O0 w tp #[.slice (some ⟨p.lgb,0,none⟩) p.m p.m] 31:=(hE.mem.ro tp h.rtp).trans h.htp
theorem rg0.ln1 (h:rg0 p i ob bp tp oa oc) (hE:O9 p w s r):gy0 w oa (p.bo i):=⟨h.ops.sl,fun k o ho j v hj=>by
 have hl:0<(p.bo i).length:=by have:=(List.getElem?_eq_some_iff.1 ho).1;omega
 rw[(R5 (u:=p.wI) (u':=w) (a:=⟨ab oa,ao oa+k*4+j,none⟩) (hE.mem.ro _ (h.roa hl))).1];exact h.ops.cell k o ho j v hj⟩
end
theorem Fw0 {K:L9 prog} {f:FuncId} {args:Array Value} {u:World} (hf:K.Ip0=f) (h:@Calls prog (N0 K) f args u (fun e w=>∃F,K.Bf0 w F e)):Y8 K (G (Frame.enter prog f args .normal) K.top) u :=
 h (Y8 K) rfl K.top fun _e _w' _fr he h3 h4=>.done (h3.trans hf.symm) h4 he.choose_spec
section
variable {p:V3}{w w2 w3:World}{s:PS}{r:j6}
abbrev jj0 (l:List Int):List Value:=l.map (.int .i64 ·)
theorem O9.Xl0 (h:O9 p w s r) {i:Nat} (hi:i<p.m) {la':Option Addr} {lc':Nat} (a:Int)
  (hO:Own w2 p.B 2 1 la' ((s.W1 i).length+1) lc' (jj0 (s.W1 i) ++ [.int .i64 a])) (hga:w.grownBy w2 (Value.ownBlock (.slice (r.la i) (s.W1 i).length (r.lc i)))) (hwh:la'≠none->(r.la i≠none/\ab la'=ab (r.la i))\/w.heap.size <=ab la')
  (hG:O0 w3 p.lgb (arr p.m fun j=>.slice (D7 r.la i la' j) (D7 s.W1 i (s.W1 i ++ [a]) j).length (D7 r.lc i lc' j)) 45) (hg:w2.grownBy w3 (some p.lgb)):O9 p w3 (J5 i (s,a)) ⟨D7 r.la i la',D7 r.lc i lc'⟩:=by
 obtain⟨hp,hr⟩:=h;have Qz0:=kn0 (hr.hL i hi);have stay:∀b,b<w.heap.size->b≠p.lgb->(r.la i≠none->b≠ab (r.la i))->w3.heap[b]? =w.heap[b]?:=fun b hb h1 h2=>
  (hg.block b (Nat.lt_of_lt_of_le hb hga.size) (fun e=>h1 (by cases e;rfl))).trans (hga.block b hb (by
   rw[Ln0 Qz0];split
   ·exact fun e=>by cases e
   ·rename_i o3;exact fun e=>h2 o3 (by cases e;rfl)))
 have hlG:p.lgb<w.heap.size:=(K3 hr.hG).lt;have hO3:Own w3 p.B 2 1 la' ((s.W1 i).length+1) lc' (jj0 (s.W1 i) ++ [.int .i64 a]):=hO.grown hg (by
  cases ha:la' with
  |none=>rw[ha]at hO;intro e;have:=zr0 hO;omega
  |some x=>
   have o3:la'≠none:=by rw[ha];simp
   rcases hwh o3 with⟨z1,z2⟩|z
   ·have:ab (r.la i)≠p.lgb:=fun e=>Ea0 (hr.hL i hi) hr.hG (by decide) z1 e.symm;rw[<- ha,z2];intro e;exact this (Option.some.inj e)
   ·rw[<- ha];intro e;have:ab la'=p.lgb:=Option.some.inj e;omega)
 refine⟨hp,⟨fun t n h1 h2 h3=>?_,hG,fun j hj=>?_,fun j k hj hk hjk h1 h2=>?_,fun b hb=>?_,hr.lG⟩⟩
 ·obtain⟨sa,hS⟩:=hr.hS t n h1 h2 h3;exact⟨sa,(stay _ (K3 hS).lt (O0.ne hS hr.hG (ok0 t).2.1) fun ha=>Ea0 (hr.hL i hi) hS (ok0 t).2.2 ha).trans hS⟩
 ·show Own w3 p.B _ 1 (D7 r.la i la' j) (D7 s.W1 i (s.W1 i ++ [a]) j).length (D7 r.lc i lc' j) ((D7 s.W1 i (s.W1 i ++ [a]) j).map (.int .i64 ·));by_cases V2:j=i
  ·subst V2;rw[R3,R3,R3,List.length_append,List.map_append];exact hO3
  ·rw[j4 V2,j4 V2,j4 V2];refine Own.congr (hr.hL j hj) fun ha=>?_;obtain⟨cur,hc,_⟩:=(hr.hL j hj).row ha;exact stay _ (K3 hc).lt (O0.ne hc hr.hG (by decide)) (fun ha2=>hr.inj j i hj hi V2 ha ha2)
 ·have h1:D7 r.la i la' j≠none:=h1;have h2:D7 r.la i la' k≠none:=h2;show ab (D7 r.la i la' j)≠ab (D7 r.la i la' k);have key:∀j,j<p.m->j≠i->r.la j≠none->la'≠none->ab (r.la j)≠ab la':=fun j hj V2 ha hb e=>by
   rcases hwh hb with⟨z1,z2⟩|z
   ·exact hr.inj j i hj hi V2 ha z1 (e.trans z2)
   ·have:=(hr.hL j hj).lt ha;omega
  by_cases e1:j=i
  ·have e2:k≠i:=fun e=>hjk (e1.trans e.symm);rw[e1,R3]at h1⊢;rw[j4 e2]at h2⊢;exact fun e=>key k hk e2 h2 h1 e.symm
  ·rw[j4 e1]at h1⊢;by_cases e2:k=i
   ·rw[e2,R3]at h2⊢;exact key j hj e1 h1 h2
   ·rw[j4 e2]at h2⊢;exact hr.inj j k hj hk hjk h1 h2
 ·have ho:=hr.er1 hp hb;exact(stay b (hr.vis hp (.inr (.inr (.inr hb)))).1 ho.2.1 (fun ha=>ho.2.2 i hi ha)).trans (hr.ro b hb)
theorem O9.B (h:O9 p w s r):p.B <=w.heap.size:=Nat.le_trans h.mem.lG (Nat.le_of_lt (K3 h.mem.hG).lt)
end
theorem zt0 {N i lc':Nat} {la':Option Addr} {r:j6} {lg:Nat->List Int} (a:Int):setRow (arr N fun j=>.slice (r.la j) (lg j).length (r.lc j)) (0+i*1) [.slice la' ((lg i).length+1) lc']=arr N fun j=>.slice (D7 r.la i la' j) (D7 lg i (lg i ++ [a]) j).length (D7 r.lc i lc' j):=by
 rw[Nat.zero_add,Nat.mul_one,I9];refine al0 fun j _=>?_;by_cases h:j=i
 ·subst h;rw[if_pos rfl,R3,R3,R3,List.length_append,List.length_singleton]
 ·rw[if_neg h,j4 h,j4 h,j4 h]
theorem Xm0 {p:V3} {fb:Nat->FuncId} {q:PR (L1 p)} {w00:World} {i cb:Nat} {top:List Frame} {sI:PS} {rI:j6} {ob bp tp oc:Nat} {oa:Option Addr} (hD:rg0 p i ob bp tp oa oc) (him:i<p.m) (w0:World) (hE:O9 p w0 sI rI) (hc:CSt (O2 p fb q w00 i cb top) w0 (C4 (p.bo i) 0 sI)) :
  @Calls prog (N0 (O2 p fb q w00 i cb top)) 46 #[.pointer (some ⟨cb,0,none⟩),.pointer (some ⟨ob,0,none⟩),.pointer (some ⟨bp,0,none⟩),.pointer (some ⟨tp,0,none⟩)] w0 (fun e u=>∃F',(O2 p fb q w00 i cb top).Bf0 u F' e):=by
 letI:Ctx prog:=N0 (O2 p fb q w00 i cb top);refine Calls.C6 (n:=32) func46 rfl rfl ?_;have hlen:=hD.len;refine U2 ?_;refine U179 ?_;refine W.loop (fun k e w=>∃j:Nat,∃s:PS,∃r:j6,k=(p.bo i).length-j/\e 0= .p cb/\e 1= .pointer (some ⟨ob,0,none⟩)/\e 2= .pointer (some ⟨bp,0,none⟩)/\e 3= .pointer (some ⟨tp,0,none⟩)/\e 5= .int .i64 (j:Nat)/\O9 p w s r/\CSt (O2 p fb q w00 i cb top) w (C4 (p.bo i) j s)/\j <=(p.bo i).length) _ ⟨0,sI,rI,rfl,rfl,rfl,rfl,rfl,rfl,hE,hc,Nat.zero_le _⟩ ?_;rintro k e w ⟨j,s,r,hk,s0,s1,s2,s3,s5,hE,hc,hjn⟩;rw[V0 s0,V0 s1,V0 s2,V0 s3,V0 s5];clear s0 s1 s2 s3 s5;have hOb:=hD.ob_ hE;have hBp:=hD.bp_ hE;have hTp:=hD.tp_ hE;have Xn0:=hD.ln1 hE;refine U15 ?_;refine L.va (A0 rfl underlying50 rfl (hOb.E0 0 (v:=.slice oa ((p.bo i).length) oc) rfl)) ?_;refine L.va (S6 rfl underlying50 rfl) ?_;refine U25 ?_;refine W.Q8 rfl (fun h10=>?_) (fun h10=>?_)
 ·refine W.skip ?_;show W _ _ _ _ _ _;refine W.seq ?_;refine W.block ?_;refine W.seq ?_;obtain⟨o,ho⟩:∃o,(p.bo i)[j]? =some o:=⟨_,List.getElem?_eq_getElem (by omega)⟩
  refine W.ej0 6 (fun w'=>Below w.heap.size w w') (by kernel_rfl) (by kernel_rfl) (by kernel_rfl) (by kernel_rfl) ((Below.refl w.heap.size w).drew) ?_;refine D.va (fun w' C1=>(A0 rfl underlying54 rfl ((hBp.j0 C1).E0 0 (v:=.p p.tb) rfl))) ?_;refine D.va (fun w' C1=>(W3 rfl)) ?_;refine D.va (fun w' C1=>(A0 rfl underlying50 rfl ((hOb.j0 C1).E0 0 (v:=.slice oa ((p.bo i).length) oc) rfl))) ?_;refine D.va (fun w' C1=>(m3 rfl)) ?_;refine D.va (fun w' C1=>(S3 (i:=j) rfl rfl underlying50 w6 Xn0.sl (by omega))) ?_;refine D.va (fun w' C1=>(j1 (cs:=re0 o) rfl underlying52 rfl w6 rfl (fun q v hq=>(Xn0.j0 C1).cell j o ho q v hq))) ?_;refine D.nil (fun w P1=>?_);refine U121 ?_;intro hE hc;clear P1;have A5:=Xk0 w hE hc ho;refine L.B4 rfl (G8 rfl rfl rfl func39 rfl jo1 rfl) A5 ?_ ?_ (fun _ h=>h)
  rotate_left
  ·rintro ch u ⟨n7,hh⟩;exact hh.done (Sys.kok (ji0 hE.ok)) n7 hc.os hc.output
  rintro _ w ⟨s1,r1,W7,j9,hl1,hv⟩;obtain⟨z,hz⟩:∃z,z=Z5 o s1:=⟨_,rfl⟩
  rw[<- hz]at W7 j9 hv;have hl:(z.1.W1 i).length=j:=by rw[hz,K9];exact hl1
  subst hv;clear A5 hE hc hOb hBp Xn0 hTp hl1 hz;have hE:=W7;have hc:=j9;clear W7 j9;have hTp:=hD.tp_ hE;refine U9 ?_;have hG:=hE.mem.hG;have hT:=hE.mem.hL i him;have Qz0:=kn0 hT;refine W.fp 11 [9,10] [] [0,1,2,3,4,5,6,7,8,9,10] (fun ch u=>∃F',(O2 p fb q w00 i cb top).Bf0 u F' (.panicked ch)) (fun w'=>O0 w' tp #[.slice (some ⟨p.lgb,0,none⟩) p.m p.m] 31/\O0 w' p.lgb (arr p.m fun j=>.slice (r1.la j) (z.1.W1 j).length (r1.lc j)) 45) (by kernel_rfl) (by kernel_rfl) (by kernel_rfl) (by kernel_rfl) (by kernel_rfl) (by kernel_rfl) (fun _ _ _ h=>h) (⟨hTp.j0 (Below.refl w.heap.size w).drew,hG.j0 (Below.refl w.heap.size w).drew⟩) ?_;have L4:Below w.heap.size w w.drew:=(Below.refl w.heap.size w).drew;have hE:=hE.j0 L4;have hc:=hc.j0 L4;have hTp:=hTp.j0 L4;have hG:=hG.j0 L4;have hT:=hT.j0 L4;clear L4;generalize w.drew=w at *;refine U479 ?_;refine U479 ?_;refine FP.va rfl rfl (fun w' C1=>S3 (i:=i) rfl rfl underlying31 yv0 (fun _=>rfl) him) ?_;refine FP.va rfl rfl (fun w' C1=>A0 (v:=.slice (r1.la i) (z.1.W1 i).length (r1.lc i)) rfl underlying45 rfl (by show World.cell? w' ⟨p.lgb,0+i*1,none⟩=_;rw[Nat.zero_add,Nat.mul_one];exact O0.E0 C1.2 i (v7 him))) ?_;refine FP.va rfl rfl (fun w' C1=>(m3 rfl)) ?_;refine FP.doo rfl rfl ?_;refine L.fd0 (cs:=#[.int .i64 z.2]) rfl rfl underlying45 sz2 rfl ⟨_,zr2⟩ (by decide) (fun w b29 F29=>?_);have et1:=Nat.le_refl w.heap.size;have nw1:r1.la i≠none->ab (r1.la i)≠b29:=fun h=>by have h8:=hT.lt h;have h9:=F29.here;omega
  have hE:=hE.j0 F29.below;have hc:=hc.j0 F29.below;have hTp:=hTp.j0 F29.below;have hG:=hG.j0 F29.below;have hT:=hT.j0 F29.below;have Fx0:=F29.blk;refine L.nil (.inl ⟨rfl,_,.inl rfl,⟨hTp,hG⟩,?_⟩);refine FP.doo rfl rfl ?_;refine L.iy0 (B:=p.B) (m:=1) rfl rfl underlying45 in2 rfl (by decide) hT (news:=[.int .i64 z.2]) rfl (fun q u hq=>?_) (fun u hu=>by simp at hu;rcases hu with rfl;rfl) (by omega) (by omega) hE.B (fun la2 lc2 w2 hO2 hga hwh=>?_)
  ·rw[Addr.add_lit]
   match q,hq with
   |0,hq=>cases hq;exact Fx0.E0 0 rfl
  have hG:=O0.app hG hT hga (by decide);have hTp:=O0.app hTp hT hga (by decide);have hc:=hc.G5 hga trivial;rename_i nx1;refine L.nil (.inl ⟨rfl,_,.inl rfl,⟨hTp,hG⟩,?_⟩);refine FP.nil ?_;show L _ _ _ _ _ _ _;refine L.va (S3 (i:=i) rfl rfl underlying31 yv0 (fun _=>rfl) him) ?_;refine L.put (b:=p.lgb) (o:=0+i*1) (vs:=[.slice la2 ((z.1.W1 i).length+1) lc2]) _ rfl rfl rfl yv0 rfl rfl hG (by rw[H8];omega) (zt0 z.2) (fun w Z0 hg I2=>?_);have hE2:=hE.Xl0 him z.2 hO2 hga hwh Z0 hg;have hc:=hc.G5 hg trivial;clear hE hG Z0 hTp;refine U192 ?_;refine U29 ?_;exact⟨_,by omega,⟨j+1,_,_,rfl,rfl,rfl,rfl,rfl,rfl,hE2,hc,by omega⟩⟩
 ·refine W.exit ?_;refine U226 ?_;refine U145 ?_;rw[Cc0 (by omega)]at hc;exact hE.done hc
end Go.Vy.Sc
end
section
namespace Go.Vy
open Go Go.Conc Go.Yc
open Go.Vc (Env upd j3 ev)
open Go.RowKit Go.Proofs
section
variable {P:Program}{ρ:Operand->Value}{d:Option Nat}{ty:TypeId}{ps:String}{af:Array Edge}{g:Option (Nat×Bool)}{x y:Operand}{w:World}
theorem _root_.Go.Vc.ol0 {f:FuncId} {fn:Func} {aT:Array TypeId} {a:Addr} {k:IntKind} {z:Int} {u:Value} (hx:ρ x= .pointer (some a)) (hy:ρ y= .int k z) (hf:P.funcs[f]? =some fn) (k3:(fn.name== "runtime.NumGoroutine")=false) (hb:fn.body.isNone=true) (hn:Extern.findNext fn=none)
  (he:Extern.find fn=some Extern.Atomic.storeT) (hc:w.cell? a=some u) (hz:w.frozen? a=false) (hρ:ρ (.func f)= .func (.func f) #[] #[]) :
  (execOp ρ ⟨d,.call ⟨.value (.func f),#[x,y],aT⟩,ty,ps,af,g⟩).run P w= .ok (.value (.tuple #[])) (w.setCell a (.int k z)):=by
 have h1:(callFunc f #[.pointer (some a),.int k z]).run P w= .ok (.value (.tuple #[])) (w.setCell a (.int k z)):=by
  rw[run_callFunc_extern hf k3 hb hn he];change (Sem.run P (do
   store (<- asAddr (.pointer (some a))) (.int k z) .atomic
   pure Extern.Atomic.none_) w).andThen _=_
  simp[asAddr,hc,hz,run_store P w a (.int k z) .atomic rfl,Result.andThen,Extern.Atomic.none_]
 simp[execOp,resolve,hρ,Deferred.ofValue,invoke,hx,hy,h1]
theorem ol0 {f:FuncId} {fn:Func} {aT:Array TypeId} {a:Addr} {k:IntKind} {z:Int} {u:Value} (hx:ρ x= .pointer (some a)) (hy:ρ y= .int k z) (hf:P.funcs[f]? =some fn) (k3:(fn.name== "runtime.NumGoroutine")=false) (hb:fn.body.isNone=true) (hn:Extern.findNext fn=none)
  (he:Extern.find fn=some Extern.Atomic.storeT) (hc:w.cell? a=some u) (hz:w.frozen? a=false) (hρ:ρ (.func f)= .func (.func f) #[] #[]) :
  Does P (execOp ρ ⟨d,.call ⟨.value (.func f),#[x,y],aT⟩,ty,ps,af,g⟩) w (.val (.tuple #[])) (w.setCell a (.int k z)) :=
 .B1 (by
  show D1 P (do let d <- Deferred.ofValue (ρ (.func f)) (#[x,y].map ρ);invoke d.target d.args);rw[hρ];refine U516 ?_;have e1:(#[] ++ #[x,y].map ρ ++ #[]:Array Value)=#[.pointer (some a),.int k z]:=by simp[hx,hy]
  rw[e1];show D1 P (do store (<- asAddr (.pointer (some a))) (.int k z) .atomic;pure Extern.Atomic.none_);exact G1 (ig0 _) fun b=>G1 (vs0 _ _ _) fun _=>I1 _) rfl rfl fun τ dd=>Go.Vc.ol0 hx hy hf k3 hb hn he hc hz hρ
end
end Go.Vy
namespace Go.Vy.Sc
open Go Go.Conc Go.Yc Go.RowKit Go.Proofs Go.Proofs.YtnifpkopeheodaaGreat Tryz
open Go.Vc Go.Wg
theorem exI:Extern.find Tryz.f107=some Extern.Atomic.storeT:=by kernel_rfl
theorem enI:Extern.findNext Tryz.f107=none:=by kernel_rfl
theorem exS:Extern.find Tryz.f85=some Extern.Atomic.storeT:=by kernel_rfl
theorem enS:Extern.findNext Tryz.f85=none:=by kernel_rfl
theorem nzN:(prog.info? 2).map (fun i=>decide (i.size=0))=some false:=by kernel_rfl
theorem buM (x:Option Addr):prog.built 113 [(0,.iface 193 (.pointer x))]=some #[.iface 193 (.pointer x)]:=by kernel_rfl
theorem buR (x:Option Addr):prog.built 125 [(0,.iface 193 (.pointer x))]=some #[.iface 193 (.pointer x)]:=by kernel_rfl
section
variable [Ctx prog]
end
section
theorem Xo0:prog.built 105 []=some #[.bool false]:=by kernel_rfl
theorem Xp0 (x0:Bool):prog.built 105 [(0,.bool x0)]=some #[.bool x0]:=by kernel_rfl
theorem Cg0 (x0:Int) (x1:Int):prog.built 107 [(0,.int .i64 x0),(1,.int .i64 x1)]=some #[.int .i64 x0,.int .i64 x1]:=by kernel_rfl
theorem Xq0 (x0:Int) (x1:Int):prog.built 195 [(0,.agg #[.int .i64 x0,.int .i64 x1])]=some #[.int .i64 x0,.int .i64 x1,.bool false,.int .i64 0]:=by kernel_rfl
theorem Xr0 (x0:Int) (x1:Int) (x2:Option Addr) (x3:Int):prog.built 123 [(0,.agg #[.int .i64 x0,.int .i64 x1]),(1,.pointer x2),(2,.int .i64 x3)]=some #[.int .i64 x0,.int .i64 x1,.pointer x2,.int .i64 x3,.int .i64 0]:=by kernel_rfl
theorem Xs0 (x0:Int) (x1:Int) (x2:Option Addr) (x3:Int):prog.built 132 [(0,.agg #[.int .i64 x0,.int .i64 x1]),(1,.pointer x2),(2,.int .i64 x3)]=some #[.int .i64 x0,.int .i64 x1,.pointer x2,.int .i64 x3,.pointer none]:=by kernel_rfl
theorem Xt0 (x0:Int) (x1:Int) (x2:Option Addr) (x3:Int):prog.built 115 [(0,.agg #[.int .i64 x0,.int .i64 x1]),(1,.pointer x2),(2,.int .i64 x3)]=some #[.int .i64 x0,.int .i64 x1,.pointer x2,.int .i64 x3]:=by kernel_rfl
theorem Xu0:prog.built 72 []=some #[.pointer none,.pointer none,.pointer none,.pointer none,.pointer none,.pointer none,.pointer none,.pointer none,.pointer none,.pointer none]:=by kernel_rfl
end
section
variable [Ctx prog]
theorem ln0 (w0:World):C prog 36 #[] w0 fun v w=>∃wb,v= .pointer (some ⟨wb,0,none⟩)/\w0.heap.size <=wb/\O0 w wb #[.bool false] 105/\Below w0.heap.size w0 w:=by
 refine C.enter (n:=3) func36 rfl rfl ?_;refine U3 ?_;intro hb;refine U55 ?_;refine L.va (C3 (parts:=[]) rfl Xo0) ?_;refine L.box (cs:=#[.bool false]) rfl rfl (fun w b2 F2=>?_);refine U16 ?_;intro lt2 hb;have Z1:=F2.blk;refine U71 ?_;exact⟨b2,rfl,lt2,Z1,hb⟩
theorem Md0 (w0:World):C prog 17 #[] w0 fun v w=>∃wb,v= .pointer (some ⟨wb,0,none⟩)/\w0.heap.size <=wb/\O0 w wb #[.bool true] 105/\Below w0.heap.size w0 w:=by
 refine C.enter (n:=3) func17 rfl rfl ?_;refine U3 ?_;intro hb;refine U55 ?_;refine L.va (C3 (parts:=[(0,.const (.bool true))]) rfl (Xp0 true)) ?_;refine L.box (cs:=#[.bool true]) rfl rfl (fun w b2 F2=>?_);refine U16 ?_;intro lt2 hb;have Z1:=F2.blk;refine U71 ?_;exact⟨b2,rfl,lt2,Z1,hb⟩
theorem Fy0 (wb:Nat) (obj num:Int) (w0:World) (hW:O0 w0 wb #[.bool false] 105):C prog 81 #[.pointer (some ⟨wb,0,none⟩),.int .i64 obj,.int .i64 num] w0 fun v w=>∃sb,v= .iface 193 (.pointer (some ⟨sb,0,none⟩))/\w0.heap.size <=sb/\O0 w sb #[.int .i64 obj,.int .i64 num,.bool false,.int .i64 0] 195/\Below w0.heap.size w0 w:=by
 refine C.enter (n:=18) func81 rfl rfl ?_;refine U3 ?_;intro hb;refine L.va ex0 ?_;refine U137 ?_;refine L.va (W3 rfl) ?_;refine L.call (C2 rfl func44 rfl Bl0 rfl) (jf0 wb _ hW) ?_;rintro _ w1 ⟨rfl,hw⟩;refine U19 ?_;refine U48 ?_;refine U194 ?_;refine L.va (C3 (parts:=[(0,.tmp 12),(1,.tmp 13)]) rfl (Cg0 obj num)) ?_;refine L.va (C3 (parts:=[(0,.tmp 14)]) rfl (Xq0 obj num)) ?_;refine L.box (cs:=#[.int .i64 obj,.int .i64 num,.bool false,.int .i64 0]) rfl rfl (fun w b16 F16=>?_);have Ch0:=F16.lq hb.size;have hb:=P0 hb F16.below;have om0:=F16.blk;refine L.va (A9 (v:=.pointer (some ⟨b16,0,none⟩)) rfl underlying193 rfl) ?_;refine L.va ex0 ?_;refine U5 ?_;refine U109 ?_;exact⟨b16,rfl,Ch0,om0,hb⟩
theorem zu0 (wb:Nat) (obj num:Int) (w0:World) (hW:O0 w0 wb #[.bool false] 105):C prog 51 #[.pointer (some ⟨wb,0,none⟩),.int .i64 obj,.int .i64 num] w0 fun v w=>∃mb sb,v= .pointer (some ⟨mb,0,none⟩)/\w0.heap.size <=mb/\w0.heap.size <=sb/\O0 w mb #[.iface 193 (.pointer (some ⟨sb,0,none⟩))] 113/\O0 w sb #[.int .i64 obj,.int .i64 num,.bool false,.int .i64 0] 195/\Below w0.heap.size w0 w:=by
 refine C.enter (n:=13) func51 rfl rfl ?_;refine U3 ?_;intro hb;refine U55 ?_;refine U58 ?_;refine U470 ?_;rintro _ w ⟨sb,rfl,lts,hS,P1⟩;have lts:=Nat.le_trans hb.size lts;have hb:=P0 hb P1;refine L.va (C3 (vs:=[(0,(.iface 193 (.pointer (some ⟨sb,0,none⟩))))]) rfl (buM _)) ?_;refine L.box (cs:=#[(.iface 193 (.pointer (some ⟨sb,0,none⟩)))]) rfl rfl (fun w b12 F12=>?_);have Ra0:=F12.lq hb.size;have hb:=P0 hb F12.below;have hS:=hS.j0 F12.below;have kp0:=F12.blk;refine U71 ?_;exact⟨b12,sb,rfl,Ra0,lts,kp0,hS,hb⟩
theorem oo0 (wb:Nat) (obj num:Int) (w0:World) (hW:O0 w0 wb #[.bool false] 105):C prog 52 #[.pointer (some ⟨wb,0,none⟩),.int .i64 obj,.int .i64 num] w0 fun v w=>∃mb sb,v= .pointer (some ⟨mb,0,none⟩)/\w0.heap.size <=mb/\w0.heap.size <=sb/\O0 w mb #[.iface 193 (.pointer (some ⟨sb,0,none⟩))] 125/\O0 w sb #[.int .i64 obj,.int .i64 num,.bool false,.int .i64 0] 195/\Below w0.heap.size w0 w:=by
 refine C.enter (n:=13) func52 rfl rfl ?_;refine U3 ?_;intro hb;refine U55 ?_;refine U58 ?_;refine U470 ?_;rintro _ w ⟨sb,rfl,lts,hS,P1⟩;have lts:=Nat.le_trans hb.size lts;have hb:=P0 hb P1;refine L.va (C3 (vs:=[(0,(.iface 193 (.pointer (some ⟨sb,0,none⟩))))]) rfl (buR _)) ?_;refine L.box (cs:=#[(.iface 193 (.pointer (some ⟨sb,0,none⟩)))]) rfl rfl (fun w b12 F12=>?_);have Ra0:=F12.lq hb.size;have hb:=P0 hb F12.below;have hS:=hS.j0 F12.below;have kp0:=F12.blk;refine U71 ?_;exact⟨b12,sb,rfl,Ra0,lts,kp0,hS,hb⟩
theorem Fz0 (cb:Nat) (a b c d e:Value) (x:Int) (w0:World) (hC:O0 w0 cb #[a,b,c,d,e] 123) :
  C prog 82 #[.pointer (some ⟨cb,4,none⟩),.int .i64 x] w0 fun _ w=>O0 w cb #[a,b,c,d,.int .i64 x] 123/\w0.grownBy w (some cb):=by
 refine C.enter (n:=9) func82 rfl rfl ?_;refine W.region rfl ?_;refine U21 ?_;refine L.va (G0 rfl underlying121 rfl sz2 (by decide)) ?_;refine L.va (m3 rfl) ?_;refine L.va (ol0 (u:=e) rfl rfl func107 ct1 rfl enI exI (hC.E0 4 rfl) hC.frozen rfl) ?_;refine U85 ?_;exact⟨hC.set (o:=4) (.int .i64 x),gj0 w0 ⟨cb,4,none⟩ _⟩
theorem Ga0 (cb lb:Nat) (a b c d e f:Value) (w0:World) (hC:O0 w0 cb #[a,b,c,d,e] 132) (hL:O0 w0 lb #[f] 2) :
  C prog 61 #[.pointer (some ⟨cb,4,none⟩),.pointer (some ⟨lb,0,none⟩)] w0 fun _ w=>O0 w cb #[a,b,c,d,.pointer (some ⟨lb,0,none⟩)] 132/\w0.grownBy w (some cb):=by
 refine C.enter (n:=10) func61 rfl rfl ?_;refine W.region rfl ?_;refine U21 ?_;refine L.va (G0 rfl underlying130 rfl bp1 (by decide)) ?_;refine L.va (W3 rfl) ?_;refine L.va (gn0 rfl underlying126 underlying128 nzN (hL.E0 0 (v:=f) rfl)) ?_;refine L.va (ne0 (u:=e) rfl rfl func85 kj1 rfl enS exS (hC.E0 4 rfl) hC.frozen rfl) ?_;refine U85 ?_;exact⟨hC.set (o:=4) (.pointer (some ⟨lb,0,none⟩)),gj0 w0 ⟨cb,4,none⟩ _⟩
theorem op0 (wb:Nat) (obj num:Int) (x:Int) (w0:World) (hW:O0 w0 wb #[.bool false] 105):C prog 53 #[.pointer (some ⟨wb,0,none⟩),.int .i64 obj,.int .i64 num,.int .i64 x] w0 fun v w=>∃cb sa,v= .pointer (some ⟨cb,0,none⟩)/\w0.heap.size <=cb/\O0 w cb #[.int .i64 obj,.int .i64 num,.pointer (some ⟨wb,0,none⟩),.int .i64 x,sa] 123/\Below w0.heap.size w0 w:=by
 refine C.enter (n:=23) func53 rfl rfl ?_;refine U3 ?_;intro hb;refine U45 ?_;refine U522 ?_;refine U58 ?_;refine L.va (C3 (parts:=[(0,.tmp 12),(1,.tmp 13),(2,.tmp 14)]) rfl (Xr0 obj num ((some ⟨wb,0,none⟩)) x)) ?_;refine L.box (cs:=#[.int .i64 obj,.int .i64 num,.pointer (some ⟨wb,0,none⟩),.int .i64 x,.int .i64 0]) rfl rfl (fun w b16 F16=>?_);have Ch0:=F16.lq hb.size;have hb:=P0 hb F16.below;have om0:=F16.blk;refine U55 ?_;refine U21 ?_;refine L.va (G0 rfl underlying123 rfl bo1 (by decide)) ?_;refine L.va (m3 rfl) ?_;refine L.call (Q3 rfl rfl func82 rfl kh1 rfl) (Fz0 b16 _ _ _ _ _ x _ om0) ?_;rintro _ w ⟨Z0,hg⟩;have x6:=T3.eo0 om0 hg;have hb:=D3 hb hb.size hg Ch0;have om0:=Z0;clear x6;refine U13 ?_;refine U311 ?_;exact⟨b16,_,rfl,Ch0,om0,hb⟩
theorem uv0 (wb:Nat) (obj num:Int) (x:Int) (w0:World) (hW:O0 w0 wb #[.bool false] 105):C prog 54 #[.pointer (some ⟨wb,0,none⟩),.int .i64 obj,.int .i64 num,.int .i64 x] w0 fun v w=>∃cb sa,v= .pointer (some ⟨cb,0,none⟩)/\w0.heap.size <=cb/\O0 w cb #[.int .i64 obj,.int .i64 num,.pointer (some ⟨wb,0,none⟩),.int .i64 x,sa] 132/\Below w0.heap.size w0 w:=by
 refine C.enter (n:=22) func54 rfl rfl ?_;refine U3 ?_;intro hb;refine L.box (cs:=#[.int .i64 x]) rfl rfl (fun w b7 F7=>?_);have lt7:=F7.lq hb.size;have hb:=P0 hb F7.below;have hB7:=F7.blk;refine U45 ?_;refine U522 ?_;refine L.va (W3 rfl) ?_;refine L.va (A0 rfl underlying2 rfl (hB7.E0 0 (v:=.int .i64 x) rfl)) ?_;refine L.va (C3 (parts:=[(0,.tmp 12),(1,.tmp 13),(2,.tmp 14)]) rfl (Xs0 obj num ((some ⟨wb,0,none⟩)) x)) ?_;refine L.box (cs:=#[.int .i64 obj,.int .i64 num,.pointer (some ⟨wb,0,none⟩),.int .i64 x,.pointer none]) rfl rfl (fun w b16 F16=>?_);have Ch0:=F16.lq hb.size;have hb:=P0 hb F16.below;have hB7:=hB7.j0 F16.below;have om0:=F16.blk;refine U55 ?_;refine U21 ?_;refine L.va (G0 rfl underlying132 rfl bq1 (by decide)) ?_;refine L.call (Q3 rfl rfl func61 rfl jz1 rfl) (Ga0 b16 b7 _ _ _ _ _ _ _ om0 hB7) ?_;rintro _ w ⟨Z0,hg⟩;have x6:=T3.eo0 om0 hg;have hb:=D3 hb hb.size hg Ch0;have om0:=Z0;clear x6;refine U13 ?_;refine U311 ?_;exact⟨b16,_,rfl,Ch0,om0,hb⟩
theorem Eh0 (wb:Nat) (obj num:Int) (x:Int) (w0:World) (hW:O0 w0 wb #[.bool false] 105):C prog 55 #[.pointer (some ⟨wb,0,none⟩),.int .i64 obj,.int .i64 num,.int .i64 x] w0 fun v w=>∃cb,v= .pointer (some ⟨cb,0,none⟩)/\w0.heap.size <=cb/\O0 w cb #[.int .i64 obj,.int .i64 num,.pointer (some ⟨wb,0,none⟩),.int .i64 x] 115/\Below w0.heap.size w0 w:=by
 refine C.enter (n:=16) func55 rfl rfl ?_;refine U3 ?_;intro hb;refine U45 ?_;refine U194 ?_;refine L.va (C3 (parts:=[(0,.tmp 9),(1,.tmp 10)]) rfl (Cg0 obj num)) ?_;refine U58 ?_;refine L.va (C3 (parts:=[(0,.tmp 11),(1,.tmp 12),(2,.tmp 13)]) rfl (Xt0 obj num ((some ⟨wb,0,none⟩)) x)) ?_;refine L.box (cs:=#[.int .i64 obj,.int .i64 num,.pointer (some ⟨wb,0,none⟩),.int .i64 x]) rfl rfl (fun w b15 F15=>?_);have Rb0:=F15.lq hb.size;have hb:=P0 hb F15.below;have Ci0:=F15.blk;refine U71 ?_;exact⟨b15,rfl,Rb0,Ci0,hb⟩
structure dm0 (w:World) (B wb tb:Nat) (sb mb:Nat->Nat->Nat):Prop where
 hT:O0 w tb (arr 10 fun j=>.pointer (some ⟨if j/2+1 <=2 then mb (j/2+1) (j%2) else sb (j/2+1) (j%2),0,none⟩)) 72
 lT:B <=tb
 hM:∀t n,1 <=t->t <=2->n<2->O0 w (mb t n) #[.iface 193 (.pointer (some ⟨sb t n,0,none⟩))] (mty t)/\B <=mb t n
 hS:∀t n,1 <=t->t <=5->n<2->∃sa,O0 w (sb t n) (O7 wb ps0 t n sa) (tty t)
 lS:∀t n,1 <=t->t <=5->n<2->B <=sb t n
 inj:∀t n t' n',1 <=t->t <=5->n<2->1 <=t'->t' <=5->n'<2->sb t n=sb t' n'->t=t'/\n=n'
def sel (a0 a1 b0 b1 c0 c1 d0 d1 e0 e1:Nat) (t n:Nat):Nat:=match t with
 |1=>if n=0 then a0 else a1
 |2=>if n=0 then b0 else b1
 |3=>if n=0 then c0 else c1
 |4=>if n=0 then d0 else d1
 |_=>if n=0 then e0 else e1
omit [Ctx prog] in
theorem E3 {w:World} {b b':Nat} {cs H6:Array Value} {T T':TypeId} (h:O0 w b cs T) (h':O0 w b' H6 T') (hT:T≠T'):b≠b':=O0.ne h h' hT
omit [Ctx prog] in
set_option maxHeartbeats 4000000 in
theorem Xv0 (x10 x11 x20 x21 x30 x31 x40 x41 x50 x51:Nat) (ny1:x10≠x11) (nz1:x10≠x20) (oa1:x10≠x21) (ob1:x10≠x30) (oc1:x10≠x31) (od1:x10≠x40) (oe1:x10≠x41) (of1:x10≠x50) (og1:x10≠x51) (oh1:x11≠x20) (oi1:x11≠x21) (oj1:x11≠x30) (ok1:x11≠x31) (ol1:x11≠x40) (om1:x11≠x41) (on1:x11≠x50) (oo1:x11≠x51) (op1:x20≠x21) (oq1:x20≠x30) (or1:x20≠x31) (os1:x20≠x40) (ot1:x20≠x41) (ou1:x20≠x50) (ov1:x20≠x51) (ow1:x21≠x30) (ox1:x21≠x31) (oy1:x21≠x40) (oz1:x21≠x41) (pa1:x21≠x50) (pb1:x21≠x51) (pc1:x30≠x31) (pd1:x30≠x40) (pe1:x30≠x41) (pf1:x30≠x50) (pg1:x30≠x51) (ph1:x31≠x40) (pi1:x31≠x41) (pj1:x31≠x50) (pk1:x31≠x51) (pl1:x40≠x41) (pm1:x40≠x50) (pn1:x40≠x51) (po1:x41≠x50) (pp1:x41≠x51) (pq1:x50≠x51):∀t n t' n',1 <=t->t <=5->n<2->1 <=t'->t' <=5->n'<2->sel x10 x11 x20 x21 x30 x31 x40 x41 x50 x51 t n=sel x10 x11 x20 x21 x30 x31 x40 x41 x50 x51 t' n'->t=t'/\n=n':=by
 intro t n t' n' h1 h2 h3 h4 h5 h6 he;obtain rfl|rfl|rfl|rfl|rfl:t=1\/t=2\/t=3\/t=4\/t=5:=by omega
 all_goals obtain rfl|rfl|rfl|rfl|rfl:t'=1\/t'=2\/t'=3\/t'=4\/t'=5:=by omega
 all_goals obtain rfl|rfl:n=0\/n=1:=by omega
 all_goals obtain rfl|rfl:n'=0\/n'=1:=by omega
 all_goals first|exact⟨rfl,rfl⟩|(exfalso;simp[sel]at he;first|exact absurd he (by assumption)|exact absurd he.symm (by assumption))
set_option maxHeartbeats 4000000 in
theorem Me0 (wb:Nat) (w0:World) (hW:O0 w0 wb #[.bool false] 105):C prog 16 #[.pointer (some ⟨wb,0,none⟩)] w0 fun v w=>∃tb sb mb,v= .pointer (some ⟨tb,0,none⟩)/\dm0 w w0.heap.size wb tb sb mb/\Below w0.heap.size w0 w:=by
 refine C.enter (n:=52) func16 rfl rfl ?_;refine U3 ?_;intro hb;refine U55 ?_;refine L.va (C3 (parts:=[]) rfl Xu0) ?_;refine L.box (cs:=#[.pointer none,.pointer none,.pointer none,.pointer none,.pointer none,.pointer none,.pointer none,.pointer none,.pointer none,.pointer none]) rfl rfl (fun w b6 F6=>?_);have lt6:=F6.lq hb.size;have hb:=P0 hb F6.below;have hW:=hW.j0 F6.below;have u6:=F6.blk;refine U45 ?_;refine U54 ?_;refine W.rounds 3 ?_;refine ea0.go ?_;refine U15 ?_;refine L.va (E1 (r:=true) (by decide) (im0 (m:=0) (k:=2) rfl rfl)) ?_;refine U23 ?_;refine U189 ?_;refine W.seq ?_;refine U425 ?_;intro L4 hb hW u6;clear L4;generalize w.drew=w at *;refine U31 ?_;refine U484 ?_;refine L.call (G8 rfl rfl rfl func51 rfl bw1 rfl) (zu0 wb 1 0 _ hW) ?_;rintro _ w ⟨m10,s10,rfl,lo1,lp1,k6,u5,P1⟩;have eu1:=Nat.le_trans hb.size lo1;have ev1:=Nat.le_trans hb.size lp1;refine U444 ?_;intro hb hW u6;refine L.nil ⟨rfl,trivial,?_⟩;refine U6 ?_;refine L.va (M1 (i:=0) (n:=2) rfl rfl underlying62 Ff0 (by decide)) ?_;refine L.pu 0 [.pointer (some ⟨m10,0,none⟩)] #[.pointer (some ⟨m10,0,none⟩),.pointer none,.pointer none,.pointer none,.pointer none,.pointer none,.pointer none,.pointer none,.pointer none,.pointer none] Ff0 u6 (fun w Z0 hg I2=>?_);refine U40 ?_;intro x6 hb hW u5 k6;have u6:=Z0;refine U105 ?_;refine U41 ?_;intro L4 hb hW u6 u5 k6;clear L4;generalize w.drew=w at *;refine U31 ?_;refine U485 ?_;refine L.call (G8 rfl rfl rfl func52 rfl bx1 rfl) (oo0 wb 2 0 _ hW) ?_;rintro _ w ⟨m20,s20,rfl,lq1,ew1,K5,m5,P1⟩;have ex1:=Nat.le_trans hb.size lq1;have ey1:=Nat.le_trans hb.size ew1;have Xw0:s10≠s20:=Nat.ne_of_lt (Nat.lt_of_lt_of_le (K3 u5).lt ew1);refine U53 ?_;intro hb hW u6 u5 k6;refine L.nil ⟨rfl,trivial,?_⟩;refine U6 ?_;refine L.va (M1 (i:=0) (n:=2) rfl rfl underlying64 yx0 (by decide)) ?_;refine L.pu 2 [.pointer (some ⟨m20,0,none⟩)] #[.pointer (some ⟨m10,0,none⟩),.pointer none,.pointer (some ⟨m20,0,none⟩),.pointer none,.pointer none,.pointer none,.pointer none,.pointer none,.pointer none,.pointer none] yx0 u6 (fun w Z0 hg I2=>?_);refine U40 ?_;intro x6 hb hW u5 k6;refine U398 ?_;intro m5 K5;have u6:=Z0;refine U105 ?_;refine U41 ?_;intro L4 hb hW u6 u5 k6;refine U473 ?_;intro m5 K5;clear L4;generalize w.drew=w at *;refine U31 ?_;refine U486 ?_;refine L.call (m9 rfl rfl rfl rfl func53 rfl by1 rfl) (op0 wb 3 0 0 _ hW) ?_;rintro _ w ⟨s30,a30,rfl,lr1,L5,P1⟩;have ez1:=Nat.le_trans hb.size lr1;refine U53 ?_;intro hb hW u6 u5 k6;refine U474 ?_;intro m5 K5;refine L.nil ⟨rfl,trivial,?_⟩;refine U6 ?_;refine L.va (M1 (i:=0) (n:=2) rfl rfl underlying66 Fg0 (by decide)) ?_;refine L.pu 4 [.pointer (some ⟨s30,0,none⟩)] #[.pointer (some ⟨m10,0,none⟩),.pointer none,.pointer (some ⟨m20,0,none⟩),.pointer none,.pointer (some ⟨s30,0,none⟩),.pointer none,.pointer none,.pointer none,.pointer none,.pointer none] Fg0 u6 (fun w Z0 hg I2=>?_);refine U40 ?_;intro x6 hb hW u5 k6;refine U51 ?_;intro m5 K5 L5;have u6:=Z0;refine U105 ?_;refine U41 ?_;intro L4 hb hW u6 u5 k6;refine U534 ?_;intro m5 K5 L5;clear L4;generalize w.drew=w at *;refine U31 ?_;refine U487 ?_;refine L.call (m9 rfl rfl rfl rfl func54 rfl bz1 rfl) (uv0 wb 4 0 0 _ hW) ?_;rintro _ w ⟨s40,a40,rfl,ls1,D6,P1⟩;have fa1:=Nat.le_trans hb.size ls1;refine U53 ?_;intro hb hW u6 u5 k6;refine U535 ?_;intro m5 K5 L5;refine L.nil ⟨rfl,trivial,?_⟩;refine U6 ?_;refine L.va (M1 (i:=0) (n:=2) rfl rfl underlying68 Fh0 (by decide)) ?_;refine L.pu 6 [.pointer (some ⟨s40,0,none⟩)] #[.pointer (some ⟨m10,0,none⟩),.pointer none,.pointer (some ⟨m20,0,none⟩),.pointer none,.pointer (some ⟨s30,0,none⟩),.pointer none,.pointer (some ⟨s40,0,none⟩),.pointer none,.pointer none,.pointer none] Fh0 u6 (fun w Z0 hg I2=>?_);refine U40 ?_;intro x6 hb hW u5 k6;refine U51 ?_;intro m5 K5 L5;have D6:=D6.mod x6 rfl;have u6:=Z0;clear x6;refine U5 ?_;refine U41 ?_;intro L4 hb hW u6 u5 k6;refine U106 ?_;intro m5 K5 L5 D6;clear L4;generalize w.drew=w at *;refine U31 ?_;refine U488 ?_;refine L.call (m9 rfl rfl rfl rfl func55 rfl ca1 rfl) (Eh0 wb 5 0 0 _ hW) ?_;rintro _ w ⟨s50,rfl,lu1,E6,P1⟩;have fb1:=Nat.le_trans hb.size lu1;refine U53 ?_;intro hb hW u6 u5 k6;refine U107 ?_;intro m5 K5 L5 D6;refine L.nil ⟨rfl,trivial,?_⟩;refine U6 ?_;refine L.va (M1 (i:=0) (n:=2) rfl rfl underlying70 Fi0 (by decide)) ?_;refine L.pu 8 [.pointer (some ⟨s50,0,none⟩)] #[.pointer (some ⟨m10,0,none⟩),.pointer none,.pointer (some ⟨m20,0,none⟩),.pointer none,.pointer (some ⟨s30,0,none⟩),.pointer none,.pointer (some ⟨s40,0,none⟩),.pointer none,.pointer (some ⟨s50,0,none⟩),.pointer none] Fi0 u6 (fun w Z0 hg I2=>?_);refine U40 ?_;intro x6 hb hW u5 k6;refine U51 ?_;intro m5 K5 L5;refine U97 ?_;intro D6 E6;have u6:=Z0;clear x6;refine U192 ?_;refine L.va (m3 rfl) ?_;refine L.va (wc0 (r:=1) (by decide) (by decide) rfl rfl) ?_;refine U256 ?_;refine ea0.go ?_;refine U15 ?_;refine L.va (E1 (r:=true) (by decide) (im0 (m:=1) (k:=2) rfl rfl)) ?_;refine U23 ?_;refine U189 ?_;refine W.seq ?_;refine U41 ?_;intro L4 hb hW u6 u5 k6;refine U106 ?_;intro m5 K5 L5 D6;have E6:=E6.j0 L4;clear L4;generalize w.drew=w at *;refine U31 ?_;refine U484 ?_;refine L.call (G8 rfl rfl rfl func51 rfl bw1 rfl) (zu0 wb 1 1 _ hW) ?_;rintro _ w ⟨m11,s11,rfl,lv1,Xx0,R9,P7,P1⟩;have fc1:=Nat.le_trans hb.size lv1;have fd1:=Nat.le_trans hb.size Xx0;have Xy0:s10≠s11:=Nat.ne_of_lt (Nat.lt_of_lt_of_le (K3 u5).lt Xx0);have Xz0:s20≠s11:=Nat.ne_of_lt (Nat.lt_of_lt_of_le (K3 m5).lt Xx0);refine U53 ?_;intro hb hW u6 u5 k6;refine U107 ?_;intro m5 K5 L5 D6;have E6:=E6.j0 P1;refine L.nil ⟨rfl,trivial,?_⟩;refine U6 ?_;refine L.va (M1 (i:=1) (n:=2) rfl rfl underlying62 Ff0 (by decide)) ?_;refine L.pu 1 [.pointer (some ⟨m11,0,none⟩)] #[.pointer (some ⟨m10,0,none⟩),.pointer (some ⟨m11,0,none⟩),.pointer (some ⟨m20,0,none⟩),.pointer none,.pointer (some ⟨s30,0,none⟩),.pointer none,.pointer (some ⟨s40,0,none⟩),.pointer none,.pointer (some ⟨s50,0,none⟩),.pointer none] Ff0 u6 (fun w Z0 hg I2=>?_);refine U40 ?_;intro x6 hb hW u5 k6;refine U51 ?_;intro m5 K5 L5;refine U97 ?_;intro D6 E6;refine U131 ?_;intro P7 R9;have u6:=Z0;refine U105 ?_;refine U41 ?_;intro L4 hb hW u6 u5 k6;refine U106 ?_;intro m5 K5 L5 D6;have E6:=E6.j0 L4;have P7:=P7.j0 L4;have R9:=R9.j0 L4;clear L4;generalize w.drew=w at *;refine U31 ?_;refine U485 ?_;refine L.call (G8 rfl rfl rfl func52 rfl bx1 rfl) (oo0 wb 2 1 _ hW) ?_;rintro _ w ⟨m21,s21,rfl,lw1,Rc0,cp0,k9,P1⟩;have fe1:=Nat.le_trans hb.size lw1;have ff1:=Nat.le_trans hb.size Rc0;have Ya0:s10≠s21:=Nat.ne_of_lt (Nat.lt_of_lt_of_le (K3 u5).lt Rc0);have Yb0:s20≠s21:=Nat.ne_of_lt (Nat.lt_of_lt_of_le (K3 m5).lt Rc0);have Yc0:s11≠s21:=Nat.ne_of_lt (Nat.lt_of_lt_of_le (K3 P7).lt Rc0);refine U53 ?_;intro hb hW u6 u5 k6;refine U107 ?_;intro m5 K5 L5 D6;have E6:=E6.j0 P1;have P7:=P7.j0 P1;have R9:=R9.j0 P1;refine L.nil ⟨rfl,trivial,?_⟩;refine U6 ?_;refine L.va (M1 (i:=1) (n:=2) rfl rfl underlying64 yx0 (by decide)) ?_;refine L.pu 3 [.pointer (some ⟨m21,0,none⟩)] #[.pointer (some ⟨m10,0,none⟩),.pointer (some ⟨m11,0,none⟩),.pointer (some ⟨m20,0,none⟩),.pointer (some ⟨m21,0,none⟩),.pointer (some ⟨s30,0,none⟩),.pointer none,.pointer (some ⟨s40,0,none⟩),.pointer none,.pointer (some ⟨s50,0,none⟩),.pointer none] yx0 u6 (fun w Z0 hg I2=>?_);refine U40 ?_;intro x6 hb hW u5 k6;refine U51 ?_;intro m5 K5 L5;refine U97 ?_;intro D6 E6;refine U131 ?_;intro P7 R9;have k9:=k9.mod x6 rfl;have cp0:=cp0.mod x6 rfl;have u6:=Z0;refine U105 ?_;refine U41 ?_;intro L4 hb hW u6 u5 k6;refine U106 ?_;intro m5 K5 L5 D6;have E6:=E6.j0 L4;have P7:=P7.j0 L4;have R9:=R9.j0 L4;have k9:=k9.j0 L4;have cp0:=cp0.j0 L4;clear L4;generalize w.drew=w at *;refine U31 ?_;refine U486 ?_;refine L.call (m9 rfl rfl rfl rfl func53 rfl by1 rfl) (op0 wb 3 1 0 _ hW) ?_;rintro _ w ⟨s31,a31,rfl,fg1,bd0,P1⟩;have fh1:=Nat.le_trans hb.size fg1;have Yd0:s30≠s31:=Nat.ne_of_lt (Nat.lt_of_lt_of_le (K3 L5).lt fg1);refine U53 ?_;intro hb hW u6 u5 k6;refine U107 ?_;intro m5 K5 L5 D6;have E6:=E6.j0 P1;have P7:=P7.j0 P1;have R9:=R9.j0 P1;have k9:=k9.j0 P1;have cp0:=cp0.j0 P1;refine L.nil ⟨rfl,trivial,?_⟩;refine U6 ?_;refine L.va (M1 (i:=1) (n:=2) rfl rfl underlying66 Fg0 (by decide)) ?_;refine L.pu 5 [.pointer (some ⟨s31,0,none⟩)] #[.pointer (some ⟨m10,0,none⟩),.pointer (some ⟨m11,0,none⟩),.pointer (some ⟨m20,0,none⟩),.pointer (some ⟨m21,0,none⟩),.pointer (some ⟨s30,0,none⟩),.pointer (some ⟨s31,0,none⟩),.pointer (some ⟨s40,0,none⟩),.pointer none,.pointer (some ⟨s50,0,none⟩),.pointer none] Fg0 u6 (fun w Z0 hg I2=>?_);refine U40 ?_;intro x6 hb hW u5 k6;refine U51 ?_;intro m5 K5 L5;refine U97 ?_;intro D6 E6;refine U131 ?_;intro P7 R9;have k9:=k9.mod x6 rfl;have cp0:=cp0.mod x6 rfl;have bd0:=bd0.mod x6 rfl;have u6:=Z0;refine U105 ?_;refine U41 ?_;intro L4 hb hW u6 u5 k6;refine U106 ?_;intro m5 K5 L5 D6;have E6:=E6.j0 L4;have P7:=P7.j0 L4;have R9:=R9.j0 L4;have k9:=k9.j0 L4;have cp0:=cp0.j0 L4;have bd0:=bd0.j0 L4;clear L4;generalize w.drew=w at *;refine U31 ?_;refine U487 ?_;refine L.call (m9 rfl rfl rfl rfl func54 rfl bz1 rfl) (uv0 wb 4 1 0 _ hW) ?_;rintro _ w ⟨s41,a41,rfl,fi1,fj0,P1⟩;have fj1:=Nat.le_trans hb.size fi1;have Ye0:s40≠s41:=Nat.ne_of_lt (Nat.lt_of_lt_of_le (K3 D6).lt fi1);refine U53 ?_;intro hb hW u6 u5 k6;refine U107 ?_;intro m5 K5 L5 D6;have E6:=E6.j0 P1;have P7:=P7.j0 P1;have R9:=R9.j0 P1;have k9:=k9.j0 P1;have cp0:=cp0.j0 P1;have bd0:=bd0.j0 P1;refine L.nil ⟨rfl,trivial,?_⟩;refine U6 ?_;refine L.va (M1 (i:=1) (n:=2) rfl rfl underlying68 Fh0 (by decide)) ?_;refine L.pu 7 [.pointer (some ⟨s41,0,none⟩)] #[.pointer (some ⟨m10,0,none⟩),.pointer (some ⟨m11,0,none⟩),.pointer (some ⟨m20,0,none⟩),.pointer (some ⟨m21,0,none⟩),.pointer (some ⟨s30,0,none⟩),.pointer (some ⟨s31,0,none⟩),.pointer (some ⟨s40,0,none⟩),.pointer (some ⟨s41,0,none⟩),.pointer (some ⟨s50,0,none⟩),.pointer none] Fh0 u6 (fun w Z0 hg I2=>?_);refine U40 ?_;intro x6 hb hW u5 k6;refine U51 ?_;intro m5 K5 L5;refine U97 ?_;intro D6 E6;refine U131 ?_;intro P7 R9;have k9:=k9.mod x6 rfl;have cp0:=cp0.mod x6 rfl;have bd0:=bd0.mod x6 rfl;have fj0:=fj0.mod x6 rfl;have u6:=Z0;clear x6;refine U5 ?_;refine U41 ?_;intro L4 hb hW u6 u5 k6;refine U106 ?_;intro m5 K5 L5 D6;have E6:=E6.j0 L4;have P7:=P7.j0 L4;have R9:=R9.j0 L4;have k9:=k9.j0 L4;have cp0:=cp0.j0 L4;have bd0:=bd0.j0 L4;have fj0:=fj0.j0 L4;clear L4;generalize w.drew=w at *;refine U31 ?_;refine U488 ?_;refine L.call (m9 rfl rfl rfl rfl func55 rfl ca1 rfl) (Eh0 wb 5 1 0 _ hW) ?_;rintro _ w ⟨s51,rfl,fk1,oq0,P1⟩;have fl1:=Nat.le_trans hb.size fk1;have Yf0:s50≠s51:=Nat.ne_of_lt (Nat.lt_of_lt_of_le (K3 E6).lt fk1);have hb:=P0 hb P1;have u6:=u6.j0 P1;refine U442 ?_;intro u5 k6;refine U107 ?_;intro m5 K5 L5 D6;have E6:=E6.j0 P1;have P7:=P7.j0 P1;have R9:=R9.j0 P1;have k9:=k9.j0 P1;have cp0:=cp0.j0 P1;have bd0:=bd0.j0 P1;have fj0:=fj0.j0 P1;refine L.nil ⟨rfl,trivial,?_⟩;refine U6 ?_;refine L.va (M1 (i:=1) (n:=2) rfl rfl underlying70 Fi0 (by decide)) ?_;refine L.pu 9 [.pointer (some ⟨s51,0,none⟩)] #[.pointer (some ⟨m10,0,none⟩),.pointer (some ⟨m11,0,none⟩),.pointer (some ⟨m20,0,none⟩),.pointer (some ⟨m21,0,none⟩),.pointer (some ⟨s30,0,none⟩),.pointer (some ⟨s31,0,none⟩),.pointer (some ⟨s40,0,none⟩),.pointer (some ⟨s41,0,none⟩),.pointer (some ⟨s50,0,none⟩),.pointer (some ⟨s51,0,none⟩)] Fi0 u6 (fun w Z0 hg I2=>?_);refine U344 ?_;intro x6 hb;refine U375 ?_;intro u5 k6;refine U51 ?_;intro m5 K5 L5;refine U97 ?_;intro D6 E6;refine U131 ?_;intro P7 R9;have k9:=k9.mod x6 rfl;have cp0:=cp0.mod x6 rfl;have bd0:=bd0.mod x6 rfl;have fj0:=fj0.mod x6 rfl;have oq0:=oq0.mod x6 rfl;have u6:=Z0;clear x6;refine U192 ?_;refine L.va (m3 rfl) ?_;refine L.va (wc0 (r:=2) (by decide) (by decide) rfl rfl) ?_;refine U256 ?_;refine ea0.go ?_;refine U15 ?_;refine L.va (E1 (r:=false) (by decide) (im0 (m:=2) (k:=2) rfl rfl)) ?_;refine U113 ?_;refine W.exit ?_;refine U72 ?_;refine U311 ?_;refine⟨b6,sel s10 s11 s20 s21 s30 s31 s40 s41 s50 s51,sel m10 m11 m20 m21 0 0 0 0 0 0,rfl,⟨u6,lt6,fun t n h1 h2 h3=>?_,fun t n h1 h2 h3=>?_,fun t n h1 h2 h3=>?_,?_⟩,hb⟩
 ·obtain rfl|rfl:t=1\/t=2:=by omega
  ·obtain rfl|rfl:n=0\/n=1:=by omega
   ·exact⟨k6,eu1⟩
   ·exact⟨R9,fc1⟩
  ·obtain rfl|rfl:n=0\/n=1:=by omega
   ·exact⟨K5,ex1⟩
   ·exact⟨cp0,fe1⟩
 ·obtain rfl|rfl|rfl|rfl|rfl:t=1\/t=2\/t=3\/t=4\/t=5:=by omega
  ·obtain rfl|rfl:n=0\/n=1:=by omega
   ·exact⟨.bool false,u5⟩
   ·exact⟨.bool false,P7⟩
  ·obtain rfl|rfl:n=0\/n=1:=by omega
   ·exact⟨.bool false,m5⟩
   ·exact⟨.bool false,k9⟩
  ·obtain rfl|rfl:n=0\/n=1:=by omega
   ·exact⟨a30,L5⟩
   ·exact⟨a31,bd0⟩
  ·obtain rfl|rfl:n=0\/n=1:=by omega
   ·exact⟨a40,D6⟩
   ·exact⟨a41,fj0⟩
  ·obtain rfl|rfl:n=0\/n=1:=by omega
   ·exact⟨.bool false,E6⟩
   ·exact⟨.bool false,oq0⟩
 ·obtain rfl|rfl|rfl|rfl|rfl:t=1\/t=2\/t=3\/t=4\/t=5:=by omega
  ·obtain rfl|rfl:n=0\/n=1:=by omega
   ·exact ev1
   ·exact fd1
  ·obtain rfl|rfl:n=0\/n=1:=by omega
   ·exact ey1
   ·exact ff1
  ·obtain rfl|rfl:n=0\/n=1:=by omega
   ·exact ez1
   ·exact fh1
  ·obtain rfl|rfl:n=0\/n=1:=by omega
   ·exact fa1
   ·exact fj1
  ·obtain rfl|rfl:n=0\/n=1:=by omega
   ·exact fb1
   ·exact fl1
 ·refine Xv0 s10 s11 s20 s21 s30 s31 s40 s41 s50 s51 Xy0 Xw0 Ya0 (E3 u5 L5 (by decide)) (E3 u5 bd0 (by decide)) (E3 u5 D6 (by decide)) (E3 u5 fj0 (by decide)) (E3 u5 E6 (by decide)) (E3 u5 oq0 (by decide)) Xz0.symm Yc0 (E3 P7 L5 (by decide)) (E3 P7 bd0 (by decide)) (E3 P7 D6 (by decide)) (E3 P7 fj0 (by decide)) (E3 P7 E6 (by decide)) (E3 P7 oq0 (by decide)) Yb0 (E3 m5 L5 (by decide)) (E3 m5 bd0 (by decide)) (E3 m5 D6 (by decide)) (E3 m5 fj0 (by decide)) (E3 m5 E6 (by decide)) (E3 m5 oq0 (by decide)) (E3 k9 L5 (by decide)) (E3 k9 bd0 (by decide)) (E3 k9 D6 (by decide)) (E3 k9 fj0 (by decide)) (E3 k9 E6 (by decide)) (E3 k9 oq0 (by decide)) Yd0 (E3 L5 D6 (by decide)) (E3 L5 fj0 (by decide)) (E3 L5 E6 (by decide)) (E3 L5 oq0 (by decide)) (E3 bd0 D6 (by decide)) (E3 bd0 fj0 (by decide)) (E3 bd0 E6 (by decide)) (E3 bd0 oq0 (by decide)) Ye0 (E3 D6 E6 (by decide)) (E3 D6 oq0 (by decide)) (E3 fj0 E6 (by decide)) (E3 fj0 oq0 (by decide)) Yf0
end
end Go.Vy.Sc
end
section
namespace Go.Vy.Sc
open Go Go.Conc Go.Yc Go.RowKit Go.Proofs Go.Proofs.YtnifpkopeheodaaGreat Tryz
open Go.Vc Go.Wg
open Go.ConcN (sumTo)
structure A7 (w:World) (ba:Option Addr) (m:Nat) (bo:Nat->List O1) (oa:Nat->Option Addr) (oc:Nat->Nat):Prop where
 sl:SL ba m
 row:∀i,i<m->w.cell? ⟨ab ba,ao ba+i*1,none⟩=some (.slice (oa i) (bo i).length (oc i))
 ops:∀i,i<m->gy0 w (oa i) (bo i)
 len:∀i,i<m->(bo i).length <=1048576
theorem A7.j0 {w w':World} {ba:Option Addr} {m:Nat} {bo:Nat->List O1} {oa:Nat->Option Addr} {oc:Nat->Nat} (h:A7 w ba m bo oa oc) (hb:Below w.heap.size w w'):A7 w' ba m bo oa oc :=
 ⟨h.sl,fun i hi=>C5 (h.row i hi) hb,fun i hi=>(h.ops i hi).j0 hb,h.len⟩
structure Rd0 (m:Nat) (bo:Nat->List O1) (sn:Nat):Prop where
 m1:m <=16
 sum:sumTo m (fun i=>(bo i).length) <=3000
 ops:∀i,i<m->∀o,o∈bo i->POk o
 sn1:sn <=20000
theorem Ei0 {bo:Nat->List O1}:∀{i:Nat},(∀j,j<i->(bo j).length <=1048576)->sumTo i (fun j=>(bo j).length) <=i*1048576
 |0,_=>Nat.le_refl _
 |i+1,h=>by
  have h1:=Ei0 (bo:=bo) (i:=i) fun j hj=>h j (by omega);have h2:=h i (by omega);show sumTo i _+(bo i).length <=_;omega
theorem Mf0 {bo:Nat->List O1} {i m:Nat} {x:Int} (hl:∀j,j<m->(bo j).length <=1048576) (hi:i<m) (hx:i <=16->x=(sumTo i (fun j=>(bo j).length):Nat)) (h:i+1 <=16):IntKind.i64.wrap (x+((bo i).length:Int))=(sumTo (i+1) (fun j=>(bo j).length):Nat):=by
 have h1:=Ei0 (bo:=bo) (i:=i) fun j hj=>hl j (by omega);have h2:=hl i hi;have h3:=hx (by omega);have h4:i*1048576 <=16*1048576:=Nat.mul_le_mul_right _ (by omega);show _=((sumTo i (fun j=>(bo j).length)+(bo i).length:Nat):Int);rw[IntWalk.i64_in _ (by omega),h3];omega
theorem Yg0 {bo:Nat->List O1} {i:Nat}:sumTo i (fun j=>(bo j).length) <=sumTo (i+1) (fun j=>(bo j).length):=Nat.le_add_right _ _
theorem Re0 {bo:Nat->List O1} {i k:Nat} {x y:Int} (hx:i <=16->x=(sumTo i (fun j=>(bo j).length):Nat)) (hk:i <=16->x <=3000->∀j,j<i->∀o,o∈bo j->POk o) (hy:i+1 <=16->y=(sumTo (i+1) (fun j=>(bo j).length):Nat))
  (hq:∀(q:Nat) o,q<k->(bo i)[q]? =some o->POk o) (he:¬(k<(bo i).length/\y <=3000)):i+1 <=16->y <=3000->∀j,j<i+1->∀o,o∈bo j->POk o:=by
 intro h1 h2 j V2 o ho;have h3:=hx (by omega);have h4:=hy h1;have h5:=Yg0 (bo:=bo) (i:=i);by_cases e:j=i
 ·subst e;obtain⟨q,hq1⟩:=List.mem_iff_getElem?.1 ho;have hq2:=(List.getElem?_eq_some_iff.1 hq1).1;exact hq q o (by omega) hq1
 ·exact hk (by omega) (by omega) j (by omega) o ho
section
variable [Ctx prog]
theorem Rf0 (o:O1) (w0:World):C prog 37 #[.agg #[.int .i64 o.I3,.int .i64 o.J9,.int .i64 o.call,.int .i64 o.val]] w0 fun v w=>∃b,v= .bool b/\(b=true↔POk o)/\Below w0.heap.size w0 w:=by
 refine C.enter (n:=55) func37 rfl rfl ?_;refine U266 ?_;intro hb w b1 F1;have lt1:=F1.lq hb.size;have hb:=P0 hb F1.below;have hB1:=F1.blk;refine U75 ?_;refine L.va (A0 rfl underlying3 rfl (hB1.E0 0 (v:=.int .i64 o.I3) rfl)) ?_;refine U8 ?_;refine L.va (H2 rfl rfl) ?_;refine U11 ?_;refine W.Q8 rfl (fun h5=>?_) (fun h5=>?_)
 ·refine W.seq ?_;refine U214 ?_;refine L.fc0 4 [10,11,12,13,14] 14 (.bool (decide (o.call=1\/o.call=2))) (tj:=10) rfl (fun Yh0=>?_) (fun Yh0=>?_) (fun f=>?_)
  ·refine L.off rfl ?_;refine U211 ?_;refine⟨rfl,congrArg Value.bool (by first|exact Om0 Yh0|rfl|(simp_all;done)|(rw[Bool.eq_iff_iff];simp_all;omega)),?_⟩;exact S0.upd rfl (S0.upd rfl (S0.upd rfl (S0.upd rfl (S0.upd rfl (S0.refl _ _)))))
  ·refine L.on rfl ?_;refine U212 ?_;refine⟨rfl,congrArg Value.bool (by first|exact On0 Yh0|rfl|(simp_all;done)|(rw[Bool.eq_iff_iff];simp_all;omega)),?_⟩;exact S0.upd rfl (S0.upd rfl (S0.upd rfl (S0.upd rfl (S0.upd rfl (S0.refl _ _)))))
  exact U117
 ·refine W.seq ?_;refine U219 ?_;refine W.Q8 rfl (fun h15=>?_) (fun h15=>?_)
  ·refine W.seq ?_;refine U458 ?_;refine L.va (yh0 rfl rfl) ?_;refine L.va (y9 rfl) ?_;refine L.fc0 4 [20,21,22,23,24] 24 (.bool (decide (1 <=o.call/\o.call <=4))) (tj:=20) rfl (fun Yi0=>?_) (fun Yi0=>?_) (fun f=>?_)
   ·refine L.on rfl ?_;refine U347 ?_;refine U221 ?_;refine⟨rfl,congrArg Value.bool (by first|exact yk0 Yi0|rfl|(simp_all;done)|(rw[Bool.eq_iff_iff];simp_all;omega)),?_⟩;exact S0.upd rfl (S0.upd rfl (S0.upd rfl (S0.upd rfl (S0.upd rfl (S0.refl _ _)))))
   ·refine L.off rfl ?_;refine U218 ?_;refine⟨rfl,congrArg Value.bool (by first|exact yj0 Yi0|rfl|(simp_all;done)|(rw[Bool.eq_iff_iff];simp_all;omega)),?_⟩;exact S0.upd rfl (S0.upd rfl (S0.upd rfl (S0.upd rfl (S0.upd rfl (S0.refl _ _)))))
   exact U117
  ·refine W.seq ?_;refine U219 ?_;refine W.Q8 rfl (fun h25=>?_) (fun h25=>?_)
   ·refine W.seq ?_;refine U214 ?_;refine L.fc0 4 [30,31,32,33,34] 34 (.bool (decide (o.call=5\/o.call=7))) (tj:=30) rfl (fun Yj0=>?_) (fun Yj0=>?_) (fun f=>?_)
    ·refine L.off rfl ?_;refine U211 ?_;refine⟨rfl,congrArg Value.bool (by first|exact Om0 Yj0|rfl|(simp_all;done)|(rw[Bool.eq_iff_iff];simp_all;omega)),?_⟩;exact S0.upd rfl (S0.upd rfl (S0.upd rfl (S0.upd rfl (S0.upd rfl (S0.refl _ _)))))
    ·refine L.on rfl ?_;refine U212 ?_;refine⟨rfl,congrArg Value.bool (by first|exact On0 Yj0|rfl|(simp_all;done)|(rw[Bool.eq_iff_iff];simp_all;omega)),?_⟩;exact S0.upd rfl (S0.upd rfl (S0.upd rfl (S0.upd rfl (S0.upd rfl (S0.refl _ _)))))
    exact U117
   ·refine W.seq ?_;refine U219 ?_;refine W.Q8 rfl (fun h35=>?_) (fun h35=>?_)
    ·refine W.seq ?_;refine U214 ?_;refine L.fc0 4 [40,41,42,43,44] 44 (.bool (decide (o.call=5\/o.call=6))) (tj:=40) rfl (fun Yk0=>?_) (fun Yk0=>?_) (fun f=>?_)
     ·refine L.off rfl ?_;refine U211 ?_;refine⟨rfl,congrArg Value.bool (by first|exact Om0 Yk0|rfl|(simp_all;done)|(rw[Bool.eq_iff_iff];simp_all;omega)),?_⟩;exact S0.upd rfl (S0.upd rfl (S0.upd rfl (S0.upd rfl (S0.upd rfl (S0.refl _ _)))))
     ·refine L.on rfl ?_;refine U212 ?_;refine⟨rfl,congrArg Value.bool (by first|exact On0 Yk0|rfl|(simp_all;done)|(rw[Bool.eq_iff_iff];simp_all;omega)),?_⟩;exact S0.upd rfl (S0.upd rfl (S0.upd rfl (S0.upd rfl (S0.upd rfl (S0.refl _ _)))))
     exact U117
    ·refine W.seq ?_;refine U219 ?_;refine W.Q8 rfl (fun h45=>?_) (fun h45=>?_)
     ·refine W.seq ?_;refine U214 ?_;refine L.fc0 4 [50,51,52,53,54] 54 (.bool (decide (o.call=8\/o.call=9))) (tj:=50) rfl (fun Cj0=>?_) (fun Cj0=>?_) (fun f=>?_)
      ·refine L.off rfl ?_;refine U211 ?_;refine⟨rfl,congrArg Value.bool (by first|exact Om0 Cj0|rfl|(simp_all;done)|(rw[Bool.eq_iff_iff];simp_all;omega)),?_⟩;exact S0.upd rfl (S0.upd rfl (S0.upd rfl (S0.upd rfl (S0.upd rfl (S0.refl _ _)))))
      ·refine L.on rfl ?_;refine U212 ?_;refine⟨rfl,congrArg Value.bool (by first|exact On0 Cj0|rfl|(simp_all;done)|(rw[Bool.eq_iff_iff];simp_all;omega)),?_⟩;exact S0.upd rfl (S0.upd rfl (S0.upd rfl (S0.upd rfl (S0.upd rfl (S0.refl _ _)))))
      exact U117
     ·refine W.skip ?_;refine U284 ?_;refine U36 ?_;exact⟨_,rfl,by unfold POk;simp only[Bool.false_eq_true,false_iff];omega,hb⟩
set_option maxHeartbeats 1000000 in
theorem fm1 {m bc sn scp:Nat} {bo:Nat->List O1} {ba sa:Option Addr} {oa:Nat->Option Addr} {oc:Nat->Nat} (w0:World) (hm:m <=1000000000000) (hsn:sn <=9223372036854775807) (hBo:A7 w0 ba m bo oa oc) :
  C prog 9 #[.slice ba m bc,.slice sa sn scp] w0 fun v w=>∃b,v= .bool b/\(b=true->Rd0 m bo sn)/\Below w0.heap.size w0 w:=by
 refine C.enter (n:=55) func9 rfl rfl ?_;have hb:Below w0.heap.size w0 w0:=Below.refl _ _;have hlen:=hBo.len;refine U2 ?_;refine U73 ?_;refine U9 ?_;refine U54 ?_;refine W.loop (fun k e w=>∃(i:Nat),∃(x:Int),k=m-i/\e 0= .slice ba m bc/\e 1= .slice sa sn scp/\e 4= .bool false/\e 5= .int .i64 x/\e 6= .int .i64 (i:Nat)/\i <=m/\(i <=16->x=(sumTo i (fun j=>(bo j).length):Nat))/\(i <=16->x <=3000->∀j,j<i->∀o,o∈bo j->POk o)/\A7 w ba m bo oa oc/\Below w0.heap.size w0 w) _ ⟨0,0,rfl,rfl,rfl,rfl,rfl,rfl,Nat.zero_le _,(fun _=>rfl),(fun _ _ j hj=>absurd hj (Nat.not_lt_zero _)),hBo,hb⟩ ?_;rintro k e w ⟨i,x,hk,s0,s1,s4,s5,s6,hi,hx,hkd,hBo,hb⟩;rw[V0 s0,V0 s1,V0 s4,V0 s5,V0 s6];clear s0 s1 s4 s5 s6;refine U15 ?_;refine U120 ?_;refine U25 ?_;refine W.Q8 rfl (fun h11=>?_) (fun h11=>?_)
 ·have Y1:i<m:=by omega
  have hle:=hlen i Y1;refine U135 ?_;refine L.va (m3 rfl) ?_;refine U28 ?_;refine U598 ?_;refine L.va (il0 (κ:=.i64) (m:=x) (k:=((bo i).length:Int)) rfl rfl) ?_;refine U7 ?_;refine U179 ?_;refine W.loop (fun k e w=>∃(k2:Nat),∃(y:Int),k=(bo i).length-k2/\e 0= .slice ba m bc/\e 1= .slice sa sn scp/\e 4= .bool false/\e 5= .int .i64 y/\e 6= .int .i64 (i:Nat)/\e 7= .int .i64 (k2:Nat)/\(i+1 <=16->y=(sumTo (i+1) (fun j=>(bo j).length):Nat))/\k2 <=(bo i).length/\(∀(q:Nat) o,q<k2->(bo i)[q]? =some o->POk o)/\A7 w ba m bo oa oc/\Below w0.heap.size w0 w) _ ⟨0,_,rfl,rfl,rfl,rfl,rfl,rfl,rfl,(Mf0 hlen Y1 hx),Nat.zero_le _,(fun q o hq=>absurd hq (Nat.not_lt_zero _)),hBo,hb⟩ ?_;rintro k e w ⟨k2,y,hk,s0,s1,s4,s5,s6,s7,hy,hkl,hq,hBo,hb⟩;rw[V0 s0,V0 s1,V0 s4,V0 s5,V0 s6,V0 s7];clear s0 s1 s4 s5 s6 s7;refine U15 ?_;refine U28 ?_;refine U598 ?_;refine L.va (im0 rfl rfl) ?_;refine L.va (y9 rfl) ?_;refine L.fc0 3 [28,29,30,31] 31 (.bool (decide (k2<(bo i).length/\y <=3000))) (tj:=28) rfl (fun Yl0=>?_) (fun Yl0=>?_) (fun f=>?_)
  ·refine L.on rfl ?_;refine L.va (m3 rfl) ?_;refine U221 ?_;refine⟨rfl,congrArg Value.bool (by first|exact yk0 Yl0|rfl|(simp_all;done)|(rw[Bool.eq_iff_iff];simp_all;omega)),?_⟩;exact S0.upd rfl (S0.upd rfl (S0.upd rfl (S0.upd rfl (S0.refl _ _))))
  ·refine L.off rfl ?_;refine L.off rfl ?_;refine U115 ?_;refine⟨rfl,congrArg Value.bool (by first|exact yj0 Yl0|rfl|(simp_all;done)|(rw[Bool.eq_iff_iff];simp_all;omega)),?_⟩;exact S0.upd rfl (S0.upd rfl (S0.upd rfl (S0.upd rfl (S0.refl _ _))))
  refine U5 ?_;refine W.Q8 rfl (fun h31=>?_) (fun h31=>?_)
  ·obtain⟨o,ho⟩:∃o,(bo i)[k2]? =some o:=⟨_,List.getElem?_eq_getElem h31.1⟩
   refine U135 ?_;refine U28 ?_;refine U338 ?_;refine L.va (m3 rfl) ?_;refine L.va (S3 (i:=k2) rfl rfl underlying50 w6 (hBo.ops i Y1).sl h31.1) ?_;refine L.va (j1 (cs:=re0 o) rfl underlying52 rfl w6 rfl (fun q v hq=>(hBo.ops i Y1).cell k2 o ho q v hq)) ?_;refine L.call (C2 rfl func37 rfl jm1 rfl) (Rf0 o _) ?_;rintro _ w ⟨b,rfl,hri,P1⟩;have hb:=P0 hb P1;have hBo:=hBo.j0 P1;refine L.va (in0 rfl) ?_;refine U5 ?_;refine W.cond rfl (fun h42=>?_) (fun h42=>?_)
   ·refine W.seq ?_;refine W.region rfl ?_;refine U36 ?_;exact⟨false,rfl,(fun h=>by cases h),hb⟩
   ·have hbb:b=true:=by simpa using h42
    refine U185 ?_;refine U29 ?_;exact⟨_,by omega,⟨k2+1,y,rfl,rfl,rfl,rfl,rfl,rfl,rfl,hy,h31.1,(fun q o2 hq2 hq3=>by
     rcases Nat.lt_or_eq_of_le (Nat.le_of_lt_succ hq2)with z|z
     ·exact hq q o2 z hq3
     ·subst z;rw[ho]at hq3;cases hq3;exact hri.1 hbb),hBo,hb⟩⟩
  ·refine W.exit ?_;refine U226 ?_;refine U153 ?_;refine U29 ?_;exact⟨_,by omega,⟨i+1,y,rfl,rfl,rfl,rfl,rfl,rfl,(by omega),hy,(Re0 hx hkd hy hq h31),hBo,hb⟩⟩
 ·have him:i=m:=by omega
  refine W.exit ?_;refine U90 ?_;refine U89 ?_;refine L.va (Dd0 rfl rfl) ?_;refine L.va (y9 rfl) ?_;refine L.fc0 4 [45,46,47,48,49] 49 (.bool (decide (x <=3000/\m <=16))) (tj:=45) rfl (fun Ym0=>?_) (fun Ym0=>?_) (fun f=>?_)
  ·refine L.on rfl ?_;refine L.va (I7 rfl) ?_;refine L.on rfl ?_;refine L.va (S6 rfl underlying22 rfl) ?_;refine U221 ?_;refine⟨rfl,congrArg Value.bool (by first|exact yk0 Ym0|rfl|(simp_all;done)|(rw[Bool.eq_iff_iff];simp_all;omega)),?_⟩;exact S0.upd rfl (S0.upd rfl (S0.upd rfl (S0.upd rfl (S0.upd rfl (S0.refl _ _)))))
  ·refine L.off rfl ?_;refine U218 ?_;refine⟨rfl,congrArg Value.bool (by first|exact yj0 Ym0|rfl|(simp_all;done)|(rw[Bool.eq_iff_iff];simp_all;omega)),?_⟩;exact S0.upd rfl (S0.upd rfl (S0.upd rfl (S0.upd rfl (S0.upd rfl (S0.refl _ _)))))
  refine L.va (y9 rfl) ?_;refine L.fc0 4 [50,51,52,53,54] 54 (.bool (decide ((x <=3000/\m <=16)/\sn <=20000))) (tj:=50) rfl (fun Cj0=>?_) (fun Cj0=>?_) (fun f=>?_)
  ·refine L.on rfl ?_;refine U304 ?_;refine U221 ?_;refine⟨rfl,congrArg Value.bool (by first|exact yk0 Cj0|rfl|(simp_all;done)|(rw[Bool.eq_iff_iff];simp_all;omega)),?_⟩;exact S0.upd rfl (S0.upd rfl (S0.upd rfl (S0.upd rfl (S0.upd rfl (S0.refl _ _)))))
  ·refine L.off rfl ?_;refine U218 ?_;refine⟨rfl,congrArg Value.bool (by first|exact yj0 Cj0|rfl|(simp_all;done)|(rw[Bool.eq_iff_iff];simp_all;omega)),?_⟩;exact S0.upd rfl (S0.upd rfl (S0.upd rfl (S0.upd rfl (S0.upd rfl (S0.refl _ _)))))
  refine U36 ?_;refine⟨_,rfl,fun h=>?_,hb⟩;obtain⟨⟨g1,g2⟩,g3⟩:=of_decide_eq_true h;subst him;have hs:=hx g2;exact⟨g2,by omega,fun j V2 o ho=>hkd g2 g1 j V2 o ho,g3⟩
end
theorem xc0 {f:Nat->Nat}:∀{m i:Nat},i<m->f i <=sumTo m f
 |m+1,i,h=>by
  show f i <=sumTo m f+f m;rcases Nat.lt_or_eq_of_le (Nat.le_of_lt_succ h)with z|z
  ·have:=xc0 (f:=f) z;omega
  ·subst z;omega
theorem Ud0 {p:V3}:∀q,(L1 p).Reach q->q.r2=[]:=by
 refine Sys.ind (Y:=L1 p) (fun q=>q.r2=[]) rfl (fun q h _=>?_) (fun q i l h _ hf _=>?_)
 ·show q.r2++tell _ _ (C4 (p.bo q.ft.length) 0 q.s).r2=[];rw[h];rfl
 ·unfold Sys.v5;rw[hf];show q.r2++tell _ _ (goP (p.bo i) i l q.s).r2=[];rw[h,Eb0];rfl
def fvP (b1:Nat->Nat) (bp tp k:Nat):Value:=.func (.func 46) #[] #[.pointer (some ⟨b1 k,0,none⟩),.pointer (some ⟨bp,0,none⟩),.pointer (some ⟨tp,0,none⟩)]
theorem Gb0 {m x bp tp:Nat} {b1:Nat->Nat}:(List.range (m+1)).map (fvP (D7 b1 m x) bp tp)=(List.range m).map (fvP b1 bp tp) ++ [.func (.func 46) #[] #[.pointer (some ⟨x,0,none⟩),.pointer (some ⟨bp,0,none⟩),.pointer (some ⟨tp,0,none⟩)]]:=by
 rw[List.range_succ,List.map_append];congr 1
 ·apply List.map_congr_left;intro i hi;have:i≠m:=by have:i<m:=(by simpa using hi);omega
  unfold fvP;rw[j4 this]
 ·simp[fvP,R3]
structure be0 (w:World) (m:Nat) (bo:Nat->List O1) (oa:Nat->Option Addr) (oc b1:Nat->Nat):Prop where
 blk:∀i,i<m->O0 w (b1 i) #[.slice (oa i) (bo i).length (oc i)] 50
section
variable {w w':World}{m:Nat}{bo:Nat->List O1}{oa:Nat->Option Addr}{oc b1:Nat->Nat}
theorem be0.j0 (h:be0 w m bo oa oc b1) (hb:Below w.heap.size w w'):be0 w' m bo oa oc b1:=⟨fun i hi=>(h.blk i hi).j0 hb⟩
theorem be0.mod {B:Nat} {TS:List TypeId} (h:be0 w m bo oa oc b1) (hm:T3 w w' B TS) (hT:TS.contains 50=false):be0 w' m bo oa oc b1:=⟨fun i hi=>(h.blk i hi).mod hm hT⟩
theorem be0.snoc {x:Nat} (h:be0 w m bo oa oc b1) (hx:O0 w x #[.slice (oa m) (bo m).length (oc m)] 50):be0 w (m+1) bo oa oc (D7 b1 m x):=by
 have key:∀i,i<m+1->i≠m->i<m:=fun i hi hn=>by omega
 refine⟨fun i hi=>?_⟩;by_cases hn:i=m
 ·subst hn;rw[R3];exact hx
 ·rw[j4 hn];exact h.blk i (key i hi hn)
end
theorem eh0 {T:TypeId} (h1:T≠195) (h2:T≠123) (h3:T≠132) (h4:T≠115):∀t,T≠tty t:=fun t=>by
 unfold tty;split
 ·exact h1
 split
 ·exact h2
 split
 ·exact h3
 ·exact h4
theorem Mg0 (t:Nat):(∀k,mty t≠tty k)/\mty t≠45/\mty t≠2/\mty t≠0/\mty t≠73:=by
 unfold mty;split
 ·exact⟨eh0 (by decide) (by decide) (by decide) (by decide),by decide,by decide,by decide,by decide⟩
 ·exact⟨eh0 (by decide) (by decide) (by decide) (by decide),by decide,by decide,by decide,by decide⟩
section
variable {w w':World}{B wb tb:Nat}{sb mb:Nat->Nat->Nat}
theorem dm0.j0 (h:dm0 w B wb tb sb mb) (hb:Below w.heap.size w w'):dm0 w' B wb tb sb mb :=
 ⟨h.hT.j0 hb,h.lT,fun t n h1 h2 h3=>⟨(h.hM t n h1 h2 h3).1.j0 hb,(h.hM t n h1 h2 h3).2⟩,fun t n h1 h2 h3=>let⟨sa,hS⟩:=h.hS t n h1 h2 h3;⟨sa,hS.j0 hb⟩,h.lS,h.inj⟩
theorem dm0.down {B':Nat} (h:dm0 w B wb tb sb mb) (hB:B' <=B):dm0 w B' wb tb sb mb :=
 ⟨h.hT,Nat.le_trans hB h.lT,fun t n h1 h2 h3=>⟨(h.hM t n h1 h2 h3).1,Nat.le_trans hB (h.hM t n h1 h2 h3).2⟩,h.hS,fun t n h1 h2 h3=>Nat.le_trans hB (h.lS t n h1 h2 h3),h.inj⟩
theorem dm0.mod {B':Nat} {TS:List TypeId} (h:dm0 w B wb tb sb mb) (hm:T3 w w' B' TS) (hT:(TS.contains 72 ||TS.contains 113 ||TS.contains 125 ||TS.contains 195 ||TS.contains 123 ||TS.contains 132 ||TS.contains 115)=false):dm0 w' B wb tb sb mb:=by
 simp only[Bool.or_eq_false_iff]at hT;obtain⟨⟨⟨⟨⟨⟨a1,a2⟩,a3⟩,a4⟩,a5⟩,a6⟩,a7⟩:=hT;refine⟨h.hT.mod hm a1,h.lT,fun t n h1 h2 h3=>⟨(h.hM t n h1 h2 h3).1.mod hm ?_,(h.hM t n h1 h2 h3).2⟩,fun t n h1 h2 h3=>let⟨sa,hS⟩:=h.hS t n h1 h2 h3;⟨sa,hS.mod hm ?_⟩,h.lS,h.inj⟩
 ·unfold mty;split
  ·exact a2
  ·exact a3
 ·unfold tty;split
  ·exact a4
  split
  ·exact a5
  split
  ·exact a6
  ·exact a7
end
abbrev pS (p:V3) (sc:Nat->Int) (sn:Nat):PS:=((L1 p).pn sc sn).s
structure bf0 (p:V3) (sc:Nat->Int) (sn B:Nat) (w:World) (R:Rn) (r:j6):Prop where
 lg:O0 w p.lgb (arr p.m fun i=>.slice (r.la i) ((pS p sc sn).W1 i).length (r.lc i)) 45
 ans:∀i,i<p.m->Own w p.B 2 1 (r.la i) ((pS p sc sn).W1 i).length (r.lc i) (jj0 ((pS p sc sn).W1 i))
 run:gc0 (L1 p) sc sn B R w
section
variable {p:V3}{sc:Nat->Int}{sn B:Nat}{w w':World}{R:Rn}{r:j6}
theorem bf0.j0 (h:bf0 p sc sn B w R r) (hb:Below w.heap.size w w'):bf0 p sc sn B w' R r :=
 ⟨h.lg.j0 hb,fun i hi=>Own.congr (h.ans i hi) fun ha=>hb.block _ ((h.ans i hi).lt ha),h.run.j0 hb⟩
theorem bf0.down {B':Nat} (h:bf0 p sc sn B w R r) (hB:B' <=B):bf0 p sc sn B' w R r:=⟨h.lg,h.ans,h.run.down hB⟩
theorem bf0.G5 (h:bf0 p sc sn B w R r) {b:Nat} (hg:w.grownBy w' (some b)) (hn:b<B/\∃cs,O0 w b cs 30):bf0 p sc sn B w' R r:=by
 obtain⟨Y1,cs,hB⟩:=hn;exact⟨h.lg.other hg (O0.ne h.lg hB (by decide)),fun i hi=>(h.ans i hi).G5 hg (Own.Lh0 (h.ans i hi) (K3 hB) (by decide)),h.run.G5 hg fun z=>by have:=h.run.fp b z;omega⟩
end
theorem Mh0 {w:World} {a:Addr} {v:Value} (h:w.cell? a=some v):w.heap[a.block]? ≠some nothing:=by
 unfold World.cell? at h;intro e;rw[e]at h;simp[nothing]at h
set_option maxHeartbeats 1000000 in
theorem Ck0 {lb:Nat} {pl:Nat->V6} {m sn lc scp wb tb lgb bp tp:Nat} {bo:Nat->List O1} {sc:Nat->Int} {ba l sa:Option Addr} {oa:Nat->Option Addr} {oc b1:Nat->Nat} {sb mb:Nat->Nat->Nat} {w0 w:World} (hBo:A7 w0 ba m bo oa oc) (hz:∀i,m <=i->bo i=[]) (hSc:od0 w0 sa sn scp sc) (hF:Rd0 m bo sn) (hb:Below w0.heap.size w0 w)
  (hl:Own w w0.heap.size 73 1 l m lc ((List.range m).map (fvP b1 bp tp))) (hTh:dm0 w w0.heap.size wb tb sb mb) (hW:O0 w wb #[.bool false] 105)
  (hG:O0 w lgb (arr m fun _=>.slice none 0 0) 45) (hbp:O0 w bp #[.pointer (some ⟨tb,0,none⟩)] 54) (htp:O0 w tp #[.slice (some ⟨lgb,0,none⟩) m m] 31) (hx:be0 w m bo oa oc b1) (l1:w0.heap.size <=lgb) :
  @C prog (V7 lb pl) 48 #[.slice l m lc,.slice sa sn scp] w fun v w'=>∃(p:V3) (R:Rn) (r:j6),v= .tuple #[Ke0 R,.int .i64 0]/\(p.m=m/\p.bo=bo/\p.lgb=lgb/\p.B=w0.heap.size)/\y5 p/\bf0 p sc sn w.heap.size w' R r /\
   O0 w' tp #[.slice (some ⟨lgb,0,none⟩) m m] 31/\Below w0.heap.size w0 w'/\(w.heap.size <=w'.heap.size)/\∀(b:Nat) (cs:Array Value),w0.heap.size <=b->O0 w b cs 30->O0 w' b cs 30:=by
 classical
 let RO:Nat->Prop:=fun b=>b=tb\/b=wb\/(∃t n,1 <=t/\t <=2/\n<2/\b=mb t n)\/b=bp\/b=tp\/(∃i,i<m/\b=b1 i)\/∃i,i<m/\0<(bo i).length/\b=ab (oa i)
 let p:V3:=⟨m,bo,tb,wb,sb,mb,lgb,RO,w,w0.heap.size,lb,pl⟩
 have W5:∀i,i<m->0<(bo i).length->∃v,w0.cell? ⟨ab (oa i),ao (oa i)+0*4+0,none⟩=some v:=fun i hi hl0=>by
  obtain⟨o,ho⟩:∃o,(bo i)[0]? =some o:=⟨_,List.getElem?_eq_getElem hl0⟩
  exact⟨_,(hBo.ops i hi).cell 0 o ho 0 _ rfl⟩
 have qx0:∀i,i<m->0<(bo i).length->ab (oa i)<w0.heap.size:=fun i hi hl0=>by
  obtain⟨v,hv⟩:=W5 i hi hl0;exact je0 hv
 have hRO:∀b,RO b->b<w0.heap.size\/∃cs T,O0 w b cs T/\(∀t,T≠tty t)/\T≠45/\T≠2/\T≠0/\T≠73:=by
  rintro b (h|h|⟨t,n,h1,h2,h3,h⟩|h|h|⟨i,hi,h⟩|⟨i,hi,h0,h⟩)
  ·rw[h];exact .inr ⟨_,_,hTh.hT,eh0 (by decide) (by decide) (by decide) (by decide),by decide,by decide,by decide,by decide⟩
  ·rw[h];exact .inr ⟨_,_,hW,eh0 (by decide) (by decide) (by decide) (by decide),by decide,by decide,by decide,by decide⟩
  ·have:=Mg0 t;rw[h];exact .inr ⟨_,_,(hTh.hM t n h1 h2 h3).1,this.1,this.2.1,this.2.2.1,this.2.2.2.1,this.2.2.2.2⟩
  ·rw[h];exact .inr ⟨_,_,hbp,eh0 (by decide) (by decide) (by decide) (by decide),by decide,by decide,by decide,by decide⟩
  ·rw[h];exact .inr ⟨_,_,htp,eh0 (by decide) (by decide) (by decide) (by decide),by decide,by decide,by decide,by decide⟩
  ·rw[h];exact .inr ⟨_,_,hx.blk i hi,eh0 (by decide) (by decide) (by decide) (by decide),by decide,by decide,by decide,by decide⟩
  ·rw[h];exact .inl (qx0 i hi h0)
 have lx1:∀b,RO b->b<w.heap.size/\w.heap[b]? ≠some nothing:=fun b hr=>by
  rcases hRO b hr with Y1|⟨cs,T,hB,_,_,_,h0,_⟩
  ·have hx:∃i,i<m/\0<(bo i).length/\b=ab (oa i)\/∃cs T,O0 w b cs T/\T≠0:=by
    rcases hr with h|h|⟨t,n,h1,h2,h3,h⟩|h|h|⟨i,hi,h⟩|⟨i,hi,h0,h⟩
    ·exact⟨0,.inr ⟨_,_,h▸hTh.hT,by decide⟩⟩
    ·exact⟨0,.inr ⟨_,_,h▸hW,by decide⟩⟩
    ·exact⟨0,.inr ⟨_,_,h▸(hTh.hM t n h1 h2 h3).1,(Mg0 t).2.2.2.1⟩⟩
    ·exact⟨0,.inr ⟨_,_,h▸hbp,by decide⟩⟩
    ·exact⟨0,.inr ⟨_,_,h▸htp,by decide⟩⟩
    ·exact⟨0,.inr ⟨_,_,h▸hx.blk i hi,by decide⟩⟩
    ·exact⟨i,.inl ⟨hi,h0,h⟩⟩
   obtain⟨i,⟨hi,h0,h⟩|⟨cs,T,hB,hT⟩⟩:=hx
   ·obtain⟨v,hv⟩:=W5 i hi h0;have hv':=C5 hv hb;rw[h];exact⟨je0 hv',Mh0 hv'⟩
   ·exact jh0 hB hT
  ·exact jh0 hB h0
 have hP:y5 p:=by
  refine⟨lx1,fun b hr=>?_,fun t n h1 h2 h3=>hTh.lS t n h1 h2 h3,hTh.inj,⟨.inl rfl,hTh.hT⟩,⟨.inr (.inl rfl),hW⟩,fun t n h1 h2 h3=>⟨.inr (.inr (.inl ⟨t,n,h1,h2,h3,rfl⟩)),(hTh.hM t n h1 h2 h3).1⟩,fun i o ho=>?_⟩
  ·rcases hRO b hr with h|⟨cs,T,hB,h1,h2,h3,_,_⟩
   ·exact .inl h
   ·exact .inr ⟨cs,T,hB,h1,h2,h3⟩
  ·rcases Nat.lt_or_ge i m with z|z
   ·exact hF.ops i z o ho
   ·rw[show p.bo i=[] from hz i z]at ho;cases ho
 have hlen:∀i,i<m->(bo i).length <=100000:=fun i hi=>by
  have h1:=xc0 (f:=fun i=>(bo i).length) hi;have h2:=hF.sum;have h1:(bo i).length <=sumTo m fun i=>(bo i).length:=h1;omega
 have hD:∀i,i<m->rg0 p i (b1 i) bp tp (oa i) (oc i):=fun i hi=>⟨.inr (.inr (.inr (.inr (.inr (.inl ⟨i,hi,rfl⟩))))),.inr (.inr (.inr (.inl rfl))),.inr (.inr (.inr (.inr (.inl rfl)))),fun h0=>.inr (.inr (.inr (.inr (.inr (.inr ⟨i,hi,h0,rfl⟩))))),hx.blk i hi,hbp,htp,(hBo.ops i hi).j0 hb,hlen i hi⟩
 have hO:lm0 (L1 p) (fun _=>46) (fun i=>#[.pointer (some ⟨b1 i,0,none⟩),.pointer (some ⟨bp,0,none⟩),.pointer (some ⟨tp,0,none⟩)]) (fvP b1 bp tp) l sa sn sc:=by
  refine⟨ji0 hP,hF.m1,Nat.le_trans hF.sn1 (by decide),hl.sl,hSc.sl,fun i hi=>.inr ⟨rfl,rfl,_,func46,rfl,ju1⟩,?_,fun base i cb top u F hi _ hs=>?_⟩
  ·rw[Ud0 _ (.inr ⟨sc,sn,rfl⟩)];exact Nat.zero_le _
  ·obtain⟨s,r,hE,hc,_⟩:=O9.start hs hP;exact Fw0 rfl (Xm0 (hD i hi) hi u hE hc)
 let r0:j6:=⟨fun _=>none,fun _=>0⟩
 have hM0:eq0 p w ps0 r0:=⟨hTh.hS,hG,fun i hi=>Own.nil _ _ _ _,fun i j _ _ _ h=>absurd rfl h,fun _ _=>rfl,l1⟩
 have hinv:Xj0 p ps0 (fun _=>0) w (PF p r0):=⟨r0,rfl,hM0⟩
 have hFT:∀b,PF p r0 b->b<w0.heap.size/\RO b\/∃cs T,O0 w b cs T/\T≠73:=fun b hb2=>by
  rcases hb2 with⟨t,n,h1,h2,h3,rfl⟩|rfl|⟨i,_,ha,_⟩|h
  ·obtain⟨sa,hS⟩:=hTh.hS t n h1 h2 h3;exact .inr ⟨_,_,hS,(eh0 (T:=73) (by decide) (by decide) (by decide) (by decide) t).symm⟩
  ·exact .inr ⟨_,_,hG,by decide⟩
  ·exact absurd rfl ha
  ·rcases hRO b h with z|⟨cs,T,hB,_,_,_,_,h5⟩
   ·exact .inl ⟨z,h⟩
   ·exact .inr ⟨cs,T,hB,h5⟩
 have hlF:0<m->¬PF p r0 (ab l):=fun hm hh=>by
  obtain⟨cur,hc,hle,_⟩:=hl.row (hl.Df0 hm);rcases hFT _ hh with⟨z,_⟩|⟨cs,T,hB,hT⟩
  ·omega
  ·exact O0.ne hB hc hT rfl
 have Ue0:∀b,b<w0.heap.size->PF p r0 b->RO b:=fun b Y1 hh=>by
  rcases hh with⟨t,n,h1,h2,h3,e⟩|e|⟨i,_,ha,_⟩|h
  ·have:=hTh.lS t n h1 h2 h3;have e:b=sb t n:=e;omega
  ·have e:b=lgb:=e;omega
  ·exact absurd rfl ha
  ·exact h
 have hsF:0<sn->¬PF p r0 (ab sa)\/∀s m w' F',(L1 p).Inv s m w' F'->w'.heap[ab sa]? =w.heap[ab sa]?:=fun h0=>by
  by_cases hr:RO (ab sa)
  ·refine .inr fun s m w' F' hI=>?_;obtain⟨r,_,hr'⟩:∃r,F'=PF p r/\eq0 p w' s r:=hI;exact hr'.ro _ hr
  ·exact .inl fun hh=>hr (Ue0 _ (je0 (hSc.cell 0 h0)) hh)
 have key:=Qi0 (Y:=L1 p) (m0:=fun _=>0) (lc:=lc) hO hinv (fun j hj=>by
   have hj:j<m:=hj;rw[hl.off,Nat.zero_add,Nat.mul_one];exact hl.cell (by simp[hj])) hlF (hSc.j0 hb) hsF
 refine @Calls.mono _ (V7 lb pl) _ _ _ _ _ key fun e w' he=>?_;cases e with
 |panicked ch=>exact he.elim
 |outgrown=>exact he.elim
 |returned v=>
  obtain⟨R,rfl,hX,⟨m',F',hI,hdR⟩,hos,bk0,fn1,I2,M8⟩:=he;obtain⟨r,rfl,hR'⟩:∃r,F'=PF p r/\eq0 p w' (pS p sc sn) r:=hI;have H4:∀(b:Nat) (cs:Array Value),w0.heap.size <=b->O0 w b cs 30->O0 w' b cs 30:=fun b cs hlo hB=>by
   refine(M8 b (K3 hB).lt fun hF2=>?_).trans hB;rcases hF2 with⟨t,n,h1,h2,h3,z⟩|z|⟨i,_,ha,_⟩|h
   ·obtain⟨sa,hS⟩:=hTh.hS t n h1 h2 h3;exact O0.ne hB hS (eh0 (by decide) (by decide) (by decide) (by decide) t) z
   ·exact O0.ne hB hG (by decide) z
   ·exact absurd rfl ha
   ·rcases h with h|h|⟨t,n,h1,h2,h3,h⟩|h|h|⟨i,hi,h⟩|⟨i,hi,h0,h⟩
    ·exact O0.ne hB hTh.hT (by decide) h
    ·exact O0.ne hB hW (by decide) h
    ·exact O0.ne hB (hTh.hM t n h1 h2 h3).1 (by unfold mty;split <;> decide) h
    ·exact O0.ne hB hbp (by decide) h
    ·exact O0.ne hB htp (by decide) h
    ·exact O0.ne hB (hx.blk i hi) (by decide) h
    ·have:=qx0 i hi h0;omega
  refine⟨p,R,r,rfl,⟨rfl,rfl,rfl,rfl⟩,hP,⟨hR'.hG,hR'.hL,hX⟩,(hR'.ro tp (.inr (.inr (.inr (.inr (.inl rfl)))))).trans htp,hb.trans ⟨hos,fn1,bk0,I2,fun k hk=>?_⟩,I2,H4⟩;by_cases hkF:PF p r0 k
  ·exact hR'.ro k (Ue0 k hk hkF)
  ·exact M8 k (Nat.lt_of_lt_of_le hk hb.size) hkF
end Go.Vy.Sc
end
section
namespace Go.Vy.Sc
open Go Go.Conc Go.Yc Go.RowKit Go.Proofs Go.Proofs.YtnifpkopeheodaaGreat Tryz
open Go.Vc Go.Wg
theorem xd0 (m:Nat) (v:Value):Array.replicate (m*1) v=arr m fun _=>v:=by
 rw[Nat.mul_one];apply Array.toList_inj.1;simp[arr,List.map_const']
section
variable [Ctx prog]
theorem fo1 (x:Int) (w0:World):C prog 49 #[.int .i64 x] w0 fun v w=>v= .int .i64 x/\w=w0:=by
 refine C.enter (n:=4) func49 rfl rfl ?_;refine U2 ?_;refine U7 ?_;refine L.va (m3 rfl) ?_;refine U38 ?_;exact⟨rfl,rfl⟩
end
section
set_option maxHeartbeats 1000000 in
theorem Mi0 {lb:Nat} {pl:Nat->V6} {m bc sn scp:Nat} {bo:Nat->List O1} {sc:Nat->Int} {ba sa:Option Addr} {oa:Nat->Option Addr} {oc:Nat->Nat} (w0:World) (hBo:A7 w0 ba m bo oa oc) (hz:∀i,m <=i->bo i=[]) (hSc:od0 w0 sa sn scp sc) (hF:Rd0 m bo sn) :
  @C prog (V7 lb pl) 11 #[.slice ba m bc,.slice sa sn scp] w0 fun v w=>∃(p:V3) (R:Rn) (r:j6),v= .tuple #[Ke0 R,.slice (some ⟨p.lgb,0,none⟩) m m,.bool true]/\(p.m=m/\p.bo=bo/\p.B=w0.heap.size)/\y5 p/\bf0 p sc sn w0.heap.size w R r/\Below w0.heap.size w0 w:=by
 letI:Ctx prog:=V7 lb pl;refine C.enter (n:=44) func11 rfl rfl ?_;have hb:Below w0.heap.size w0 w0:=Below.refl _ _;have fp1:=hF.m1;refine U2 ?_;refine U514 ?_;intro w b4 F4 lt4 hb;have Y3:=F4.blk;refine L.va (cu0 rfl) ?_;refine U73 ?_;refine L.call (bq0  func36 rfl bv1 rfl) (ln0 _) ?_;rintro _ w ⟨wb,rfl,hwb,hW,P1⟩;have hwb:=Nat.le_trans hb.size hwb;have hb:=P0 hb P1;have Y3:=Y3.j0 P1;refine L.call (C2 rfl func16 rfl iy1 rfl) (Me0 wb _ hW) ?_;rintro _ w ⟨tb,sb,mb,rfl,hTh,P1⟩;have hTh:dm0 w w0.heap.size wb tb sb mb:=hTh.down hb.size;have hb:=P0 hb P1;have Y3:=Y3.j0 P1;have hW:=hW.j0 P1;have fk0:=Y3;have zv0:=hW;have lo0:=hTh;have fl0:=hb;refine L.alloc (cs:=#[.pointer none]) iq1 rfl (fun w b7 F7=>?_);have lt7:=F7.lq hb.size;have hB7:=F7.blk;refine L.pa [.p tb] ip1 hB7 (fun w Z0 hg I2=>?_);have j8:=D3 F7.below F7.below.size hg (by have:=F7.here;omega);have Y3:=fk0.j0 j8;have hW:=zv0.j0 j8;have hTh:=lo0.j0 j8;have hb:=P0 fl0 j8;have hB7:=Z0;clear Z0 hg I2 j8 F7 fk0 zv0 lo0 fl0;refine U13 ?_;refine U120 ?_;refine L.make (m:=m) rfl rfl underlying31 be1 (z0:=.slice none 0 0) rfl (by decide) (by omega) (by omega) (fun w b18 F18=>?_);have ps1:=F18.lq hb.size;have l18:w0.heap.size <=b18:=by omega
 have hb:=P0 hb F18.below;have Y3:=Y3.j0 F18.below;have hW:=hW.j0 F18.below;have hTh:=hTh.j0 F18.below;have hB7:=hB7.j0 F18.below;have fq1:=F18.blk;have hG:O0 w b18 (arr m fun _=>.slice none 0 0) 45:=by have h9:=fq1;rw[xd0]at h9;exact h9
 clear fq1;have fk0:=Y3;have zv0:=hW;have lo0:=hTh;have zw0:=hB7;have Mj0:=hG;have fl0:=hb;refine L.alloc (cs:=#[.slice none 0 0]) in1 rfl (fun w b8 F8=>?_);have lt8:=F8.lq hb.size;have hB8:=F8.blk;refine L.pa [.slice (some ⟨b18,0,none⟩) m m] im1 hB8 (fun w Z0 hg I2=>?_);have j8:=D3 F8.below F8.below.size hg (by have:=F8.here;omega);have Y3:=fk0.j0 j8;have hW:=zv0.j0 j8;have hTh:=lo0.j0 j8;have hB7:=zw0.j0 j8;have hG:=Mj0.j0 j8;have hb:=P0 fl0 j8;have hB8:=Z0;clear Z0 hg I2 j8 F8 fk0 zv0 lo0 zw0 Mj0 fl0;refine U13 ?_;refine U204 ?_;refine U54 ?_;refine W.loop (fun k e w=>∃(i:Nat),∃(l:Option Addr),∃(lc:Nat),∃(b1:Nat->Nat),k=m-i/\e 0= .slice ba m bc/\e 1= .slice sa sn scp/\e 4= .pointer (some ⟨b4,0,none⟩)/\e 7= .pointer (some ⟨b7,0,none⟩)/\e 8= .pointer (some ⟨b8,0,none⟩)/\e 9= .slice l i lc/\e 10= .int .i64 (i:Nat)/\i <=m/\Own w w0.heap.size 73 1 l i lc ((List.range i).map (fvP b1 b7 b8))/\be0 w i bo oa oc b1/\dm0 w w0.heap.size wb tb sb mb/\O0 w wb #[.bool false] 105/\O0 w b18 (arr m fun _=>.slice none 0 0) 45/\O0 w b4 #[.slice none 0 0,.slice none 0 0,.slice none 0 0,.slice none 0 0,.bool false,.int .i64 0] 30/\O0 w b7 #[.pointer (some ⟨tb,0,none⟩)] 54/\O0 w b8 #[.slice (some ⟨b18,0,none⟩) m m] 31/\Below w0.heap.size w0 w) _ ⟨0,none,0,(fun _=>0),rfl,rfl,rfl,rfl,rfl,rfl,rfl,rfl,Nat.zero_le _,Own.nil _ _ _ _,⟨fun i hi=>absurd hi (Nat.not_lt_zero _)⟩,hTh,hW,hG,Y3,hB7,hB8,hb⟩ ?_;rintro k e w ⟨i,l,lc,b1,hk,s0,s1,s4,s7,s8,s9,s10,hi,hl,hx,hTh,hW,hG,Y3,hB7,hB8,hb⟩;rw[V0 s0,V0 s1,V0 s4,V0 s7,V0 s8,V0 s9,V0 s10];clear s0 s1 s4 s7 s8 s9 s10;refine U15 ?_;refine U120 ?_;refine U25 ?_;refine W.Q8 rfl (fun h22=>?_) (fun h22=>?_)
 ·have Y1:i<m:=by omega
  refine U135 ?_;refine U28 ?_;refine L.va (S3 (i:=i) rfl rfl underlying22 Bk0 hBo.sl Y1) ?_;refine L.va (A0 (v:=.slice (oa i) (bo i).length (oc i)) rfl underlying50 rfl ((hBo.j0 hb).row i Y1)) ?_;have fr1:=hl;have fs1:=hx;have lo0:=hTh;have zv0:=hW;have Mj0:=hG;have fk0:=Y3;have zw0:=hB7;have zx0:=hB8;have fl0:=hb;refine L.alloc (cs:=#[.slice none 0 0]) bi1 rfl (fun w b11 F11=>?_);have ft1:=F11.lq hb.size;have rk0:=F11.blk;refine L.pa [.slice (oa i) ((bo i).length) (oc i)] Bk0 rk0 (fun w Z0 hg I2=>?_);have j8:=D3 F11.below F11.below.size hg (by have:=F11.here;omega);have hl:=fr1.j0 j8;have hx:=fs1.j0 j8;have hTh:=lo0.j0 j8;have hW:=zv0.j0 j8;have hG:=Mj0.j0 j8;have Y3:=fk0.j0 j8;have hB7:=zw0.j0 j8;have hB8:=zx0.j0 j8;have hb:=P0 fl0 j8;have rk0:=Z0;clear Z0 hg I2 j8 F11 fr1 fs1 lo0 zv0 Mj0 fk0 zw0 zx0 fl0;refine U49 ?_;refine L.va (I7 rfl) ?_;refine L.va (o4 (l:=[.tmp 11,.tmp 7,.tmp 8]) (vs:=[.pointer (some ⟨b11,0,none⟩),.pointer (some ⟨b7,0,none⟩),.pointer (some ⟨b8,0,none⟩)]) rfl) ?_;refine L.fd0 (cs:=#[.func (.func 46) #[] #[.pointer (some ⟨b11,0,none⟩),.pointer (some ⟨b7,0,none⟩),.pointer (some ⟨b8,0,none⟩)]]) rfl rfl underlying90 bm1 rfl ⟨_,ir1⟩ (by decide) (fun w b31 F31=>?_);have pt1:=F31.lq hb.size;have hb:=P0 hb F31.below;have hl:=hl.j0 F31.below;have hx:=hx.j0 F31.below;have hTh:=hTh.j0 F31.below;have hW:=hW.j0 F31.below;have hG:=hG.j0 F31.below;have Y3:=Y3.j0 F31.below;have hB7:=hB7.j0 F31.below;have hB8:=hB8.j0 F31.below;have rk0:=rk0.j0 F31.below;have ly1:=F31.blk;refine L.cy0 (B:=w0.heap.size) (m:=1) rfl rfl underlying90 is1 rfl (by decide) hl (fun h=>by cases h) (news:=[.func (.func 46) #[] #[.p b11,.p b7,.p b8]]) rfl (fun ad had j u hj=>by
   cases had;rw[Addr.add_lit]
   match j,hj with
   |0,hj=>cases hj;exact ly1.E0 0 rfl) (fun u hu=>by simp only[List.mem_cons,List.not_mem_nil,or_false]at hu;subst hu;rfl) (by omega) (by omega) hb.size (fun l2 lc2 w2 hO2 hg2 cg0 _=>?_)
  have hmo:T3 w w2 w0.heap.size [73]:=T3.app hl hg2 cg0 rfl hO2;have hb:=hb.trans cg0;have hx:=hx.mod hmo rfl;have hTh:=hTh.mod hmo rfl;have hW:=hW.mod hmo rfl;have hG:=hG.mod hmo rfl;have Y3:=Y3.mod hmo rfl;have hB7:=hB7.mod hmo rfl;have hB8:=hB8.mod hmo rfl;have rk0:=rk0.mod hmo rfl;clear hmo hg2 cg0 hl
  rename World=>w
  refine U198 ?_;refine U29 ?_;exact⟨_,by omega,⟨i+1,l2,lc2,(D7 b1 i b11),rfl,rfl,rfl,rfl,rfl,rfl,rfl,rfl,(by omega),(by rw[Gb0];exact hO2),(hx.snoc rk0),hTh,hW,hG,Y3,hB7,hB8,hb⟩⟩
 ·obtain rfl:m=i:=by omega
  refine W.exit ?_;refine U72 ?_;refine U122 ?_;refine L.call (Q3 rfl rfl func48 rfl jw1 rfl) (Ck0 hBo hz hSc hF hb hl hTh hW hG hB7 hB8 hx l18) ?_;have h4l:=Y3.lt;rintro _ w1 ⟨p,R,r1,rfl,⟨pm,pbo,plg,pB⟩,hP,hY,hT2,P1,I2,hrn⟩;have Y3:=hrn _ _ lt4 Y3;have hb:=P1;have hB8:=hT2;clear P1 hT2 hl hTh hW hG hx hrn hB7
  skip
  rename World=>w
  refine U286 ?_;have or0:=hY;have fk0:=Y3;have zx0:=hB8;have fl0:=hb;refine L.alloc (cs:=#[.slice none 0 0,.slice none 0 0,.slice none 0 0,.slice none 0 0,.bool false,.int .i64 0]) Bj0 rfl (fun w b12 F12=>?_);have Ra0:=F12.lq hb.size;have Rg0:=F12.ne Y3;have kp0:=F12.blk;refine L.pa [.slice R.ea R.evs.length R.ec,.slice R.na R.r2.length R.nc,.slice (some ⟨R.eb,0,none⟩) R.m R.m,.slice (some ⟨R.wb,0,none⟩) R.m R.m,.bool R.stuck,.int .i64 (R.used:Int)] df0 kp0 (fun w Z0 hg I2=>?_);have j8:=D3 F12.below F12.below.size hg (by have:=F12.here;omega);have hY:=or0.j0 j8;have Y3:=fk0.j0 j8;have hB8:=zx0.j0 j8;have hb:=P0 fl0 j8;have kp0:=Z0;clear Z0 hg I2 j8 F12 or0 fk0 zx0 fl0;refine U9 ?_;refine W.seq ?_;refine W.fl 7 [3,5] [0,1,2,3,4,5,6] (fun w'=>O0 w' b12 #[.slice R.ea R.evs.length R.ec,.slice R.na R.r2.length R.nc,.slice (some ⟨R.eb,0,none⟩) R.m R.m,.slice (some ⟨R.wb,0,none⟩) R.m R.m,.bool R.stuck,.int .i64 (R.used:Int)] 30/\O0 w' b8 #[.slice (some ⟨b18,0,none⟩) m m] 31) (by kernel_rfl) (by kernel_rfl) (by kernel_rfl) (by kernel_rfl) (by kernel_rfl) (⟨kp0.j0 (Below.refl w.heap.size w).drew,hB8.j0 (Below.refl w.heap.size w).drew⟩) ?_;refine U235 ?_;intro L4 hb;have hY:=hY.j0 L4;have Y3:=Y3.j0 L4;have hB8:=hB8.j0 L4;have kp0:=kp0.j0 L4;clear L4;generalize w.drew=w at *;refine F.va rfl rfl (fun w' C1=>(j1 (cs:=[.slice R.ea R.evs.length R.ec,.slice R.na R.r2.length R.nc,.slice (some ⟨R.eb,0,none⟩) R.m R.m,.slice (some ⟨R.wb,0,none⟩) R.m R.m,.bool R.stuck,.int .i64 (R.used:Int)]) rfl underlying30 rfl df0 rfl (C1.1.J4 rfl))) ?_;refine F.va rfl rfl (fun w' C1=>(A0 rfl underlying31 rfl (C1.2.E0 0 (v:=.slice (some ⟨b18,0,none⟩) m m) rfl))) ?_;refine F.va rfl rfl (fun w' C1=>(m3 rfl)) ?_;refine F.doo rfl rfl ?_;refine L.call (C2 rfl func49 rfl jx1 rfl) (fo1 _ w) ?_;rintro _ w1 ⟨rfl,hw⟩;refine U19 ?_;refine L.nil ⟨rfl,⟨kp0,hB8⟩,?_⟩;refine F.va rfl rfl (fun w' C1=>(E1 (r:=true) (by decide) (H2 (m:=0) (k:=0) rfl rfl))) ?_;refine F.doo rfl rfl ?_;refine L.pu 0 [.slice R.ea R.evs.length R.ec,.slice R.na R.r2.length R.nc,.slice (some ⟨R.eb,0,none⟩) R.m R.m,.slice (some ⟨R.wb,0,none⟩) R.m R.m,.bool R.stuck,.int .i64 (R.used:Int)] #[.slice R.ea R.evs.length R.ec,.slice R.na R.r2.length R.nc,.slice (some ⟨R.eb,0,none⟩) R.m R.m,.slice (some ⟨R.wb,0,none⟩) R.m R.m,.bool R.stuck,.int .i64 (R.used:Int)] df0 Y3 (fun w Z0 hg I2=>?_);have x6:=T3.eo0 Y3 hg;have hb:=D3 hb hb.size hg lt4;have hY:=hY.G5 hg ⟨h4l,_,Y3⟩;have hB8:=hB8.mod x6 rfl;have kp0:=kp0.other hg (Ne.symm Rg0);have Y3:=Z0;clear x6;refine L.nil ⟨rfl,⟨kp0,hB8⟩,?_⟩;refine U591 ?_;refine U11 ?_;refine U160 ?_;refine ends.Lg0 (cs:=#[.slice R.ea R.evs.length R.ec,.slice R.na R.r2.length R.nc,.slice (some ⟨R.eb,0,none⟩) R.m R.m,.slice (some ⟨R.wb,0,none⟩) R.m R.m,.bool R.stuck,.int .i64 (R.used:Int)]) (.inr rfl) rfl rfl underlying30 rfl df0 Y3 ?_;exact⟨p,R,r1,by rw[plg];rfl,⟨pm,pbo,pB⟩,hP,hY.down (by omega),hb⟩
end
end Go.Vy.Sc
end
section
namespace Go.Yc
open Go Go.Conc
open Go.ConcN (sumTo upd sumTo_upd upd_ne upd_same sumTo_congr)
section
attribute [local irreducible] KK
def On (L:m4) (B:Nat->Prop) (a:Touch):Prop:=(a.write=false/\∃p∈L,a.loc= .cell p.1)\/∃ad,a.loc= .cell ad/\B ad.block
theorem On.mono {L:m4} {B B':Nat->Prop} (hB:∀b,B b->B' b) {a:Touch} (h:On L B a):On L B' a:=h.imp id fun⟨ad,h1,h2⟩=>⟨ad,h1,hB _ h2⟩
structure Apart (L0 Lc:m4) (B0 Bc:Nat->Prop):Prop where
 l0:∀p∈L0,¬Bc p.1.block
 lc:∀p∈Lc,¬B0 p.1.block
 own:∀b,B0 b->¬Bc b
theorem Apart.no {L0 Lc:m4} {B0 Bc:Nat->Prop} (H:Apart L0 Lc B0 Bc) {a b:Touch} (ha:On L0 B0 a) (hb:On Lc Bc b) (hl:a.loc=b.loc) (hw:a.write=true\/b.write=true):False:=by
 rcases ha with⟨h1,p,hp,h2⟩|⟨ad,h1,h2⟩ <;> rcases hb with⟨h3,p',hp',h4⟩|⟨ad',h3,h4⟩
 ·rcases hw with h|h
  ·rw[h1]at h;cases h
  ·rw[h3]at h;cases h
 ·rw[h2,h3]at hl;cases hl;exact H.l0 p hp h4
 ·rw[h1,h4]at hl;cases hl;exact H.lc p' hp' h2
 ·rw[h1,h3]at hl;cases hl;exact H.own _ h2 h4
structure TB (Sh:Loc->Prop) (Us:Nat->Prop) (c n0:Nat) (L0 Lc:m4) (B0 Bc:Nat->Prop) (A:Addr) (r:Option Nat) (t:Trace):Prop where
 clean:∀said,¬Race said t
 pre:∀i a,i<n0->touchAt t i=some a->a.loc.isMemory=true->¬Sh a.loc->Knows t 0 i/\Knows t c i
 post:∀i a g,n0 <=i->touchAt t i=some a->¬Sh a.loc->t.g? i=some g->(g=0/\On L0 B0 a)\/(g=c/\On Lc Bc a/\∀r0,r=some r0->i<r0)
 er0:∀i a g,touchAt t i=some a->Sh a.loc->t.g? i=some g->(∀g',Us g'->Knows t g' i)\/(a.kind≠.plain/\(g≠0->a.kind= .atomic/\¬t.heard i))
 rel:∀r0,r=some r0->r0<t.size/\t.act? r0=some (.mark (.releaseMerge A))/\t.g? r0=some c/\t.heard r0/\∀k,r0<k->t.act? k≠some (.mark (.release A))
def ux0 (u:Trace):Prop:=∀op∈u,∀a,op.act≠.mark (.release a)
section
variable {Sh:Loc->Prop}{Us Us':Nat->Prop}{c n0:Nat}{L0 Lc:m4}{B0 Bc B0' Bc':Nat->Prop}{A:Addr}{r:Option Nat}{t u:Trace}
theorem act?_old {i:Nat} (h:i<t.size):(t++u).act? i=t.act? i:=by simp only[Trace.act?,getElem?_append_old h]
theorem TB.grow (H:TB Sh Us c n0 L0 Lc B0 Bc A r t) (h0:∀b,B0 b->B0' b) (hc:∀b,Bc b->Bc' b):TB Sh Us c n0 L0 Lc B0' Bc' A r t :=
 ⟨H.clean,H.pre,fun i a g hi ha hs hg=>(H.post i a g hi ha hs hg).imp (fun z=>⟨z.1,z.2.mono h0⟩) fun z=>⟨z.1,z.2.1.mono hc,z.2.2⟩,H.er0,H.rel⟩
theorem TB.leave (H:TB Sh Us c n0 L0 Lc B0 Bc A r t) (hU:∀g,Us' g->Us g):TB Sh Us' c n0 L0 Lc B0 Bc A r t :=
 ⟨H.clean,H.pre,H.post,fun i a g ha hs hg=>(H.er0 i a g ha hs hg).imp (fun z g' o7=>z g' (hU g' o7)) id,H.rel⟩
theorem TB.xe0 (H:TB Sh Us c n0 L0 Lc B0 Bc A r t) (hn:r≠none->ux0 u):∀r0,r=some r0->r0<(t++u).size/\(t++u).act? r0=some (.mark (.releaseMerge A))/\(t++u).g? r0=some c/\(t++u).heard r0/\∀k,r0<k->(t++u).act? k≠some (.mark (.release A)):=by
 intro r0 h0;obtain⟨h1,h2,h3,h4,h5⟩:=H.rel r0 h0;refine⟨by rw[Array.size_append];omega,by rw[act?_old h1];exact h2,by rw[g?_old h1];exact h3,(heard_old h1).2 h4,fun k hk he=>?_⟩;rcases Nat.lt_or_ge k t.size with h|h
 ·rw[act?_old h]at he;exact h5 k hk he
 ·unfold Trace.act? at he;obtain⟨op,ho,he⟩:=Option.map_eq_some_iff.1 he;rcases getElem?_append_cases ho with⟨h',_⟩|⟨_,W5⟩
  ·omega
  ·exact hn (by rw[h0];simp) op W5 A he
theorem TB.A8 (H:TB Sh Us c n0 L0 Lc B0 Bc A r t) {i g:Nat} {a:Touch} {x:MemOp} (D4:t[i]? =some x) (V5:x.act.touch? =some a) (hs:Sh a.loc) (hg:(t++u).g? i=some g) :
  (∀g',Us g'->Knows (t++u) g' i)\/(a.kind≠.plain/\(g≠0->a.kind= .atomic/\¬(t++u).heard i)):=by
 have Y1:=lt_size_of_getElem? D4;rw[g?_old Y1]at hg;rcases H.er0 i a g (by rw[touchAt_of D4];exact V5) hs hg with this|this
 ·exact .inl fun g' o7=>(this g' o7).app u
 ·exact .inr ⟨this.1,fun o3=>⟨(this.2 o3).1,fun hh=>(this.2 o3).2 ((heard_old Y1).1 hh)⟩⟩
theorem TB.mute (H:TB Sh Us c n0 L0 Lc B0 Bc A r t) (hn0:n0 <=t.size) (hn:∀op∈u,op.act.touch? =none) (hr:r≠none->ux0 u):TB Sh Us c n0 L0 Lc B0 Bc A r (t++u):=by
 refine⟨fun said=>noRace_appendMute (H.clean said) hn,fun i a hi ha hm hs=>?_,fun i a g hi ha hs hg=>?_,fun i a g ha hs hg=>?_,H.xe0 hr⟩
 ·rw[touchAt_old (by omega)]at ha;have:=H.pre i a hi ha hm hs;exact⟨this.1.app u,this.2.app u⟩
 ·obtain⟨x,hx,V5⟩:=touch_of ha;rcases getElem?_append_cases hx with⟨Y1,D4⟩|⟨_,N9⟩
  ·rw[g?_old Y1]at hg;exact H.post i a g hi (by rw[touchAt_of D4];exact V5) hs hg
  ·rw[hn x N9]at V5;cases V5
 ·obtain⟨x,hx,V5⟩:=touch_of ha;rcases getElem?_append_cases hx with⟨_,D4⟩|⟨_,N9⟩
  ·exact H.A8 D4 V5 hs hg
  ·rw[hn x N9]at V5;cases V5
theorem TB.own (H:TB Sh Us c n0 L0 Lc B0 Bc A r t) (hap:Apart L0 Lc B0 Bc) (hn0:n0 <=t.size) {x:Nat} (hu:∀op∈u,op.g=x) (hs:∀op∈u,∀b,op.act.touch? =some b->¬Sh b.loc/\((x=0/\On L0 B0 b)\/(x=c/\On Lc Bc b/\r=none))) (hr:r≠none->ux0 u):TB Sh Us c n0 L0 Lc B0 Bc A r (t++u):=by
 refine⟨fun said=>noRace_append (H.clean said) hu fun i a ha op W5 b hb hc=>?_,fun i a hi ha hm hs=>?_,fun i a g hi ha hns hg=>?_,fun i a g ha hsh hg=>?_,H.xe0 hr⟩
 ·obtain⟨h1,h2⟩:=hs op W5 b hb;have hns:¬Sh a.loc:=by rw[hc.1];exact h1
  rcases Nat.lt_or_ge i n0 with hi|hi
  ·have:=H.pre i a hi ha hc.2.1 hns;rcases h2 with⟨rfl,_⟩|⟨rfl,_⟩
   ·exact this.1
   ·exact this.2
  ·obtain⟨z,hz,hza⟩:=touch_of ha;have hk:=knows_own hz;rcases H.post i a z.g hi ha hns (g?_of hz)with⟨e,h3⟩|⟨e,h3,_⟩ <;> rcases h2 with⟨rfl,h4⟩|⟨e2,h4,_⟩
   ·rw[e]at hk;exact hk
   ·exact(hap.no h3 h4 hc.1 hc.2.2.1).elim
   ·exact(hap.no h4 h3 hc.1.symm hc.2.2.1.symm).elim
   ·rw[e,<- e2]at hk;exact hk
 ·rw[touchAt_old (by omega)]at ha;have:=H.pre i a hi ha hm hs;exact⟨this.1.app u,this.2.app u⟩
 ·obtain⟨z,hz,hza⟩:=touch_of ha;rcases getElem?_append_cases hz with⟨Y1,hz'⟩|⟨_,hzu⟩
  ·rw[g?_old Y1]at hg;exact H.post i a g hi (by rw[touchAt_of hz'];exact hza) hns hg
  ·have hgx:g=x:=by rw[g?_of hz]at hg;rw[<- hu z hzu];exact(Option.some.inj hg).symm
   rcases(hs z hzu a hza).2 with⟨e,h⟩|⟨e,h,h'⟩
   ·exact .inl ⟨hgx.trans e,h⟩
   ·exact .inr ⟨hgx.trans e,h,fun r0 e=>by rw[h']at e;cases e⟩
 ·obtain⟨z,hz,hza⟩:=touch_of ha;rcases getElem?_append_cases hz with⟨_,hz'⟩|⟨_,hzu⟩
  ·exact H.A8 hz' hza hsh hg
  ·exact absurd hsh (hs z hzu a hza).1
theorem TB.sh (H:TB Sh Us c n0 L0 Lc B0 Bc A r t) (hn0:n0 <=t.size) {g:Nat} (hUs:Us g) (hu:∀op∈u,op.g=g) (hs:∀op∈u,GOk Sh g op) (hdf:g≠0->∀i,t.size <=i->i<t.size+u.size->(t++u).deaf g i≠0) (hr:r≠none->ux0 u):TB Sh Us c n0 L0 Lc B0 Bc A r (t++u):=by
 refine⟨fun said=>noRace_append (H.clean said) hu fun i a ha op W5 b hb hc=>?_,fun i a hi ha hm hs=>?_,fun i a g' hi ha hns hg=>?_,fun i a g' ha hsh o7=>?_,H.xe0 hr⟩
 ·obtain⟨h1,h2,h3⟩:=hs op W5 b hb;obtain⟨x,hx,V5⟩:=touch_of ha;rcases H.er0 i a x.g ha (hc.1▸h1) (g?_of hx)with hsx|hsx
  ·exact hsx g hUs
  rcases hc.2.2.2 with y|y|⟨_,y1,y2⟩
  ·exact absurd y hsx.1
  ·exact absurd y h2
  ·have e1:g=0:=Classical.byContradiction fun e=>by have:=h3 e;rw[y2]at this;cases this
   have e2:x.g=0:=Classical.byContradiction fun e=>by have:=(hsx.2 e).1;rw[y1]at this;cases this
   have:=knows_own hx;rw[e2]at this;rw[e1];exact this
 ·rw[touchAt_old (by omega)]at ha;have:=H.pre i a hi ha hm hs;exact⟨this.1.app u,this.2.app u⟩
 ·obtain⟨z,hz,hza⟩:=touch_of ha;rcases getElem?_append_cases hz with⟨Y1,hz'⟩|⟨_,hzu⟩
  ·rw[g?_old Y1]at hg;exact H.post i a g' hi (by rw[touchAt_of hz'];exact hza) hns hg
  ·exact absurd (hs z hzu a hza).1 hns
 ·obtain⟨x,hx,V5⟩:=touch_of ha;rcases getElem?_append_cases hx with⟨_,D4⟩|⟨hi,N9⟩
  ·exact H.A8 D4 V5 hsh o7
  ·obtain⟨h1,h2,h3⟩:=hs x N9 a V5;have hgx:g'=g:=by rw[g?_of hx]at o7;rw[<- hu x N9];exact(Option.some.inj o7).symm
   subst hgx;refine .inr ⟨h2,fun o3=>⟨h3 o3,?_⟩⟩;rintro⟨g2,hg2,hd2⟩;rw[o7]at hg2;obtain rfl:=Option.some.inj hg2;exact hdf o3 i hi (by have:=lt_size_of_getElem? hx;simpa using this) hd2
theorem TB.release (H:TB Sh Us c n0 L0 Lc B0 Bc A none t) (hn0:n0 <=t.size) {fn:FuncId} {ps:String} (hd:Deaf t c=0):TB Sh Us c n0 L0 Lc B0 Bc A (some t.size) (t ++ #[{g:=c,fn,pos:=ps,act:=.mark (.releaseMerge A)}]):=by
 have M:=H.mute (u:=#[{g:=c,fn,pos:=ps,act:=.mark (.releaseMerge A)}]) hn0 (fun op W5=>by simp at W5;subst W5;rfl) (fun h=>absurd rfl h);have e0:(t ++ #[{g:=c,fn,pos:=ps,act:=MemAct.mark (.releaseMerge A)}])[t.size]? =some {g:=c,fn,pos:=ps,act:=.mark (.releaseMerge A)}:=by simp
 refine⟨M.clean,M.pre,fun i a g hi ha hs hg=>(M.post i a g hi ha hs hg).imp id fun z=>⟨z.1,z.2.1,fun r0 e=>?_⟩,M.er0,fun r0 e=>?_⟩
 ·obtain⟨x,hx,V5⟩:=touch_of ha;rcases getElem?_append_cases hx with⟨Y1,_⟩|⟨_,N9⟩
  ·have:=Option.some.inj e;omega
  ·simp at N9;subst N9;cases V5
 ·obtain rfl:=Option.some.inj e;refine⟨by simp,by rw[act?_of e0],by rw[g?_of e0],⟨c,g?_of e0,by rw[deaf_old (Nat.le_refl _)];exact hd⟩,fun k hk he=>?_⟩;unfold Trace.act? at he;obtain⟨op,ho,he⟩:=Option.map_eq_some_iff.1 he;have:=lt_size_of_getElem? ho;simp at this;omega
theorem TB.acquire {r0:Nat} (H:TB Sh Us c n0 L0 Lc B0 Bc A (some r0) t) (hn0:n0 <=t.size) {fn:FuncId} {ps:String} (hd:Deaf t 0=0) :
  let t':=t ++ #[{g:=0,fn,pos:=ps,act:=.mark (.acquire A)}]
  (∀said,¬Race said t')/\(∀i a,touchAt t' i=some a->a.loc.isMemory=true->¬Sh a.loc->Knows t' 0 i)/\∀i a g,touchAt t' i=some a->Sh a.loc->t'.g? i=some g->(∀g',Us g'->Knows t' g' i)\/(a.kind≠.plain/\(g≠0->a.kind= .atomic/\¬t'.heard i)):=by
 intro t';have hnr:ux0 #[{g:=0,fn,pos:=ps,act:=MemAct.mark (.acquire A)}]:=fun op W5 a=>by simp at W5;subst W5;simp
 have M:TB Sh Us c n0 L0 Lc B0 Bc A (some r0) t':=H.mute hn0 (fun op W5=>by simp at W5;subst W5;rfl) fun _=>hnr;refine⟨M.clean,fun i a ha hm hs=>?_,M.er0⟩;obtain⟨h1,h2,h3,h4,h5⟩:=M.rel r0 rfl;have e0:t'[t.size]? =some {g:=0,fn,pos:=ps,act:=MemAct.mark (.acquire A)}:=by simp[t']
 have Y1:=(H.rel r0 rfl).1;have En0:HappensBefore t' r0 t.size:=Relation.TransGen.single (.inr ⟨.marked Y1 (.inr h2) (act?_of e0) fun k hk _=>h5 k hk,h4,⟨0,g?_of e0,by
  show(t++_).deaf 0 t.size=0;rw[deaf_old (Nat.le_refl _)];exact hd⟩⟩)
 rcases Nat.lt_or_ge i n0 with hi|hi
 ·exact(M.pre i a hi ha hm hs).1
 ·obtain⟨x,hx,V5⟩:=touch_of ha;rcases M.post i a x.g hi ha hs (g?_of hx)with⟨e,_⟩|⟨e,_,h⟩
  ·have:=knows_own hx;rw[e]at this;exact this
  ·have hir:=h r0 rfl;obtain⟨y,hy,hyg⟩:∃y,t'[r0]? =some y/\y.g=c:=by
    unfold Trace.g? at h3;obtain⟨y,hy,h⟩:=Option.map_eq_some_iff.1 h3;exact⟨y,hy,h⟩
   exact⟨t.size,_,e0,rfl,.inr (Relation.TransGen.trans (hb_po hir hx hy (by rw[e,hyg])) En0)⟩
end
end
end Go.Yc
end
