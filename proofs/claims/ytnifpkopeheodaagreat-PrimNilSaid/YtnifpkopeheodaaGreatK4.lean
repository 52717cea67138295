/- What the claim leans on, part 4. Laws. -/
import Derived.Test.YtnifpkopeheodaaGreatK3
import Derived.Conc.LeavingOf
import Derived.ProofKit
import Derived.Deep.Slices
import Derived.SizedLaws
import Derived.Conc.SmallLaws
import Derived.Laws.LoneSync
import Derived.FollowTie
set_option linter.unusedVariables false
section
namespace Go.Vy
open Go Go.Conc Go.Yc Go.RowKit
open Go.Vc
theorem Xz0 {P:Program} {fr:Frame} {fn:Func} {v:Value} {t:Tmp} (hm:fr.mode= .returning) (hd:fr.defers=[]) (hk:fr.kind= .normal) (hf:P.funcs[fr.fn]? =some fn) (hr:fn.results=#[.tmp t]) (hv:fr.tmps.getD t undef=v) (hi:P.inits.idxOf? fr.fn=none) (w:World):stepG P true (G fr []) w= .ended (.done v) w #[]:=by
 have h1:=results_tmp hr fr.tmps P w;have h2:=events_results_tmp (P:=P) (w:=w) hr fr.tmps;simp[G,stepG,unwind,doReturn,hm,hd,hk,hf,hi,h1,h2,hv,seen,GStep.after]
theorem xi0 {P:Program} {fr:Frame} {fn:Func} {w:World} {v:Value} {t:Tmp} (hl:Leaves P fr w (.returned v)) (hf:P.funcs[fr.fn]? =some fn) (hr:fn.results=#[.tmp t]) (hnv:e6 w):fr.tmps.getD t undef=v:=by
 obtain⟨h1,h2,h3,fn',h4,h5⟩:=hl;rw[hf]at h4;obtain rfl:=Option.some.inj h4;obtain⟨x',es,h6,_⟩:=h5 w.tape w.drawn _ w hnv.O9;have h7:=results_tmp hr fr.tmps P w;rw[Sem.runT_eq]at h6;have h8:=(Prod.mk.inj h6).1;rw[h7]at h8;injection h8
end Go.Vy
namespace Go.Vy.Sc
open Go Go.Conc Go.Yc Go.RowKit Go.Proofs Go.Proofs.YtnifpkopeheodaaGreat Tryz
open Go.Vc Go.Wg
def xj0 (W w':World):Prop:=Below W.heap.size W {w' with tape:=W.tape}
theorem xj0.frame {W w':World} (h:xj0 W w') (may:MemPlace->Prop):W.keptBut w' may:=Below.frame h may
theorem Gh0 {x y:Obj} (h:bo0 .all x y):y=x:=by cases h;rfl
theorem Bq0 {o x y:Obj} (h:bo0 (.gone o) x y):y=o:=by cases h;rfl
theorem Tg0 {f:FuncId} {fn:Func} {t:Tmp} {args:Array Value} {W:World} (hf:prog.funcs[f]? =some fn) (hr:fn.results=#[.tmp t]) (hi:prog.inits.idxOf? f=none) (h:@C prog (J6 W.heap.size (X0 W).C4) f args (jx0 W) fun v w=>v= .bool true/\Below (jx0 W).heap.size (jx0 W) w) :
  Yc.Ends prog (fun v w'=>v= .bool true/\xj0 W w') (solo (G (Frame.enter prog f args .normal) []) W) #[]:=by
 have n2:(jx0 W).heap.size=W.heap.size:=by simp[jx0]
 refine Fin.start (h _ ⟨_,rfl⟩ [] (fun e w' fr he hfr hl=>?_) (X0 W) ⟨fun _=>rfl,rfl,rfl,rfl,Cv0 W _,fun b hb=>yz0 (by rw[<- n2];exact hb),Nat.one_pos⟩ (by rw[n2];exact Nat.le_refl _) (fun _ hb=>hb.elim) rfl);cases e with
 |panicked ch=>exact he.elim
 |outgrown=>exact he.elim
 |returned v=>
  obtain⟨rfl,hb⟩:=he;rw[n2]at hb;refine Bp0 _ _ _ _ _ fun hnv X hX h1 h2 h3=>?_;have vj0:prog.funcs[fr.fn]? =some fn:=by rw[hfr];exact hf
  have hv:=xi0 hl vj0 hr hnv;obtain⟨hm,hd,hk,_⟩:=hl;refine Fin.ends rfl hX.G1 hX.cap (Xz0 hm hd hk vj0 hr hv (by rw[hfr];exact hi)) fun ρ w hs hρ=>⟨rfl,?_⟩
  refine⟨hs.os.trans hb.os,rfl,hs.output.trans hb.output,?_,fun k hk=>?_⟩
  ·show W.heap.size <=w.heap.size;rw[hs.size];show W.heap.size <=w'.heap.size;rw[<- n2];exact hb.size
  ·show w.heap[k]? =W.heap[k]?;have hk':k<w'.heap.size:=by have:=hb.size;rw[n2]at this;omega
   obtain⟨y,hy,hlk⟩:=hs.obj k _ (Array.getElem?_eq_getElem hk');have e1:some w'.heap[k]=(jx0 W).heap[k]?:=by rw[<- hb.block k hk];exact(Array.getElem?_eq_getElem hk').symm
   have e2:(jx0 W).heap[k]? =(W.heap[k]?).map fun o=>if Z3 o then nothing else o:=by
    show(W.heap.map _)[k]? =_;rw[Array.getElem?_map]
   rw[Array.getElem?_eq_getElem hk]at e2;rw[e2]at e1;have e1:=Option.some.inj e1;have hp:ρ k=(X0 W).C4 k:=by
    rw[hρ k fun z=>by have:=h2 k z;omega,h3]
   have hp2:(X0 W).C4 k=if Z3 W.heap[k] then .gone W.heap[k] else .all:=by
    show(match W.heap[k]? with|some o=>if Z3 o then c6.gone o else .all|none=>.all)=_;rw[Array.getElem?_eq_getElem hk]
   rw[hy,Array.getElem?_eq_getElem hk];have hlk:bo0 (ρ k) w'.heap[k] y:=hlk;rw[hp,hp2,e1]at hlk;cases hv:Z3 W.heap[k]
   ·simp only[hv,Bool.false_eq_true,if_false]at hlk;rw[Gh0 hlk]
   ·simp only[hv,if_true]at hlk;rw[Bq0 hlk]
end Go.Vy.Sc
end
section
namespace Go.Vy
open Go Go.Conc Go.Yc
open Go.Vc (Env upd m3 ev)
theorem Does.quiet {P:Program} {S:Sem Next} {u:World} {r:Out} (h:∀τ d ρ x,D5 ρ (W2 u τ d) x->S.run P x=r.res x/\S.events P x #[]=#[]):Does P S u r u :=
 ⟨rfl,rfl,fun τ d ρ x hs=>by
  obtain⟨h1,h2⟩:=h τ d ρ x hs;exact⟨L8.refl _,x,#[],by rw[Sem.runT_eq,h1,h2],hs,fun e he=>by simp at he⟩⟩
section
variable {P:Program}{ρ:Operand->Value}{d:Option Nat}{ty:TypeId}{ps:String}{af:Array Edge}{g:Option (Nat×Bool)}{x y:Operand}{w:World}
theorem ee0 {src dst t:TypeId} {a:Addr} {v:Value} (hx:ρ x= .pointer (some a)) (hs:P.underlying src=some (.pointer t)) (hd:P.underlying dst=some .unsafePointer) (hz:(P.info? t).map (fun i=>decide (i.size=0))=some false) (hc:w.cell? a=some v) :
  Does P (execOp ρ ⟨d,.convert src dst x,ty,ps,af,g⟩) w (.val (.pointer (some a))) w :=
 .quiet fun τ dd ρ' X h=>by
  have D6:=h.cell (a:=a) (v:=v) hc;refine⟨Go.Vc.ee0 hx hs hd hz D6,?_⟩;simp[execOp,hx,events_convert_to_unsafe hs hd hz D6]
theorem Gi0 {f:FuncId} {fn:Func} {args:Array Value} {e:Array Value->Sem Value} (hf:P.funcs[f]? =some fn) (O2:(fn.name== "runtime.NumGoroutine")=false) (hb:fn.body.isNone=true) (hn:Extern.findNext fn=none) (he:Extern.find fn=some e) (ht:E1 P (e args)):E1 P (callFunc f args):=by
 unfold callFunc;refine uj0 ?_;rw[hf];simp only[O2,Bool.false_eq_true,if_false,hb,if_true,hn,he];exact N1 (s:=mark (Mark.extern f)) (show(if wa0 (Mark.extern f)=true then E1 P (.pure ()) else dead P (.pure ()))by rw[if_pos (show wa0 (Mark.extern f)=true from rfl)];trivial) fun _=>N1 ht fun _=>S1 _
theorem ki0 {f:FuncId} {fn:Func} {aT:Array TypeId} {a:Addr} {p:Option Addr} {u:Value} (hx:ρ x= .pointer (some a)) (hy:ρ y= .pointer p) (hf:P.funcs[f]? =some fn) (O2:(fn.name== "runtime.NumGoroutine")=false) (hb:fn.body.isNone=true) (hn:Extern.findNext fn=none)
  (he:Extern.find fn=some Extern.Atomic.storeT) (hc:w.cell? a=some u) (hz:w.frozen? a=false) (hρ:ρ (.func f)= .func (.func f) #[] #[]) :
  Does P (execOp ρ ⟨d,.call ⟨.value (.func f),#[x,y],aT⟩,ty,ps,af,g⟩) w (.val (.tuple #[])) (w.setCell a (.pointer p)) :=
 .A1 (by
  show E1 P (do let d <- Deferred.ofValue (ρ (.func f)) (#[x,y].map ρ);invoke d.target d.args);rw[hρ];refine U493 ?_;have e1:(#[] ++ #[x,y].map ρ ++ #[]:Array Value)=#[.pointer (some a),.pointer p]:=by simp[hx,hy]
  rw[e1];show E1 P (do store (<- asAddr (.pointer (some a))) (.pointer p) .atomic;pure Extern.Atomic.none_);exact N1 (ez0 _) fun b=>N1 (sb0 _ _ _) fun _=>S1 _) rfl rfl fun τ dd=>Go.Vc.ki0 hx hy hf O2 hb hn he hc hz hρ
end
section
open Go.Vc Go.RowKit
variable {P:Program}[Ctx P]
end
end Go.Vy
end
section
namespace Go.Vy.Sc
open Go Go.Conc Go.Yc Go.RowKit Go.Proofs Go.Proofs.YtnifpkopeheodaaGreat Tryz
open Go.Vc Go.Wg
structure c9 (K:A8 prog) (w:World) (o:fp0 K.S K.L):Prop where
 on:gh w 2=0
 T2:gh w 1=0
 out:K.out (gh w 0)=o
 none:o.T2=[]
 os:w.os=K.base.os
 output:w.output=K.base.output
section
variable {K:A8 prog}{w w':World}{o:fp0 K.S K.L}
theorem c9.to (h:c9 K w o) (ht:w'.tape=w.tape) (ho:w'.os=w.os) (ho2:w'.output=w.output):c9 K w' o :=
 ⟨by rw[k4 ht];exact h.on,by rw[k4 ht];exact h.T2,by rw[k4 ht];exact h.out,h.none,ho.trans h.os,ho2.trans h.output⟩
theorem c9.E0 {B:Nat} (h:c9 K w o) (hb:Below B w w'):c9 K w' o:=h.to hb.tape hb.os hb.output
theorem c9.H5 {r:Option Nat} (h:c9 K w o) (hg:w.grownBy w' r) (_:True):c9 K w' o:=h.to hg.tape hg.os hg.output
theorem c9.O3 {F:Nat->Prop} {m:Gm} {f:K.L ⊕ Nat} (h:c9 K w o) (hf:o.S7=f) (hm:K.gu (gm w) m) (hi:K.Inv o.s m w F):K.Told w m F f :=
 ⟨h.on,by rw[h.out];exact hf,by rw[h.T2,h.out,h.none];rfl,by rw[h.out];exact hi,hm,h.os,h.output⟩
theorem c9.done {F:Nat->Prop} {m:Gm} {v:Value} (h:c9 K w o) (hf:o.S7= .inr 1) (hm:K.gu (gm w) m) (hi:K.Inv o.s m w F):K.ws0 w F (.returned v):=.inl ⟨m,h.O3 hf hm hi⟩
theorem c9.goes {F F':Nat->Prop} {m:Gm} {u:World} {l:K.L} (h:c9 K w o) (hg:K.Goes w m F l u F') (hn:∀s,(K.go l s).T2=[]):c9 K u (K.go l (K.sOf (gh u 0))) :=
 ⟨hg.on,hg.T2,hg.out,hn _,hg.Q6.os.trans h.os,hg.Q6.output.trans h.output⟩
end
structure fw0 (Y:Sys) (sc:Nat->Int) (sn B:Nat) (R:Rn) (w:World):Prop where
 mem:G4 w B R
 hm:R.m=Y.m
 evs:R.evs=(Y.pn sc sn).evs
 T2:R.T2=(Y.pn sc sn).T2
 used:R.used=(Y.pn sc sn).used
 ends:∀j,j<Y.m->R.ends[j]? =some (af0 (Y.pn sc sn).ft[j]?)
 M7:∀j,j<Y.m->R.M7[j]? =some (Qm0 Y j ((Y.pn sc sn).ft[j]?))
 stuck:R.stuck=((Y.pn sc sn).ft.any (·.isLeft)&&(Y.rds (Y.pn sc sn)).isEmpty)
 fp:∀b,R.fp b->B <=b
section
variable {Y:Sys}{sc:Nat->Int}{sn B B':Nat}{R:Rn}{w w':World}
theorem fw0.congr (h:fw0 Y sc sn B R w) (he:∀k,R.fp k->w'.heap[k]? =w.heap[k]?):fw0 Y sc sn B R w' :=
 ⟨h.mem.congr he,h.hm,h.evs,h.T2,h.used,h.ends,h.M7,h.stuck,h.fp⟩
theorem fw0.E0 (h:fw0 Y sc sn B R w) (hb:Below w.heap.size w w'):fw0 Y sc sn B R w':=h.congr fun k hk=>hb.block k (h.mem.lt hk)
theorem fw0.H5 {b:Nat} (h:fw0 Y sc sn B R w) (hg:w.grownBy w' (some b)) (hn:¬R.fp b):fw0 Y sc sn B R w':=h.congr fun k hk=>hg.block k (h.mem.lt hk) fun e=>hn (by cases e;exact hk)
theorem fw0.down (h:fw0 Y sc sn B' R w) (hB:B <=B'):fw0 Y sc sn B R w :=
 ⟨h.mem.down hB,h.hm,h.evs,h.T2,h.used,h.ends,h.M7,h.stuck,fun b hb=>Nat.le_trans hB (h.fp b hb)⟩
theorem Ks0 {fb:Nat->FuncId} {caps:Nat->Array Value} {fv:Nat->Value} {l sa:Option Addr} {lc scp:Nat} {F:Nat->Prop} (hO:io0 Y fb caps fv l sa sn sc) {m0:Gm} (hinv:Y.Inv Y.s0 m0 w F) (hl:∀j,j<Y.m->w.cell? ⟨ab l,ao l+j*1,none⟩=some (fv j)) (hlF:0<Y.m->¬F (ab l)) (hSc:xh0 w sa sn scp sc) (hsF:0<sn->¬F (ab sa)\/∀s m w' F',Y.Inv s m w' F'->w'.heap[ab sa]? =w.heap[ab sa]?) :
  @C prog (J6 Y.lb Y.pl) 48 #[.slice l Y.m lc,.slice sa sn scp] w fun v w'=>∃R,v= .tuple #[Fl0 R,.i 0]/\fw0 Y sc sn w.heap.size R w'/\(∃m' F',Y.Inv (Y.pn sc sn).s m' w' F'/\∀b,F' b->¬R.fp b)/\w'.os=w.os/\w'.output=w.output/\w'.tape=w.tape/\w.heap.size <=w'.heap.size/\∀b,b<w.heap.size->¬F b->w'.heap[b]? =w.heap[b]?:=by
 classical
 let Mn:Nat->Option Obj:=fun b=>if F b then none else w.heap[b]?
 have G9:∀(w':World) (a:Addr) (v:Value),(∀b,Mn b≠none->w'.heap[b]? =Mn b)->¬F a.block->w.cell? a=some v->w'.cell? a=some v:=fun w' a v hw hF ha=>by
  have h1:Mn a.block=w.heap[a.block]?:=if_neg hF;have h2:w'.heap[a.block]? =w.heap[a.block]?:=by
   rw[<- h1];refine hw _ ?_;rw[h1,Array.getElem?_eq_getElem (fv0 ha)];simp
  rw[(p5 (u:=w) (u':=w') (a:=a) h2).1];exact ha
 have key:=Xu0 (Mn:=Mn) (w0:=w) (F:=F) (bc:=lc) (scp:=scp) hO (fun b o h=>by
   have h:(if F b then none else w.heap[b]?)=some o:=h;split at h
   ·cases h
   ·exact h) hinv (fun b hb=>if_pos hb) (fun w' hw j hj=>G9 w' _ _ hw (hlF (by omega)) (hl j hj)) (fun w' hI hw j hj=>by
   rcases hsF (by omega)with h|h
   ·exact G9 w' _ _ hw h (hSc.cell j hj)
   ·obtain⟨s,m,F',hI⟩:=hI;rw[(p5 (u:=w) (u':=w') (a:=⟨ab sa,ao sa+j*1,none⟩) (h s m w' F' hI)).1];exact hSc.cell j hj)
 refine @Calls.mono _ (J6 Y.lb Y.pl) _ _ _ _ _ key fun e w' he=>?_;cases e with
 |panicked ch=>exact he.elim
 |outgrown=>exact he.elim
 |returned v=>
  obtain⟨R,rfl,hD⟩:=he;refine⟨R,rfl,⟨hD.mem,hD.m,hD.evs,hD.T2,hD.used,hD.ends,hD.M7,hD.stuck,hD.fp⟩,hD.inv,hD.os,hD.output,hD.tape,hD.size,fun b hb hF=>?_⟩;have h1:Mn b=w.heap[b]?:=if_neg hF;rw[<- h1];refine hD.E0 b ?_;rw[h1,Array.getElem?_eq_getElem hb];simp
end
section
variable [Ctx prog]
end
section
theorem Qu0:prog.built 105 []=some #[.bool false]:=by kernel_rfl
theorem Qv0 (x0:Int) (x1:Int) (x2:Int):prog.built 47 [(0,.i x0),(1,.i x1),(2,.i x2)]=some #[.i x0,.i x1,.i x2]:=by kernel_rfl
end
section
variable [Ctx prog]
theorem Qw0 (w0:World):C prog 36 #[] w0 fun v w=>∃wb,v= .p wb/\w0.heap.size <=wb/\S0 w wb #[.bool false] 105/\Below w0.heap.size w0 w:=by
 refine C.enter (n:=3) func36 rfl rfl ?_;refine U3 ?_;intro hb;refine U27 ?_;refine L.va (V0 (parts:=[]) rfl Qu0) ?_;refine L.box (cs:=#[.bool false]) rfl rfl (fun w b2 F2=>?_);refine U11 ?_;intro lt2 hb;have g6:=F2.blk;exact U301
theorem fx0 (wb:Nat) (w0:World) (hW:S0 w0 wb #[.bool false] 105):C prog 44 #[.p wb] w0 fun v w=>v= .bool false/\w=w0:=by
 refine U283 ?_;refine U68 ?_;refine U271 ?_;refine U127 ?_;refine U526 ?_;refine L.va (F0 rfl underlying4 rfl (hW.A0 0 (v:=.bool false) rfl)) ?_;refine U303 ?_;exact⟨rfl,rfl⟩
theorem Gj0 {f:FuncId} {fn:Func} {ys:Array Value} (hf:prog.funcs[f]? =some fn) (hbd:fn.body.isSome=true) (hnm:(fn.name== "runtime.NumGoroutine")=false) (k o n:Int) (rd:Value) (w0:World) (R:World->Prop) (hdo:∀w,Below w0.heap.size w0 w->C prog f ys w fun _ w'=>R w') :
  C prog 83 #[.pointer none,.agg #[.i k,.i o,.i n],rd,.func (.func f) #[] ys] w0 fun _ w=>R w:=by
 refine C.enter (n:=63) func83 rfl rfl ?_;refine U3 ?_;intro hb;refine L.box (cs:=#[.i k,.i o,.i n]) rfl rfl (fun w b5 F5=>?_);refine U12 ?_;intro E8 hb;refine U33 ?_;refine U538 ?_;refine U44 ?_;refine U80 ?_;refine L.va ck0 ?_;refine L.va (E9 (v:=.func (.func f) #[] ys) (b:=true) rfl (.inr ⟨_,_,_,rfl,rfl⟩) rfl underlying1 ⟨_,_,_,rfl⟩) ?_;refine U44 ?_;refine U112 ?_;refine L.call (co0 rfl hf hbd hnm) (hdo _ hb) ?_;rintro _ w hR;refine U7 ?_;refine U517 ?_;refine ends.none (.inr rfl) rfl ?_;exact hR
theorem qo0 {f:FuncId} {fn:Func} {ys:Array Value} (hf:prog.funcs[f]? =some fn) (hbd:fn.body.isSome=true) (hnm:(fn.name== "runtime.NumGoroutine")=false) (o n k:Int) (rd:Value) (w0:World) (R:World->Prop) (hdo:∀w,Below w0.heap.size w0 w->C prog f ys w fun _ w'=>R w') :
  C prog 56 #[.agg #[.i o,.i n],.pointer none,.i k,rd,.func (.func f) #[] ys] w0 fun _ w=>R w:=by
 refine C.enter (n:=20) func56 rfl rfl ?_;refine U3 ?_;intro hb;refine L.box (cs:=#[.i o,.i n]) rfl rfl (fun w b5 F5=>?_);refine U12 ?_;intro E8 hb;have C3:=F5.blk;refine U7 ?_;refine U63 ?_;refine U423 ?_;refine U424 ?_;refine L.va (V0 (parts:=[(0,.tmp 11),(1,.tmp 13),(2,.tmp 15)]) rfl (Qv0 k o n)) ?_;refine U296 ?_;refine L.call (Y6 rfl rfl rfl rfl func83 rfl Wd0 rfl) (Gj0 hf hbd hnm k o n rd w R (fun w1 S4=>hdo w1 (N0 hb S4))) ?_;rintro _ w hR;refine U61 ?_;exact hR
theorem Qx0 (b0 b1 cb:Nat) (obj num:Int) (q:Value) (x:Int) (x2:Int) (w0:World) (M5:S0 w0 b0 #[.p cb] 69) (hB1:S0 w0 b1 #[.i x2] 2) (hC:S0 w0 cb #[.i obj,.i num,q,.i x] 115) :
  C prog 58 #[.p b0,.p b1] w0 fun v w=>v= .tuple #[]/\S0 w b1 #[.i x] 2/\w0.grownBy w (some b1):=by
 refine C.enter (n:=6) func58 rfl rfl ?_;refine W.region rfl ?_;refine L.va (F0 rfl underlying69 rfl (M5.A0 0 (v:=.p cb) rfl)) ?_;refine U489 ?_;refine L.va (F0 rfl underlying2 rfl (hC.A0 3 (v:=.i x) rfl)) ?_;refine L.pu 0 [.i x] #[.i x] sz2 hB1 (fun w D1 hg n2=>?_);exact U220
theorem Qy0 (b0 b1 cb:Nat) (obj num:Int) (q:Value) (x:Int) (x2:Int) (w0:World) (M5:S0 w0 b0 #[.i x] 2) (hB1:S0 w0 b1 #[.p cb] 69) (hC:S0 w0 cb #[.i obj,.i num,q,.i x2] 115) :
  C prog 57 #[.p b0,.p b1] w0 fun v w=>v= .tuple #[]/\S0 w cb #[.i obj,.i num,q,.i x] 115/\w0.grownBy w (some cb):=by
 refine C.enter (n:=6) func57 rfl rfl ?_;refine W.region rfl ?_;refine L.va (F0 rfl underlying69 rfl (hB1.A0 0 (v:=.p cb) rfl)) ?_;refine L.va (F0 rfl underlying2 rfl (M5.A0 0 (v:=.i x) rfl)) ?_;refine U489 ?_;refine L.pu 3 [.i x] #[.i obj,.i num,q,.i x] sz2 hC (fun w D1 hg n2=>?_);have B5:=Q7.ef0 hC hg;have hC:=D1;exact U312
end
theorem bz0 {w:World} {b:Nat} {cs:Array Value} {T:TypeId} {f:Nat×Nat} (h:O1 w b cs T f) (h0:0<cs.size):w.heap[b]? ≠some nothing:=by
 unfold O1 at h;rw[h];intro e;have e1:=Option.some.inj e;unfold nothing at e1;injection e1 with e2
 rw[e2]at h0;exact absurd h0 (Nat.lt_irrefl 0)
theorem S9 {P:Program} {f:FuncId} {fn:Func} {caps:Array Value} (hf:P.funcs[f]? =some fn) (hb:fn.body.isSome=true) (hn:(fn.name== "runtime.NumGoroutine")=false):Jk0 P (.func (.func f) #[] caps) f caps:=⟨rfl,fn,hf,hb,hn⟩
structure Br0 (w:World) (t:Nat):Prop where
 eq:gh w 0=t
structure KOk (K:A8 prog):Prop where
 loc:∀s m (w w':World) F,K.Inv s m w F->(∀b,F b->w'.heap[b]? =w.heap[b]?)->K.Inv s m w' F
 vis:∀s m (w:World) F,K.Inv s m w F->∀b,F b->b<w.heap.size/\w.heap[b]? ≠some nothing
 refl:∀a,K.gu a a
 step:K.ij0=83
 number:K.M3=47
theorem Sys.kok {Y:Sys} (h:kz0 Y) {fb:Nat->FuncId} {q:PR Y} {w0:World} {i cb:Nat} {top:List Frame}:KOk (Y.cfg fb q w0 i cb top):=⟨h.loc,h.vis,fun a j _=>h.refl j a,rfl,rfl⟩
section
variable {K:A8 prog}{w0 w u u':World}{m:Gm}{F F':Nat->Prop}{l:K.L}{f:K.L ⊕ Nat}
theorem KOk.O3 (hK:KOk K) (h:K.Told w0 m F f) (ht:w.tape=w0.tape) (ho:w.os=w0.os) (hp:w.output=w0.output) (hk:∀b,F b->w.heap[b]? =w0.heap[b]?):K.Told w m F f :=
 ⟨by rw[k4 ht];exact h.on,by rw[k4 ht];exact h.S7,by rw[k4 ht,k4 ht];exact h.T2,hK.loc _ _ w0 w F (by rw[k4 ht];exact h.inv) hk,by rw[fo0 ht];exact h.le,ho.trans h.os,hp.trans h.output⟩
theorem KOk.E0 (hK:KOk K) (h:K.Told w0 m F f) (hb:Below w0.heap.size w0 w):K.Told w m F f :=
 hK.O3 h hb.tape hb.os hb.output fun b hF=>hb.block b (hK.vis _ _ _ _ h.inv b hF).1
theorem KOk.tlt (hK:KOk K) (h:K.Told w0 m F f) {b:Nat} (hF:F b):b<w0.heap.size:=(hK.vis _ _ _ _ h.inv b hF).1
theorem c5.down (hb:Below w0.heap.size w0 w) (h:K.c5 w m F u F'):K.c5 w0 m F u F' :=
 ⟨Nat.le_trans hb.size h.size,fun b R2 hn hF=>by
  have e:=hb.block b R2;have:=h.E0 b (Nat.lt_of_lt_of_le R2 hb.size) (by rw[e];exact hn) hF;exact⟨this.1.trans e,this.2⟩,h.inv,h.le,h.os.trans hb.os,h.output.trans hb.output⟩
theorem Goes.down (hb:Below w0.heap.size w0 w) (h:K.Goes w m F l u F'):K.Goes w0 m F l u F':=⟨c5.down hb h.Q6,h.T2,h.on,h.out,h.rdy,h.at_⟩
theorem Goes.own (hK:KOk K) (h:K.Goes w0 m F l u F') (ht:u'.tape=u.tape) (ho:u'.os=u.os) (hp:u'.output=u.output) (hs:u.heap.size <=u'.heap.size) (hk:∀b,(b<w0.heap.size\/F' b)->b<u.heap.size->u'.heap[b]? =u.heap[b]?):K.Goes w0 m F l u' F':=by
 have hv:=hK.vis _ _ _ _ h.Q6.inv;refine⟨⟨Nat.le_trans h.Q6.size hs,fun b R2 hn hF=>?_,?_,?_,ho.trans h.Q6.os,hp.trans h.Q6.output⟩,?_,?_,?_,?_,?_⟩
 ·have:=h.Q6.E0 b R2 hn hF;exact⟨(hk b (.inl R2) (Nat.lt_of_lt_of_le R2 h.Q6.size)).trans this.1,this.2⟩
 ·rw[k4 ht,fo0 ht];exact hK.loc _ _ u u' F' h.Q6.inv fun b hb=>hk b (.inr hb) (hv b hb).1
 ·rw[fo0 ht];exact h.Q6.le
 ·rw[k4 ht];exact h.T2
 ·rw[k4 ht];exact h.on
 ·rw[k4 ht];exact h.out
 ·rw[k4 ht];exact h.rdy
 ·rw[k4 ht];exact h.at_
structure Gn (K:A8 prog) (w0:World) (m:Gm) (F:Nat->Prop) (l:K.L) (u:World) (F':Nat->Prop):Prop where
 ok:KOk K
 goes:K.Goes w0 m F l u F'
theorem Gn.H5 (h:Gn K w0 m F l u F') {b:Nat} (hg:u.grownBy u' (some b)) (hn:w0.heap.size <=b/\¬F' b):Gn K w0 m F l u' F' :=
 ⟨h.ok,Goes.own h.ok h.goes hg.tape hg.os hg.output hg.size fun k hk hl=>hg.block k hl fun e=>by cases e;rcases hk with hk|hk;omega;exact hn.2 hk⟩
theorem Goes.T9 (h:K.Goes w0 m F l u F') {b:Nat} {cs:Array Value} {T:TypeId} (hB:S0 w0 b cs T) (h0:0<cs.size) (hF:¬F b):S0 u b cs T/\¬F' b:=by
 have hB':O1 w0 b cs T (0,0):=l4 hB;have:=h.Q6.E0 b hB'.lt (bz0 hB' h0) hF;exact⟨this.1.trans hB',this.2⟩
end
structure eo0 (K:A8 prog) (w0 u:World):Prop where
 g2:gh u 2=1
 inv:∃F',K.Inv (K.sOf (gh u 0)) (gm u) u F'
 os:u.os=w0.os
 output:u.output=w0.output
theorem eo0.at {K:A8 prog} {w0 w1 u:World} (h:eo0 K w1 u) (ho:w1.os=w0.os) (hp:w1.output=w0.output):eo0 K w0 u:=⟨h.g2,h.inv,h.os.trans ho,h.output.trans hp⟩
theorem tg0 {K:A8 prog} {w0 u:World} {m:Gm} {F F':Nat->Prop} (h:K.c5 w0 m F u F') (h2:gh u 2=1):eo0 K w0 u:=⟨h2,⟨F',h.inv⟩,h.os,h.output⟩
theorem eo0.done {K:A8 prog} {w0 u:World} {ch:List PanicEntry} (hK:KOk K) (h:eo0 K w0 u) (hr:ap0 ch) (ho:w0.os=K.base.os) (hp:w0.output=K.base.output):∃F,K.ws0 u F (.panicked ch):=by
 obtain⟨F',hi⟩:=h.inv;exact⟨F',hr,.inr ⟨h.g2,⟨gm u,hK.refl _,hi⟩,h.os.trans ho,h.output.trans hp⟩⟩
def G3 (K:A8 prog) (w0:World) (R:Value->World->Prop):Ending->World->Prop
 | .returned v,u=>R v u
 | .panicked ch,u=>ap0 ch/\eo0 K w0 u
 | .outgrown,_=>False
theorem Qz0 (x0:Int) (x1:Int) (x2:Int):prog.built 47 [(0,.i x0),(1,.i x1),(2,.i x2)]=some #[.i x0,.i x1,.i x2]:=by kernel_rfl
theorem k8 {K:A8 prog} (hK:KOk K) {l:K.L} {m:Gm} {F:Nat->Prop} {o n ki:Int} {rd df:Value} (w0:World) (hT:K.Told w0 m F (.inl l)) (P2:K.stp l=⟨ki,o,n⟩) (hr:∀w,Below w0.heap.size w0 w->K.br0 w m F rd l) (_hrc:∃f caps,rd= .nilFunc\/rd= .func (.func f) #[] caps) (hdf:FnV prog df) (Rdo:World->World->Prop) (hdo:∀w,Below w0.heap.size w0 w->∀u F',K.Goes w m F l u F'->Be0 prog K.u4 df u (Rdo u)) :
  @Calls prog (K0 K) 56 #[.agg #[.i o,.i n],.p K.ptr,.i ki,rd,df] w0 (G3 K w0 fun v u=>v= .tuple #[]/\∃u0 F',K.Goes w0 m F l u0 F'/\Rdo u0 u/\u.tape=u0.tape):=by
 letI:Ctx prog:=K0 K;refine Calls.O5 (n:=20) func56 rfl rfl ?_;refine U3 ?_;intro hb;refine L.box (cs:=#[.i o,.i n]) rfl rfl (fun w b5 F5=>?_);refine U12 ?_;intro E8 hb;have C3:=F5.blk;refine U7 ?_;refine U63 ?_;refine U423 ?_;refine U424 ?_;refine L.va (V0 (parts:=[(0,.tmp 11),(1,.tmp 13),(2,.tmp 15)]) rfl (Qz0 ki o n)) ?_;refine U296 ?_;have g9:=hb;refine L.T3 rfl (Y6 rfl rfl rfl rfl func83 rfl Wd0 rfl) (hK.step▸Bf0 (K:=K) (hK.E0 hT hb) (by rw[P2];rfl) (hr _ hb) hdf Rdo (hdo _ hb)) ?_ ?_ (fun _ h=>h)
 ·rintro v u ⟨rfl,u0,F',hg,hR,ht⟩;rename_i wL;refine U61 ?_;exact⟨rfl,u0,F',Goes.down g9 hg,hR,ht⟩
 ·rintro ch u ⟨K6,F',hl,h2⟩;exact⟨K6,(tg0 hl h2).at g9.os g9.output⟩
set_option maxHeartbeats 400000 in
theorem Kt0 {K:A8 prog} (hK:KOk K) {Q4:K.L} {m:Gm} {F:Nat->Prop} (cb wb:Nat) (obj num:Int) (x:Nat->Int) (x2:Int) (w0:World) (hT:K.Told w0 m F (.inl Q4)) (P2:K.stp Q4=⟨8,obj,num⟩) (hrd:∀s,K.rdy Q4 s=true) (hW:S0 w0 wb #[.bool false] 105) (hC:S0 w0 cb #[.i obj,.i num,.p wb,.i x2] 115) (hgo:∀u F',K.Goes w0 m F Q4 u F'->S0 u cb #[.i obj,.i num,.p wb,.i (x (gh u 0))] 115) :
  @Calls prog (K0 K) 22 #[.p cb,.p K.ptr] w0 (G3 K w0 fun v u=>∃F' tt,Gn K w0 m F Q4 u F'/\Br0 u tt/\v= .i (x tt)):=by
 letI:Ctx prog:=K0 K;refine Calls.O5 (n:=26) func22 rfl rfl ?_;refine U3 ?_;intro hb;refine L.box (cs:=#[.p cb]) rfl rfl (fun w b2 F2=>?_);refine U11 ?_;intro lt2 hb;have hW:=hW.E0 F2.below;refine U57 ?_;intro hC g6;refine U49 ?_;refine L.alloc (cs:=#[.i 0]) zr2 rfl (fun w b5 F5=>?_);refine U12 ?_;intro E8 hb;refine U87 ?_;intro hW hC;refine U96 ?_;intro g6 C3;refine U33 ?_;refine L.va (F0 rfl underlying69 rfl (g6.A0 0 (v:=.p cb) rfl)) ?_;refine L.va (H3 rfl rfl underlying69) ?_;refine U209 ?_;refine U474 ?_;refine U543 ?_;rintro _ w1 ⟨rfl,hw⟩;refine U139 ?_;refine U474 ?_;refine U400 ?_;refine L.va (Y2 rfl) ?_;refine L.va (S3 (l:=[.tmp 2,.tmp 5]) (vs:=[.p b2,.p b5]) rfl) ?_;have g9:=hb;refine U274 ?_;intro hF5 hF2;have w9:@Calls prog (K0 K) 56 #[.agg #[.i obj,.i num],.p K.ptr,.i 8,.nilFunc,.func (.func 58) #[] #[.p b2,.p b5]] w (G3 K w fun v u=>v= .tuple #[]/\∃u0 F',K.Goes w m F Q4 u0 F'/\(S0 u b5 #[.i (x (gh u0 0))] 2/\u0.grownBy u (some b5))/\u.tape=u0.tape):=by
  refine k8 hK w (hK.E0 hT hb) P2 (fun w1 S4=>.inl ⟨rfl,hrd⟩) ⟨0,#[],.inl rfl⟩ (.inr ⟨58,_,S9 func58 rfl Vw0⟩) (fun u u2=>S0 u2 b5 #[.i (x (gh u 0))] 2/\u.grownBy u2 (some b5)) (fun w1 S4 u F' hg=>.inr ⟨58,_,S9 func58 rfl Vw0,?_⟩);exact @C.mono _ (u4 prog K.M3 K.ptr K.num) _ _ _ _ _ (@Qx0 (u4 prog K.M3 K.ptr K.num) b2 b5 cb obj num _ _ _ u (Goes.T9 hg (g6.E0 S4) (Nat.zero_lt_succ _) hF2).1 (Goes.T9 hg (C3.E0 S4) (Nat.zero_lt_succ _) hF5).1 (hgo u F' (Goes.down (N0 hb S4) hg))) fun v w' h=>h.2
 refine L.T3 rfl (l6 rfl rfl rfl rfl rfl func56 rfl ix0 rfl) w9 ?_ ?_ (fun _ h=>h)
 ·rintro v u ⟨rfl,u0,F',hg,⟨lc0,n3⟩,ht⟩;refine U256 ?_;intro h5 hgn;obtain⟨tt,htt⟩:∃tt,gh u0 0=tt:=⟨_,rfl⟩
  rw[htt]at lc0;have htt:Br0 u tt:=⟨(k4 ht 0).trans htt⟩
  have C3:=lc0;clear hb lc0 g6 hC w9;rename_i wL;clear hW;refine U36 ?_;refine L.va (F0 rfl underlying2 rfl (C3.A0 0 (v:=.i (x tt)) rfl)) ?_;exact U297
 ·rintro ch u ⟨K6,hh⟩;exact⟨K6,hh.at g9.os g9.output⟩
set_option maxHeartbeats 400000 in
theorem Ku0 {K:A8 prog} (hK:KOk K) {Q4:K.L} {m:Gm} {F:Nat->Prop} (cb wb:Nat) (obj num:Int) (x:Int) (x2:Int) (w0:World) (hT:K.Told w0 m F (.inl Q4)) (P2:K.stp Q4=⟨9,obj,num⟩) (hrd:∀s,K.rdy Q4 s=true) (hW:S0 w0 wb #[.bool false] 105) (hC:S0 w0 cb #[.i obj,.i num,.p wb,.i x2] 115) (hgo:∀u F',K.Goes w0 m F Q4 u F'->∃x2,S0 u cb #[.i obj,.i num,.p wb,.i x2] 115) :
  @Calls prog (K0 K) 21 #[.p cb,.p K.ptr,.i x] w0 (G3 K w0 fun v u=>v= .tuple #[]/\∃u0 F',Gn K w0 m F Q4 u0 F'/\S0 u cb #[.i obj,.i num,.p wb,.i x] 115/\u0.grownBy u (some cb)):=by
 letI:Ctx prog:=K0 K;refine Calls.O5 (n:=26) func21 rfl rfl ?_;refine U3 ?_;intro hb;refine L.box (cs:=#[.p cb]) rfl rfl (fun w b3 F3=>?_);refine U88 ?_;intro lt3 hb;have hW:=hW.E0 F3.below;have hC:=hC.E0 F3.below;have N9:=F3.blk;refine L.box (cs:=#[.i x]) rfl rfl (fun w b5 F5=>?_);refine U12 ?_;intro E8 hb;refine U87 ?_;intro hW hC;have N9:=N9.E0 F5.below;have C3:=F5.blk;refine U91 ?_;refine L.va (F0 rfl underlying69 rfl (N9.A0 0 (v:=.p cb) rfl)) ?_;refine L.va (H3 rfl rfl underlying69) ?_;refine U8 ?_;refine U475 ?_;refine U543 ?_;rintro _ w1 ⟨rfl,hw⟩;refine U28 ?_;refine U310 ?_;refine U475 ?_;refine U400 ?_;refine L.va (Y2 rfl) ?_;refine L.va (S3 (l:=[.tmp 5,.tmp 3]) (vs:=[.p b5,.p b3]) rfl) ?_;have g9:=hb;have hF5:¬F b5:=fun z=>by have:=hK.tlt hT z;omega
 have hF3:¬F b3:=fun z=>by have:=hK.tlt hT z;omega
 have w9:@Calls prog (K0 K) 56 #[.agg #[.i obj,.i num],.p K.ptr,.i 9,.nilFunc,.func (.func 57) #[] #[.p b5,.p b3]] w (G3 K w fun v u=>v= .tuple #[]/\∃u0 F',K.Goes w m F Q4 u0 F'/\(S0 u cb #[.i obj,.i num,.p wb,.i x] 115/\u0.grownBy u (some cb))/\u.tape=u0.tape):=by
  refine k8 hK w (hK.E0 hT hb) P2 (fun w1 S4=>.inl ⟨rfl,hrd⟩) ⟨0,#[],.inl rfl⟩ (.inr ⟨57,_,S9 func57 rfl Vv0⟩) (fun u u2=>S0 u2 cb #[.i obj,.i num,.p wb,.i x] 115/\u.grownBy u2 (some cb)) (fun w1 S4 u F' hg=>.inr ⟨57,_,S9 func57 rfl Vv0,?_⟩);obtain⟨y0,hCu⟩:=hgo u F' (Goes.down (N0 hb S4) hg);exact @C.mono _ (u4 prog K.M3 K.ptr K.num) _ _ _ _ _ (@Qy0 (u4 prog K.M3 K.ptr K.num) b5 b3 cb obj num _ x _ u (Goes.T9 hg (C3.E0 S4) (Nat.zero_lt_succ _) hF5).1 (Goes.T9 hg (N9.E0 S4) (Nat.zero_lt_succ _) hF3).1 hCu) fun v w' h=>h.2
 refine L.T3 rfl (l6 rfl rfl rfl rfl rfl func56 rfl ix0 rfl) w9 ?_ ?_ (fun _ h=>h)
 ·rintro v u ⟨rfl,u0,F',hg,⟨hCn,n3⟩,ht⟩;have w8:=Goes.down g9 hg;rename_i wL;refine U181 ?_;refine U69 ?_;exact⟨rfl,u0,F',⟨hK,w8⟩,hCn,n3⟩
 ·rintro ch u ⟨K6,hh⟩;exact⟨K6,hh.at g9.os g9.output⟩
end Go.Vy.Sc
end
section
namespace Go.Vy
open Go Go.Yc Go.RowKit
open Go.Vc
section
variable {P:Program}{ρ:Operand->Value}{w:World}{d:Option Nat}{ty:TypeId}{ps:String}{af:Array Edge}{g:Option (Nat×Bool)}
theorem ld0 {S:Sem Next} {r:Out} (h:∀x,S.run P x=r.res x) (he:∀x,S.events P x #[]=#[]):Does P S w r w :=
 ⟨rfl,rfl,fun τ d ρ x hs=>⟨L8.refl _,x,#[],by rw[Sem.runT_eq,h,he],hs,fun e he=>by simp at he⟩⟩
theorem p9 {T:TypeId} {r x0:Operand} {v v0:Value} {name:String} {aT:Array TypeId} {F:FuncId} {fn:Func} (hx:ρ r= .iface T v) (h0:ρ x0=v0) (hm:∀recv w,(Go.method (P.types.size+Made.depth) T recv name).run P w= .ok (F,recv) w) (hme:∀recv w,(Go.method (P.types.size+Made.depth) T recv name).events P w #[]=#[]) (hf:P.funcs[F]? =some fn) (hb:fn.body.isSome=true) (hn:(fn.name== "runtime.NumGoroutine")=false) :
  Does P (execOp ρ ⟨d,.call ⟨.invoke r name,#[x0],aT⟩,ty,ps,af,g⟩) w (.enter F #[v,v0]) w:=by
 have g7:fn.body.isNone=false:=by cases h:fn.body <;> simp_all
 have hn':fn.name≠ "runtime.NumGoroutine":=by simpa using hn
 have hb2:fn.body≠none:=by intro h;rw[h]at hb;cases hb
 refine ld0 (fun x=>?_) fun x=>?_
 ·have hm':Sem.run P (Go.method (P.types.size+100) T v name) x= .ok (F,v) x:=hm v x;show _=Result.ok (Next.enter F #[v,v0]) x;simp[execOp,resolve,hx,h0,invoke,callMethod,go_sem,hm',callFunc,hf,hn',hb2]
 ·have hm':Sem.run P (Go.method (P.types.size+100) T v name) x= .ok (F,v) x:=hm v x;have cx1:Sem.events P (Go.method (P.types.size+100) T v name) x #[]=#[]:=hme v x;simp[execOp,resolve,hx,h0,invoke,callMethod,go_sem,hm',cx1,callFunc,hf,hn',hb2]
end
end Go.Vy
end
section
namespace Go.Vy.Sc
open Go Go.Conc Go.Yc Go.RowKit Go.Proofs Go.Proofs.YtnifpkopeheodaaGreat Tryz
open Go.Vc Go.Wg
theorem Ra0 [Ctx prog] (b0 b1 cb:Nat) (obj num:Int) (q:Value) (x x2:Int) (sa:Value) (w0:World) (M5:S0 w0 b0 #[.pointer (some ⟨cb,0,none⟩)] 67) (hB1:S0 w0 b1 #[.int .i64 x2] 2) (hC:S0 w0 cb #[.int .i64 obj,.int .i64 num,q,.int .i64 x,sa] 132) :
  C prog 64 #[.pointer (some ⟨b0,0,none⟩),.pointer (some ⟨b1,0,none⟩)] w0 fun v w=>v= .tuple #[]/\S0 w b1 #[.int .i64 x] 2/\w0.grownBy w (some b1):=by
 refine C.enter (n:=6) func64 rfl rfl ?_;refine U439 ?_;refine U490 ?_;refine U519 ?_;intro w D1 hg n2;exact U220
set_option maxHeartbeats 400000 in
theorem Kv0 {K:A8 prog} (hK:KOk K) {Q4:K.L} {m:Gm} {F:Nat->Prop} (cb wb:Nat) (obj num:Int) (x:Nat->Int) (x2:Int) (sa:Value) (w0:World) (hT:K.Told w0 m F (.inl Q4)) (P2:K.stp Q4=⟨5,obj,num⟩) (hrd:∀s,K.rdy Q4 s=true) (hW:S0 w0 wb #[.bool false] 105) (hC:S0 w0 cb #[.int .i64 obj,.int .i64 num,.pointer (some ⟨wb,0,none⟩),.int .i64 x2,sa] 132) (hgo:∀u F',K.Goes w0 m F Q4 u F'->∃sa,S0 u cb #[.int .i64 obj,.int .i64 num,.pointer (some ⟨wb,0,none⟩),.int .i64 (x (gh u 0)),sa] 132) :
  @Calls prog (K0 K) 29 #[.pointer (some ⟨cb,0,none⟩),.pointer (some ⟨K.ptr,0,none⟩)] w0 (G3 K w0 fun v u=>∃F' tt,Gn K w0 m F Q4 u F'/\Br0 u tt/\v= .int .i64 (x tt)):=by
 letI:Ctx prog:=K0 K;refine Calls.O5 (n:=28) func29 rfl rfl ?_;refine U279 ?_;intro hb w b2 F2;refine U11 ?_;intro lt2 hb;have hW:=hW.E0 F2.below;refine U57 ?_;intro hC g6;refine U49 ?_;refine U195 ?_;intro w b5 F5 E8 hb;refine U87 ?_;intro hW hC;refine U96 ?_;intro g6 C3;refine U33 ?_;refine L.va (F0 rfl underlying67 rfl (g6.A0 0 (v:=.pointer (some ⟨cb,0,none⟩)) rfl)) ?_;refine L.va (H3 rfl rfl underlying67) ?_;refine U209 ?_;refine U426 ?_;refine U540 ?_;rintro _ w1 ⟨rfl,hw⟩;refine U139 ?_;refine U426 ?_;refine L.va (O0 rfl underlying132 rfl fq0 (by decide)) ?_;refine U248 ?_;have g9:=hb;refine U274 ?_;intro hF5 hF2;have w9:@Calls prog (K0 K) 56 #[.agg #[.int .i64 obj,.int .i64 num],.pointer (some ⟨K.ptr,0,none⟩),.int .i64 5,.nilFunc,.func (.func 64) #[] #[.pointer (some ⟨b2,0,none⟩),.pointer (some ⟨b5,0,none⟩)]] w (G3 K w fun v u=>v= .tuple #[]/\∃u0 F',K.Goes w m F Q4 u0 F'/\(S0 u b5 #[.int .i64 (x (gh u0 0))] 2/\u0.grownBy u (some b5))/\u.tape=u0.tape):=by
  refine k8 hK w (hK.E0 hT hb) P2 (fun w1 S4=>.inl ⟨rfl,hrd⟩) ⟨0,#[],.inl rfl⟩ (.inr ⟨64,_,S9 func64 rfl Vz0⟩) (fun u u2=>S0 u2 b5 #[.int .i64 (x (gh u 0))] 2/\u.grownBy u2 (some b5)) (fun w1 S4 u F' hg=>.inr ⟨64,_,S9 func64 rfl Vz0,?_⟩);obtain⟨y0,hCu⟩:=hgo u F' (Goes.down (N0 hb S4) hg);exact @C.mono _ (u4 prog K.M3 K.ptr K.num) _ _ _ _ _ (@Ra0 (u4 prog K.M3 K.ptr K.num) b2 b5 cb obj num _ _ _ _ u (Goes.T9 hg (g6.E0 S4) (Nat.zero_lt_succ _) hF2).1 (Goes.T9 hg (C3.E0 S4) (Nat.zero_lt_succ _) hF5).1 hCu) fun v w' h=>h.2
 refine L.T3 rfl (l6 rfl rfl rfl rfl rfl func56 rfl ix0 rfl) w9 ?_ ?_ (fun _ h=>h)
 ·rintro v u ⟨rfl,u0,F',hg,⟨lc0,n3⟩,ht⟩;refine U256 ?_;intro h5 hgn;obtain⟨tt,htt⟩:∃tt,gh u0 0=tt:=⟨_,rfl⟩
  rw[htt]at lc0;have htt:Br0 u tt:=⟨(k4 ht 0).trans htt⟩
  clear hb g6 hC w9 C3;have C3:=lc0;clear lc0;rename_i wL;clear hW;refine U481 ?_;exact U297
 ·rintro ch u ⟨K6,hh⟩;exact⟨K6,hh.at g9.os g9.output⟩
theorem Rb0 [Ctx prog] (b0 b1 cb:Nat) (obj num:Int) (q:Value) (x x2:Int) (sa:Value) (w0:World) (M5:S0 w0 b0 #[.pointer (some ⟨cb,0,none⟩)] 67) (hB1:S0 w0 b1 #[.int .i64 x] 2) (hC:S0 w0 cb #[.int .i64 obj,.int .i64 num,q,.int .i64 x2,sa] 132) :
  C prog 62 #[.pointer (some ⟨b1,0,none⟩),.pointer (some ⟨b0,0,none⟩)] w0 fun v w=>v= .tuple #[]/\S0 w cb #[.int .i64 obj,.int .i64 num,q,.int .i64 x,sa] 132/\w0.grownBy w (some cb):=by
 refine C.enter (n:=6) func62 rfl rfl ?_;refine U439 ?_;refine L.va (F0 rfl underlying2 rfl (hB1.A0 0 (v:=.int .i64 x) rfl)) ?_;refine U490 ?_;refine L.pu 3 [.int .i64 x] #[.int .i64 obj,.int .i64 num,q,.int .i64 x,sa] sz2 hC (fun w D1 hg n2=>?_);have B5:=Q7.ef0 hC hg;have hC:=D1;exact U312
set_option maxHeartbeats 400000 in
theorem Kw0 {K:A8 prog} (hK:KOk K) {Q4:K.L} {m:Gm} {F:Nat->Prop} (cb wb:Nat) (obj num:Int) (x:Int) (x2:Int) (sa:Value) (w0:World) (hT:K.Told w0 m F (.inl Q4)) (P2:K.stp Q4=⟨6,obj,num⟩) (hrd:∀s,K.rdy Q4 s=true) (hW:S0 w0 wb #[.bool false] 105) (hC:S0 w0 cb #[.int .i64 obj,.int .i64 num,.pointer (some ⟨wb,0,none⟩),.int .i64 x2,sa] 132) (hgo:∀u F',K.Goes w0 m F Q4 u F'->∃x2 sa,S0 u cb #[.int .i64 obj,.int .i64 num,.pointer (some ⟨wb,0,none⟩),.int .i64 x2,sa] 132) :
  @Calls prog (K0 K) 26 #[.pointer (some ⟨cb,0,none⟩),.pointer (some ⟨K.ptr,0,none⟩),.int .i64 x] w0 (G3 K w0 fun v u=>v= .tuple #[]/\∃u0 F',Gn K w0 m F Q4 u0 F'/\(∃sa,S0 u cb #[.int .i64 obj,.int .i64 num,.pointer (some ⟨wb,0,none⟩),.int .i64 x,sa] 132)/\u0.grownBy u (some cb)/\u.tape=u0.tape):=by
 letI:Ctx prog:=K0 K;refine Calls.O5 (n:=26) func26 rfl rfl ?_;refine U3 ?_;intro hb;refine L.box (cs:=#[.pointer (some ⟨cb,0,none⟩)]) rfl rfl (fun w b3 F3=>?_);refine U88 ?_;intro lt3 hb;have hW:=hW.E0 F3.below;have hC:=hC.E0 F3.below;refine U114 ?_;intro N9 w b5 F5;refine U12 ?_;intro E8 hb;refine U87 ?_;intro hW hC;have N9:=N9.E0 F5.below;have C3:=F5.blk;refine U91 ?_;refine L.va (F0 rfl underlying67 rfl (N9.A0 0 (v:=.pointer (some ⟨cb,0,none⟩)) rfl)) ?_;refine L.va (H3 rfl rfl underlying67) ?_;refine U8 ?_;refine U427 ?_;refine U540 ?_;rintro _ w1 ⟨rfl,hw⟩;refine U28 ?_;refine U310 ?_;refine U427 ?_;refine L.va (O0 rfl underlying132 rfl fq0 (by decide)) ?_;refine U420 ?_;have g9:=hb;have hF5:¬F b5:=fun z=>by have:=hK.tlt hT z;omega
 have hF3:¬F b3:=fun z=>by have:=hK.tlt hT z;omega
 have w9:@Calls prog (K0 K) 56 #[.agg #[.int .i64 obj,.int .i64 num],.pointer (some ⟨K.ptr,0,none⟩),.int .i64 6,.nilFunc,.func (.func 62) #[] #[.pointer (some ⟨b5,0,none⟩),.pointer (some ⟨b3,0,none⟩)]] w (G3 K w fun v u=>v= .tuple #[]/\∃u0 F',K.Goes w m F Q4 u0 F'/\((∃sa,S0 u cb #[.int .i64 obj,.int .i64 num,.pointer (some ⟨wb,0,none⟩),.int .i64 x,sa] 132)/\u0.grownBy u (some cb))/\u.tape=u0.tape):=by
  refine k8 hK w (hK.E0 hT hb) P2 (fun w1 S4=>.inl ⟨rfl,hrd⟩) ⟨0,#[],.inl rfl⟩ (.inr ⟨62,_,S9 func62 rfl Vy0⟩) (fun u u2=>(∃sa,S0 u2 cb #[.int .i64 obj,.int .i64 num,.pointer (some ⟨wb,0,none⟩),.int .i64 x,sa] 132)/\u.grownBy u2 (some cb)) (fun w1 S4 u F' hg=>.inr ⟨62,_,S9 func62 rfl Vy0,?_⟩);obtain⟨y,y0,hCu⟩:=hgo u F' (Goes.down (N0 hb S4) hg);exact @C.mono _ (u4 prog K.M3 K.ptr K.num) _ _ _ _ _ (@Rb0 (u4 prog K.M3 K.ptr K.num) b3 b5 cb obj num _ _ _ _ u (Goes.T9 hg (N9.E0 S4) (Nat.zero_lt_succ _) hF3).1 (Goes.T9 hg (C3.E0 S4) (Nat.zero_lt_succ _) hF5).1 hCu) fun v w' h=>⟨⟨_,h.2.1⟩,h.2.2⟩
 refine L.T3 rfl (l6 rfl rfl rfl rfl rfl func56 rfl ix0 rfl) w9 ?_ ?_ (fun _ h=>h)
 ·rintro v u ⟨rfl,u0,F',hg,⟨hCn,n3⟩,ht⟩;have w8:=Goes.down g9 hg;rename_i wL;refine U181 ?_;refine U69 ?_;exact⟨rfl,u0,F',⟨hK,w8⟩,hCn,n3,ht⟩
 ·rintro ch u ⟨K6,hh⟩;exact⟨K6,hh.at g9.os g9.output⟩
theorem Rc0 [Ctx prog] (b0 b1 cb:Nat) (obj num:Int) (q:Value) (x x2:Int) (sa:Value) (w0:World) (M5:S0 w0 b0 #[.pointer (some ⟨cb,0,none⟩)] 65) (hB1:S0 w0 b1 #[.int .i64 x2] 2) (hC:S0 w0 cb #[.int .i64 obj,.int .i64 num,q,.int .i64 x,sa] 123) :
  C prog 72 #[.pointer (some ⟨b0,0,none⟩),.pointer (some ⟨b1,0,none⟩)] w0 fun v w=>v= .tuple #[]/\S0 w b1 #[.int .i64 x] 2/\w0.grownBy w (some b1):=by
 refine C.enter (n:=6) func72 rfl rfl ?_;refine W.region rfl ?_;refine U552 ?_;refine U519 ?_;intro w D1 hg n2;exact U220
set_option maxHeartbeats 400000 in
theorem Kx0 {K:A8 prog} (hK:KOk K) {Q4:K.L} {m:Gm} {F:Nat->Prop} (cb wb:Nat) (obj num:Int) (x:Nat->Int) (x2:Int) (sa:Value) (w0:World) (hT:K.Told w0 m F (.inl Q4)) (P2:K.stp Q4=⟨5,obj,num⟩) (hrd:∀s,K.rdy Q4 s=true) (hW:S0 w0 wb #[.bool false] 105) (hC:S0 w0 cb #[.int .i64 obj,.int .i64 num,.pointer (some ⟨wb,0,none⟩),.int .i64 x2,sa] 123) (hgo:∀u F',K.Goes w0 m F Q4 u F'->∃sa,S0 u cb #[.int .i64 obj,.int .i64 num,.pointer (some ⟨wb,0,none⟩),.int .i64 (x (gh u 0)),sa] 123) :
  @Calls prog (K0 K) 34 #[.pointer (some ⟨cb,0,none⟩),.pointer (some ⟨K.ptr,0,none⟩)] w0 (G3 K w0 fun v u=>∃F' tt,Gn K w0 m F Q4 u F'/\Br0 u tt/\v= .int .i64 (x tt)):=by
 letI:Ctx prog:=K0 K;refine Calls.O5 (n:=25) func34 rfl rfl ?_;refine U279 ?_;intro hb w b2 F2;refine U11 ?_;intro lt2 hb;have hW:=hW.E0 F2.below;refine U57 ?_;intro hC g6;refine U134 ?_;refine L.va (F0 rfl underlying65 rfl (g6.A0 0 (v:=.pointer (some ⟨cb,0,none⟩)) rfl)) ?_;refine U569 ?_;refine U428 ?_;refine U539 ?_;rintro _ w1 ⟨rfl,hw⟩;refine U139 ?_;refine U195 ?_;intro w b5 F5 E8 hb;refine U87 ?_;intro hW hC;refine U96 ?_;intro g6 C3;refine L.pu 0 [.int .i64 0] #[.int .i64 0] sz2 C3 (fun w D1 hg n2=>?_);have B5:=Q7.ef0 C3 hg;have hb:=I4 hb hb.size hg E8;have hW:=hW.mod B5 rfl;have hC:=hC.mod B5 rfl;have g6:=g6.mod B5 rfl;have C3:=D1;refine U59 ?_;refine U428 ?_;refine L.va (O0 rfl underlying123 rfl fq0 (by decide)) ?_;refine U248 ?_;have g9:=hb;refine U274 ?_;intro hF5 hF2;have w9:@Calls prog (K0 K) 56 #[.agg #[.int .i64 obj,.int .i64 num],.pointer (some ⟨K.ptr,0,none⟩),.int .i64 5,.nilFunc,.func (.func 72) #[] #[.pointer (some ⟨b2,0,none⟩),.pointer (some ⟨b5,0,none⟩)]] w (G3 K w fun v u=>v= .tuple #[]/\∃u0 F',K.Goes w m F Q4 u0 F'/\(S0 u b5 #[.int .i64 (x (gh u0 0))] 2/\u0.grownBy u (some b5))/\u.tape=u0.tape):=by
  refine k8 hK w (hK.E0 hT hb) P2 (fun w1 S4=>.inl ⟨rfl,hrd⟩) ⟨0,#[],.inl rfl⟩ (.inr ⟨72,_,S9 func72 rfl Wb0⟩) (fun u u2=>S0 u2 b5 #[.int .i64 (x (gh u 0))] 2/\u.grownBy u2 (some b5)) (fun w1 S4 u F' hg=>.inr ⟨72,_,S9 func72 rfl Wb0,?_⟩);obtain⟨y0,hCu⟩:=hgo u F' (Goes.down (N0 hb S4) hg);exact @C.mono _ (u4 prog K.M3 K.ptr K.num) _ _ _ _ _ (@Rc0 (u4 prog K.M3 K.ptr K.num) b2 b5 cb obj num _ _ _ _ u (Goes.T9 hg (g6.E0 S4) (Nat.zero_lt_succ _) hF2).1 (Goes.T9 hg (C3.E0 S4) (Nat.zero_lt_succ _) hF5).1 hCu) fun v w' h=>h.2
 refine L.T3 rfl (l6 rfl rfl rfl rfl rfl func56 rfl ix0 rfl) w9 ?_ ?_ (fun _ h=>h)
 ·rintro v u ⟨rfl,u0,F',hg,⟨lc0,n3⟩,ht⟩;refine U256 ?_;intro h5 hgn;obtain⟨tt,htt⟩:∃tt,gh u0 0=tt:=⟨_,rfl⟩
  rw[htt]at lc0;have htt:Br0 u tt:=⟨(k4 ht 0).trans htt⟩
  clear hb g6 hC w9 C3;have C3:=lc0;clear lc0;rename_i wL;clear hW;refine U481 ?_;exact U297
 ·rintro ch u ⟨K6,hh⟩;exact⟨K6,hh.at g9.os g9.output⟩
end Go.Vy.Sc
end
section
namespace Go.Vc
open Go Go.RowKit
theorem S0.H5 {w w':World} {b k:Nat} {cs:Array Value} {T:TypeId} (h:S0 w k cs T) (hg:w.grownBy w' (some b)) (hk:k≠b):S0 w' k cs T:=S0.other h hg hk
end Go.Vc
namespace Go.Vy
open Go Go.Conc Go.Yc Go.RowKit
open Go.Vc
theorem fy0 {fn:Func} {p u v:Tmp} {ty:TypeId} (h:fn.results=#[.cell p ty,.tmp u,.tmp v]) (tmps:Array Value) (P:Program) (w:World) :
  (results fn tmps).run P w=((do let a <- asAddr (tmps.getD p undef);let x <- loadVar ty a;pure (.tuple #[x,tmps.getD u undef,tmps.getD v undef])):Sem Value).run P w:=by
 simp[results,h]
theorem xk0 {P:Program} {w:World} {b:Nat} {cs:Array Value} {T E:TypeId} {d:TypeDesc} (hT:P.underlying T=some d) (hu:C9 d=false) (hs:(P.info? T).map (·.size)=some cs.size) (hB:S0 w b cs E):(loadVar T ⟨b,0,Option.none⟩).run P w= .ok (.agg cs) w:=by
 have h2:∀j v,cs.toList[j]? =some v->w.cell? ((⟨b,0,Option.none⟩:Addr).add j)=some v:=fun j v hj=>by
  rw[Addr.add_lit,Nat.zero_add];exact hB.cell (by simpa using hj)
 have:=run_loadCells_list (P:=P) (w:=w) ⟨b,0,Option.none⟩ cs.toList h2;simp only[Array.length_toList]at this;simp[loadVar,Go.Vc.m9 hT,hu,Go.Vc.run_sizeOf hs,this]
theorem ends.Gk0 {P:Program} [Ctx P] {fn:Func} {R:Value->World->Prop} {x:Exit} {e:Env} {w:World} {t u v b:Nat} {cs:Array Value} {T E:TypeId} {d:TypeDesc} (hx:x= .normal\/x= .ret) (hr:fn.results=#[.cell t T,.tmp u,.tmp v])
  (he:e t= .pointer (some ⟨b,0,Option.none⟩)) (hT:P.underlying T=some d) (hu:C9 d=false) (hs:(P.info? T).map (·.size)=some cs.size) (hB:S0 w b cs E) (h:R (.tuple #[.agg cs,e u,e v]) w):ends P fn R x e w :=
 ⟨hx,_,fun tmps ht=>fi0 fj0 fun τ d'=>by
  have hB:S0 (W2 w τ d') b cs E:=hB;generalize W2 w τ d'=w at hB⊢;have h3:tmps.getD t undef= .pointer (some ⟨b,0,Option.none⟩):=by rw[ht,he]
  rw[fy0 hr,h3];simp[asAddr,xk0 hT hu hs hB,ht],h⟩
theorem Own.Yb0 {w:World} {B s n c b:Nat} {E T:TypeId} {a:Option Addr} {xs:List Value} {cs:Array Value} {f:Nat×Nat} (h:Own w B E s a n c xs) (hb:O1 w b cs T f) (D3:E≠T):a≠none->ab a≠b:=fun ha=>by
 obtain⟨cur,hc,_⟩:=h.row ha;have hc:O1 w (ab a) cur E (0,0):=hc;exact hc.ne hb D3
end Go.Vy
end
section
namespace Go.Vy.Sc
open Go Go.Conc Go.Yc Go.RowKit Go.Proofs Go.Proofs.YtnifpkopeheodaaGreat Tryz
open Go.Vc Go.Wg
theorem Rd0 {P:Program} {ρ:Operand->Value} {w:World} {d:Option Nat} {ty:TypeId} {ps:String} {af:Array Edge} {g:Option (Nat×Bool)} {x y:Operand} {m k:Int} {aT:Array TypeId} (hx:ρ x= .int .i64 m) (hy:ρ y= .int .i64 k):Does P (execOp ρ ⟨d,.call ⟨.builtin .max,#[x,y],aT⟩,ty,ps,af,g⟩) w (.val (.int .i64 (max m k))) w :=
 ld0 (fun x=>Go.Vc.Ty0 hx hy) fun x=>by simp[execOp,resolve,invoke,builtin,hx,hy,Builtin.max_,Builtin.max2]
structure j9 (w w':World) (x y:Nat):Prop where
 os:w'.os=w.os
 output:w'.output=w.output
 tape:w'.tape=w.tape
 size:w.heap.size <=w'.heap.size
 block:∀b,b<w.heap.size->b≠x->b≠y->w'.heap[b]? =w.heap[b]?
theorem j9.refl (w:World) (x y:Nat):j9 w w x y:=⟨rfl,rfl,rfl,Nat.le_refl _,fun _ _ _ _=>rfl⟩
theorem j9.step {w w1 w2:World} {x y b:Nat} (h:j9 w w1 x y) (hb:b=x\/b=y) (hg:w1.grownBy w2 (some b)):j9 w w2 x y :=
 ⟨hg.os.trans h.os,hg.output.trans h.output,hg.tape.trans h.tape,Nat.le_trans h.size hg.size,fun k hk h1 h2=>(hg.block k (Nat.lt_of_lt_of_le hk h.size) fun e=>by cases e;rcases hb with e|e;exact h1 e;exact h2 e).trans (h.block k hk h1 h2)⟩
theorem j9.L5 {w w1 w2:World} {x y:Nat} (h:j9 w w1 x y) (hb:Below w1.heap.size w1 w2):j9 w w2 x y :=
 ⟨hb.os.trans h.os,hb.output.trans h.output,hb.tape.trans h.tape,Nat.le_trans h.size hb.size,fun k hk h1 h2=>(hb.block k (Nat.lt_of_lt_of_le hk h.size)).trans (h.block k hk h1 h2)⟩
theorem Re0 [Ctx prog] (b0 b1 b2 cb:Nat) (obj num:Int) (q sa:Value) (x d y:Int) (w0:World) (M5:S0 w0 b0 #[.pointer (some ⟨cb,0,none⟩)] 65) (hB1:S0 w0 b1 #[.int .i64 d] 2) (g6:S0 w0 b2 #[.int .i64 y] 2) (D3:b2≠b1) (hC:S0 w0 cb #[.int .i64 obj,.int .i64 num,q,.int .i64 x,sa] 123) :
  C prog 60 #[.pointer (some ⟨b0,0,none⟩),.pointer (some ⟨b1,0,none⟩),.pointer (some ⟨b2,0,none⟩)] w0 fun v w=>v= .tuple #[]/\S0 w b2 #[.int .i64 (IntKind.i64.wrap (x+d))] 2/\S0 w cb #[.int .i64 obj,.int .i64 num,q,.int .i64 (IntKind.i64.wrap (x+d)),sa] 123/\j9 w0 w cb b2:=by
 refine C.enter (n:=15) func60 rfl rfl ?_;have hm2:j9 w0 w0 cb b2:=j9.refl _ _ _;generalize w0=w at *;refine W.seq ?_;refine W.fk0 8 (fun w'=>Below w.heap.size w w') (by kernel_rfl) (by kernel_rfl) (by kernel_rfl) (by kernel_rfl) ((Below.refl w.heap.size w).drew) ?_;refine D.va (fun w' r3=>(F0 rfl underlying65 rfl ((M5.E0 r3).A0 0 (v:=.pointer (some ⟨cb,0,none⟩)) rfl))) ?_;refine U440 ?_;refine D.va (fun w' r3=>(F0 rfl underlying2 rfl ((hC.E0 r3).A0 3 (v:=.int .i64 x) rfl))) ?_;refine D.va (fun w' r3=>(F0 rfl underlying2 rfl ((hB1.E0 r3).A0 0 (v:=.int .i64 d) rfl))) ?_;refine D.va (fun w' r3=>(kb0 (κ:=.i64) rfl rfl)) ?_;refine U440 ?_;refine D.nil (fun w I1=>?_);have hm2:=hm2.L5 I1;have hC:=hC.E0 I1;have M5:=M5.E0 I1;have hB1:=hB1.E0 I1;have g6:=g6.E0 I1;clear I1;refine L.pu 3 [.int .i64 (IntKind.i64.wrap (x+d))] #[.int .i64 obj,.int .i64 num,q,.int .i64 (IntKind.i64.wrap (x+d)),sa] sz2 hC (fun w D1 hg n2=>?_);have hm2:=hm2.step (.inl rfl) hg;have B5:=Q7.ef0 hC hg;have M5:=M5.mod B5 rfl;have hB1:=hB1.mod B5 rfl;have g6:=g6.mod B5 rfl;have hC:=D1;clear B5;refine U84 ?_;refine U552 ?_;refine L.va (F0 rfl underlying2 rfl (hC.A0 3 (v:=.int .i64 (IntKind.i64.wrap (x+d))) rfl)) ?_;refine L.pu 0 [.int .i64 (IntKind.i64.wrap (x+d))] #[.int .i64 (IntKind.i64.wrap (x+d))] sz2 g6 (fun w D1 hg n2=>?_);have hm2:=hm2.step (.inr rfl) hg;have B5:=Q7.ef0 g6 hg;have hC:=hC.mod B5 rfl;have hB1:=hB1.H5 hg D3.symm;have g6:=D1;refine U194 ?_;exact⟨rfl,g6,hC,hm2⟩
theorem Yc0 [Ctx prog] (b0:Nat) (sb:Nat) (obj num:Int) (h:Bool) (r:Int) (w0:World) (M5:S0 w0 b0 #[.pointer (some ⟨sb,0,none⟩)] 193) (hC:S0 w0 sb #[.int .i64 obj,.int .i64 num,.bool h,.int .i64 r] 195) :
  C prog 167 #[.pointer (some ⟨b0,0,none⟩)] w0 fun v w=>v= .tuple #[]/\S0 w sb #[.int .i64 obj,.int .i64 num,.bool true,.int .i64 r] 195/\w0.grownBy w (some sb):=by
 refine C.enter (n:=4) func167 rfl rfl ?_;have n3:=Y9 w0 (some sb);refine W.region rfl ?_;refine U187 ?_;refine L.pu 2 [.bool true] #[.int .i64 obj,.int .i64 num,.bool true,.int .i64 r] sz4 hC (fun w D1 hg n2=>?_);refine U126 ?_;intro B5 n3;have hC:=D1;exact U207
theorem Ky0 [Ctx prog] (b0:Nat) (sb:Nat) (obj num:Int) (h:Bool) (r:Int) (w0:World) (M5:S0 w0 b0 #[.pointer (some ⟨sb,0,none⟩)] 193) (hC:S0 w0 sb #[.int .i64 obj,.int .i64 num,.bool h,.int .i64 r] 195) :
  C prog 171 #[.pointer (some ⟨b0,0,none⟩)] w0 fun v w=>v= .tuple #[]/\S0 w sb #[.int .i64 obj,.int .i64 num,.bool false,.int .i64 r] 195/\w0.grownBy w (some sb):=by
 refine C.enter (n:=4) func171 rfl rfl ?_;have n3:=Y9 w0 (some sb);refine W.region rfl ?_;refine U187 ?_;refine L.pu 2 [.bool false] #[.int .i64 obj,.int .i64 num,.bool false,.int .i64 r] sz4 hC (fun w D1 hg n2=>?_);refine U126 ?_;intro B5 n3;have hC:=D1;exact U207
theorem Rf0 [Ctx prog] (b0:Nat) (sb:Nat) (obj num:Int) (h:Bool) (r:Int) (w0:World) (M5:S0 w0 b0 #[.pointer (some ⟨sb,0,none⟩)] 193) (hC:S0 w0 sb #[.int .i64 obj,.int .i64 num,.bool h,.int .i64 r] 195) :
  C prog 169 #[.pointer (some ⟨b0,0,none⟩)] w0 fun v w=>v= .tuple #[]/\S0 w sb #[.int .i64 obj,.int .i64 num,.bool h,.int .i64 (IntKind.i64.wrap (r+1))] 195/\w0.grownBy w (some sb):=by
 refine C.enter (n:=8) func169 rfl rfl ?_;have n3:=Y9 w0 (some sb);refine W.region rfl ?_;refine U329 ?_;refine L.va (O0 rfl underlying195 rfl sz3 (by decide)) ?_;refine L.va (F0 rfl underlying3 rfl (hC.A0 3 (v:=.int .i64 r) rfl)) ?_;refine L.va (kb0 (κ:=.i64) rfl rfl) ?_;refine L.va (u1 rfl) ?_;refine L.va (O0 rfl underlying195 rfl sz3 (by decide)) ?_;refine L.pu 3 [.int .i64 (IntKind.i64.wrap (r+1))] #[.int .i64 obj,.int .i64 num,.bool h,.int .i64 (IntKind.i64.wrap (r+1))] sz3 hC (fun w D1 hg n2=>?_);refine U126 ?_;intro B5 n3;have hC:=D1;exact U207
theorem Gl0 [Ctx prog] (b0:Nat) (sb:Nat) (obj num:Int) (h:Bool) (r:Int) (w0:World) (M5:S0 w0 b0 #[.pointer (some ⟨sb,0,none⟩)] 193) (hC:S0 w0 sb #[.int .i64 obj,.int .i64 num,.bool h,.int .i64 r] 195) :
  C prog 170 #[.pointer (some ⟨b0,0,none⟩)] w0 fun v w=>v= .tuple #[]/\S0 w sb #[.int .i64 obj,.int .i64 num,.bool h,.int .i64 (max 0 (IntKind.i64.wrap (r-1)))] 195/\w0.grownBy w (some sb):=by
 refine C.enter (n:=10) func170 rfl rfl ?_;have n3:=Y9 w0 (some sb);generalize w0=w at *;refine W.fk0 9 (fun w'=>Below w.heap.size w w') (by kernel_rfl) (by kernel_rfl) (by kernel_rfl) (by kernel_rfl) ((Below.refl w.heap.size w).drew) ?_;refine D.va (fun w' r3=>(F0 rfl underlying193 rfl ((M5.E0 r3).A0 0 (v:=.pointer (some ⟨sb,0,none⟩)) rfl))) ?_;refine D.va (fun w' r3=>(F0 rfl underlying193 rfl ((M5.E0 r3).A0 0 (v:=.pointer (some ⟨sb,0,none⟩)) rfl))) ?_;refine U441 ?_;refine D.va (fun w' r3=>(F0 rfl underlying3 rfl ((hC.E0 r3).A0 3 (v:=.int .i64 r) rfl))) ?_;refine D.va (fun w' r3=>(ze0 (κ:=.i64) rfl rfl)) ?_;refine D.va (fun w' r3=>(Rd0 rfl rfl)) ?_;refine U441 ?_;refine D.nil (fun w I1=>?_);have n3:=fd0 n3 I1;have hC:=hC.E0 I1;clear I1;refine L.pu 3 [.int .i64 (max 0 (IntKind.i64.wrap (r-1)))] #[.int .i64 obj,.int .i64 num,.bool h,.int .i64 (max 0 (IntKind.i64.wrap (r-1)))] sz3 hC (fun w D1 hg n2=>?_);refine U126 ?_;intro B5 n3;have hC:=D1;exact U207
theorem Yd0 [Ctx prog] (b0:Nat) (sb:Nat) (obj num:Int) (h:Bool) (r:Int) (w0:World) (M5:S0 w0 b0 #[.pointer (some ⟨sb,0,none⟩)] 193) (hC:S0 w0 sb #[.int .i64 obj,.int .i64 num,.bool h,.int .i64 r] 195) :
  C prog 166 #[.pointer (some ⟨b0,0,none⟩)] w0 fun v w=>v= .bool (!h&&decide (r=0))/\Below w0.heap.size w0 w:=by
 refine C.enter (n:=14) func166 rfl rfl ?_;refine U3 ?_;intro hb;refine U68 ?_;refine U187 ?_;refine U479 ?_;refine L.va (id0 rfl) ?_;refine L.pg0 6 [7,8,9,10,11,12,13] 13 (.bool (!h&&decide (r=0))) (tj:=7) rfl (fun hb7=>?_) (fun hb7=>?_) (fun f=>?_)
 ·refine L.on rfl ?_;refine L.va (F0 rfl underlying193 rfl (M5.A0 0 (v:=.pointer (some ⟨sb,0,none⟩)) rfl)) ?_;refine L.on rfl ?_;refine U362 ?_;refine L.va (O0 rfl underlying195 rfl sz3 (by decide)) ?_;refine L.on rfl ?_;refine L.va (F0 rfl underlying3 rfl (hC.A0 3 (v:=.int .i64 r) rfl)) ?_;refine U249 ?_;refine U180 ?_;refine⟨rfl,congrArg Value.bool (by first|exact Mn0 hb7|rfl|(simp_all;done)|(rw[Bool.eq_iff_iff];simp_all;omega)),?_⟩;exact K1.upd rfl (K1.upd rfl (K1.upd rfl (K1.upd rfl (K1.upd rfl (K1.upd rfl (K1.upd rfl (K1.refl _ _)))))))
 ·refine L.off rfl ?_;refine U35 ?_;refine U147 ?_;refine L.nil ?_;refine⟨rfl,congrArg Value.bool (by first|exact Mm0 hb7|rfl|(simp_all;done)|(rw[Bool.eq_iff_iff];simp_all;omega)),?_⟩;exact K1.upd rfl (K1.upd rfl (K1.upd rfl (K1.upd rfl (K1.upd rfl (K1.upd rfl (K1.upd rfl (K1.refl _ _)))))))
 refine U66 ?_;exact⟨rfl,hb⟩
theorem Rg0 [Ctx prog] (b0:Nat) (sb:Nat) (obj num:Int) (h:Bool) (r:Int) (w0:World) (M5:S0 w0 b0 #[.pointer (some ⟨sb,0,none⟩)] 193) (hC:S0 w0 sb #[.int .i64 obj,.int .i64 num,.bool h,.int .i64 r] 195) :
  C prog 168 #[.pointer (some ⟨b0,0,none⟩)] w0 fun v w=>v= .bool (!h)/\Below w0.heap.size w0 w:=by
 refine C.enter (n:=7) func168 rfl rfl ?_;refine U3 ?_;intro hb;refine U68 ?_;refine U187 ?_;refine U479 ?_;refine U66 ?_;exact⟨rfl,hb⟩
theorem c5.T9 {K:A8 prog} {w0 u:World} {m:Gm} {F F':Nat->Prop} (h:K.c5 w0 m F u F') {b:Nat} {cs:Array Value} {T:TypeId} (hB:S0 w0 b cs T) (h0:0<cs.size) (hF:¬F b):S0 u b cs T/\¬F' b:=by
 have hB':O1 w0 b cs T (0,0):=l4 hB;have:=h.E0 b hB'.lt (bz0 hB' h0) hF;exact⟨this.1.trans hB',this.2⟩
theorem Ad0:∀(recv:Value) (w:World),(Go.method (prog.types.size+Made.depth) 193 recv "docket/prim.lock").run prog w= .ok (162,recv) w:=by intro recv w;kernel_rfl
theorem vk0:∀(recv:Value) (w:World),(Go.method (prog.types.size+Made.depth) 193 recv "docket/prim.lock").events prog w #[]=#[]:=by intro recv w;kernel_rfl
theorem qu0:∀(recv:Value) (w:World),(Go.method (prog.types.size+Made.depth) 193 recv "docket/prim.unlock").run prog w= .ok (165,recv) w:=by intro recv w;kernel_rfl
theorem le0:∀(recv:Value) (w:World),(Go.method (prog.types.size+Made.depth) 193 recv "docket/prim.unlock").events prog w #[]=#[]:=by intro recv w;kernel_rfl
theorem Gm0:∀(recv:Value) (w:World),(Go.method (prog.types.size+Made.depth) 193 recv "docket/prim.rlock").run prog w= .ok (163,recv) w:=by intro recv w;kernel_rfl
theorem Bs0:∀(recv:Value) (w:World),(Go.method (prog.types.size+Made.depth) 193 recv "docket/prim.rlock").events prog w #[]=#[]:=by intro recv w;kernel_rfl
theorem xl0:∀(recv:Value) (w:World),(Go.method (prog.types.size+Made.depth) 193 recv "docket/prim.runlock").run prog w= .ok (164,recv) w:=by intro recv w;kernel_rfl
theorem vl0:∀(recv:Value) (w:World),(Go.method (prog.types.size+Made.depth) 193 recv "docket/prim.runlock").events prog w #[]=#[]:=by intro recv w;kernel_rfl
set_option maxHeartbeats 400000 in
theorem Kz0 {K:A8 prog} (hK:KOk K) {Q4:K.L} {m:Gm} {F:Nat->Prop} (cb wb:Nat) (obj num:Int) (x:Nat->Int) (x2 d:Int) (sa:Value) (w0:World) (hT:K.Told w0 m F (.inl Q4)) (P2:K.stp Q4=⟨7,obj,num⟩) (hrd:∀s,K.rdy Q4 s=true) (hW:S0 w0 wb #[.bool false] 105) (hC:S0 w0 cb #[.int .i64 obj,.int .i64 num,.pointer (some ⟨wb,0,none⟩),.int .i64 x2,sa] 123) (hgo:∀u F',K.Goes w0 m F Q4 u F'->∃sa,S0 u cb #[.int .i64 obj,.int .i64 num,.pointer (some ⟨wb,0,none⟩),.int .i64 (x (gh u 0)),sa] 123) :
  @Calls prog (K0 K) 24 #[.pointer (some ⟨cb,0,none⟩),.pointer (some ⟨K.ptr,0,none⟩),.int .i64 d] w0 (G3 K w0 fun v u=>∃u0 F' tt sa,Gn K w0 m F Q4 u0 F'/\gh u0 0=tt/\v= .int .i64 (IntKind.i64.wrap (x tt+d))/\S0 u cb #[.int .i64 obj,.int .i64 num,.pointer (some ⟨wb,0,none⟩),.int .i64 (IntKind.i64.wrap (x tt+d)),sa] 123/\∃y,w0.heap.size <=y/\¬F' y/\j9 u0 u cb y/\u.tape=u0.tape):=by
 letI:Ctx prog:=K0 K;refine Calls.O5 (n:=28) func24 rfl rfl ?_;refine U3 ?_;intro hb;refine L.box (cs:=#[.pointer (some ⟨cb,0,none⟩)]) rfl rfl (fun w b3 F3=>?_);refine U88 ?_;intro lt3 hb;have hW:=hW.E0 F3.below;have hC:=hC.E0 F3.below;have N9:=F3.blk;refine L.box (cs:=#[.int .i64 d]) rfl rfl (fun w b5 F5=>?_);refine U12 ?_;intro E8 hb;refine U87 ?_;intro hW hC;have N9:=N9.E0 F5.below;have C3:=F5.blk;refine U134 ?_;refine L.va (F0 rfl underlying65 rfl (N9.A0 0 (v:=.pointer (some ⟨cb,0,none⟩)) rfl)) ?_;refine U569 ?_;refine U429 ?_;refine U539 ?_;rintro _ w1 ⟨rfl,hw⟩;refine U139 ?_;refine L.alloc (cs:=#[.int .i64 0]) zr2 rfl (fun w b7 F7=>?_);have lt7:=F7.lq hb.size;have Rh0:=F7.ne C3;have Ye0:b7≠b5:=by have h9:=F7.here;have h8:=C3.lt;omega
 have hb:=N0 hb F7.below;have hW:=hW.E0 F7.below;have hC:=hC.E0 F7.below;have N9:=N9.E0 F7.below;have C3:=C3.E0 F7.below;have hB7:=F7.blk;refine L.pu 0 [.int .i64 0] #[.int .i64 0] sz2 hB7 (fun w D1 hg n2=>?_);have B5:=Q7.ef0 hB7 hg;have hb:=I4 hb hb.size hg lt7;have hW:=hW.mod B5 rfl;have hC:=hC.mod B5 rfl;have N9:=N9.mod B5 rfl;have C3:=C3.other hg Rh0;have hB7:=D1;refine U59 ?_;refine U429 ?_;refine L.va (O0 rfl underlying123 rfl fq0 (by decide)) ?_;refine U146 ?_;refine L.va (S3 (l:=[.tmp 3,.tmp 5,.tmp 7]) (vs:=[.pointer (some ⟨b3,0,none⟩),.pointer (some ⟨b5,0,none⟩),.pointer (some ⟨b7,0,none⟩)]) rfl) ?_;have g9:=hb;have hF3:¬F b3:=fun z=>by have:=hK.tlt hT z;omega
 have hF5:¬F b5:=fun z=>by have:=hK.tlt hT z;omega
 have hF7:¬F b7:=fun z=>by have:=hK.tlt hT z;omega
 have w9:@Calls prog (K0 K) 56 #[.agg #[.int .i64 obj,.int .i64 num],.pointer (some ⟨K.ptr,0,none⟩),.int .i64 7,.nilFunc,.func (.func 60) #[] #[.pointer (some ⟨b3,0,none⟩),.pointer (some ⟨b5,0,none⟩),.pointer (some ⟨b7,0,none⟩)]] w (G3 K w fun v u=>v= .tuple #[]/\∃u0 F',K.Goes w m F Q4 u0 F'/\(∃sa,S0 u b7 #[.int .i64 (IntKind.i64.wrap (x (gh u0 0)+d))] 2/\S0 u cb #[.int .i64 obj,.int .i64 num,.pointer (some ⟨wb,0,none⟩),.int .i64 (IntKind.i64.wrap (x (gh u0 0)+d)),sa] 123/\j9 u0 u cb b7)/\u.tape=u0.tape):=by
  refine k8 hK w (hK.E0 hT hb) P2 (fun w1 S4=>.inl ⟨rfl,hrd⟩) ⟨0,#[],.inl rfl⟩ (.inr ⟨60,_,S9 func60 rfl Vx0⟩) (fun u u2=>∃sa,S0 u2 b7 #[.int .i64 (IntKind.i64.wrap (x (gh u 0)+d))] 2/\S0 u2 cb #[.int .i64 obj,.int .i64 num,.pointer (some ⟨wb,0,none⟩),.int .i64 (IntKind.i64.wrap (x (gh u 0)+d)),sa] 123/\j9 u u2 cb b7) (fun w1 S4 u F' hg=>.inr ⟨60,_,S9 func60 rfl Vx0,?_⟩);obtain⟨y0,hCu⟩:=hgo u F' (Goes.down (N0 hb S4) hg);exact @C.mono _ (u4 prog K.M3 K.ptr K.num) _ _ _ _ _ (@Re0 (u4 prog K.M3 K.ptr K.num) b3 b5 b7 cb obj num _ _ _ d _ u (Goes.T9 hg (N9.E0 S4) (Nat.zero_lt_succ _) hF3).1 (Goes.T9 hg (C3.E0 S4) (Nat.zero_lt_succ _) hF5).1 (Goes.T9 hg (hB7.E0 S4) (Nat.zero_lt_succ _) hF7).1 Ye0 hCu) fun v w' h=>⟨_,h.2⟩
 refine L.T3 rfl (l6 rfl rfl rfl rfl rfl func56 rfl ix0 rfl) w9 ?_ ?_ (fun _ h=>h)
 ·rintro v u ⟨rfl,u0,F',hg,⟨sa',Ri0,hCn,hm2⟩,ht⟩;have h7:=(Goes.T9 hg hB7 (Nat.zero_lt_succ _) hF7).2;have w8:=Goes.down g9 hg;obtain⟨tt,htt⟩:∃tt,gh u0 0=tt:=⟨_,rfl⟩
  rw[htt]at Ri0 hCn;clear hb N9 C3 hC w9 hB7;have hB7:=Ri0;clear Ri0;rename_i wL;clear hW;refine U36 ?_;refine L.va (F0 rfl underlying2 rfl (hB7.A0 0 (v:=.int .i64 (IntKind.i64.wrap (x tt+d))) rfl)) ?_;refine U10 ?_;exact⟨u0,F',tt,_,⟨hK,w8⟩,htt,rfl,hCn,b7,lt7,h7,hm2,ht⟩
 ·rintro ch u ⟨K6,hh⟩;exact⟨K6,hh.at g9.os g9.output⟩
theorem Ae0 {K:A8 prog} (hK:KOk K) {Q4:K.L} {m:Gm} {F:Nat->Prop} (sb:Nat) (obj num:Int) (h:Bool) (r:Int) (w0:World) (hT:K.Told w0 m F (.inl Q4)) (P2:K.stp Q4=⟨1,obj,num⟩) (hC:S0 w0 sb #[.int .i64 obj,.int .i64 num,.bool h,.int .i64 r] 195) (hla:∀u F',K.c5 w0 m F u F'->∃h r,S0 u sb #[.int .i64 obj,.int .i64 num,.bool h,.int .i64 r] 195/\K.rdy Q4 (K.sOf (gh u 0))=(!h&&decide (r=0))) :
  @Calls prog (K0 K) 162 #[.pointer (some ⟨sb,0,none⟩),.pointer (some ⟨K.ptr,0,none⟩)] w0 (G3 K w0 fun v u=>v= .tuple #[]/\∃u0 F' h r,Gn K w0 m F Q4 u0 F'/\S0 u0 sb #[.int .i64 obj,.int .i64 num,.bool h,.int .i64 r] 195/\S0 u sb #[.int .i64 obj,.int .i64 num,.bool true,.int .i64 r] 195/\u0.grownBy u (some sb)/\u.tape=u0.tape):=by
 letI:Ctx prog:=K0 K;refine Calls.O5 (n:=12) func162 rfl rfl ?_;refine U188 ?_;intro hb w b2 F2;refine U11 ?_;intro lt2 hb;refine U57 ?_;intro hC g6;refine U84 ?_;refine U186 ?_;refine U482 ?_;refine U205 ?_;intro g9 hF2;have w9:@Calls prog (K0 K) 56 #[.agg #[.int .i64 obj,.int .i64 num],.pointer (some ⟨K.ptr,0,none⟩),.int .i64 1,.func (.func 166) #[] #[.pointer (some ⟨b2,0,none⟩)],.func (.func 167) #[] #[.pointer (some ⟨b2,0,none⟩)]] w (G3 K w fun v u=>v= .tuple #[]/\∃u0 F',K.Goes w m F Q4 u0 F'/\(∃h r,S0 u0 sb #[.int .i64 obj,.int .i64 num,.bool h,.int .i64 r] 195/\S0 u sb #[.int .i64 obj,.int .i64 num,.bool true,.int .i64 r] 195/\u0.grownBy u (some sb))/\u.tape=u0.tape):=by
  refine k8 hK w (hK.E0 hT hb) P2 (fun w1 S4=>.inr ⟨166,_,S9 func166 rfl Wq0,fun u F' hl=>?_⟩) ⟨166,_,.inr rfl⟩ (.inr ⟨167,_,S9 func167 rfl Nd0⟩) (fun u u2=>∃h r,S0 u sb #[.int .i64 obj,.int .i64 num,.bool h,.int .i64 r] 195/\S0 u2 sb #[.int .i64 obj,.int .i64 num,.bool true,.int .i64 r] 195/\u.grownBy u2 (some sb)) (fun w1 S4 u F' hg=>.inr ⟨167,_,S9 func167 rfl Nd0,?_⟩)
  ·obtain⟨h,r,hCu,hrr⟩:=hla u F' (c5.down (N0 hb S4) hl);refine @C.mono _ (V1 prog true) _ _ _ _ _ (@Yd0 (V1 prog true) b2 sb obj num h r u (c5.T9 hl (g6.E0 S4) (Nat.zero_lt_succ _) hF2).1 hCu) fun v w' h=>?_;rw[hrr];exact h
  ·obtain⟨h,r,hCu,_⟩:=hla u F' (Goes.down (N0 hb S4) hg).Q6;exact @C.mono _ (u4 prog K.M3 K.ptr K.num) _ _ _ _ _ (@Yc0 (u4 prog K.M3 K.ptr K.num) b2 sb obj num h r u (Goes.T9 hg (g6.E0 S4) (Nat.zero_lt_succ _) hF2).1 hCu) fun v w' hh=>⟨h,r,hCu,hh.2⟩
 refine L.T3 rfl (l6 rfl rfl rfl rfl rfl func56 rfl ix0 rfl) w9 ?_ ?_ (fun _ h=>h)
 ·rintro v u ⟨rfl,u0,F',hg,⟨h',r',hC0,hCn,n3⟩,ht⟩;have w8:=Goes.down g9 hg;rename_i wL;exact U189
 ·rintro ch u ⟨K6,hh⟩;exact⟨K6,hh.at g9.os g9.output⟩
theorem Gn0 {K:A8 prog} (hK:KOk K) {Q4:K.L} {m:Gm} {F:Nat->Prop} (sb:Nat) (obj num:Int) (h:Bool) (r:Int) (mb:Nat) (w0:World) (hT:K.Told w0 m F (.inl Q4)) (P2:K.stp Q4=⟨1,obj,num⟩) (hM:S0 w0 mb #[.iface 193 (.pointer (some ⟨sb,0,none⟩))] 113) (hC:S0 w0 sb #[.int .i64 obj,.int .i64 num,.bool h,.int .i64 r] 195) (hla:∀u F',K.c5 w0 m F u F'->∃h r,S0 u sb #[.int .i64 obj,.int .i64 num,.bool h,.int .i64 r] 195/\K.rdy Q4 (K.sOf (gh u 0))=(!h&&decide (r=0))) :
  @Calls prog (K0 K) 20 #[.pointer (some ⟨mb,0,none⟩),.pointer (some ⟨K.ptr,0,none⟩)] w0 (G3 K w0 fun v u=>v= .tuple #[]/\∃u0 F' h r,Gn K w0 m F Q4 u0 F'/\S0 u0 sb #[.int .i64 obj,.int .i64 num,.bool h,.int .i64 r] 195/\S0 u sb #[.int .i64 obj,.int .i64 num,.bool true,.int .i64 r] 195/\u0.grownBy u (some sb)/\u.tape=u0.tape):=by
 letI:Ctx prog:=K0 K;refine Calls.O5 (n:=12) func20 rfl rfl ?_;refine U3 ?_;intro hb;refine U183 ?_;refine U85 ?_;refine U537 ?_;refine U76 ?_;have g9:=hb;refine L.T3 rfl (p9 rfl rfl Ad0 vk0 func162 rfl Nb0) (Ae0 hK sb obj num h r w0 hT P2 hC hla) ?_ ?_ (fun _ h=>h)
 ·rintro v u ak0;obtain⟨rfl,ak0⟩:=ak0;exact U86
 ·rintro ch u ⟨K6,hh⟩;exact⟨K6,hh⟩
theorem Go0 {K:A8 prog} (hK:KOk K) {Q4:K.L} {m:Gm} {F:Nat->Prop} (sb:Nat) (obj num:Int) (h:Bool) (r:Int) (mb:Nat) (w0:World) (hT:K.Told w0 m F (.inl Q4)) (P2:K.stp Q4=⟨1,obj,num⟩) (hM:S0 w0 mb #[.iface 193 (.pointer (some ⟨sb,0,none⟩))] 125) (hC:S0 w0 sb #[.int .i64 obj,.int .i64 num,.bool h,.int .i64 r] 195) (hla:∀u F',K.c5 w0 m F u F'->∃h r,S0 u sb #[.int .i64 obj,.int .i64 num,.bool h,.int .i64 r] 195/\K.rdy Q4 (K.sOf (gh u 0))=(!h&&decide (r=0))) :
  @Calls prog (K0 K) 25 #[.pointer (some ⟨mb,0,none⟩),.pointer (some ⟨K.ptr,0,none⟩)] w0 (G3 K w0 fun v u=>v= .tuple #[]/\∃u0 F' h r,Gn K w0 m F Q4 u0 F'/\S0 u0 sb #[.int .i64 obj,.int .i64 num,.bool h,.int .i64 r] 195/\S0 u sb #[.int .i64 obj,.int .i64 num,.bool true,.int .i64 r] 195/\u0.grownBy u (some sb)/\u.tape=u0.tape):=by
 letI:Ctx prog:=K0 K;refine Calls.O5 (n:=12) func25 rfl rfl ?_;refine U121 ?_;intro hb;refine U85 ?_;refine U185 ?_;refine U76 ?_;have g9:=hb;refine L.T3 rfl (p9 rfl rfl Ad0 vk0 func162 rfl Nb0) (Ae0 hK sb obj num h r w0 hT P2 hC hla) ?_ ?_ (fun _ h=>h)
 ·rintro v u ak0;obtain⟨rfl,ak0⟩:=ak0;exact U86
 ·rintro ch u ⟨K6,hh⟩;exact⟨K6,hh⟩
theorem qv0 {K:A8 prog} (hK:KOk K) {Q4:K.L} {m:Gm} {F:Nat->Prop} (sb:Nat) (obj num:Int) (h:Bool) (r:Int) (w0:World) (hT:K.Told w0 m F (.inl Q4)) (P2:K.stp Q4=⟨2,obj,num⟩) (hrd:∀s,K.rdy Q4 s=true) (hC:S0 w0 sb #[.int .i64 obj,.int .i64 num,.bool h,.int .i64 r] 195) (hla:∀u F',K.c5 w0 m F u F'->∃h r,S0 u sb #[.int .i64 obj,.int .i64 num,.bool h,.int .i64 r] 195) :
  @Calls prog (K0 K) 165 #[.pointer (some ⟨sb,0,none⟩),.pointer (some ⟨K.ptr,0,none⟩)] w0 (G3 K w0 fun v u=>v= .tuple #[]/\∃u0 F' h r,Gn K w0 m F Q4 u0 F'/\S0 u0 sb #[.int .i64 obj,.int .i64 num,.bool h,.int .i64 r] 195/\S0 u sb #[.int .i64 obj,.int .i64 num,.bool false,.int .i64 r] 195/\u0.grownBy u (some sb)/\u.tape=u0.tape):=by
 letI:Ctx prog:=K0 K;refine Calls.O5 (n:=11) func165 rfl rfl ?_;refine U188 ?_;intro hb w b2 F2;refine U11 ?_;intro lt2 hb;refine U57 ?_;intro hC g6;refine U84 ?_;refine U186 ?_;refine U246 ?_;refine U205 ?_;intro g9 hF2;have w9:@Calls prog (K0 K) 56 #[.agg #[.int .i64 obj,.int .i64 num],.pointer (some ⟨K.ptr,0,none⟩),.int .i64 2,.nilFunc,.func (.func 171) #[] #[.pointer (some ⟨b2,0,none⟩)]] w (G3 K w fun v u=>v= .tuple #[]/\∃u0 F',K.Goes w m F Q4 u0 F'/\(∃h r,S0 u0 sb #[.int .i64 obj,.int .i64 num,.bool h,.int .i64 r] 195/\S0 u sb #[.int .i64 obj,.int .i64 num,.bool false,.int .i64 r] 195/\u0.grownBy u (some sb))/\u.tape=u0.tape):=by
  refine k8 hK w (hK.E0 hT hb) P2 (fun w1 S4=>.inl ⟨rfl,hrd⟩) ⟨0,#[],.inl rfl⟩ (.inr ⟨171,_,S9 func171 rfl Ng0⟩) (fun u u2=>∃h r,S0 u sb #[.int .i64 obj,.int .i64 num,.bool h,.int .i64 r] 195/\S0 u2 sb #[.int .i64 obj,.int .i64 num,.bool false,.int .i64 r] 195/\u.grownBy u2 (some sb)) (fun w1 S4 u F' hg=>.inr ⟨171,_,S9 func171 rfl Ng0,?_⟩)
  ·obtain⟨h,r,hCu⟩:=hla u F' (Goes.down (N0 hb S4) hg).Q6;exact @C.mono _ (u4 prog K.M3 K.ptr K.num) _ _ _ _ _ (@Ky0 (u4 prog K.M3 K.ptr K.num) b2 sb obj num h r u (Goes.T9 hg (g6.E0 S4) (Nat.zero_lt_succ _) hF2).1 hCu) fun v w' hh=>⟨h,r,hCu,hh.2⟩
 refine L.T3 rfl (l6 rfl rfl rfl rfl rfl func56 rfl ix0 rfl) w9 ?_ ?_ (fun _ h=>h)
 ·rintro v u ⟨rfl,u0,F',hg,⟨h',r',hC0,hCn,n3⟩,ht⟩;have w8:=Goes.down g9 hg;rename_i wL;exact U189
 ·rintro ch u ⟨K6,hh⟩;exact⟨K6,hh.at g9.os g9.output⟩
theorem xm0 {K:A8 prog} (hK:KOk K) {Q4:K.L} {m:Gm} {F:Nat->Prop} (sb:Nat) (obj num:Int) (h:Bool) (r:Int) (mb:Nat) (w0:World) (hT:K.Told w0 m F (.inl Q4)) (P2:K.stp Q4=⟨2,obj,num⟩) (hrd:∀s,K.rdy Q4 s=true) (hM:S0 w0 mb #[.iface 193 (.pointer (some ⟨sb,0,none⟩))] 113) (hC:S0 w0 sb #[.int .i64 obj,.int .i64 num,.bool h,.int .i64 r] 195) (hla:∀u F',K.c5 w0 m F u F'->∃h r,S0 u sb #[.int .i64 obj,.int .i64 num,.bool h,.int .i64 r] 195) :
  @Calls prog (K0 K) 23 #[.pointer (some ⟨mb,0,none⟩),.pointer (some ⟨K.ptr,0,none⟩)] w0 (G3 K w0 fun v u=>v= .tuple #[]/\∃u0 F' h r,Gn K w0 m F Q4 u0 F'/\S0 u0 sb #[.int .i64 obj,.int .i64 num,.bool h,.int .i64 r] 195/\S0 u sb #[.int .i64 obj,.int .i64 num,.bool false,.int .i64 r] 195/\u0.grownBy u (some sb)/\u.tape=u0.tape):=by
 letI:Ctx prog:=K0 K;refine Calls.O5 (n:=12) func23 rfl rfl ?_;refine U3 ?_;intro hb;refine U183 ?_;refine U85 ?_;refine U537 ?_;refine U76 ?_;have g9:=hb;refine L.T3 rfl (p9 rfl rfl qu0 le0 func165 rfl Nc0) (qv0 hK sb obj num h r w0 hT P2 hrd hC hla) ?_ ?_ (fun _ h=>h)
 ·rintro v u ak0;obtain⟨rfl,ak0⟩:=ak0;exact U86
 ·rintro ch u ⟨K6,hh⟩;exact⟨K6,hh⟩
theorem xn0 {K:A8 prog} (hK:KOk K) {Q4:K.L} {m:Gm} {F:Nat->Prop} (sb:Nat) (obj num:Int) (h:Bool) (r:Int) (mb:Nat) (w0:World) (hT:K.Told w0 m F (.inl Q4)) (P2:K.stp Q4=⟨2,obj,num⟩) (hrd:∀s,K.rdy Q4 s=true) (hM:S0 w0 mb #[.iface 193 (.pointer (some ⟨sb,0,none⟩))] 125) (hC:S0 w0 sb #[.int .i64 obj,.int .i64 num,.bool h,.int .i64 r] 195) (hla:∀u F',K.c5 w0 m F u F'->∃h r,S0 u sb #[.int .i64 obj,.int .i64 num,.bool h,.int .i64 r] 195) :
  @Calls prog (K0 K) 27 #[.pointer (some ⟨mb,0,none⟩),.pointer (some ⟨K.ptr,0,none⟩)] w0 (G3 K w0 fun v u=>v= .tuple #[]/\∃u0 F' h r,Gn K w0 m F Q4 u0 F'/\S0 u0 sb #[.int .i64 obj,.int .i64 num,.bool h,.int .i64 r] 195/\S0 u sb #[.int .i64 obj,.int .i64 num,.bool false,.int .i64 r] 195/\u0.grownBy u (some sb)/\u.tape=u0.tape):=by
 letI:Ctx prog:=K0 K;refine Calls.O5 (n:=12) func27 rfl rfl ?_;refine U121 ?_;intro hb;refine U85 ?_;refine U185 ?_;refine U76 ?_;have g9:=hb;refine L.T3 rfl (p9 rfl rfl qu0 le0 func165 rfl Nc0) (qv0 hK sb obj num h r w0 hT P2 hrd hC hla) ?_ ?_ (fun _ h=>h)
 ·rintro v u ak0;obtain⟨rfl,ak0⟩:=ak0;exact U86
 ·rintro ch u ⟨K6,hh⟩;exact⟨K6,hh⟩
theorem Gp0 {K:A8 prog} (hK:KOk K) {Q4:K.L} {m:Gm} {F:Nat->Prop} (sb:Nat) (obj num:Int) (h:Bool) (r:Int) (w0:World) (hT:K.Told w0 m F (.inl Q4)) (P2:K.stp Q4=⟨3,obj,num⟩) (hC:S0 w0 sb #[.int .i64 obj,.int .i64 num,.bool h,.int .i64 r] 195) (hla:∀u F',K.c5 w0 m F u F'->∃h r,S0 u sb #[.int .i64 obj,.int .i64 num,.bool h,.int .i64 r] 195/\K.rdy Q4 (K.sOf (gh u 0))=(!h)) :
  @Calls prog (K0 K) 163 #[.pointer (some ⟨sb,0,none⟩),.pointer (some ⟨K.ptr,0,none⟩)] w0 (G3 K w0 fun v u=>v= .tuple #[]/\∃u0 F' h r,Gn K w0 m F Q4 u0 F'/\S0 u0 sb #[.int .i64 obj,.int .i64 num,.bool h,.int .i64 r] 195/\S0 u sb #[.int .i64 obj,.int .i64 num,.bool h,.int .i64 (IntKind.i64.wrap (r+1))] 195/\u0.grownBy u (some sb)/\u.tape=u0.tape):=by
 letI:Ctx prog:=K0 K;refine Calls.O5 (n:=12) func163 rfl rfl ?_;refine U188 ?_;intro hb w b2 F2;refine U11 ?_;intro lt2 hb;refine U57 ?_;intro hC g6;refine U84 ?_;refine U186 ?_;refine U482 ?_;refine U205 ?_;intro g9 hF2;have w9:@Calls prog (K0 K) 56 #[.agg #[.int .i64 obj,.int .i64 num],.pointer (some ⟨K.ptr,0,none⟩),.int .i64 3,.func (.func 168) #[] #[.pointer (some ⟨b2,0,none⟩)],.func (.func 169) #[] #[.pointer (some ⟨b2,0,none⟩)]] w (G3 K w fun v u=>v= .tuple #[]/\∃u0 F',K.Goes w m F Q4 u0 F'/\(∃h r,S0 u0 sb #[.int .i64 obj,.int .i64 num,.bool h,.int .i64 r] 195/\S0 u sb #[.int .i64 obj,.int .i64 num,.bool h,.int .i64 (IntKind.i64.wrap (r+1))] 195/\u0.grownBy u (some sb))/\u.tape=u0.tape):=by
  refine k8 hK w (hK.E0 hT hb) P2 (fun w1 S4=>.inr ⟨168,_,S9 func168 rfl Wr0,fun u F' hl=>?_⟩) ⟨168,_,.inr rfl⟩ (.inr ⟨169,_,S9 func169 rfl Ne0⟩) (fun u u2=>∃h r,S0 u sb #[.int .i64 obj,.int .i64 num,.bool h,.int .i64 r] 195/\S0 u2 sb #[.int .i64 obj,.int .i64 num,.bool h,.int .i64 (IntKind.i64.wrap (r+1))] 195/\u.grownBy u2 (some sb)) (fun w1 S4 u F' hg=>.inr ⟨169,_,S9 func169 rfl Ne0,?_⟩)
  ·obtain⟨h,r,hCu,hrr⟩:=hla u F' (c5.down (N0 hb S4) hl);refine @C.mono _ (V1 prog true) _ _ _ _ _ (@Rg0 (V1 prog true) b2 sb obj num h r u (c5.T9 hl (g6.E0 S4) (Nat.zero_lt_succ _) hF2).1 hCu) fun v w' h=>?_;rw[hrr];exact h
  ·obtain⟨h,r,hCu,_⟩:=hla u F' (Goes.down (N0 hb S4) hg).Q6;exact @C.mono _ (u4 prog K.M3 K.ptr K.num) _ _ _ _ _ (@Rf0 (u4 prog K.M3 K.ptr K.num) b2 sb obj num h r u (Goes.T9 hg (g6.E0 S4) (Nat.zero_lt_succ _) hF2).1 hCu) fun v w' hh=>⟨h,r,hCu,hh.2⟩
 refine L.T3 rfl (l6 rfl rfl rfl rfl rfl func56 rfl ix0 rfl) w9 ?_ ?_ (fun _ h=>h)
 ·rintro v u ⟨rfl,u0,F',hg,⟨h',r',hC0,hCn,n3⟩,ht⟩;have w8:=Goes.down g9 hg;rename_i wL;exact U189
 ·rintro ch u ⟨K6,hh⟩;exact⟨K6,hh.at g9.os g9.output⟩
theorem Bt0 {K:A8 prog} (hK:KOk K) {Q4:K.L} {m:Gm} {F:Nat->Prop} (sb:Nat) (obj num:Int) (h:Bool) (r:Int) (mb:Nat) (w0:World) (hT:K.Told w0 m F (.inl Q4)) (P2:K.stp Q4=⟨3,obj,num⟩) (hM:S0 w0 mb #[.iface 193 (.pointer (some ⟨sb,0,none⟩))] 125) (hC:S0 w0 sb #[.int .i64 obj,.int .i64 num,.bool h,.int .i64 r] 195) (hla:∀u F',K.c5 w0 m F u F'->∃h r,S0 u sb #[.int .i64 obj,.int .i64 num,.bool h,.int .i64 r] 195/\K.rdy Q4 (K.sOf (gh u 0))=(!h)) :
  @Calls prog (K0 K) 28 #[.pointer (some ⟨mb,0,none⟩),.pointer (some ⟨K.ptr,0,none⟩)] w0 (G3 K w0 fun v u=>v= .tuple #[]/\∃u0 F' h r,Gn K w0 m F Q4 u0 F'/\S0 u0 sb #[.int .i64 obj,.int .i64 num,.bool h,.int .i64 r] 195/\S0 u sb #[.int .i64 obj,.int .i64 num,.bool h,.int .i64 (IntKind.i64.wrap (r+1))] 195/\u0.grownBy u (some sb)/\u.tape=u0.tape):=by
 letI:Ctx prog:=K0 K;refine Calls.O5 (n:=12) func28 rfl rfl ?_;refine U121 ?_;intro hb;refine U85 ?_;refine U185 ?_;refine U76 ?_;have g9:=hb;refine L.T3 rfl (p9 rfl rfl Gm0 Bs0 func163 rfl Wo0) (Gp0 hK sb obj num h r w0 hT P2 hC hla) ?_ ?_ (fun _ h=>h)
 ·rintro v u ak0;obtain⟨rfl,ak0⟩:=ak0;exact U86
 ·rintro ch u ⟨K6,hh⟩;exact⟨K6,hh⟩
theorem xo0 {K:A8 prog} (hK:KOk K) {Q4:K.L} {m:Gm} {F:Nat->Prop} (sb:Nat) (obj num:Int) (h:Bool) (r:Int) (w0:World) (hT:K.Told w0 m F (.inl Q4)) (P2:K.stp Q4=⟨4,obj,num⟩) (hrd:∀s,K.rdy Q4 s=true) (hC:S0 w0 sb #[.int .i64 obj,.int .i64 num,.bool h,.int .i64 r] 195) (hla:∀u F',K.c5 w0 m F u F'->∃h r,S0 u sb #[.int .i64 obj,.int .i64 num,.bool h,.int .i64 r] 195) :
  @Calls prog (K0 K) 164 #[.pointer (some ⟨sb,0,none⟩),.pointer (some ⟨K.ptr,0,none⟩)] w0 (G3 K w0 fun v u=>v= .tuple #[]/\∃u0 F' h r,Gn K w0 m F Q4 u0 F'/\S0 u0 sb #[.int .i64 obj,.int .i64 num,.bool h,.int .i64 r] 195/\S0 u sb #[.int .i64 obj,.int .i64 num,.bool h,.int .i64 (max 0 (IntKind.i64.wrap (r-1)))] 195/\u0.grownBy u (some sb)/\u.tape=u0.tape):=by
 letI:Ctx prog:=K0 K;refine Calls.O5 (n:=11) func164 rfl rfl ?_;refine U188 ?_;intro hb w b2 F2;refine U11 ?_;intro lt2 hb;refine U57 ?_;intro hC g6;refine U84 ?_;refine U186 ?_;refine U246 ?_;refine U205 ?_;intro g9 hF2;have w9:@Calls prog (K0 K) 56 #[.agg #[.int .i64 obj,.int .i64 num],.pointer (some ⟨K.ptr,0,none⟩),.int .i64 4,.nilFunc,.func (.func 170) #[] #[.pointer (some ⟨b2,0,none⟩)]] w (G3 K w fun v u=>v= .tuple #[]/\∃u0 F',K.Goes w m F Q4 u0 F'/\(∃h r,S0 u0 sb #[.int .i64 obj,.int .i64 num,.bool h,.int .i64 r] 195/\S0 u sb #[.int .i64 obj,.int .i64 num,.bool h,.int .i64 (max 0 (IntKind.i64.wrap (r-1)))] 195/\u0.grownBy u (some sb))/\u.tape=u0.tape):=by
  refine k8 hK w (hK.E0 hT hb) P2 (fun w1 S4=>.inl ⟨rfl,hrd⟩) ⟨0,#[],.inl rfl⟩ (.inr ⟨170,_,S9 func170 rfl Nf0⟩) (fun u u2=>∃h r,S0 u sb #[.int .i64 obj,.int .i64 num,.bool h,.int .i64 r] 195/\S0 u2 sb #[.int .i64 obj,.int .i64 num,.bool h,.int .i64 (max 0 (IntKind.i64.wrap (r-1)))] 195/\u.grownBy u2 (some sb)) (fun w1 S4 u F' hg=>.inr ⟨170,_,S9 func170 rfl Nf0,?_⟩)
  ·obtain⟨h,r,hCu⟩:=hla u F' (Goes.down (N0 hb S4) hg).Q6;exact @C.mono _ (u4 prog K.M3 K.ptr K.num) _ _ _ _ _ (@Gl0 (u4 prog K.M3 K.ptr K.num) b2 sb obj num h r u (Goes.T9 hg (g6.E0 S4) (Nat.zero_lt_succ _) hF2).1 hCu) fun v w' hh=>⟨h,r,hCu,hh.2⟩
 refine L.T3 rfl (l6 rfl rfl rfl rfl rfl func56 rfl ix0 rfl) w9 ?_ ?_ (fun _ h=>h)
 ·rintro v u ⟨rfl,u0,F',hg,⟨h',r',hC0,hCn,n3⟩,ht⟩;have w8:=Goes.down g9 hg;rename_i wL;exact U189
 ·rintro ch u ⟨K6,hh⟩;exact⟨K6,hh.at g9.os g9.output⟩
theorem vm0 {K:A8 prog} (hK:KOk K) {Q4:K.L} {m:Gm} {F:Nat->Prop} (sb:Nat) (obj num:Int) (h:Bool) (r:Int) (mb:Nat) (w0:World) (hT:K.Told w0 m F (.inl Q4)) (P2:K.stp Q4=⟨4,obj,num⟩) (hrd:∀s,K.rdy Q4 s=true) (hM:S0 w0 mb #[.iface 193 (.pointer (some ⟨sb,0,none⟩))] 125) (hC:S0 w0 sb #[.int .i64 obj,.int .i64 num,.bool h,.int .i64 r] 195) (hla:∀u F',K.c5 w0 m F u F'->∃h r,S0 u sb #[.int .i64 obj,.int .i64 num,.bool h,.int .i64 r] 195) :
  @Calls prog (K0 K) 30 #[.pointer (some ⟨mb,0,none⟩),.pointer (some ⟨K.ptr,0,none⟩)] w0 (G3 K w0 fun v u=>v= .tuple #[]/\∃u0 F' h r,Gn K w0 m F Q4 u0 F'/\S0 u0 sb #[.int .i64 obj,.int .i64 num,.bool h,.int .i64 r] 195/\S0 u sb #[.int .i64 obj,.int .i64 num,.bool h,.int .i64 (max 0 (IntKind.i64.wrap (r-1)))] 195/\u0.grownBy u (some sb)/\u.tape=u0.tape):=by
 letI:Ctx prog:=K0 K;refine Calls.O5 (n:=12) func30 rfl rfl ?_;refine U121 ?_;intro hb;refine U85 ?_;refine U185 ?_;refine U76 ?_;have g9:=hb;refine L.T3 rfl (p9 rfl rfl xl0 vl0 func164 rfl Wp0) (xo0 hK sb obj num h r w0 hT P2 hrd hC hla) ?_ ?_ (fun _ h=>h)
 ·rintro v u ak0;obtain⟨rfl,ak0⟩:=ak0;exact U86
 ·rintro ch u ⟨K6,hh⟩;exact⟨K6,hh⟩
theorem fz0 {w:World} {b:Nat} {cs:Array Value} {T:TypeId} (h:S0 w b cs T) (hT:T≠0):b<w.heap.size/\w.heap[b]? ≠some nothing:=by
 refine⟨(l4 h).lt,fun e=>?_⟩;have h':w.heap[b]? =some (.cells cs T (0,0)):=h;rw[h']at e;have e1:=Option.some.inj e;unfold nothing at e1;injection e1 with _ e2
 exact hT e2
def Canon (a:Option Addr):Prop:=∀x,a=some x->x=⟨x.block,0,none⟩
theorem qx0 {w:World} {B:Nat} {E:TypeId} {s n c:Nat} {a:Option Addr} {xs:List Value} (h:Own w B E s a n c xs):Canon a:=fun x hx=>by
 rcases h.2 with⟨hv,_⟩|⟨g,cap,cur,hv,_⟩
 ·cases hv;cases hx
 ·cases hv;cases hx;rfl
theorem Af0 {w:World} {B s n c b:Nat} {E T:TypeId} {a:Option Addr} {xs:List Value} {cs:Array Value} (h:Own w B E s a n c xs) (hB:S0 w b cs T) (hT:T≠E) (ha:a≠none):b≠ab a:=by
 obtain⟨cur,hc,_⟩:=h.row ha;exact S0.ne hB hc hT
theorem vn0 {w:World} {B s n c:Nat} {E:TypeId} {xs:List Value} (h:Own w B E s none n c xs):n=0:=by
 rcases h.2 with⟨hv,h0⟩|⟨g,cap,cur,hv,_⟩
 ·cases hv;first|exact h0|omega
 ·cases hv
theorem Rj0 {a:Option Addr} {n c:Nat} (hc:Canon a):Value.ownBlock (.slice a n c)=if a=none then none else some (ab a):=by
 cases a with
 |none=>rfl
 |some x=>rw[hc x rfl];rfl
theorem S0.app {w w':World} {B:Nat} {b:Nat} {cs:Array Value} {T E:TypeId} {a:Option Addr} {n c s:Nat} {xs:List Value} (hB:S0 w b cs T) (hO:Own w B E s a n c xs) (hg:w.grownBy w' (Value.ownBlock (.slice a n c))) (hT:T≠E):S0 w' b cs T:=by
 refine hB.grown hg ?_;cases a with
 |none=>simp[Value.ownBlock]
 |some x=>
  obtain⟨cur,hc,_⟩:=hO.row (by simp);intro e;exact S0.ne hB hc hT (Option.some.inj e)
theorem vo0 {N i:Nat} {f:Nat->Value} {v:Value}:setRow (arr N f) i [v]=arr N (fun x=>if x=i then v else f x):=by
 show(arr N f).setIfInBounds i v=_;exact Je0
structure L2 where
 z5:Int
 ga0:Int
 call:Int
 val:Int
def Yf0 (o:L2):List Value:=[.int .i64 o.z5,.int .i64 o.ga0,.int .i64 o.call,.int .i64 o.val]
def B1 (o:L2):Nat:=(o.ga0%2).toNat
theorem j1 (o:L2):B1 o<2:=by unfold B1;omega
def G8 (o:L2):Prop:=(o.z5=1/\(o.call=1\/o.call=2))\/(o.z5=2/\(o.call=1\/o.call=2\/o.call=3\/o.call=4))\/(o.z5=3/\(o.call=5\/o.call=7))\/(o.z5=4/\(o.call=5\/o.call=6))\/(o.z5=5/\(o.call=8\/o.call=9))
def up2 {α:Type} (f:Nat->Nat->α) (t n:Nat) (v:α):Nat->Nat->α:=fun a b=>if a=t/\b=n then v else f a b
theorem lf0 {α:Type} {f:Nat->Nat->α} {t n:Nat} {v:α}:up2 f t n v t n=v:=if_pos ⟨rfl,rfl⟩
theorem Gq0 {α:Type} {f:Nat->Nat->α} {t n a b:Nat} {v:α} (h:¬(a=t/\b=n)):up2 f t n v a b=f a b:=if_neg h
structure PS where
 held:Nat->Nat->Bool
 cw0:Nat->Int
 val:Nat->Nat->Int
 O3:Nat->List Int
def ps0:PS:=⟨fun _ _=>false,fun _=>0,fun _ _=>0,fun _=>[]⟩
def prd (s:PS) (t n:Nat):Int:=if t=2 then s.cw0 n else 0
def pT (o:L2):Nat:=o.z5.toNat
def xp0 (o:L2) (s:PS):Bool:=if o.call=1 then !s.held (pT o) (B1 o)&&decide (prd s (pT o) (B1 o)=0) else if o.call=3 then !s.held 2 (B1 o) else true
def pdo (o:L2) (s:PS):PS×Int :=
 if o.call=1 then({s with held:=up2 s.held (pT o) (B1 o) true},0)
 else if o.call=2 then({s with held:=up2 s.held (pT o) (B1 o) false},0)
 else if o.call=3 then({s with cw0:=upN s.cw0 (B1 o) (IntKind.i64.wrap (s.cw0 (B1 o)+1))},0)
 else if o.call=4 then({s with cw0:=upN s.cw0 (B1 o) (max 0 (IntKind.i64.wrap (s.cw0 (B1 o)-1)))},0)
 else if o.call=6\/o.call=9 then({s with val:=up2 s.val (pT o) (B1 o) o.val},0)
 else if o.call=7 then({s with val:=up2 s.val (pT o) (B1 o) (IntKind.i64.wrap (s.val (pT o) (B1 o)+o.val))},IntKind.i64.wrap (s.val (pT o) (B1 o)+o.val))
 else(s,s.val (pT o) (B1 o))
theorem lg0 (o:L2) (s:PS):(pdo o s).1.O3=s.O3:=by
 unfold pdo
 repeat' split
 all_goals rfl
def cx0 (i:Nat) (x:PS×Int):PS:={x.1 with O3:=upN x.1.O3 i (x.1.O3 i ++ [x.2])}
def gb0 (ops:List L2) (k:Nat):Nat ⊕ Nat:=if k<ops.length then .inl k else .inr 1
def m4 (ops:List L2) (k:Nat) (s:PS):fp0 PS Nat:=⟨s,[],gb0 ops k⟩
def goP (ops:List L2) (i k:Nat) (s:PS):fp0 PS Nat:=match ops[k]? with
 |some o=>m4 ops (k+1) (cx0 i (pdo o s))
 |none=>⟨s,[],.inr 1⟩
theorem Gr0 {ops:List L2} {i k:Nat} {s:PS} {o:L2} (h:ops[k]? =some o):goP ops i k s=m4 ops (k+1) (cx0 i (pdo o s)):=by unfold goP;rw[h]
theorem Ag0 (ops:List L2) (i k:Nat) (s:PS):(goP ops i k s).T2=[]:=by unfold goP;split <;> rfl
theorem m5 {ops:List L2} {k:Nat} {s:PS} {o:L2} (h:ops[k]? =some o):m4 ops k s=⟨s,[],.inl k⟩:=by
 unfold m4 gb0;rw[if_pos (List.getElem?_eq_some_iff.1 h).1]
theorem xq0 {ops:List L2} {k:Nat} {s:PS} (h:¬k<ops.length):m4 ops k s=⟨s,[],.inr 1⟩:=by
 unfold m4 gb0;rw[if_neg h]
def T6 (wb:Nat) (s:PS) (t n:Nat) (sa:Value):Array Value :=
 if t <=2 then #[.int .i64 (t:Nat),.int .i64 (n:Nat),.bool (s.held t n),.int .i64 (prd s t n)]
 else if t <=4 then #[.int .i64 (t:Nat),.int .i64 (n:Nat),.pointer (some ⟨wb,0,none⟩),.int .i64 (s.val t n),sa]
 else #[.int .i64 (t:Nat),.int .i64 (n:Nat),.pointer (some ⟨wb,0,none⟩),.int .i64 (s.val t n)]
def tty (t:Nat):TypeId:=if t <=2 then 195 else if t=3 then 123 else if t=4 then 132 else 115
theorem lh0 (t:Nat):tty t≠0/\tty t≠45/\tty t≠2:=by
 unfold tty;split
 ·exact⟨by decide,by decide,by decide⟩
 split
 ·exact⟨by decide,by decide,by decide⟩
 split <;> exact⟨by decide,by decide,by decide⟩
structure K5 where
 la:Nat->Option Addr
 lc:Nat->Nat
structure L4 where
 m:Nat
 bo:Nat->List L2
 tb:Nat
 wb:Nat
 sb:Nat->Nat->Nat
 mb:Nat->Nat->Nat
 lgb:Nat
 RO:Nat->Prop
 wI:World
 B:Nat
 lb:Nat
 pl:Nat->c6
def pob (p:L4) (t n:Nat):Nat:=if t <=2 then p.mb t n else p.sb t n
def La0 (p:L4):Array Value:=arr 10 fun j=>.pointer (some ⟨pob p (j/2+1) (j%2),0,none⟩)
def mty (t:Nat):TypeId:=if t=1 then 113 else 125
structure cc0 (p:L4) (w:World) (s:PS) (r:K5):Prop where
 hS:∀t n,1 <=t->t <=5->n<2->∃sa,S0 w (p.sb t n) (T6 p.wb s t n sa) (tty t)
 hG:S0 w p.lgb (arr p.m fun i=>.slice (r.la i) (s.O3 i).length (r.lc i)) 45
 hL:∀i,i<p.m->Own w p.B 2 1 (r.la i) (s.O3 i).length (r.lc i) ((s.O3 i).map (.int .i64 ·))
 inj:∀i j,i<p.m->j<p.m->i≠j->r.la i≠none->r.la j≠none->ab (r.la i)≠ab (r.la j)
 ro:∀b,p.RO b->w.heap[b]? =p.wI.heap[b]?
 lG:p.B <=p.lgb
def PF (p:L4) (r:K5) (b:Nat):Prop:=(∃t n,1 <=t/\t <=5/\n<2/\b=p.sb t n)\/b=p.lgb\/(∃i,i<p.m/\r.la i≠none/\b=ab (r.la i))\/p.RO b
def Rk0 (p:L4) (s:PS) (_:Gm) (w:World) (F:Nat->Prop):Prop:=∃r,F=PF p r/\cc0 p w s r
@[reducible] def D4 (p:L4):Sys where
 S:=PS
 L:=Nat
 m:=p.m
 s0:=ps0
 nil:=fun _=>false
 stp:=fun i k=>match(p.bo i)[k]? with
  |some o=>⟨o.call,o.z5,(B1 o:Nat)⟩
  |none=>⟨0,0,0⟩
 rdy:=fun i k s=>match(p.bo i)[k]? with
  |some o=>xp0 o s
  |none=>true
 beg:=fun i s=>m4 (p.bo i) 0 s
 go:=fun i k s=>goP (p.bo i) i k s
 le:=fun _ _ _=>True
 Inv:=Rk0 p
 lb:=p.lb
 pl:=p.pl
structure g5 (p:L4):Prop where
 ro:∀b,p.RO b->b<p.wI.heap.size/\p.wI.heap[b]? ≠some nothing
 roD:∀b,p.RO b->b<p.B\/∃cs T,S0 p.wI b cs T/\(∀t,T≠tty t)/\T≠45/\T≠2
 sB:∀t n,1 <=t->t <=5->n<2->p.B <=p.sb t n
 cy1:∀t n t' n',1 <=t->t <=5->n<2->1 <=t'->t' <=5->n'<2->p.sb t n=p.sb t' n'->t=t'/\n=n'
 hT:p.RO p.tb/\S0 p.wI p.tb (La0 p) 72
 hW:p.RO p.wb/\S0 p.wI p.wb #[.bool false] 105
 hM:∀t n,1 <=t->t <=2->n<2->p.RO (p.mb t n)/\S0 p.wI (p.mb t n) #[.iface 193 (.pointer (some ⟨p.sb t n,0,none⟩))] (mty t)
 ops:∀i o,o∈p.bo i->G8 o
section
variable {p:L4}{w w' wI:World}{s:PS}{r:K5}
theorem cc0.congr (h:cc0 p w s r) (he:∀b,PF p r b->w'.heap[b]? =w.heap[b]?):cc0 p w' s r :=
 ⟨fun t n h1 h2 h3=>let⟨sa,hB⟩:=h.hS t n h1 h2 h3;⟨sa,(he _ (.inl ⟨t,n,h1,h2,h3,rfl⟩)).trans hB⟩,(he _ (.inr (.inl rfl))).trans h.hG,fun i hi=>Own.congr (h.hL i hi) fun ha=>he _ (.inr (.inr (.inl ⟨i,hi,ha,rfl⟩))),h.inj,fun b hb=>(he _ (.inr (.inr (.inr hb)))).trans (h.ro b hb),h.lG⟩
theorem cc0.vis (h:cc0 p w s r) (hp:g5 p) {b:Nat} (hb:PF p r b):b<w.heap.size/\w.heap[b]? ≠some nothing:=by
 rcases hb with⟨t,n,h1,h2,h3,rfl⟩|rfl|⟨i,hi,ha,rfl⟩|hb
 ·obtain⟨sa,hB⟩:=h.hS t n h1 h2 h3;exact fz0 hB (lh0 t).1
 ·exact fz0 h.hG (by decide)
 ·obtain⟨cur,hc,_⟩:=(h.hL i hi).row ha;exact fz0 hc (by decide)
 ·have h1:=h.ro b hb;have h2:=hp.ro b hb;refine⟨?_,by rw[h1];exact h2.2⟩;rcases Nat.lt_or_ge b w.heap.size with z|z
  ·exact z
  ·rw[Array.getElem?_eq_none z,Array.getElem?_eq_getElem h2.1]at h1;cases h1
theorem cc0.Yg0 (h:cc0 p w s r) (hp:g5 p) {b:Nat} (hb:p.RO b):(∀t n,1 <=t->t <=5->n<2->b≠p.sb t n)/\b≠p.lgb/\∀i,i<p.m->r.la i≠none->b≠ab (r.la i):=by
 rcases hp.roD b hb with R2|⟨cs,T,hB,t1,t2,t3⟩
 ·refine⟨fun t n h1 h2 h3 e=>?_,fun e=>?_,fun i hi ha e=>?_⟩
  ·have:=hp.sB t n h1 h2 h3;omega
  ·have:=h.lG;omega
  ·obtain⟨_,_,h2,_⟩:=(h.hL i hi).row ha;omega
 ·have hB':S0 w b cs T:=(h.ro b hb).trans hB;exact⟨fun t n h1 h2 h3=>let⟨_,hS⟩:=h.hS t n h1 h2 h3;S0.ne hB' hS (t1 t),S0.ne hB' h.hG t2,fun i hi ha=>Af0 (h.hL i hi) hB' t3 ha⟩
theorem cc0.rob (h:cc0 p w s r) {b:Nat} {cs:Array Value} {T:TypeId} (hb:p.RO b/\S0 p.wI b cs T):S0 w b cs T:=(h.ro b hb.1).trans hb.2
theorem gc0 (hp:g5 p):kz0 (D4 p):=by
 refine⟨⟨fun _ _=>trivial,fun _ _ _ _ _ _=>trivial⟩,fun s m w w' F h he=>?_,fun s m w F h b hb=>?_⟩
 ·obtain⟨r,rfl,hM⟩:=h;exact⟨r,rfl,hM.congr he⟩
 ·obtain⟨r,rfl,hM⟩:=h;exact hM.vis hp hb
theorem cc0.set (h:cc0 p w s r) (hp:g5 p) {s':PS} {t n y:Nat} {sa:Value} (h1:1 <=t) (h2:t <=5) (h3:n<2) (hg:j9 w w' (p.sb t n) y) (hy:y=p.sb t n\/¬PF p r y) (hB:S0 w' (p.sb t n) (T6 p.wb s' t n sa) (tty t)) (ht:s'.O3=s.O3) (hs:∀t' n' sa,1 <=t'->t' <=5->n'<2->¬(t'=t/\n'=n)->T6 p.wb s' t' n' sa=T6 p.wb s t' n' sa):cc0 p w' s' r:=by
 have stay:∀b,PF p r b->b≠p.sb t n->w'.heap[b]? =w.heap[b]?:=fun b hb D3=>hg.block b (h.vis hp hb).1 D3 fun e=>by
  subst e;rcases hy with z|z
  ·exact D3 z
  ·exact z hb
 obtain⟨_,hS⟩:=h.hS t n h1 h2 h3;refine⟨fun t' n' g1 g2 g3=>?_,?_,fun i hi=>?_,h.inj,fun b hb=>?_,h.lG⟩
 ·by_cases e:t'=t/\n'=n
  ·obtain⟨rfl,rfl⟩:=e;exact⟨sa,hB⟩
  ·obtain⟨sa',hS'⟩:=h.hS t' n' g1 g2 g3;exact⟨sa',by rw[hs t' n' sa' g1 g2 g3 e];exact(stay _ (.inl ⟨t',n',g1,g2,g3,rfl⟩) fun z=>e (hp.cy1 _ _ _ _ g1 g2 g3 h1 h2 h3 z)).trans hS'⟩
 ·rw[ht];exact(stay _ (.inr (.inl rfl)) (S0.ne h.hG hS (lh0 t).2.1.symm)).trans h.hG
 ·rw[ht];exact Own.congr (h.hL i hi) fun ha=>stay _ (.inr (.inr (.inl ⟨i,hi,ha,rfl⟩))) fun e=>Af0 (h.hL i hi) hS (lh0 t).2.2 ha e.symm
 ·exact(stay b (.inr (.inr (.inr hb))) ((h.Yg0 hp hb).1 t n h1 h2 h3)).trans (h.ro b hb)
theorem j9.of {b:Nat} (hg:w.grownBy w' (some b)):j9 w w' b b:=(j9.refl w b b).step (.inl rfl) hg
end
structure Yh0 (p:L4) (q:PR (D4 p)):Prop where
 new:∀i,q.ft.length <=i->q.s.O3 i=[]
 Q4:∀i k,q.ft[i]? =some (.inl k)->(q.s.O3 i).length=k/\k<(p.bo i).length
 all:∀i,(q.s.O3 i).length <=(p.bo i).length
theorem qy0 {ops:List L2} {k l:Nat} (h:gb0 ops k= .inl l):l=k/\k<ops.length:=by
 unfold gb0 at h;split at h
 ·cases h;exact⟨rfl,by assumption⟩
 ·cases h
theorem Ah0 {p:L4}:∀q,(D4 p).Reach q->Yh0 p q:=by
 refine Sys.ind (Y:=D4 p) (fun q=>Yh0 p q) ⟨fun _ _=>rfl,(fun i l h=>by cases h),fun _=>Nat.zero_le _⟩ (fun q hq _=>?_) (fun q i k hq _ hf _=>?_)
 ·have hb:(D4 p).bgn q={q with s:=q.s,ft:=q.ft ++ [gb0 (p.bo q.ft.length) 0],T2:=q.T2++tell q.ft.length q.evs.length [],outs:=q.outs ++ [m4 (p.bo q.ft.length) 0 q.s],who:=q.who ++ [none]}:=rfl;rw[hb];refine⟨fun j hj=>?_,fun j l h=>?_,hq.all⟩
  ·have hj:(q.ft ++ [gb0 (p.bo q.ft.length) 0]).length <=j:=hj;rw[List.length_append,List.length_singleton]at hj;exact hq.new j (by omega)
  ·have h:(q.ft ++ [gb0 (p.bo q.ft.length) 0])[j]? =some (.inl l):=h;rcases bl0 h with h'|⟨hj,h'⟩
   ·exact hq.Q4 j l h'
   ·obtain⟨rfl,h2⟩:=qy0 h';rw[hj];exact⟨by show(q.s.O3 q.ft.length).length=0;rw[hq.new _ (Nat.le_refl _)];rfl,h2⟩
 ·have hl:=(List.getElem?_eq_some_iff.1 hf).1;obtain⟨h1,h2⟩:=hq.Q4 i k hf;obtain⟨o,ho⟩:∃o,(p.bo i)[k]? =some o:=⟨_,List.getElem?_eq_getElem h2⟩
  have ht:(D4 p).L5 q i={q with s:=(goP (p.bo i) i k q.s).s,ft:=q.ft.set i (goP (p.bo i) i k q.s).S7,evs:=q.evs ++ [(i,(D4 p).stp i k)],T2:=q.T2++tell i (q.evs.length+1) (goP (p.bo i) i k q.s).T2,outs:=q.outs ++ [goP (p.bo i) i k q.s],who:=q.who ++ [some i],used:=q.used+1}:=by
   unfold Sys.L5;rw[hf]
  rw[ht,Gr0 ho];have e1:(cx0 i (pdo o q.s)).O3 i=q.s.O3 i ++ [(pdo o q.s).2]:=by show upN _ i _ i=_;rw[T4,lg0]
  have e2:∀j,j≠i->(cx0 i (pdo o q.s)).O3 j=q.s.O3 j:=fun j hj=>by show upN _ i _ j=_;rw[w5 hj,lg0]
  refine⟨fun j hj=>?_,fun j l h=>?_,fun j=>?_⟩
  ·have hj:(q.ft.set i _).length <=j:=hj;rw[List.length_set]at hj;exact(e2 j (by omega)).trans (hq.new j hj)
  ·have h:(q.ft.set i (gb0 (p.bo i) (k+1)))[j]? =some (.inl l):=h;by_cases o3:j=i
   ·subst o3;rw[List.getElem?_set_self hl]at h;obtain⟨rfl,h3⟩:=qy0 (Option.some.inj h);exact⟨by show((cx0 j (pdo o q.s)).O3 j).length=_;rw[e1,List.length_append,h1];rfl,h3⟩
   ·rw[List.getElem?_set_ne (Ne.symm o3)]at h;exact⟨by show((cx0 i (pdo o q.s)).O3 j).length=_;rw[e2 j o3];exact(hq.Q4 j l h).1,(hq.Q4 j l h).2⟩
  ·show((cx0 i (pdo o q.s)).O3 j).length <=_;by_cases o3:j=i
   ·subst o3;rw[e1,List.length_append,h1];exact h2
   ·rw[e2 j o3];exact hq.all j
noncomputable abbrev D2 (p:L4) (fb:Nat->FuncId) (q:PR (D4 p)) (w00:World) (i cb:Nat) (top:List Frame):A8 prog:=(D4 p).cfg fb q w00 i cb top
structure H8 (p:L4) (w:World) (s:PS) (r:K5):Prop where
 ok:g5 p
 mem:cc0 p w s r
section
variable {p:L4}{w w' u:World}{fb:Nat->FuncId}{q:PR (D4 p)}{w00:World}{i cb:Nat}{top:List Frame}{s:PS}{r:K5}{k:Nat}{o:L2}
theorem H8.E0 (h:H8 p w s r) (hb:Below w.heap.size w w'):H8 p w' s r:=⟨h.ok,h.mem.congr fun b hF=>hb.block b (h.mem.vis h.ok hF).1⟩
theorem H8.fresh (h:H8 p w s r) {b:Nat} (hb:w.heap.size <=b):¬PF p r b:=fun z=>by have:=(h.mem.vis h.ok z).1;omega
theorem H8.O3 (h:H8 p w s r) (hc:c9 (D2 p fb q w00 i cb top) w ⟨s,[],.inl k⟩):(D2 p fb q w00 i cb top).Told w (gm w) (PF p r) (.inl k):=hc.O3 rfl (fun _ _=>trivial) ⟨r,rfl,h.mem⟩
theorem H8.done {v:Value} (h:H8 p w s r) (hc:c9 (D2 p fb q w00 i cb top) w ⟨s,[],.inr 1⟩):∃F,(D2 p fb q w00 i cb top).ws0 w F (.returned v):=⟨_,hc.done (m:=gm w) rfl (fun _ _=>trivial) ⟨r,rfl,h.mem⟩⟩
theorem H8.start {F:Nat->Prop} (hs:xd0 (D2 p fb q w00 i cb top) (fun s=>m4 (p.bo i) 0 s) u F) (hp:g5 p):∃s r,H8 p u s r/\c9 (D2 p fb q w00 i cb top) u (m4 (p.bo i) 0 s)/\(s.O3 i).length <=0:=by
 obtain⟨ht,p',hR,_,h1,h2⟩:=hs.at_
 have hl:=Ah0 p' hR;have D1:=hl.new i (Nat.le_of_eq h2);rw[h1]at D1;obtain⟨r,hF,hM⟩:Rk0 p ((D4 p).sAt q (gh u 0)) (gm u) u F:=hs.inv;exact⟨_,r,⟨hp,hM⟩,⟨hs.on,hs.T2,hs.out,rfl,hs.os,hs.output⟩,by rw[D1];exact Nat.le_refl _⟩
theorem X7 {F F':Nat->Prop} {m:Gm} (hg:(D2 p fb q w00 i cb top).c5 w m F u F'):∃r1,F'=PF p r1/\cc0 p u ((D4 p).sAt q (gh u 0)) r1:=hg.inv
theorem A4 (hp:g5 p) {F F':Nat->Prop} {m:Gm} (hc:c9 (D2 p fb q w00 i cb top) w ⟨s,[],.inl k⟩) (ho:(p.bo i)[k]? =some o) (hg:(D2 p fb q w00 i cb top).Goes w m F k u F'):∃r1,F'=PF p r1/\H8 p u ((D4 p).sAt q (gh u 0)) r1/\c9 (D2 p fb q w00 i cb top) u (m4 (p.bo i) (k+1) (cx0 i (pdo o ((D4 p).sAt q (gh u 0)))))/\(((D4 p).sAt q (gh u 0)).O3 i).length=k:=by
 obtain⟨r1,hF,hM⟩:=X7 hg.Q6;obtain⟨ht,p',hR,_,h1,h2⟩:=hg.at_
 have hl:=(Ah0 p' hR).Q4 i k h2;rw[h1]at hl;have Y7:=hc.goes hg (fun s=>Ag0 (p.bo i) i k s);have e1:(D2 p fb q w00 i cb top).go k ((D2 p fb q w00 i cb top).sOf (gh u 0))=m4 (p.bo i) (k+1) (cx0 i (pdo o ((D4 p).sAt q (gh u 0)))):=Gr0 ho;rw[e1]at Y7;exact⟨r1,hF,⟨hp,hM⟩,Y7,hl.1⟩
theorem I8 (ho:(p.bo i)[k]? =some o) {a b:Int} (ha:o.call=a) (hb:o.z5=b):(D2 p fb q w00 i cb top).stp k=⟨a,b,(B1 o:Nat)⟩:=by
 show(match(p.bo i)[k]? with|some o=>(⟨o.call,o.z5,(B1 o:Nat)⟩:Stp)|none=>⟨0,0,0⟩)=_;rw[ho,<- ha,<- hb]
theorem th0 (ho:(p.bo i)[k]? =some o) (s:PS):(D2 p fb q w00 i cb top).rdy k s=xp0 o s:=by
 show(match(p.bo i)[k]? with|some o=>xp0 o s|none=>true)=_;rw[ho]
theorem k9 (ho:(p.bo i)[k]? =some o) (h1:o.call≠1) (h3:o.call≠3) (s:PS):(D2 p fb q w00 i cb top).rdy k s=true:=by
 rw[th0 ho];unfold xp0;rw[if_neg h1,if_neg h3]
theorem dm0 (h:o.call=5\/o.call=8) {t:Nat} (hT:pT o=t) (s:PS):pdo o s=(s,s.val t (B1 o)):=by
 unfold pdo;rw[hT];rw[if_neg (by omega),if_neg (by omega),if_neg (by omega),if_neg (by omega),if_neg (by omega),if_neg (by omega)]
theorem jn0 (h:o.call=6\/o.call=9) {t:Nat} (hT:pT o=t) (s:PS):pdo o s=({s with val:=up2 s.val t (B1 o) o.val},0):=by
 unfold pdo;rw[hT];rw[if_neg (by omega),if_neg (by omega),if_neg (by omega),if_neg (by omega),if_pos (by omega)]
theorem Ai0 (h:o.call=7) {t:Nat} (hT:pT o=t) (s:PS):pdo o s=({s with val:=up2 s.val t (B1 o) (IntKind.i64.wrap (s.val t (B1 o)+o.val))},IntKind.i64.wrap (s.val t (B1 o)+o.val)):=by
 unfold pdo;rw[hT];rw[if_neg (by omega),if_neg (by omega),if_neg (by omega),if_neg (by omega),if_neg (by omega),if_pos (by omega)]
theorem Gs0 (h:o.call=1) {t:Nat} (hT:pT o=t) (s:PS):pdo o s=({s with held:=up2 s.held t (B1 o) true},0):=by
 unfold pdo;rw[hT,if_pos h]
theorem Gt0 (h:o.call=2) {t:Nat} (hT:pT o=t) (s:PS):pdo o s=({s with held:=up2 s.held t (B1 o) false},0):=by
 unfold pdo;rw[hT,if_neg (by omega),if_pos h]
theorem Nv0 (h:o.call=3) {t:Nat} (_:pT o=t) (s:PS):pdo o s=({s with cw0:=upN s.cw0 (B1 o) (IntKind.i64.wrap (s.cw0 (B1 o)+1))},0):=by
 unfold pdo;rw[if_neg (by omega),if_neg (by omega),if_pos h]
theorem Nw0 (h:o.call=4) {t:Nat} (_:pT o=t) (s:PS):pdo o s=({s with cw0:=upN s.cw0 (B1 o) (max 0 (IntKind.i64.wrap (s.cw0 (B1 o)-1)))},0):=by
 unfold pdo;rw[if_neg (by omega),if_neg (by omega),if_neg (by omega),if_pos h]
theorem xr0 {wb t n t' n':Nat} {v:Int} {sa:Value} (h:¬(t'=t/\n'=n)):T6 wb {s with val:=up2 s.val t n v} t' n' sa=T6 wb s t' n' sa:=by
 unfold T6;simp only[Gq0 h];rfl
theorem Aj0 {wb t n t' n':Nat} {v:Bool} {sa:Value} (h:¬(t'=t/\n'=n)):T6 wb {s with held:=up2 s.held t n v} t' n' sa=T6 wb s t' n' sa:=by
 unfold T6;simp only[Gq0 h];rfl
theorem Ak0 {wb n t' n':Nat} {v:Int} {sa:Value} (h:¬(t'=2/\n'=n)):T6 wb {s with cw0:=upN s.cw0 n v} t' n' sa=T6 wb s t' n' sa:=by
 have e:prd {s with cw0:=upN s.cw0 n v} t' n'=prd s t' n':=by
  unfold prd;split
  ·exact w5 fun e=>h ⟨by assumption,e⟩
  ·rfl
 unfold T6;rw[e]
theorem gy0 {b:Nat} {a1 a2:Value} {h h':Bool} {x x':Int} {T T':TypeId} (h1:S0 w b #[a1,a2,.bool h,.int .i64 x] T) (h2:S0 w b #[a1,a2,.bool h',.int .i64 x'] T'):h=h'/\x=x':=by
 have e:(some (Obj.cells #[a1,a2,.bool h,.int .i64 x] T (0,0)))=some (Obj.cells #[a1,a2,.bool h',.int .i64 x'] T' (0,0)):=h1.symm.trans h2;injection e with e
 injection e with e
 have e3:=congrArg (fun a:Array Value=>a.toList) e;simp at e3;exact e3
def X5 (p:L4) (fb:Nat->FuncId) (q:PR (D4 p)) (w00:World) (i cb:Nat) (top:List Frame) (k:Nat) (o:L2) (w:World) (A:Value->Int->Prop):Ending->World->Prop :=
 G3 (D2 p fb q w00 i cb top) w fun v u=>∃s1 r1,H8 p u (pdo o s1).1 r1/\c9 (D2 p fb q w00 i cb top) u (m4 (p.bo i) (k+1) (cx0 i (pdo o s1)))/\(s1.O3 i).length=k/\A v (pdo o s1).2
end
theorem Lb0 {p:L4} {fb:Nat->FuncId} {q:PR (D4 p)} {w00:World} {i cb:Nat} {top:List Frame} {s:PS} {r:K5} {k:Nat} {o:L2} (hp:g5 p) (w0:World) (hE:H8 p w0 s r) (hc:c9 (D2 p fb q w00 i cb top) w0 ⟨s,[],.inl k⟩) (ho:(p.bo i)[k]? =some o) (h5:o.z5=5) (h8:o.call=8) :
  @Calls prog (K0 (D2 p fb q w00 i cb top)) 22 #[.pointer (some ⟨p.sb 5 (B1 o),0,none⟩),.pointer (some ⟨cb,0,none⟩)] w0 (X5 p fb q w00 i cb top k o w0 fun v x=>v= .int .i64 x):=by
 have hT:=hE.O3 hc;have hP:pT o=5:=by unfold pT;rw[h5];rfl
 obtain⟨sa,hC⟩:=hE.mem.hS 5 (B1 o) (by decide) (by decide) (j1 o);refine @Calls.mono _ (K0 (D2 p fb q w00 i cb top)) _ _ _ _ _ (Kt0 (Sys.kok (gc0 hp)) (p.sb 5 (B1 o)) p.wb 5 (B1 o:Nat) (fun tt=>((D4 p).sAt q tt).val 5 (B1 o)) _ w0 hT (I8 ho h8 h5) (k9 ho (by omega) (by omega)) (hE.mem.rob hp.hW) hC (fun u F' hg=>?_)) fun e u he=>?_
 ·obtain⟨r1,rfl,e7,_,_⟩:=A4 hp hc ho hg;obtain⟨_,hh⟩:=e7.mem.hS 5 (B1 o) (by decide) (by decide) (j1 o);exact hh
 ·cases e with
  |outgrown=>exact he
  |panicked ch=>exact he
  |returned v=>
   obtain⟨F',tt,hg,htt,rfl⟩:=he;obtain⟨r1,rfl,e7,Y7,hl⟩:=A4 hp hc ho hg.goes;have e1:=htt.eq;refine⟨_,r1,?_,Y7,hl,?_⟩
   ·rw[dm0 (by omega) hP];exact e7
   ·rw[dm0 (by omega) hP,e1]
theorem Lc0 {p:L4} {fb:Nat->FuncId} {q:PR (D4 p)} {w00:World} {i cb:Nat} {top:List Frame} {s:PS} {r:K5} {k:Nat} {o:L2} (hp:g5 p) (w0:World) (hE:H8 p w0 s r) (hc:c9 (D2 p fb q w00 i cb top) w0 ⟨s,[],.inl k⟩) (ho:(p.bo i)[k]? =some o) (h5:o.z5=4) (h8:o.call=5) :
  @Calls prog (K0 (D2 p fb q w00 i cb top)) 29 #[.pointer (some ⟨p.sb 4 (B1 o),0,none⟩),.pointer (some ⟨cb,0,none⟩)] w0 (X5 p fb q w00 i cb top k o w0 fun v x=>v= .int .i64 x):=by
 have hT:=hE.O3 hc;have hP:pT o=4:=by unfold pT;rw[h5];rfl
 obtain⟨sa,hC⟩:=hE.mem.hS 4 (B1 o) (by decide) (by decide) (j1 o);refine @Calls.mono _ (K0 (D2 p fb q w00 i cb top)) _ _ _ _ _ (Kv0 (Sys.kok (gc0 hp)) (p.sb 4 (B1 o)) p.wb 4 (B1 o:Nat) (fun tt=>((D4 p).sAt q tt).val 4 (B1 o)) _ sa w0 hT (I8 ho h8 h5) (k9 ho (by omega) (by omega)) (hE.mem.rob hp.hW) hC (fun u F' hg=>?_)) fun e u he=>?_
 ·obtain⟨r1,rfl,e7,_,_⟩:=A4 hp hc ho hg;obtain⟨_,hh⟩:=e7.mem.hS 4 (B1 o) (by decide) (by decide) (j1 o);exact⟨_,hh⟩
 ·cases e with
  |outgrown=>exact he
  |panicked ch=>exact he
  |returned v=>
   obtain⟨F',tt,hg,htt,rfl⟩:=he;obtain⟨r1,rfl,e7,Y7,hl⟩:=A4 hp hc ho hg.goes;have e1:=htt.eq;refine⟨_,r1,?_,Y7,hl,?_⟩
   ·rw[dm0 (by omega) hP];exact e7
   ·rw[dm0 (by omega) hP,e1]
theorem Ld0 {p:L4} {fb:Nat->FuncId} {q:PR (D4 p)} {w00:World} {i cb:Nat} {top:List Frame} {s:PS} {r:K5} {k:Nat} {o:L2} (hp:g5 p) (w0:World) (hE:H8 p w0 s r) (hc:c9 (D2 p fb q w00 i cb top) w0 ⟨s,[],.inl k⟩) (ho:(p.bo i)[k]? =some o) (h5:o.z5=3) (h8:o.call=5) :
  @Calls prog (K0 (D2 p fb q w00 i cb top)) 34 #[.pointer (some ⟨p.sb 3 (B1 o),0,none⟩),.pointer (some ⟨cb,0,none⟩)] w0 (X5 p fb q w00 i cb top k o w0 fun v x=>v= .int .i64 x):=by
 have hT:=hE.O3 hc;have hP:pT o=3:=by unfold pT;rw[h5];rfl
 obtain⟨sa,hC⟩:=hE.mem.hS 3 (B1 o) (by decide) (by decide) (j1 o);refine @Calls.mono _ (K0 (D2 p fb q w00 i cb top)) _ _ _ _ _ (Kx0 (Sys.kok (gc0 hp)) (p.sb 3 (B1 o)) p.wb 3 (B1 o:Nat) (fun tt=>((D4 p).sAt q tt).val 3 (B1 o)) _ sa w0 hT (I8 ho h8 h5) (k9 ho (by omega) (by omega)) (hE.mem.rob hp.hW) hC (fun u F' hg=>?_)) fun e u he=>?_
 ·obtain⟨r1,rfl,e7,_,_⟩:=A4 hp hc ho hg;obtain⟨_,hh⟩:=e7.mem.hS 3 (B1 o) (by decide) (by decide) (j1 o);exact⟨_,hh⟩
 ·cases e with
  |outgrown=>exact he
  |panicked ch=>exact he
  |returned v=>
   obtain⟨F',tt,hg,htt,rfl⟩:=he;obtain⟨r1,rfl,e7,Y7,hl⟩:=A4 hp hc ho hg.goes;have e1:=htt.eq;refine⟨_,r1,?_,Y7,hl,?_⟩
   ·rw[dm0 (by omega) hP];exact e7
   ·rw[dm0 (by omega) hP,e1]
theorem Le0 {p:L4} {fb:Nat->FuncId} {q:PR (D4 p)} {w00:World} {i cb:Nat} {top:List Frame} {s:PS} {r:K5} {k:Nat} {o:L2} (hp:g5 p) (w0:World) (hE:H8 p w0 s r) (hc:c9 (D2 p fb q w00 i cb top) w0 ⟨s,[],.inl k⟩) (ho:(p.bo i)[k]? =some o) (h5:o.z5=5) (h8:o.call=9) :
  @Calls prog (K0 (D2 p fb q w00 i cb top)) 21 #[.pointer (some ⟨p.sb 5 (B1 o),0,none⟩),.pointer (some ⟨cb,0,none⟩),.int .i64 o.val] w0 (X5 p fb q w00 i cb top k o w0 fun v x=>v= .tuple #[]/\x=0):=by
 have hT:=hE.O3 hc;have hP:pT o=5:=by unfold pT;rw[h5];rfl
 obtain⟨sa,hC⟩:=hE.mem.hS 5 (B1 o) (by decide) (by decide) (j1 o);refine @Calls.mono _ (K0 (D2 p fb q w00 i cb top)) _ _ _ _ _ (Ku0 (Sys.kok (gc0 hp)) (p.sb 5 (B1 o)) p.wb 5 (B1 o:Nat) o.val _ w0 hT (I8 ho h8 h5) (k9 ho (by omega) (by omega)) (hE.mem.rob hp.hW) hC (fun u F' hg=>?_)) fun e u he=>?_
 ·obtain⟨r1,rfl,e7,_,_⟩:=A4 hp hc ho hg;obtain⟨_,hh⟩:=e7.mem.hS 5 (B1 o) (by decide) (by decide) (j1 o);exact⟨_,hh⟩
 ·cases e with
  |outgrown=>exact he
  |panicked ch=>exact he
  |returned v=>
   obtain⟨rfl,u0,F',hg,hB,n3⟩:=he;obtain⟨r1,rfl,e7,Y7,hl⟩:=A4 hp hc ho hg.goes
   skip
   refine⟨_,r1,?_,Y7.H5 n3 trivial,hl,rfl,by rw[jn0 (by omega) hP]⟩;rw[jn0 (by omega) hP];exact⟨hp,e7.mem.set hp (sa:=sa) (by decide) (by decide) (j1 o) (j9.of n3) (.inl rfl) (by unfold T6;simp only[lf0];exact hB) rfl fun _ _ _ _ _ _ h=>xr0 h⟩
theorem Lf0 {p:L4} {fb:Nat->FuncId} {q:PR (D4 p)} {w00:World} {i cb:Nat} {top:List Frame} {s:PS} {r:K5} {k:Nat} {o:L2} (hp:g5 p) (w0:World) (hE:H8 p w0 s r) (hc:c9 (D2 p fb q w00 i cb top) w0 ⟨s,[],.inl k⟩) (ho:(p.bo i)[k]? =some o) (h5:o.z5=4) (h8:o.call=6) :
  @Calls prog (K0 (D2 p fb q w00 i cb top)) 26 #[.pointer (some ⟨p.sb 4 (B1 o),0,none⟩),.pointer (some ⟨cb,0,none⟩),.int .i64 o.val] w0 (X5 p fb q w00 i cb top k o w0 fun v x=>v= .tuple #[]/\x=0):=by
 have hT:=hE.O3 hc;have hP:pT o=4:=by unfold pT;rw[h5];rfl
 obtain⟨sa,hC⟩:=hE.mem.hS 4 (B1 o) (by decide) (by decide) (j1 o);refine @Calls.mono _ (K0 (D2 p fb q w00 i cb top)) _ _ _ _ _ (Kw0 (Sys.kok (gc0 hp)) (p.sb 4 (B1 o)) p.wb 4 (B1 o:Nat) o.val _ sa w0 hT (I8 ho h8 h5) (k9 ho (by omega) (by omega)) (hE.mem.rob hp.hW) hC (fun u F' hg=>?_)) fun e u he=>?_
 ·obtain⟨r1,rfl,e7,_,_⟩:=A4 hp hc ho hg;obtain⟨_,hh⟩:=e7.mem.hS 4 (B1 o) (by decide) (by decide) (j1 o);exact⟨_,_,hh⟩
 ·cases e with
  |outgrown=>exact he
  |panicked ch=>exact he
  |returned v=>
   obtain⟨rfl,u0,F',hg,hB,n3,_⟩:=he;obtain⟨r1,rfl,e7,Y7,hl⟩:=A4 hp hc ho hg.goes;obtain⟨sa2,hB⟩:=hB;refine⟨_,r1,?_,Y7.H5 n3 trivial,hl,rfl,by rw[jn0 (by omega) hP]⟩;rw[jn0 (by omega) hP];exact⟨hp,e7.mem.set hp (sa:=sa2) (by decide) (by decide) (j1 o) (j9.of n3) (.inl rfl) (by unfold T6;simp only[lf0];exact hB) rfl fun _ _ _ _ _ _ h=>xr0 h⟩
theorem Lg0 {p:L4} {fb:Nat->FuncId} {q:PR (D4 p)} {w00:World} {i cb:Nat} {top:List Frame} {s:PS} {r:K5} {k:Nat} {o:L2} (hp:g5 p) (w0:World) (hE:H8 p w0 s r) (hc:c9 (D2 p fb q w00 i cb top) w0 ⟨s,[],.inl k⟩) (ho:(p.bo i)[k]? =some o) (h5:o.z5=3) (h8:o.call=7) :
  @Calls prog (K0 (D2 p fb q w00 i cb top)) 24 #[.pointer (some ⟨p.sb 3 (B1 o),0,none⟩),.pointer (some ⟨cb,0,none⟩),.int .i64 o.val] w0 (X5 p fb q w00 i cb top k o w0 fun v x=>v= .int .i64 x):=by
 have hT:=hE.O3 hc;have hP:pT o=3:=by unfold pT;rw[h5];rfl
 obtain⟨sa,hC⟩:=hE.mem.hS 3 (B1 o) (by decide) (by decide) (j1 o);refine @Calls.mono _ (K0 (D2 p fb q w00 i cb top)) _ _ _ _ _ (Kz0 (Sys.kok (gc0 hp)) (p.sb 3 (B1 o)) p.wb 3 (B1 o:Nat) (fun tt=>((D4 p).sAt q tt).val 3 (B1 o)) _ o.val sa w0 hT (I8 ho h8 h5) (k9 ho (by omega) (by omega)) (hE.mem.rob hp.hW) hC (fun u F' hg=>?_)) fun e u he=>?_
 ·obtain⟨r1,rfl,e7,_,_⟩:=A4 hp hc ho hg;obtain⟨_,hh⟩:=e7.mem.hS 3 (B1 o) (by decide) (by decide) (j1 o);exact⟨_,hh⟩
 ·cases e with
  |outgrown=>exact he
  |panicked ch=>exact he
  |returned v=>
   obtain⟨u0,F',tt,sa2,hg,htt,rfl,hB,y,hy1,hy2,hm2,_⟩:=he;obtain⟨r1,rfl,e7,Y7,hl⟩:=A4 hp hc ho hg.goes;subst htt;refine⟨_,r1,?_,Y7.to hm2.tape hm2.os hm2.output,hl,by rw[Ai0 h8 hP]⟩;rw[Ai0 h8 hP];exact⟨hp,e7.mem.set hp (sa:=sa2) (by decide) (by decide) (j1 o) hm2 (.inr hy2) (by unfold T6;simp only[lf0];exact hB) rfl fun _ _ _ _ _ _ h=>xr0 h⟩
theorem Gu0 {p:L4} {fb:Nat->FuncId} {q:PR (D4 p)} {w00:World} {i cb:Nat} {top:List Frame} {s:PS} {r:K5} {k:Nat} {o:L2} (hp:g5 p) (w0:World) (hE:H8 p w0 s r) (hc:c9 (D2 p fb q w00 i cb top) w0 ⟨s,[],.inl k⟩) (ho:(p.bo i)[k]? =some o) (h5:o.z5=1) (h8:o.call=1) :
  @Calls prog (K0 (D2 p fb q w00 i cb top)) 20 #[.pointer (some ⟨p.mb 1 (B1 o),0,none⟩),.pointer (some ⟨cb,0,none⟩)] w0 (X5 p fb q w00 i cb top k o w0 fun v x=>v= .tuple #[]/\x=0):=by
 have hT:=hE.O3 hc;have hP:pT o=1:=by unfold pT;rw[h5];rfl
 obtain⟨sa,hC⟩:=hE.mem.hS 1 (B1 o) (by decide) (by decide) (j1 o);refine @Calls.mono _ (K0 (D2 p fb q w00 i cb top)) _ _ _ _ _ (Gn0 (Sys.kok (gc0 hp)) (p.sb 1 (B1 o)) 1 (B1 o:Nat) _ _ (p.mb 1 (B1 o)) w0 hT (I8 ho h8 h5) (hE.mem.rob (hp.hM 1 (B1 o) (by decide) (by decide) (j1 o))) hC (fun u F' hl=>?_)) fun e u he=>?_
 ·obtain⟨r1,rfl,hM⟩:=X7 hl;obtain⟨_,hh⟩:=hM.hS 1 (B1 o) (by decide) (by decide) (j1 o);exact⟨_,_,hh,by refine(th0 (fb:=fb) (w00:=w00) (cb:=cb) (top:=top) ho _).trans ?_;unfold xp0;rw[if_pos h8,hP];rfl⟩
 ·cases e with
  |outgrown=>exact he
  |panicked ch=>exact he
  |returned v=>
   obtain⟨rfl,u0,F',h',r',hg,M5,hB,n3,_⟩:=he;obtain⟨r1,rfl,e7,Y7,hl⟩:=A4 hp hc ho hg.goes;obtain⟨_,hS1⟩:=e7.mem.hS 1 (B1 o) (by decide) (by decide) (j1 o);obtain⟨rfl,rfl⟩:=gy0 M5 hS1;refine⟨_,r1,?_,Y7.H5 n3 trivial,hl,rfl,by rw[Gs0 h8 hP]⟩;exact U372
theorem xs0 {p:L4} {fb:Nat->FuncId} {q:PR (D4 p)} {w00:World} {i cb:Nat} {top:List Frame} {s:PS} {r:K5} {k:Nat} {o:L2} (hp:g5 p) (w0:World) (hE:H8 p w0 s r) (hc:c9 (D2 p fb q w00 i cb top) w0 ⟨s,[],.inl k⟩) (ho:(p.bo i)[k]? =some o) (h5:o.z5=1) (h8:o.call=2) :
  @Calls prog (K0 (D2 p fb q w00 i cb top)) 23 #[.pointer (some ⟨p.mb 1 (B1 o),0,none⟩),.pointer (some ⟨cb,0,none⟩)] w0 (X5 p fb q w00 i cb top k o w0 fun v x=>v= .tuple #[]/\x=0):=by
 have hT:=hE.O3 hc;have hP:pT o=1:=by unfold pT;rw[h5];rfl
 obtain⟨sa,hC⟩:=hE.mem.hS 1 (B1 o) (by decide) (by decide) (j1 o);refine @Calls.mono _ (K0 (D2 p fb q w00 i cb top)) _ _ _ _ _ (xm0 (Sys.kok (gc0 hp)) (p.sb 1 (B1 o)) 1 (B1 o:Nat) _ _ (p.mb 1 (B1 o)) w0 hT (I8 ho h8 h5) (k9 ho (by omega) (by omega)) (hE.mem.rob (hp.hM 1 (B1 o) (by decide) (by decide) (j1 o))) hC (fun u F' hl=>?_)) fun e u he=>?_
 ·obtain⟨r1,rfl,hM⟩:=X7 hl;obtain⟨_,hh⟩:=hM.hS 1 (B1 o) (by decide) (by decide) (j1 o);exact⟨_,_,hh⟩
 ·cases e with
  |outgrown=>exact he
  |panicked ch=>exact he
  |returned v=>
   obtain⟨rfl,u0,F',h',r',hg,M5,hB,n3,_⟩:=he;obtain⟨r1,rfl,e7,Y7,hl⟩:=A4 hp hc ho hg.goes;obtain⟨_,hS1⟩:=e7.mem.hS 1 (B1 o) (by decide) (by decide) (j1 o);obtain⟨rfl,rfl⟩:=gy0 M5 hS1;refine⟨_,r1,?_,Y7.H5 n3 trivial,hl,rfl,by rw[Gt0 h8 hP]⟩;exact U373
theorem Gv0 {p:L4} {fb:Nat->FuncId} {q:PR (D4 p)} {w00:World} {i cb:Nat} {top:List Frame} {s:PS} {r:K5} {k:Nat} {o:L2} (hp:g5 p) (w0:World) (hE:H8 p w0 s r) (hc:c9 (D2 p fb q w00 i cb top) w0 ⟨s,[],.inl k⟩) (ho:(p.bo i)[k]? =some o) (h5:o.z5=2) (h8:o.call=1) :
  @Calls prog (K0 (D2 p fb q w00 i cb top)) 25 #[.pointer (some ⟨p.mb 2 (B1 o),0,none⟩),.pointer (some ⟨cb,0,none⟩)] w0 (X5 p fb q w00 i cb top k o w0 fun v x=>v= .tuple #[]/\x=0):=by
 have hT:=hE.O3 hc;have hP:pT o=2:=by unfold pT;rw[h5];rfl
 obtain⟨sa,hC⟩:=hE.mem.hS 2 (B1 o) (by decide) (by decide) (j1 o);refine @Calls.mono _ (K0 (D2 p fb q w00 i cb top)) _ _ _ _ _ (Go0 (Sys.kok (gc0 hp)) (p.sb 2 (B1 o)) 2 (B1 o:Nat) _ _ (p.mb 2 (B1 o)) w0 hT (I8 ho h8 h5) (hE.mem.rob (hp.hM 2 (B1 o) (by decide) (by decide) (j1 o))) hC (fun u F' hl=>?_)) fun e u he=>?_
 ·obtain⟨r1,rfl,hM⟩:=X7 hl;obtain⟨_,hh⟩:=hM.hS 2 (B1 o) (by decide) (by decide) (j1 o);exact⟨_,_,hh,by refine(th0 (fb:=fb) (w00:=w00) (cb:=cb) (top:=top) ho _).trans ?_;unfold xp0;rw[if_pos h8,hP];rfl⟩
 ·cases e with
  |outgrown=>exact he
  |panicked ch=>exact he
  |returned v=>
   obtain⟨rfl,u0,F',h',r',hg,M5,hB,n3,_⟩:=he;obtain⟨r1,rfl,e7,Y7,hl⟩:=A4 hp hc ho hg.goes;obtain⟨_,hS1⟩:=e7.mem.hS 2 (B1 o) (by decide) (by decide) (j1 o);obtain⟨rfl,rfl⟩:=gy0 M5 hS1;refine⟨_,r1,?_,Y7.H5 n3 trivial,hl,rfl,by rw[Gs0 h8 hP]⟩;exact U372
theorem xt0 {p:L4} {fb:Nat->FuncId} {q:PR (D4 p)} {w00:World} {i cb:Nat} {top:List Frame} {s:PS} {r:K5} {k:Nat} {o:L2} (hp:g5 p) (w0:World) (hE:H8 p w0 s r) (hc:c9 (D2 p fb q w00 i cb top) w0 ⟨s,[],.inl k⟩) (ho:(p.bo i)[k]? =some o) (h5:o.z5=2) (h8:o.call=2) :
  @Calls prog (K0 (D2 p fb q w00 i cb top)) 27 #[.pointer (some ⟨p.mb 2 (B1 o),0,none⟩),.pointer (some ⟨cb,0,none⟩)] w0 (X5 p fb q w00 i cb top k o w0 fun v x=>v= .tuple #[]/\x=0):=by
 have hT:=hE.O3 hc;have hP:pT o=2:=by unfold pT;rw[h5];rfl
 obtain⟨sa,hC⟩:=hE.mem.hS 2 (B1 o) (by decide) (by decide) (j1 o);refine @Calls.mono _ (K0 (D2 p fb q w00 i cb top)) _ _ _ _ _ (xn0 (Sys.kok (gc0 hp)) (p.sb 2 (B1 o)) 2 (B1 o:Nat) _ _ (p.mb 2 (B1 o)) w0 hT (I8 ho h8 h5) (k9 ho (by omega) (by omega)) (hE.mem.rob (hp.hM 2 (B1 o) (by decide) (by decide) (j1 o))) hC (fun u F' hl=>?_)) fun e u he=>?_
 ·obtain⟨r1,rfl,hM⟩:=X7 hl;obtain⟨_,hh⟩:=hM.hS 2 (B1 o) (by decide) (by decide) (j1 o);exact⟨_,_,hh⟩
 ·cases e with
  |outgrown=>exact he
  |panicked ch=>exact he
  |returned v=>
   obtain⟨rfl,u0,F',h',r',hg,M5,hB,n3,_⟩:=he;obtain⟨r1,rfl,e7,Y7,hl⟩:=A4 hp hc ho hg.goes;obtain⟨_,hS1⟩:=e7.mem.hS 2 (B1 o) (by decide) (by decide) (j1 o);obtain⟨rfl,rfl⟩:=gy0 M5 hS1;refine⟨_,r1,?_,Y7.H5 n3 trivial,hl,rfl,by rw[Gt0 h8 hP]⟩;exact U373
theorem Bu0 {p:L4} {fb:Nat->FuncId} {q:PR (D4 p)} {w00:World} {i cb:Nat} {top:List Frame} {s:PS} {r:K5} {k:Nat} {o:L2} (hp:g5 p) (w0:World) (hE:H8 p w0 s r) (hc:c9 (D2 p fb q w00 i cb top) w0 ⟨s,[],.inl k⟩) (ho:(p.bo i)[k]? =some o) (h5:o.z5=2) (h8:o.call=3) :
  @Calls prog (K0 (D2 p fb q w00 i cb top)) 28 #[.pointer (some ⟨p.mb 2 (B1 o),0,none⟩),.pointer (some ⟨cb,0,none⟩)] w0 (X5 p fb q w00 i cb top k o w0 fun v x=>v= .tuple #[]/\x=0):=by
 have hT:=hE.O3 hc;have hP:pT o=2:=by unfold pT;rw[h5];rfl
 obtain⟨sa,hC⟩:=hE.mem.hS 2 (B1 o) (by decide) (by decide) (j1 o);refine @Calls.mono _ (K0 (D2 p fb q w00 i cb top)) _ _ _ _ _ (Bt0 (Sys.kok (gc0 hp)) (p.sb 2 (B1 o)) 2 (B1 o:Nat) _ _ (p.mb 2 (B1 o)) w0 hT (I8 ho h8 h5) (hE.mem.rob (hp.hM 2 (B1 o) (by decide) (by decide) (j1 o))) hC (fun u F' hl=>?_)) fun e u he=>?_
 ·obtain⟨r1,rfl,hM⟩:=X7 hl;obtain⟨_,hh⟩:=hM.hS 2 (B1 o) (by decide) (by decide) (j1 o);exact⟨_,_,hh,by refine(th0 (fb:=fb) (w00:=w00) (cb:=cb) (top:=top) ho _).trans ?_;unfold xp0;rw[if_neg (by omega),if_pos h8];rfl⟩
 ·cases e with
  |outgrown=>exact he
  |panicked ch=>exact he
  |returned v=>
   obtain⟨rfl,u0,F',h',r',hg,M5,hB,n3,_⟩:=he;obtain⟨r1,rfl,e7,Y7,hl⟩:=A4 hp hc ho hg.goes;obtain⟨_,hS1⟩:=e7.mem.hS 2 (B1 o) (by decide) (by decide) (j1 o);obtain⟨rfl,rfl⟩:=gy0 M5 hS1;refine⟨_,r1,?_,Y7.H5 n3 trivial,hl,rfl,by rw[Nv0 h8 hP]⟩;rw[Nv0 h8 hP];exact⟨hp,e7.mem.set hp (sa:=sa) (by decide) (by decide) (j1 o) (j9.of n3) (.inl rfl) (by unfold T6 prd;simp only[T4];exact hB) rfl fun _ _ _ _ _ _ h=>Ak0 h⟩
theorem vp0 {p:L4} {fb:Nat->FuncId} {q:PR (D4 p)} {w00:World} {i cb:Nat} {top:List Frame} {s:PS} {r:K5} {k:Nat} {o:L2} (hp:g5 p) (w0:World) (hE:H8 p w0 s r) (hc:c9 (D2 p fb q w00 i cb top) w0 ⟨s,[],.inl k⟩) (ho:(p.bo i)[k]? =some o) (h5:o.z5=2) (h8:o.call=4) :
  @Calls prog (K0 (D2 p fb q w00 i cb top)) 30 #[.pointer (some ⟨p.mb 2 (B1 o),0,none⟩),.pointer (some ⟨cb,0,none⟩)] w0 (X5 p fb q w00 i cb top k o w0 fun v x=>v= .tuple #[]/\x=0):=by
 have hT:=hE.O3 hc;have hP:pT o=2:=by unfold pT;rw[h5];rfl
 obtain⟨sa,hC⟩:=hE.mem.hS 2 (B1 o) (by decide) (by decide) (j1 o);refine @Calls.mono _ (K0 (D2 p fb q w00 i cb top)) _ _ _ _ _ (vm0 (Sys.kok (gc0 hp)) (p.sb 2 (B1 o)) 2 (B1 o:Nat) _ _ (p.mb 2 (B1 o)) w0 hT (I8 ho h8 h5) (k9 ho (by omega) (by omega)) (hE.mem.rob (hp.hM 2 (B1 o) (by decide) (by decide) (j1 o))) hC (fun u F' hl=>?_)) fun e u he=>?_
 ·obtain⟨r1,rfl,hM⟩:=X7 hl;obtain⟨_,hh⟩:=hM.hS 2 (B1 o) (by decide) (by decide) (j1 o);exact⟨_,_,hh⟩
 ·cases e with
  |outgrown=>exact he
  |panicked ch=>exact he
  |returned v=>
   obtain⟨rfl,u0,F',h',r',hg,M5,hB,n3,_⟩:=he;obtain⟨r1,rfl,e7,Y7,hl⟩:=A4 hp hc ho hg.goes;obtain⟨_,hS1⟩:=e7.mem.hS 2 (B1 o) (by decide) (by decide) (j1 o);obtain⟨rfl,rfl⟩:=gy0 M5 hS1;refine⟨_,r1,?_,Y7.H5 n3 trivial,hl,rfl,by rw[Nw0 h8 hP]⟩;rw[Nw0 h8 hP];exact⟨hp,e7.mem.set hp (sa:=sa) (by decide) (by decide) (j1 o) (j9.of n3) (.inl rfl) (by unfold T6 prd;simp only[T4];exact hB) rfl fun _ _ _ _ _ _ h=>Ak0 h⟩
theorem n5 {p:L4} {w:World} {s:PS} {r:K5} (h:H8 p w s r) {t n:Nat} (h1:1 <=t) (h5:t <=5) (hn:n<2):w.cell? ⟨p.tb,2*(t-1)+n*1,none⟩=some (.pointer (some ⟨pob p t n,0,none⟩)):=by
 have hB:=h.mem.rob h.ok.hT;have e1:(2*(t-1)+n*1)/2+1=t:=by omega
 have e2:(2*(t-1)+n*1)%2=n:=by omega
 refine S0.A0 hB _ ((jj0 (by omega)).trans ?_);rw[e1,e2]
theorem Lh0 (x:Int):Int.tmod (IntKind.i64.wrap (Int.tmod x 2+2)) 2=((x%2).toNat:Nat):=by
 have h1:=Int.tmod_lt_of_pos x (b:=2) (by decide);have h2:=Int.lt_tmod_of_pos x (b:=2) (by decide);have e1:IntKind.i64.wrap (Int.tmod x 2+2)=Int.tmod x 2+2:=by simp[IntKind.wrap,IntKind.signed,IntKind.bits];omega
 rw[e1];have e2:Int.tmod (Int.tmod x 2+2) 2=x%2:=by
  rw[Int.tmod_eq_emod_of_nonneg (by omega)];rw[Int.tmod_eq_emod];split <;> omega
 rw[e2];omega
section
variable [Ctx prog]
theorem V4 (o:L2) (w0:World):C prog 15 #[.agg #[.int .i64 o.z5,.int .i64 o.ga0,.int .i64 o.call,.int .i64 o.val]] w0 fun v w=>v= .int .i64 (B1 o:Nat)/\Below w0.heap.size w0 w:=by
 refine C.enter (n:=8) func15 rfl rfl ?_;refine U531 ?_;intro hb w b1 F1;have lt1:=F1.lq hb.size;have hb:=N0 hb F1.below;have hB1:=F1.blk;refine U34 ?_;refine U70 ?_;refine L.va (F0 rfl underlying3 rfl (hB1.A0 1 (v:=.int .i64 o.ga0) rfl)) ?_;refine L.va (ou0 (κ:=.i64) rfl rfl (by decide)) ?_;refine L.va (kb0 (κ:=.i64) rfl rfl) ?_;refine L.va (ou0 (κ:=.i64) rfl rfl (by decide)) ?_;refine U10 ?_;exact⟨by show(Value.int .i64 (Int.tmod (IntKind.i64.wrap (Int.tmod o.ga0 2+2)) 2))=_;rw[Lh0];rfl,hb⟩
end
set_option maxHeartbeats 1000000 in
theorem Gw0 {p:L4} {fb:Nat->FuncId} {q:PR (D4 p)} {w00:World} {i cb:Nat} {top:List Frame} {s:PS} {r:K5} {k:Nat} (wh vv:Int) (w0:World) (hE:H8 p w0 s r) (hc:c9 (D2 p fb q w00 i cb top) w0 (m4 (p.bo i) k s)) (ho:(p.bo i)[k]? =some (⟨1,wh,1,vv⟩:L2)) :
  @Calls prog (K0 (D2 p fb q w00 i cb top)) 39 #[.pointer (some ⟨p.tb,0,none⟩),.pointer (some ⟨cb,0,none⟩),.agg #[.int .i64 1,.int .i64 wh,.int .i64 1,.int .i64 vv]] w0 (X5 p fb q w00 i cb top k (⟨1,wh,1,vv⟩:L2) w0 fun v x=>v= .int .i64 x):=by
 letI:Ctx prog:=K0 (D2 p fb q w00 i cb top);refine U21 ?_;intro J8 Y5;refine L.box (cs:=#[.int .i64 1,.int .i64 wh,.int .i64 1,.int .i64 vv]) rfl rfl (fun w b5 F5=>?_);refine U23 ?_;intro E8 hE hc C3;refine L.va (G0 (cs:=[.int .i64 1,.int .i64 wh,.int .i64 1,.int .i64 vv]) rfl underlying52 rfl M1 rfl (C3.J1 rfl)) ?_;refine L.call (M0 rfl func15 rfl b9 rfl) (V4 (⟨1,wh,1,vv⟩:L2) w) ?_;rintro _ w ⟨rfl,I1⟩;refine U19 ?_;intro hE hc C3;refine U173 ?_;refine U92 ?_;refine U170 ?_;refine U512 ?_;refine U63 ?_;refine U167 ?_;refine L.va (C2 (i:=B1 (⟨1,wh,1,vv⟩:L2)) (n:=2) rfl rfl underlying62 wv0 (j1 _)) ?_;refine L.va (F0 (v:=.pointer (some ⟨p.mb 1 (B1 (⟨1,wh,1,vv⟩:L2)),0,none⟩)) rfl underlying61 rfl (n5 hE (t:=1) (n:=B1 (⟨1,wh,1,vv⟩:L2)) (by decide) (by decide) (j1 _))) ?_;refine L.va (Y2 rfl) ?_;rw[m5 ho]at hc;have X4:=Gu0 hE.ok w hE hc ho rfl rfl;refine L.T3 rfl (l3 rfl rfl func20 rfl Uz0 rfl) X4 ?_ ?_ (fun _ h=>h)
 rotate_left
 ·rintro ch u ⟨K6,hh⟩;exact⟨K6,hh.at (hc.os.trans J8.symm) (hc.output.trans Y5.symm)⟩
 rintro _ w ⟨s1,r1,e7,Y7,hl1,rfl,hx⟩;refine U210 ?_;refine U10 ?_;exact⟨s1,r1,e7,Y7,hl1,by show(Value.int .i64 0)= .int .i64 (pdo (⟨1,wh,1,vv⟩:L2) s1).2;rw[hx]⟩
set_option maxHeartbeats 1000000 in
theorem Gx0 {p:L4} {fb:Nat->FuncId} {q:PR (D4 p)} {w00:World} {i cb:Nat} {top:List Frame} {s:PS} {r:K5} {k:Nat} (wh vv:Int) (w0:World) (hE:H8 p w0 s r) (hc:c9 (D2 p fb q w00 i cb top) w0 (m4 (p.bo i) k s)) (ho:(p.bo i)[k]? =some (⟨1,wh,2,vv⟩:L2)) :
  @Calls prog (K0 (D2 p fb q w00 i cb top)) 39 #[.pointer (some ⟨p.tb,0,none⟩),.pointer (some ⟨cb,0,none⟩),.agg #[.int .i64 1,.int .i64 wh,.int .i64 2,.int .i64 vv]] w0 (X5 p fb q w00 i cb top k (⟨1,wh,2,vv⟩:L2) w0 fun v x=>v= .int .i64 x):=by
 letI:Ctx prog:=K0 (D2 p fb q w00 i cb top);refine U21 ?_;intro J8 Y5;refine L.box (cs:=#[.int .i64 1,.int .i64 wh,.int .i64 2,.int .i64 vv]) rfl rfl (fun w b5 F5=>?_);refine U23 ?_;intro E8 hE hc C3;refine L.va (G0 (cs:=[.int .i64 1,.int .i64 wh,.int .i64 2,.int .i64 vv]) rfl underlying52 rfl M1 rfl (C3.J1 rfl)) ?_;refine L.call (M0 rfl func15 rfl b9 rfl) (V4 (⟨1,wh,2,vv⟩:L2) w) ?_;rintro _ w ⟨rfl,I1⟩;refine U19 ?_;intro hE hc C3;refine U173 ?_;refine U92 ?_;refine U169 ?_;refine U505 ?_;refine W.q5 rfl ?_;refine U63 ?_;refine U167 ?_;refine L.va (C2 (i:=B1 (⟨1,wh,2,vv⟩:L2)) (n:=2) rfl rfl underlying62 wv0 (j1 _)) ?_;refine L.va (F0 (v:=.pointer (some ⟨p.mb 1 (B1 (⟨1,wh,2,vv⟩:L2)),0,none⟩)) rfl underlying61 rfl (n5 hE (t:=1) (n:=B1 (⟨1,wh,2,vv⟩:L2)) (by decide) (by decide) (j1 _))) ?_;refine L.va (Y2 rfl) ?_;rw[m5 ho]at hc;have X4:=xs0 hE.ok w hE hc ho rfl rfl;refine L.T3 rfl (l3 rfl rfl func23 rfl Vc0 rfl) X4 ?_ ?_ (fun _ h=>h)
 rotate_left
 ·rintro ch u ⟨K6,hh⟩;exact⟨K6,hh.at (hc.os.trans J8.symm) (hc.output.trans Y5.symm)⟩
 rintro _ w ⟨s1,r1,e7,Y7,hl1,rfl,hx⟩;refine U210 ?_;refine U10 ?_;exact⟨s1,r1,e7,Y7,hl1,by show(Value.int .i64 0)= .int .i64 (pdo (⟨1,wh,2,vv⟩:L2) s1).2;rw[hx]⟩
set_option maxHeartbeats 1000000 in
theorem Gy0 {p:L4} {fb:Nat->FuncId} {q:PR (D4 p)} {w00:World} {i cb:Nat} {top:List Frame} {s:PS} {r:K5} {k:Nat} (wh vv:Int) (w0:World) (hE:H8 p w0 s r) (hc:c9 (D2 p fb q w00 i cb top) w0 (m4 (p.bo i) k s)) (ho:(p.bo i)[k]? =some (⟨2,wh,1,vv⟩:L2)) :
  @Calls prog (K0 (D2 p fb q w00 i cb top)) 39 #[.pointer (some ⟨p.tb,0,none⟩),.pointer (some ⟨cb,0,none⟩),.agg #[.int .i64 2,.int .i64 wh,.int .i64 1,.int .i64 vv]] w0 (X5 p fb q w00 i cb top k (⟨2,wh,1,vv⟩:L2) w0 fun v x=>v= .int .i64 x):=by
 letI:Ctx prog:=K0 (D2 p fb q w00 i cb top);refine U21 ?_;intro J8 Y5;refine L.box (cs:=#[.int .i64 2,.int .i64 wh,.int .i64 1,.int .i64 vv]) rfl rfl (fun w b5 F5=>?_);refine U23 ?_;intro E8 hE hc C3;refine L.va (G0 (cs:=[.int .i64 2,.int .i64 wh,.int .i64 1,.int .i64 vv]) rfl underlying52 rfl M1 rfl (C3.J1 rfl)) ?_;refine L.call (M0 rfl func15 rfl b9 rfl) (V4 (⟨2,wh,1,vv⟩:L2) w) ?_;rintro _ w ⟨rfl,I1⟩;refine U19 ?_;intro hE hc C3;refine U56 ?_;refine U170 ?_;refine U9 ?_;refine U92 ?_;refine U55 ?_;refine L.va (C2 (i:=B1 (⟨2,wh,1,vv⟩:L2)) (n:=2) rfl rfl underlying64 st0 (j1 _)) ?_;refine L.va (F0 (v:=.pointer (some ⟨p.mb 2 (B1 (⟨2,wh,1,vv⟩:L2)),0,none⟩)) rfl underlying63 rfl (n5 hE (t:=2) (n:=B1 (⟨2,wh,1,vv⟩:L2)) (by decide) (by decide) (j1 _))) ?_;refine L.va (Y2 rfl) ?_;rw[m5 ho]at hc;have X4:=Gv0 hE.ok w hE hc ho rfl rfl;refine L.T3 rfl (l3 rfl rfl func25 rfl Ve0 rfl) X4 ?_ ?_ (fun _ h=>h)
 rotate_left
 ·rintro ch u ⟨K6,hh⟩;exact⟨K6,hh.at (hc.os.trans J8.symm) (hc.output.trans Y5.symm)⟩
 rintro _ w ⟨s1,r1,e7,Y7,hl1,rfl,hx⟩;refine U212 ?_;refine U10 ?_;exact⟨s1,r1,e7,Y7,hl1,by show(Value.int .i64 0)= .int .i64 (pdo (⟨2,wh,1,vv⟩:L2) s1).2;rw[hx]⟩
set_option maxHeartbeats 1000000 in
theorem Gz0 {p:L4} {fb:Nat->FuncId} {q:PR (D4 p)} {w00:World} {i cb:Nat} {top:List Frame} {s:PS} {r:K5} {k:Nat} (wh vv:Int) (w0:World) (hE:H8 p w0 s r) (hc:c9 (D2 p fb q w00 i cb top) w0 (m4 (p.bo i) k s)) (ho:(p.bo i)[k]? =some (⟨2,wh,2,vv⟩:L2)) :
  @Calls prog (K0 (D2 p fb q w00 i cb top)) 39 #[.pointer (some ⟨p.tb,0,none⟩),.pointer (some ⟨cb,0,none⟩),.agg #[.int .i64 2,.int .i64 wh,.int .i64 2,.int .i64 vv]] w0 (X5 p fb q w00 i cb top k (⟨2,wh,2,vv⟩:L2) w0 fun v x=>v= .int .i64 x):=by
 letI:Ctx prog:=K0 (D2 p fb q w00 i cb top);refine U21 ?_;intro J8 Y5;refine L.box (cs:=#[.int .i64 2,.int .i64 wh,.int .i64 2,.int .i64 vv]) rfl rfl (fun w b5 F5=>?_);refine U23 ?_;intro E8 hE hc C3;refine L.va (G0 (cs:=[.int .i64 2,.int .i64 wh,.int .i64 2,.int .i64 vv]) rfl underlying52 rfl M1 rfl (C3.J1 rfl)) ?_;refine L.call (M0 rfl func15 rfl b9 rfl) (V4 (⟨2,wh,2,vv⟩:L2) w) ?_;rintro _ w ⟨rfl,I1⟩;refine U19 ?_;intro hE hc C3;refine U56 ?_;refine U169 ?_;refine U9 ?_;refine U276 ?_;refine U55 ?_;refine L.va (C2 (i:=B1 (⟨2,wh,2,vv⟩:L2)) (n:=2) rfl rfl underlying64 st0 (j1 _)) ?_;refine L.va (F0 (v:=.pointer (some ⟨p.mb 2 (B1 (⟨2,wh,2,vv⟩:L2)),0,none⟩)) rfl underlying63 rfl (n5 hE (t:=2) (n:=B1 (⟨2,wh,2,vv⟩:L2)) (by decide) (by decide) (j1 _))) ?_;refine L.va (Y2 rfl) ?_;rw[m5 ho]at hc;have X4:=xt0 hE.ok w hE hc ho rfl rfl;refine L.T3 rfl (l3 rfl rfl func27 rfl Vg0 rfl) X4 ?_ ?_ (fun _ h=>h)
 rotate_left
 ·rintro ch u ⟨K6,hh⟩;exact⟨K6,hh.at (hc.os.trans J8.symm) (hc.output.trans Y5.symm)⟩
 rintro _ w ⟨s1,r1,e7,Y7,hl1,rfl,hx⟩;refine U212 ?_;refine U10 ?_;exact⟨s1,r1,e7,Y7,hl1,by show(Value.int .i64 0)= .int .i64 (pdo (⟨2,wh,2,vv⟩:L2) s1).2;rw[hx]⟩
set_option maxHeartbeats 1000000 in
theorem Ha0 {p:L4} {fb:Nat->FuncId} {q:PR (D4 p)} {w00:World} {i cb:Nat} {top:List Frame} {s:PS} {r:K5} {k:Nat} (wh vv:Int) (w0:World) (hE:H8 p w0 s r) (hc:c9 (D2 p fb q w00 i cb top) w0 (m4 (p.bo i) k s)) (ho:(p.bo i)[k]? =some (⟨2,wh,3,vv⟩:L2)) :
  @Calls prog (K0 (D2 p fb q w00 i cb top)) 39 #[.pointer (some ⟨p.tb,0,none⟩),.pointer (some ⟨cb,0,none⟩),.agg #[.int .i64 2,.int .i64 wh,.int .i64 3,.int .i64 vv]] w0 (X5 p fb q w00 i cb top k (⟨2,wh,3,vv⟩:L2) w0 fun v x=>v= .int .i64 x):=by
 letI:Ctx prog:=K0 (D2 p fb q w00 i cb top);refine U21 ?_;intro J8 Y5;refine L.box (cs:=#[.int .i64 2,.int .i64 wh,.int .i64 3,.int .i64 vv]) rfl rfl (fun w b5 F5=>?_);refine U23 ?_;intro E8 hE hc C3;refine L.va (G0 (cs:=[.int .i64 2,.int .i64 wh,.int .i64 3,.int .i64 vv]) rfl underlying52 rfl M1 rfl (C3.J1 rfl)) ?_;refine L.call (M0 rfl func15 rfl b9 rfl) (V4 (⟨2,wh,3,vv⟩:L2) w) ?_;rintro _ w ⟨rfl,I1⟩;refine U19 ?_;intro hE hc C3;refine U56 ?_;refine U500 ?_;refine U9 ?_;refine U93 ?_;refine U55 ?_;refine L.va (C2 (i:=B1 (⟨2,wh,3,vv⟩:L2)) (n:=2) rfl rfl underlying64 st0 (j1 _)) ?_;refine L.va (F0 (v:=.pointer (some ⟨p.mb 2 (B1 (⟨2,wh,3,vv⟩:L2)),0,none⟩)) rfl underlying63 rfl (n5 hE (t:=2) (n:=B1 (⟨2,wh,3,vv⟩:L2)) (by decide) (by decide) (j1 _))) ?_;refine L.va (Y2 rfl) ?_;rw[m5 ho]at hc;have X4:=Bu0 hE.ok w hE hc ho rfl rfl;refine L.T3 rfl (l3 rfl rfl func28 rfl Vh0 rfl) X4 ?_ ?_ (fun _ h=>h)
 rotate_left
 ·rintro ch u ⟨K6,hh⟩;exact⟨K6,hh.at (hc.os.trans J8.symm) (hc.output.trans Y5.symm)⟩
 rintro _ w ⟨s1,r1,e7,Y7,hl1,rfl,hx⟩;refine U212 ?_;refine U10 ?_;exact⟨s1,r1,e7,Y7,hl1,by show(Value.int .i64 0)= .int .i64 (pdo (⟨2,wh,3,vv⟩:L2) s1).2;rw[hx]⟩
set_option maxHeartbeats 1000000 in
theorem Hb0 {p:L4} {fb:Nat->FuncId} {q:PR (D4 p)} {w00:World} {i cb:Nat} {top:List Frame} {s:PS} {r:K5} {k:Nat} (wh vv:Int) (w0:World) (hE:H8 p w0 s r) (hc:c9 (D2 p fb q w00 i cb top) w0 (m4 (p.bo i) k s)) (ho:(p.bo i)[k]? =some (⟨2,wh,4,vv⟩:L2)) :
  @Calls prog (K0 (D2 p fb q w00 i cb top)) 39 #[.pointer (some ⟨p.tb,0,none⟩),.pointer (some ⟨cb,0,none⟩),.agg #[.int .i64 2,.int .i64 wh,.int .i64 4,.int .i64 vv]] w0 (X5 p fb q w00 i cb top k (⟨2,wh,4,vv⟩:L2) w0 fun v x=>v= .int .i64 x):=by
 letI:Ctx prog:=K0 (D2 p fb q w00 i cb top);refine U21 ?_;intro J8 Y5;refine L.box (cs:=#[.int .i64 2,.int .i64 wh,.int .i64 4,.int .i64 vv]) rfl rfl (fun w b5 F5=>?_);refine U23 ?_;intro E8 hE hc C3;refine L.va (G0 (cs:=[.int .i64 2,.int .i64 wh,.int .i64 4,.int .i64 vv]) rfl underlying52 rfl M1 rfl (C3.J1 rfl)) ?_;refine L.call (M0 rfl func15 rfl b9 rfl) (V4 (⟨2,wh,4,vv⟩:L2) w) ?_;rintro _ w ⟨rfl,I1⟩;refine U19 ?_;intro hE hc C3;refine U56 ?_;refine U501 ?_;refine U9 ?_;refine U94 ?_;refine U55 ?_;refine L.va (C2 (i:=B1 (⟨2,wh,4,vv⟩:L2)) (n:=2) rfl rfl underlying64 st0 (j1 _)) ?_;refine L.va (F0 (v:=.pointer (some ⟨p.mb 2 (B1 (⟨2,wh,4,vv⟩:L2)),0,none⟩)) rfl underlying63 rfl (n5 hE (t:=2) (n:=B1 (⟨2,wh,4,vv⟩:L2)) (by decide) (by decide) (j1 _))) ?_;refine L.va (Y2 rfl) ?_;rw[m5 ho]at hc;have X4:=vp0 hE.ok w hE hc ho rfl rfl;refine L.T3 rfl (l3 rfl rfl func30 rfl Vj0 rfl) X4 ?_ ?_ (fun _ h=>h)
 rotate_left
 ·rintro ch u ⟨K6,hh⟩;exact⟨K6,hh.at (hc.os.trans J8.symm) (hc.output.trans Y5.symm)⟩
 rintro _ w ⟨s1,r1,e7,Y7,hl1,rfl,hx⟩;refine U212 ?_;refine U10 ?_;exact⟨s1,r1,e7,Y7,hl1,by show(Value.int .i64 0)= .int .i64 (pdo (⟨2,wh,4,vv⟩:L2) s1).2;rw[hx]⟩
set_option maxHeartbeats 1000000 in
theorem Hc0 {p:L4} {fb:Nat->FuncId} {q:PR (D4 p)} {w00:World} {i cb:Nat} {top:List Frame} {s:PS} {r:K5} {k:Nat} (wh vv:Int) (w0:World) (hE:H8 p w0 s r) (hc:c9 (D2 p fb q w00 i cb top) w0 (m4 (p.bo i) k s)) (ho:(p.bo i)[k]? =some (⟨3,wh,7,vv⟩:L2)) :
  @Calls prog (K0 (D2 p fb q w00 i cb top)) 39 #[.pointer (some ⟨p.tb,0,none⟩),.pointer (some ⟨cb,0,none⟩),.agg #[.int .i64 3,.int .i64 wh,.int .i64 7,.int .i64 vv]] w0 (X5 p fb q w00 i cb top k (⟨3,wh,7,vv⟩:L2) w0 fun v x=>v= .int .i64 x):=by
 letI:Ctx prog:=K0 (D2 p fb q w00 i cb top);refine U21 ?_;intro J8 Y5;refine L.box (cs:=#[.int .i64 3,.int .i64 wh,.int .i64 7,.int .i64 vv]) rfl rfl (fun w b5 F5=>?_);refine U23 ?_;intro E8 hE hc C3;refine L.va (G0 (cs:=[.int .i64 3,.int .i64 wh,.int .i64 7,.int .i64 vv]) rfl underlying52 rfl M1 rfl (C3.J1 rfl)) ?_;refine L.call (M0 rfl func15 rfl b9 rfl) (V4 (⟨3,wh,7,vv⟩:L2) w) ?_;rintro _ w ⟨rfl,I1⟩;refine U19 ?_;intro hE hc C3;refine U171 ?_;refine U93 ?_;refine U25 ?_;refine U405 ?_;refine U44 ?_;refine W.seq ?_;refine U74 ?_;refine U507 ?_;refine D.va (fun w' r3=>(C2 (i:=B1 (⟨3,wh,7,vv⟩:L2)) (n:=2) rfl rfl underlying66 ur0 (j1 _))) ?_;refine D.va (fun w' r3=>(F0 (v:=.pointer (some ⟨p.sb 3 (B1 (⟨3,wh,7,vv⟩:L2)),0,none⟩)) rfl underlying65 rfl (n5 (hE.E0 r3) (t:=3) (n:=B1 (⟨3,wh,7,vv⟩:L2)) (by decide) (by decide) (j1 _)))) ?_;refine U251 ?_;refine D.nil (fun w I1=>?_);refine U110 ?_;intro hE hc;clear I1;rw[m5 ho]at hc;have X4:=Lg0 hE.ok w hE hc ho rfl rfl;refine L.T3 rfl (L3 rfl rfl rfl func24 rfl Vd0 rfl) X4 ?_ ?_ (fun _ h=>h)
 rotate_left
 ·rintro ch u ⟨K6,hh⟩;exact⟨K6,hh.at (hc.os.trans J8.symm) (hc.output.trans Y5.symm)⟩
 rintro _ w ⟨s1,r1,e7,Y7,hl1,rfl⟩;exact U211
set_option maxHeartbeats 1000000 in
theorem Hd0 {p:L4} {fb:Nat->FuncId} {q:PR (D4 p)} {w00:World} {i cb:Nat} {top:List Frame} {s:PS} {r:K5} {k:Nat} (wh vv:Int) (w0:World) (hE:H8 p w0 s r) (hc:c9 (D2 p fb q w00 i cb top) w0 (m4 (p.bo i) k s)) (ho:(p.bo i)[k]? =some (⟨3,wh,5,vv⟩:L2)) :
  @Calls prog (K0 (D2 p fb q w00 i cb top)) 39 #[.pointer (some ⟨p.tb,0,none⟩),.pointer (some ⟨cb,0,none⟩),.agg #[.int .i64 3,.int .i64 wh,.int .i64 5,.int .i64 vv]] w0 (X5 p fb q w00 i cb top k (⟨3,wh,5,vv⟩:L2) w0 fun v x=>v= .int .i64 x):=by
 letI:Ctx prog:=K0 (D2 p fb q w00 i cb top);refine U21 ?_;intro J8 Y5;refine L.box (cs:=#[.int .i64 3,.int .i64 wh,.int .i64 5,.int .i64 vv]) rfl rfl (fun w b5 F5=>?_);refine U23 ?_;intro E8 hE hc C3;refine L.va (G0 (cs:=[.int .i64 3,.int .i64 wh,.int .i64 5,.int .i64 vv]) rfl underlying52 rfl M1 rfl (C3.J1 rfl)) ?_;refine L.call (M0 rfl func15 rfl b9 rfl) (V4 (⟨3,wh,5,vv⟩:L2) w) ?_;rintro _ w ⟨rfl,I1⟩;refine U19 ?_;intro hE hc C3;refine U171 ?_;refine U93 ?_;refine U509 ?_;refine U198 ?_;refine U549 ?_;refine L.va (C2 (i:=B1 (⟨3,wh,5,vv⟩:L2)) (n:=2) rfl rfl underlying66 ur0 (j1 _)) ?_;refine L.va (F0 (v:=.pointer (some ⟨p.sb 3 (B1 (⟨3,wh,5,vv⟩:L2)),0,none⟩)) rfl underlying65 rfl (n5 hE (t:=3) (n:=B1 (⟨3,wh,5,vv⟩:L2)) (by decide) (by decide) (j1 _))) ?_;refine L.va (Y2 rfl) ?_;rw[m5 ho]at hc;have X4:=Ld0 hE.ok w hE hc ho rfl rfl;refine L.T3 rfl (l3 rfl rfl func34 rfl Vl0 rfl) X4 ?_ ?_ (fun _ h=>h)
 rotate_left
 ·rintro ch u ⟨K6,hh⟩;exact⟨K6,hh.at (hc.os.trans J8.symm) (hc.output.trans Y5.symm)⟩
 rintro _ w ⟨s1,r1,e7,Y7,hl1,rfl⟩;exact U211
set_option maxHeartbeats 1000000 in
theorem He0 {p:L4} {fb:Nat->FuncId} {q:PR (D4 p)} {w00:World} {i cb:Nat} {top:List Frame} {s:PS} {r:K5} {k:Nat} (wh vv:Int) (w0:World) (hE:H8 p w0 s r) (hc:c9 (D2 p fb q w00 i cb top) w0 (m4 (p.bo i) k s)) (ho:(p.bo i)[k]? =some (⟨4,wh,5,vv⟩:L2)) :
  @Calls prog (K0 (D2 p fb q w00 i cb top)) 39 #[.pointer (some ⟨p.tb,0,none⟩),.pointer (some ⟨cb,0,none⟩),.agg #[.int .i64 4,.int .i64 wh,.int .i64 5,.int .i64 vv]] w0 (X5 p fb q w00 i cb top k (⟨4,wh,5,vv⟩:L2) w0 fun v x=>v= .int .i64 x):=by
 letI:Ctx prog:=K0 (D2 p fb q w00 i cb top);refine U21 ?_;intro J8 Y5;refine L.box (cs:=#[.int .i64 4,.int .i64 wh,.int .i64 5,.int .i64 vv]) rfl rfl (fun w b5 F5=>?_);refine U23 ?_;intro E8 hE hc C3;refine L.va (G0 (cs:=[.int .i64 4,.int .i64 wh,.int .i64 5,.int .i64 vv]) rfl underlying52 rfl M1 rfl (C3.J1 rfl)) ?_;refine L.call (M0 rfl func15 rfl b9 rfl) (V4 (⟨4,wh,5,vv⟩:L2) w) ?_;rintro _ w ⟨rfl,I1⟩;refine U19 ?_;intro hE hc C3;refine U174 ?_;refine U94 ?_;refine U513 ?_;refine U52 ?_;refine U550 ?_;refine L.va (C2 (i:=B1 (⟨4,wh,5,vv⟩:L2)) (n:=2) rfl rfl underlying68 us0 (j1 _)) ?_;refine L.va (F0 (v:=.pointer (some ⟨p.sb 4 (B1 (⟨4,wh,5,vv⟩:L2)),0,none⟩)) rfl underlying67 rfl (n5 hE (t:=4) (n:=B1 (⟨4,wh,5,vv⟩:L2)) (by decide) (by decide) (j1 _))) ?_;refine L.va (Y2 rfl) ?_;rw[m5 ho]at hc;have X4:=Lc0 hE.ok w hE hc ho rfl rfl;refine L.T3 rfl (l3 rfl rfl func29 rfl Vi0 rfl) X4 ?_ ?_ (fun _ h=>h)
 rotate_left
 ·rintro ch u ⟨K6,hh⟩;exact⟨K6,hh.at (hc.os.trans J8.symm) (hc.output.trans Y5.symm)⟩
 rintro _ w ⟨s1,r1,e7,Y7,hl1,rfl⟩;exact U211
set_option maxHeartbeats 1000000 in
theorem Hf0 {p:L4} {fb:Nat->FuncId} {q:PR (D4 p)} {w00:World} {i cb:Nat} {top:List Frame} {s:PS} {r:K5} {k:Nat} (wh vv:Int) (w0:World) (hE:H8 p w0 s r) (hc:c9 (D2 p fb q w00 i cb top) w0 (m4 (p.bo i) k s)) (ho:(p.bo i)[k]? =some (⟨4,wh,6,vv⟩:L2)) :
  @Calls prog (K0 (D2 p fb q w00 i cb top)) 39 #[.pointer (some ⟨p.tb,0,none⟩),.pointer (some ⟨cb,0,none⟩),.agg #[.int .i64 4,.int .i64 wh,.int .i64 6,.int .i64 vv]] w0 (X5 p fb q w00 i cb top k (⟨4,wh,6,vv⟩:L2) w0 fun v x=>v= .int .i64 x):=by
 letI:Ctx prog:=K0 (D2 p fb q w00 i cb top);refine U21 ?_;intro J8 Y5;refine L.box (cs:=#[.int .i64 4,.int .i64 wh,.int .i64 6,.int .i64 vv]) rfl rfl (fun w b5 F5=>?_);refine U23 ?_;intro E8 hE hc C3;refine L.va (G0 (cs:=[.int .i64 4,.int .i64 wh,.int .i64 6,.int .i64 vv]) rfl underlying52 rfl M1 rfl (C3.J1 rfl)) ?_;refine L.call (M0 rfl func15 rfl b9 rfl) (V4 (⟨4,wh,6,vv⟩:L2) w) ?_;rintro _ w ⟨rfl,I1⟩;refine U19 ?_;intro hE hc C3;refine U174 ?_;refine U94 ?_;refine U25 ?_;refine U402 ?_;refine U120 ?_;refine U74 ?_;refine U506 ?_;refine D.va (fun w' r3=>(C2 (i:=B1 (⟨4,wh,6,vv⟩:L2)) (n:=2) rfl rfl underlying68 us0 (j1 _))) ?_;refine D.va (fun w' r3=>(F0 (v:=.pointer (some ⟨p.sb 4 (B1 (⟨4,wh,6,vv⟩:L2)),0,none⟩)) rfl underlying67 rfl (n5 (hE.E0 r3) (t:=4) (n:=B1 (⟨4,wh,6,vv⟩:L2)) (by decide) (by decide) (j1 _)))) ?_;refine U251 ?_;refine D.nil (fun w I1=>?_);refine U110 ?_;intro hE hc;clear I1;rw[m5 ho]at hc;have X4:=Lf0 hE.ok w hE hc ho rfl rfl;refine L.T3 rfl (L3 rfl rfl rfl func26 rfl Vf0 rfl) X4 ?_ ?_ (fun _ h=>h)
 rotate_left
 ·rintro ch u ⟨K6,hh⟩;exact⟨K6,hh.at (hc.os.trans J8.symm) (hc.output.trans Y5.symm)⟩
 rintro _ w ⟨s1,r1,e7,Y7,hl1,rfl,hx⟩;refine U210 ?_;refine U10 ?_;exact⟨s1,r1,e7,Y7,hl1,by show(Value.int .i64 0)= .int .i64 (pdo (⟨4,wh,6,vv⟩:L2) s1).2;rw[hx]⟩
set_option maxHeartbeats 1000000 in
theorem Hg0 {p:L4} {fb:Nat->FuncId} {q:PR (D4 p)} {w00:World} {i cb:Nat} {top:List Frame} {s:PS} {r:K5} {k:Nat} (wh vv:Int) (w0:World) (hE:H8 p w0 s r) (hc:c9 (D2 p fb q w00 i cb top) w0 (m4 (p.bo i) k s)) (ho:(p.bo i)[k]? =some (⟨5,wh,8,vv⟩:L2)) :
  @Calls prog (K0 (D2 p fb q w00 i cb top)) 39 #[.pointer (some ⟨p.tb,0,none⟩),.pointer (some ⟨cb,0,none⟩),.agg #[.int .i64 5,.int .i64 wh,.int .i64 8,.int .i64 vv]] w0 (X5 p fb q w00 i cb top k (⟨5,wh,8,vv⟩:L2) w0 fun v x=>v= .int .i64 x):=by
 letI:Ctx prog:=K0 (D2 p fb q w00 i cb top);refine U21 ?_;intro J8 Y5;refine L.box (cs:=#[.int .i64 5,.int .i64 wh,.int .i64 8,.int .i64 vv]) rfl rfl (fun w b5 F5=>?_);refine U23 ?_;intro E8 hE hc C3;refine L.va (G0 (cs:=[.int .i64 5,.int .i64 wh,.int .i64 8,.int .i64 vv]) rfl underlying52 rfl M1 rfl (C3.J1 rfl)) ?_;refine L.call (M0 rfl func15 rfl b9 rfl) (V4 (⟨5,wh,8,vv⟩:L2) w) ?_;rintro _ w ⟨rfl,I1⟩;refine U19 ?_;intro hE hc C3;refine U172 ?_;refine U175 ?_;refine U8 ?_;refine U176 ?_;refine U177 ?_;refine U178 ?_;refine U179 ?_;refine U25 ?_;refine U406 ?_;refine U52 ?_;refine U551 ?_;refine L.va (C2 (i:=B1 (⟨5,wh,8,vv⟩:L2)) (n:=2) rfl rfl underlying70 ut0 (j1 _)) ?_;refine L.va (F0 (v:=.pointer (some ⟨p.sb 5 (B1 (⟨5,wh,8,vv⟩:L2)),0,none⟩)) rfl underlying69 rfl (n5 hE (t:=5) (n:=B1 (⟨5,wh,8,vv⟩:L2)) (by decide) (by decide) (j1 _))) ?_;refine L.va (Y2 rfl) ?_;rw[m5 ho]at hc;have X4:=Lb0 hE.ok w hE hc ho rfl rfl;refine L.T3 rfl (l3 rfl rfl func22 rfl Vb0 rfl) X4 ?_ ?_ (fun _ h=>h)
 rotate_left
 ·rintro ch u ⟨K6,hh⟩;exact⟨K6,hh.at (hc.os.trans J8.symm) (hc.output.trans Y5.symm)⟩
 rintro _ w ⟨s1,r1,e7,Y7,hl1,rfl⟩;exact U211
set_option maxHeartbeats 1000000 in
theorem Hh0 {p:L4} {fb:Nat->FuncId} {q:PR (D4 p)} {w00:World} {i cb:Nat} {top:List Frame} {s:PS} {r:K5} {k:Nat} (wh vv:Int) (w0:World) (hE:H8 p w0 s r) (hc:c9 (D2 p fb q w00 i cb top) w0 (m4 (p.bo i) k s)) (ho:(p.bo i)[k]? =some (⟨5,wh,9,vv⟩:L2)) :
  @Calls prog (K0 (D2 p fb q w00 i cb top)) 39 #[.pointer (some ⟨p.tb,0,none⟩),.pointer (some ⟨cb,0,none⟩),.agg #[.int .i64 5,.int .i64 wh,.int .i64 9,.int .i64 vv]] w0 (X5 p fb q w00 i cb top k (⟨5,wh,9,vv⟩:L2) w0 fun v x=>v= .int .i64 x):=by
 letI:Ctx prog:=K0 (D2 p fb q w00 i cb top);refine U21 ?_;intro J8 Y5;refine L.box (cs:=#[.int .i64 5,.int .i64 wh,.int .i64 9,.int .i64 vv]) rfl rfl (fun w b5 F5=>?_);refine U23 ?_;intro E8 hE hc C3;refine L.va (G0 (cs:=[.int .i64 5,.int .i64 wh,.int .i64 9,.int .i64 vv]) rfl underlying52 rfl M1 rfl (C3.J1 rfl)) ?_;refine L.call (M0 rfl func15 rfl b9 rfl) (V4 (⟨5,wh,9,vv⟩:L2) w) ?_;rintro _ w ⟨rfl,I1⟩;refine U19 ?_;intro hE hc C3;refine U172 ?_;refine U175 ?_;refine U8 ?_;refine U176 ?_;refine U177 ?_;refine U178 ?_;refine U179 ?_;refine U25 ?_;refine U403 ?_;refine U120 ?_;refine U74 ?_;refine U508 ?_;refine D.va (fun w' r3=>(C2 (i:=B1 (⟨5,wh,9,vv⟩:L2)) (n:=2) rfl rfl underlying70 ut0 (j1 _))) ?_;refine D.va (fun w' r3=>(F0 (v:=.pointer (some ⟨p.sb 5 (B1 (⟨5,wh,9,vv⟩:L2)),0,none⟩)) rfl underlying69 rfl (n5 (hE.E0 r3) (t:=5) (n:=B1 (⟨5,wh,9,vv⟩:L2)) (by decide) (by decide) (j1 _)))) ?_;refine U251 ?_;refine D.nil (fun w I1=>?_);refine U110 ?_;intro hE hc;clear I1;rw[m5 ho]at hc;have X4:=Le0 hE.ok w hE hc ho rfl rfl;refine L.T3 rfl (L3 rfl rfl rfl func21 rfl Va0 rfl) X4 ?_ ?_ (fun _ h=>h)
 rotate_left
 ·rintro ch u ⟨K6,hh⟩;exact⟨K6,hh.at (hc.os.trans J8.symm) (hc.output.trans Y5.symm)⟩
 rintro _ w ⟨s1,r1,e7,Y7,hl1,rfl,hx⟩;refine U210 ?_;refine U10 ?_;exact⟨s1,r1,e7,Y7,hl1,by show(Value.int .i64 0)= .int .i64 (pdo (⟨5,wh,9,vv⟩:L2) s1).2;rw[hx]⟩
end Go.Vy.Sc
end
section
namespace Go.Vy
open Go Go.Yc Go.RowKit
open Go.Vc
theorem W.fp {P:Program} [Ctx P] {n:Nat} {id:Nat} {l:List Oper} {Q:Exit->Env->World->Prop} {e:Env} {w:World} (k:Nat) (ch aw:List Nat) (os:List Nat) (PQ:List PanicEntry->World->Prop) (K:World->Prop) (hm:P.follows .mixedOrders=true) (hB:zi0 n l.toArray k=true) (hA:mv0 l k=true) (hk:Nat.ble k l.length=true) (hO:zh0 l k (fun i=>ch.contains i) os=true) (hal:Ug0 l os (fun i=>aw.contains i)=true)
  (hPQ:∀c w e,PQ c w->Q (.panic c) e w) (hK:K w.drew) (h:FP P n l PQ (fun i=>ch.contains i) (fun i=>aw.contains i) (fun e' w'=>L P n l.toArray Q (l.drop k) e' w') os K e w.drew):W P n (.region id l.toArray true) Q e w:=by
 intro a ha;refine wp_region_draw fun t=>?_;simp only[Region.schedule,hm,Bool.true_or,if_true];have H6:=si0 l.toArray l.toArray.size t (Array.replicate l.toArray.size false) (by simp) (by simp);unfold Region.linearise;generalize Region.linearise.go .any l.toArray l.toArray.size t (Array.replicate l.toArray.size false) []=σ at H6⊢;exact Mq0 (zj0 hB) hA (Nat.le_of_ble_eq_true hk) (uf0 (cq0 H6) (fun p hp=>by cases hp) hO) (Ji0 (cq0 H6) hal) H6 (cq0 H6) hPQ hK h ha
end Go.Vy
end
section
namespace Go.Vy.Sc
open Go Go.Conc Go.Yc Go.RowKit Go.Proofs Go.Proofs.YtnifpkopeheodaaGreat Tryz
open Go.Vc Go.Wg
theorem Rl0 {p:L4} {fb:Nat->FuncId} {q:PR (D4 p)} {w00:World} {i cb:Nat} {top:List Frame} {s:PS} {r:K5} {k:Nat} {o:L2} (w0:World) (hE:H8 p w0 s r) (hc:c9 (D2 p fb q w00 i cb top) w0 (m4 (p.bo i) k s)) (ho:(p.bo i)[k]? =some o) :
  @Calls prog (K0 (D2 p fb q w00 i cb top)) 39 #[.pointer (some ⟨p.tb,0,none⟩),.pointer (some ⟨cb,0,none⟩),.agg #[.int .i64 o.z5,.int .i64 o.ga0,.int .i64 o.call,.int .i64 o.val]] w0 (X5 p fb q w00 i cb top k o w0 fun v x=>v= .int .i64 x):=by
 have hk:=hE.ok.ops i o (List.mem_of_getElem? ho);obtain⟨th,wh,ca,vv⟩:=o;rcases hk with⟨h,h2|h2⟩|⟨h,h2|h2|h2|h2⟩|⟨h,h2|h2⟩|⟨h,h2|h2⟩|⟨h,h2|h2⟩ <;> simp only at h h2 <;> subst h <;> subst h2
 ·exact Gw0 wh vv w0 hE hc ho
 ·exact Gx0 wh vv w0 hE hc ho
 ·exact Gy0 wh vv w0 hE hc ho
 ·exact Gz0 wh vv w0 hE hc ho
 ·exact Ha0 wh vv w0 hE hc ho
 ·exact Hb0 wh vv w0 hE hc ho
 ·exact Hd0 wh vv w0 hE hc ho
 ·exact Hc0 wh vv w0 hE hc ho
 ·exact He0 wh vv w0 hE hc ho
 ·exact Hf0 wh vv w0 hE hc ho
 ·exact Hg0 wh vv w0 hE hc ho
 ·exact Hh0 wh vv w0 hE hc ho
structure gz0 (w:World) (oa:Option Addr) (ops:List L2):Prop where
 sl:SL oa ops.length
 cell:∀(k:Nat) (o:L2),ops[k]? =some o->∀(j:Nat) (v:Value),(Yf0 o)[j]? =some v->w.cell? ⟨ab oa,ao oa+k*4+j,none⟩=some v
theorem gz0.E0 {w w':World} {oa:Option Addr} {ops:List L2} (h:gz0 w oa ops) (hb:Below w.heap.size w w'):gz0 w' oa ops:=⟨h.sl,fun k o ho j v hj=>dl0 (h.cell k o ho j v hj) hb⟩
structure nw0 (p:L4) (i ob bp tp:Nat) (oa:Option Addr) (oc:Nat):Prop where
 rob:p.RO ob
 rbp:p.RO bp
 rtp:p.RO tp
 roa:0<(p.bo i).length->p.RO (ab oa)
 hob:S0 p.wI ob #[.slice oa (p.bo i).length oc] 50
 hbp:S0 p.wI bp #[.pointer (some ⟨p.tb,0,none⟩)] 54
 htp:S0 p.wI tp #[.slice (some ⟨p.lgb,0,none⟩) p.m p.m] 31
 ops:gz0 p.wI oa (p.bo i)
 len:(p.bo i).length <=100000
section
variable {p:L4}{w:World}{s:PS}{r:K5}{i ob bp tp oc:Nat}{oa:Option Addr}
theorem nw0.ob_ (h:nw0 p i ob bp tp oa oc) (hE:H8 p w s r):S0 w ob #[.slice oa (p.bo i).length oc] 50:=(hE.mem.ro ob h.rob).trans h.hob
theorem nw0.bp_ (h:nw0 p i ob bp tp oa oc) (hE:H8 p w s r):S0 w bp #[.pointer (some ⟨p.tb,0,none⟩)] 54:=(hE.mem.ro bp h.rbp).trans h.hbp
theorem nw0.tp_ (h:nw0 p i ob bp tp oa oc) (hE:H8 p w s r):S0 w tp #[.slice (some ⟨p.lgb,0,none⟩) p.m p.m] 31:=(hE.mem.ro tp h.rtp).trans h.htp
theorem nw0.cz1 (h:nw0 p i ob bp tp oa oc) (hE:H8 p w s r):gz0 w oa (p.bo i):=⟨h.ops.sl,fun k o ho j v hj=>by
 have hl:0<(p.bo i).length:=by have:=(List.getElem?_eq_some_iff.1 ho).1;omega
 rw[(p5 (u:=p.wI) (u':=w) (a:=⟨ab oa,ao oa+k*4+j,none⟩) (hE.mem.ro _ (h.roa hl))).1];exact h.ops.cell k o ho j v hj⟩
end
theorem Bv0 {K:A8 prog} {f:FuncId} {args:Array Value} {u:World} (hf:K.Dv0=f) (h:@Calls prog (K0 K) f args u (fun e w=>∃F,K.ws0 w F e)):T7 K (G (Frame.enter prog f args .normal) K.top) u :=
 h (T7 K) rfl K.top fun _e _w' _fr he h3 h4=>.done (h3.trans hf.symm) h4 he.choose_spec
section
variable {p:L4}{w w2 w3:World}{s:PS}{r:K5}
abbrev Hi0 (l:List Int):List Value:=l.map (.int .i64 ·)
theorem H8.Rm0 (h:H8 p w s r) {i:Nat} (hi:i<p.m) {la':Option Addr} {lc':Nat} (a:Int)
  (hO:Own w2 p.B 2 1 la' ((s.O3 i).length+1) lc' (Hi0 (s.O3 i) ++ [.int .i64 a])) (hga:w.grownBy w2 (Value.ownBlock (.slice (r.la i) (s.O3 i).length (r.lc i)))) (hwh:la'≠none->(r.la i≠none/\ab la'=ab (r.la i))\/w.heap.size <=ab la')
  (hG:S0 w3 p.lgb (arr p.m fun j=>.slice (upN r.la i la' j) (upN s.O3 i (s.O3 i ++ [a]) j).length (upN r.lc i lc' j)) 45) (hg:w2.grownBy w3 (some p.lgb)):H8 p w3 (cx0 i (s,a)) ⟨upN r.la i la',upN r.lc i lc'⟩:=by
 obtain⟨hp,hr⟩:=h;have Yi0:=qx0 (hr.hL i hi);have stay:∀b,b<w.heap.size->b≠p.lgb->(r.la i≠none->b≠ab (r.la i))->w3.heap[b]? =w.heap[b]?:=fun b hb h1 h2=>
  (hg.block b (Nat.lt_of_lt_of_le hb hga.size) (fun e=>h1 (by cases e;rfl))).trans (hga.block b hb (by
   rw[Rj0 Yi0];split
   ·exact fun e=>by cases e
   ·rename_i D3;exact fun e=>h2 D3 (by cases e;rfl)))
 have hlG:p.lgb<w.heap.size:=(l4 hr.hG).lt;have hO3:Own w3 p.B 2 1 la' ((s.O3 i).length+1) lc' (Hi0 (s.O3 i) ++ [.int .i64 a]):=hO.grown hg (by
  cases ha:la' with
  |none=>rw[ha]at hO;intro e;have:=vn0 hO;omega
  |some x=>
   have D3:la'≠none:=by rw[ha];simp
   rcases hwh D3 with⟨z1,z2⟩|z
   ·have:ab (r.la i)≠p.lgb:=fun e=>Af0 (hr.hL i hi) hr.hG (by decide) z1 e.symm;rw[<- ha,z2];intro e;exact this (Option.some.inj e)
   ·rw[<- ha];intro e;have:ab la'=p.lgb:=Option.some.inj e;omega)
 refine⟨hp,⟨fun t n h1 h2 h3=>?_,hG,fun j hj=>?_,fun j k hj hk hjk h1 h2=>?_,fun b hb=>?_,hr.lG⟩⟩
 ·obtain⟨sa,hS⟩:=hr.hS t n h1 h2 h3;exact⟨sa,(stay _ (l4 hS).lt (S0.ne hS hr.hG (lh0 t).2.1) fun ha=>Af0 (hr.hL i hi) hS (lh0 t).2.2 ha).trans hS⟩
 ·show Own w3 p.B _ 1 (upN r.la i la' j) (upN s.O3 i (s.O3 i ++ [a]) j).length (upN r.lc i lc' j) ((upN s.O3 i (s.O3 i ++ [a]) j).map (.int .i64 ·));by_cases o3:j=i
  ·subst o3;rw[T4,T4,T4,List.length_append,List.map_append];exact hO3
  ·rw[w5 o3,w5 o3,w5 o3];refine Own.congr (hr.hL j hj) fun ha=>?_;obtain⟨cur,hc,_⟩:=(hr.hL j hj).row ha;exact stay _ (l4 hc).lt (S0.ne hc hr.hG (by decide)) (fun ha2=>hr.inj j i hj hi o3 ha ha2)
 ·have h1:upN r.la i la' j≠none:=h1;have h2:upN r.la i la' k≠none:=h2;show ab (upN r.la i la' j)≠ab (upN r.la i la' k);have key:∀j,j<p.m->j≠i->r.la j≠none->la'≠none->ab (r.la j)≠ab la':=fun j hj o3 ha hb e=>by
   rcases hwh hb with⟨z1,z2⟩|z
   ·exact hr.inj j i hj hi o3 ha z1 (e.trans z2)
   ·have:=(hr.hL j hj).lt ha;omega
  by_cases e1:j=i
  ·have e2:k≠i:=fun e=>hjk (e1.trans e.symm);rw[e1,T4]at h1⊢;rw[w5 e2]at h2⊢;exact fun e=>key k hk e2 h2 h1 e.symm
  ·rw[w5 e1]at h1⊢;by_cases e2:k=i
   ·rw[e2,T4]at h2⊢;exact key j hj e1 h1 h2
   ·rw[w5 e2]at h2⊢;exact hr.inj j k hj hk hjk h1 h2
 ·have ho:=hr.Yg0 hp hb;exact(stay b (hr.vis hp (.inr (.inr (.inr hb)))).1 ho.2.1 (fun ha=>ho.2.2 i hi ha)).trans (hr.ro b hb)
theorem H8.B (h:H8 p w s r):p.B <=w.heap.size:=Nat.le_trans h.mem.lG (Nat.le_of_lt (l4 h.mem.hG).lt)
end
theorem Hj0 {N i lc':Nat} {la':Option Addr} {r:K5} {lg:Nat->List Int} (a:Int):setRow (arr N fun j=>.slice (r.la j) (lg j).length (r.lc j)) (0+i*1) [.slice la' ((lg i).length+1) lc']=arr N fun j=>.slice (upN r.la i la' j) (upN lg i (lg i ++ [a]) j).length (upN r.lc i lc' j):=by
 rw[Nat.zero_add,Nat.mul_one,vo0];refine Bb0 fun j _=>?_;by_cases h:j=i
 ·subst h;rw[if_pos rfl,T4,T4,T4,List.length_append,List.length_singleton]
 ·rw[if_neg h,w5 h,w5 h,w5 h]
theorem Rn0 {p:L4} {fb:Nat->FuncId} {q:PR (D4 p)} {w00:World} {i cb:Nat} {top:List Frame} {sI:PS} {rI:K5} {ob bp tp oc:Nat} {oa:Option Addr} (hD:nw0 p i ob bp tp oa oc) (him:i<p.m) (w0:World) (hE:H8 p w0 sI rI) (hc:c9 (D2 p fb q w00 i cb top) w0 (m4 (p.bo i) 0 sI)) :
  @Calls prog (K0 (D2 p fb q w00 i cb top)) 46 #[.pointer (some ⟨cb,0,none⟩),.pointer (some ⟨ob,0,none⟩),.pointer (some ⟨bp,0,none⟩),.pointer (some ⟨tp,0,none⟩)] w0 (fun e u=>∃F',(D2 p fb q w00 i cb top).ws0 u F' e):=by
 letI:Ctx prog:=K0 (D2 p fb q w00 i cb top);refine Calls.O5 (n:=32) func46 rfl rfl ?_;have hlen:=hD.len;refine U542 ?_;refine W.loop (fun k e w=>∃j:Nat,∃s:PS,∃r:K5,k=(p.bo i).length-j/\e 0= .p cb/\e 1= .pointer (some ⟨ob,0,none⟩)/\e 2= .pointer (some ⟨bp,0,none⟩)/\e 3= .pointer (some ⟨tp,0,none⟩)/\e 5= .int .i64 (j:Nat)/\H8 p w s r/\c9 (D2 p fb q w00 i cb top) w (m4 (p.bo i) j s)/\j <=(p.bo i).length) _ ⟨0,sI,rI,rfl,rfl,rfl,rfl,rfl,rfl,hE,hc,Nat.zero_le _⟩ ?_;rintro k e w ⟨j,s,r,hk,s0,s1,s2,s3,s5,hE,hc,hjn⟩;rw[S2 s0,S2 s1,S2 s2,S2 s3,S2 s5];clear s0 s1 s2 s3 s5;have hOb:=hD.ob_ hE;have hBp:=hD.bp_ hE;have hTp:=hD.tp_ hE;have Ro0:=hD.cz1 hE;refine W.seq ?_;refine U100 ?_;refine L.va (F0 rfl underlying50 rfl (hOb.A0 0 (v:=.slice oa ((p.bo i).length) oc) rfl)) ?_;refine L.va (O8 rfl underlying50 rfl) ?_;refine L.va (cm0 rfl rfl) ?_;refine U7 ?_;refine W.fh0 rfl (fun h10=>?_) (fun h10=>?_)
 ·refine W.skip ?_;refine U323 ?_;refine W.seq ?_;obtain⟨o,ho⟩:∃o,(p.bo i)[j]? =some o:=⟨_,List.getElem?_eq_getElem (by omega)⟩
  refine W.fk0 6 (fun w'=>Below w.heap.size w w') (by kernel_rfl) (by kernel_rfl) (by kernel_rfl) (by kernel_rfl) ((Below.refl w.heap.size w).drew) ?_;refine D.va (fun w' r3=>(F0 rfl underlying54 rfl ((hBp.E0 r3).A0 0 (v:=.p p.tb) rfl))) ?_;refine D.va (fun w' r3=>(Y2 rfl)) ?_;refine D.va (fun w' r3=>(F0 rfl underlying50 rfl ((hOb.E0 r3).A0 0 (v:=.slice oa ((p.bo i).length) oc) rfl))) ?_;refine D.va (fun w' r3=>(T5 rfl)) ?_;refine D.va (fun w' r3=>(ay0 (i:=j) rfl rfl underlying50 M1 Ro0.sl (by omega))) ?_;refine D.va (fun w' r3=>(G0 (cs:=Yf0 o) rfl underlying52 rfl M1 rfl (fun q v hq=>(Ro0.E0 r3).cell j o ho q v hq))) ?_;refine D.nil (fun w I1=>?_);refine U110 ?_;intro hE hc;clear I1;have X4:=Rl0 w hE hc ho;refine L.T3 rfl (L3 rfl rfl rfl func39 rfl go0 rfl) X4 ?_ ?_ (fun _ h=>h)
  rotate_left
  ·rintro ch u ⟨K6,hh⟩;exact hh.done (Sys.kok (gc0 hE.ok)) K6 hc.os hc.output
  rintro _ w ⟨s1,r1,e7,Y7,hl1,hv⟩;obtain⟨z,hz⟩:∃z,z=pdo o s1:=⟨_,rfl⟩
  rw[<- hz]at e7 Y7 hv;have hl:(z.1.O3 i).length=j:=by rw[hz,lg0];exact hl1
  subst hv;clear X4 hE hc hOb hBp Ro0 hTp hl1 hz;have hE:=e7;have hc:=Y7;clear e7 Y7;have hTp:=hD.tp_ hE;refine U34 ?_;have hG:=hE.mem.hG;have hT:=hE.mem.hL i him;have Yi0:=qx0 hT;refine W.fp 11 [9,10] [] [0,1,2,3,4,5,6,7,8,9,10] (fun ch u=>∃F',(D2 p fb q w00 i cb top).ws0 u F' (.panicked ch)) (fun w'=>S0 w' tp #[.slice (some ⟨p.lgb,0,none⟩) p.m p.m] 31/\S0 w' p.lgb (arr p.m fun j=>.slice (r1.la j) (z.1.O3 j).length (r1.lc j)) 45) (by kernel_rfl) (by kernel_rfl) (by kernel_rfl) (by kernel_rfl) (by kernel_rfl) (by kernel_rfl) (fun _ _ _ h=>h) (⟨hTp.E0 (Below.refl w.heap.size w).drew,hG.E0 (Below.refl w.heap.size w).drew⟩) ?_;have n6:Below w.heap.size w w.drew:=(Below.refl w.heap.size w).drew;have hE:=hE.E0 n6;have hc:=hc.E0 n6;have hTp:=hTp.E0 n6;have hG:=hG.E0 n6;have hT:=hT.E0 n6;clear n6;generalize w.drew=w at *;refine U463 ?_;refine U463 ?_;refine FP.va rfl rfl (fun w' r3=>ay0 (i:=i) rfl rfl underlying31 Pl0 (fun _=>rfl) him) ?_;refine FP.va rfl rfl (fun w' r3=>F0 (v:=.slice (r1.la i) (z.1.O3 i).length (r1.lc i)) rfl underlying45 rfl (by show World.cell? w' ⟨p.lgb,0+i*1,none⟩=_;rw[Nat.zero_add,Nat.mul_one];exact S0.A0 r3.2 i (jj0 him))) ?_;refine FP.va rfl rfl (fun w' r3=>(T5 rfl)) ?_;refine FP.doo rfl rfl ?_;refine L.kl0 (cs:=#[.int .i64 z.2]) rfl rfl underlying45 sz2 rfl ⟨_,zr2⟩ (by decide) (fun w b29 F29=>?_);have ea1:=Nat.le_refl w.heap.size;have eb1:r1.la i≠none->ab (r1.la i)≠b29:=fun h=>by have h8:=hT.lt h;have h9:=F29.here;omega
  have hE:=hE.E0 F29.below;have hc:=hc.E0 F29.below;have hTp:=hTp.E0 F29.below;have hG:=hG.E0 F29.below;have hT:=hT.E0 F29.below;have da1:=F29.blk;refine L.nil (.inl ⟨rfl,_,.inl rfl,⟨hTp,hG⟩,?_⟩);refine FP.doo rfl rfl ?_;refine L.sr0 (B:=p.B) (m:=1) rfl rfl underlying45 in2 rfl (by decide) hT (news:=[.int .i64 z.2]) rfl (fun q u hq=>?_) (fun u hu=>by simp at hu;rcases hu with rfl;rfl) (by omega) (by omega) hE.B (fun la2 lc2 w2 hO2 hga hwh=>?_)
  ·rw[Addr.add_lit]
   match q,hq with
   |0,hq=>cases hq;exact da1.A0 0 rfl
  have hG:=S0.app hG hT hga (by decide);have hTp:=S0.app hTp hT hga (by decide);have hc:=hc.H5 hga trivial;rename_i ec1;refine L.nil (.inl ⟨rfl,_,.inl rfl,⟨hTp,hG⟩,?_⟩);refine FP.nil ?_;show L _ _ _ _ _ _ _;refine L.va (ay0 (i:=i) rfl rfl underlying31 Pl0 (fun _=>rfl) him) ?_;refine L.put (b:=p.lgb) (o:=0+i*1) (vs:=[.slice la2 ((z.1.O3 i).length+1) lc2]) _ rfl rfl rfl Pl0 rfl rfl hG (by rw[cn0];omega) (Hj0 z.2) (fun w D1 hg n2=>?_);have hE2:=hE.Rm0 him z.2 hO2 hga hwh D1 hg;have hc:=hc.H5 hg trivial;clear hE hG D1 hTp;refine L.nil ?_;refine U75 ?_;refine L.va (ke0 rfl rfl (by omega)) ?_;refine U225 ?_;exact⟨_,by omega,⟨j+1,_,_,rfl,rfl,rfl,rfl,rfl,rfl,hE2,hc,by omega⟩⟩
 ·refine W.exit ?_;refine U102 ?_;refine U69 ?_;rw[xq0 (by omega)]at hc;exact hE.done hc
end Go.Vy.Sc
end
section
namespace Go.Vy
open Go Go.Conc Go.Yc
open Go.Vc (Env upd m3 ev)
open Go.RowKit Go.Proofs
section
variable {P:Program}{ρ:Operand->Value}{d:Option Nat}{ty:TypeId}{ps:String}{af:Array Edge}{g:Option (Nat×Bool)}{x y:Operand}{w:World}
theorem _root_.Go.Vc.li0 {f:FuncId} {fn:Func} {aT:Array TypeId} {a:Addr} {k:IntKind} {z:Int} {u:Value} (hx:ρ x= .pointer (some a)) (hy:ρ y= .int k z) (hf:P.funcs[f]? =some fn) (O2:(fn.name== "runtime.NumGoroutine")=false) (hb:fn.body.isNone=true) (hn:Extern.findNext fn=none)
  (he:Extern.find fn=some Extern.Atomic.storeT) (hc:w.cell? a=some u) (hz:w.frozen? a=false) (hρ:ρ (.func f)= .func (.func f) #[] #[]) :
  (execOp ρ ⟨d,.call ⟨.value (.func f),#[x,y],aT⟩,ty,ps,af,g⟩).run P w= .ok (.value (.tuple #[])) (w.setCell a (.int k z)):=by
 have h1:(callFunc f #[.pointer (some a),.int k z]).run P w= .ok (.value (.tuple #[])) (w.setCell a (.int k z)):=by
  rw[run_callFunc_extern hf O2 hb hn he];change (Sem.run P (do
   store (<- asAddr (.pointer (some a))) (.int k z) .atomic
   pure Extern.Atomic.none_) w).andThen _=_
  simp[asAddr,hc,hz,run_store P w a (.int k z) .atomic rfl,Result.andThen,Extern.Atomic.none_]
 simp[execOp,resolve,hρ,Deferred.ofValue,invoke,hx,hy,h1]
theorem li0 {f:FuncId} {fn:Func} {aT:Array TypeId} {a:Addr} {k:IntKind} {z:Int} {u:Value} (hx:ρ x= .pointer (some a)) (hy:ρ y= .int k z) (hf:P.funcs[f]? =some fn) (O2:(fn.name== "runtime.NumGoroutine")=false) (hb:fn.body.isNone=true) (hn:Extern.findNext fn=none)
  (he:Extern.find fn=some Extern.Atomic.storeT) (hc:w.cell? a=some u) (hz:w.frozen? a=false) (hρ:ρ (.func f)= .func (.func f) #[] #[]) :
  Does P (execOp ρ ⟨d,.call ⟨.value (.func f),#[x,y],aT⟩,ty,ps,af,g⟩) w (.val (.tuple #[])) (w.setCell a (.int k z)) :=
 .A1 (by
  show E1 P (do let d <- Deferred.ofValue (ρ (.func f)) (#[x,y].map ρ);invoke d.target d.args);rw[hρ];refine U493 ?_;have e1:(#[] ++ #[x,y].map ρ ++ #[]:Array Value)=#[.pointer (some a),.int k z]:=by simp[hx,hy]
  rw[e1];show E1 P (do store (<- asAddr (.pointer (some a))) (.int k z) .atomic;pure Extern.Atomic.none_);exact N1 (ez0 _) fun b=>N1 (sb0 _ _ _) fun _=>S1 _) rfl rfl fun τ dd=>Go.Vc.li0 hx hy hf O2 hb hn he hc hz hρ
end
end Go.Vy
namespace Go.Vy.Sc
open Go Go.Conc Go.Yc Go.RowKit Go.Proofs Go.Proofs.YtnifpkopeheodaaGreat Tryz
open Go.Vc Go.Wg
theorem exI:Extern.find Tryz.f107=some Extern.Atomic.storeT:=by kernel_rfl
theorem enI:Extern.findNext Tryz.f107=none:=by kernel_rfl
theorem exS:Extern.find Tryz.f85=some Extern.Atomic.storeT:=by kernel_rfl
theorem enS:Extern.findNext Tryz.f85=none:=by kernel_rfl
theorem nzN:(prog.info? 2).map (fun i=>decide (i.size=0))=some false:=by kernel_rfl
theorem buM (x:Option Addr):prog.built 113 [(0,.iface 193 (.pointer x))]=some #[.iface 193 (.pointer x)]:=by kernel_rfl
theorem buR (x:Option Addr):prog.built 125 [(0,.iface 193 (.pointer x))]=some #[.iface 193 (.pointer x)]:=by kernel_rfl
section
variable [Ctx prog]
end
section
theorem Rp0:prog.built 105 []=some #[.bool false]:=by kernel_rfl
theorem Rq0 (x0:Bool):prog.built 105 [(0,.bool x0)]=some #[.bool x0]:=by kernel_rfl
theorem xu0 (x0:Int) (x1:Int):prog.built 107 [(0,.int .i64 x0),(1,.int .i64 x1)]=some #[.int .i64 x0,.int .i64 x1]:=by kernel_rfl
theorem Rr0 (x0:Int) (x1:Int):prog.built 195 [(0,.agg #[.int .i64 x0,.int .i64 x1])]=some #[.int .i64 x0,.int .i64 x1,.bool false,.int .i64 0]:=by kernel_rfl
theorem Rs0 (x0:Int) (x1:Int) (x2:Option Addr) (x3:Int):prog.built 123 [(0,.agg #[.int .i64 x0,.int .i64 x1]),(1,.pointer x2),(2,.int .i64 x3)]=some #[.int .i64 x0,.int .i64 x1,.pointer x2,.int .i64 x3,.int .i64 0]:=by kernel_rfl
theorem Rt0 (x0:Int) (x1:Int) (x2:Option Addr) (x3:Int):prog.built 132 [(0,.agg #[.int .i64 x0,.int .i64 x1]),(1,.pointer x2),(2,.int .i64 x3)]=some #[.int .i64 x0,.int .i64 x1,.pointer x2,.int .i64 x3,.pointer none]:=by kernel_rfl
theorem Ru0 (x0:Int) (x1:Int) (x2:Option Addr) (x3:Int):prog.built 115 [(0,.agg #[.int .i64 x0,.int .i64 x1]),(1,.pointer x2),(2,.int .i64 x3)]=some #[.int .i64 x0,.int .i64 x1,.pointer x2,.int .i64 x3]:=by kernel_rfl
theorem Rv0:prog.built 72 []=some #[.pointer none,.pointer none,.pointer none,.pointer none,.pointer none,.pointer none,.pointer none,.pointer none,.pointer none,.pointer none]:=by kernel_rfl
end
section
variable [Ctx prog]
theorem ip0 (w0:World):C prog 36 #[] w0 fun v w=>∃wb,v= .pointer (some ⟨wb,0,none⟩)/\w0.heap.size <=wb/\S0 w wb #[.bool false] 105/\Below w0.heap.size w0 w:=by
 refine C.enter (n:=3) func36 rfl rfl ?_;refine U3 ?_;intro hb;refine U27 ?_;refine L.va (V0 (parts:=[]) rfl Rp0) ?_;refine L.box (cs:=#[.bool false]) rfl rfl (fun w b2 F2=>?_);refine U11 ?_;intro lt2 hb;have g6:=F2.blk;exact U301
theorem Hk0 (w0:World):C prog 17 #[] w0 fun v w=>∃wb,v= .pointer (some ⟨wb,0,none⟩)/\w0.heap.size <=wb/\S0 w wb #[.bool true] 105/\Below w0.heap.size w0 w:=by
 refine C.enter (n:=3) func17 rfl rfl ?_;refine U3 ?_;intro hb;refine U27 ?_;refine L.va (V0 (parts:=[(0,.const (.bool true))]) rfl (Rq0 true)) ?_;refine L.box (cs:=#[.bool true]) rfl rfl (fun w b2 F2=>?_);refine U11 ?_;intro lt2 hb;have g6:=F2.blk;exact U301
theorem Bw0 (wb:Nat) (obj num:Int) (w0:World) (hW:S0 w0 wb #[.bool false] 105):C prog 81 #[.pointer (some ⟨wb,0,none⟩),.int .i64 obj,.int .i64 num] w0 fun v w=>∃sb,v= .iface 193 (.pointer (some ⟨sb,0,none⟩))/\w0.heap.size <=sb/\S0 w sb #[.int .i64 obj,.int .i64 num,.bool false,.int .i64 0] 195/\Below w0.heap.size w0 w:=by
 refine C.enter (n:=18) func81 rfl rfl ?_;refine U3 ?_;intro hb;refine L.va cl0 ?_;refine U33 ?_;refine L.va (Y2 rfl) ?_;refine L.call (M0 rfl func44 rfl su0 rfl) (fx0 wb _ hW) ?_;rintro _ w1 ⟨rfl,hw⟩;refine U28 ?_;refine U120 ?_;refine U71 ?_;refine L.va (V0 (parts:=[(0,.tmp 12),(1,.tmp 13)]) rfl (xu0 obj num)) ?_;refine L.va (V0 (parts:=[(0,.tmp 14)]) rfl (Rr0 obj num)) ?_;refine L.box (cs:=#[.int .i64 obj,.int .i64 num,.bool false,.int .i64 0]) rfl rfl (fun w b16 F16=>?_);have xv0:=F16.lq hb.size;have hb:=N0 hb F16.below;have lj0:=F16.blk;refine L.va (q8 (v:=.pointer (some ⟨b16,0,none⟩)) rfl underlying193 rfl) ?_;refine L.va cl0 ?_;refine U7 ?_;refine U73 ?_;exact⟨b16,rfl,xv0,lj0,hb⟩
theorem vq0 (wb:Nat) (obj num:Int) (w0:World) (hW:S0 w0 wb #[.bool false] 105):C prog 51 #[.pointer (some ⟨wb,0,none⟩),.int .i64 obj,.int .i64 num] w0 fun v w=>∃mb sb,v= .pointer (some ⟨mb,0,none⟩)/\w0.heap.size <=mb/\w0.heap.size <=sb/\S0 w mb #[.iface 193 (.pointer (some ⟨sb,0,none⟩))] 113/\S0 w sb #[.int .i64 obj,.int .i64 num,.bool false,.int .i64 0] 195/\Below w0.heap.size w0 w:=by
 refine C.enter (n:=13) func51 rfl rfl ?_;refine U3 ?_;intro hb;refine U27 ?_;refine U45 ?_;refine U455 ?_;rintro _ w ⟨sb,rfl,lts,hS,I1⟩;have lts:=Nat.le_trans hb.size lts;have hb:=N0 hb I1;refine L.va (V0 (vs:=[(0,(.iface 193 (.pointer (some ⟨sb,0,none⟩))))]) rfl (buM _)) ?_;refine L.box (cs:=#[(.iface 193 (.pointer (some ⟨sb,0,none⟩)))]) rfl rfl (fun w b12 F12=>?_);have Li0:=F12.lq hb.size;have hb:=N0 hb F12.below;have hS:=hS.E0 F12.below;have he0:=F12.blk;refine U115 ?_;exact⟨b12,sb,rfl,Li0,lts,he0,hS,hb⟩
theorem lk0 (wb:Nat) (obj num:Int) (w0:World) (hW:S0 w0 wb #[.bool false] 105):C prog 52 #[.pointer (some ⟨wb,0,none⟩),.int .i64 obj,.int .i64 num] w0 fun v w=>∃mb sb,v= .pointer (some ⟨mb,0,none⟩)/\w0.heap.size <=mb/\w0.heap.size <=sb/\S0 w mb #[.iface 193 (.pointer (some ⟨sb,0,none⟩))] 125/\S0 w sb #[.int .i64 obj,.int .i64 num,.bool false,.int .i64 0] 195/\Below w0.heap.size w0 w:=by
 refine C.enter (n:=13) func52 rfl rfl ?_;refine U3 ?_;intro hb;refine U27 ?_;refine U45 ?_;refine U455 ?_;rintro _ w ⟨sb,rfl,lts,hS,I1⟩;have lts:=Nat.le_trans hb.size lts;have hb:=N0 hb I1;refine L.va (V0 (vs:=[(0,(.iface 193 (.pointer (some ⟨sb,0,none⟩))))]) rfl (buR _)) ?_;refine L.box (cs:=#[(.iface 193 (.pointer (some ⟨sb,0,none⟩)))]) rfl rfl (fun w b12 F12=>?_);have Li0:=F12.lq hb.size;have hb:=N0 hb F12.below;have hS:=hS.E0 F12.below;have he0:=F12.blk;refine U115 ?_;exact⟨b12,sb,rfl,Li0,lts,he0,hS,hb⟩
theorem Bx0 (cb:Nat) (a b c d e:Value) (x:Int) (w0:World) (hC:S0 w0 cb #[a,b,c,d,e] 123) :
  C prog 82 #[.pointer (some ⟨cb,4,none⟩),.int .i64 x] w0 fun _ w=>S0 w cb #[a,b,c,d,.int .i64 x] 123/\w0.grownBy w (some cb):=by
 refine C.enter (n:=9) func82 rfl rfl ?_;refine W.region rfl ?_;refine U24 ?_;refine L.va (O0 rfl underlying121 rfl sz2 (by decide)) ?_;refine L.va (T5 rfl) ?_;refine L.va (li0 (u:=e) rfl rfl func107 Wl0 rfl enI exI (hC.A0 4 rfl) hC.frozen rfl) ?_;refine U61 ?_;exact⟨hC.set (o:=4) (.int .i64 x),dz0 w0 ⟨cb,4,none⟩ _⟩
theorem By0 (cb lb:Nat) (a b c d e f:Value) (w0:World) (hC:S0 w0 cb #[a,b,c,d,e] 132) (hL:S0 w0 lb #[f] 2) :
  C prog 61 #[.pointer (some ⟨cb,4,none⟩),.pointer (some ⟨lb,0,none⟩)] w0 fun _ w=>S0 w cb #[a,b,c,d,.pointer (some ⟨lb,0,none⟩)] 132/\w0.grownBy w (some cb):=by
 refine C.enter (n:=10) func61 rfl rfl ?_;refine W.region rfl ?_;refine U24 ?_;refine L.va (O0 rfl underlying130 rfl Uw0 (by decide)) ?_;refine L.va (Y2 rfl) ?_;refine L.va (ee0 rfl underlying126 underlying128 nzN (hL.A0 0 (v:=f) rfl)) ?_;refine L.va (ki0 (u:=e) rfl rfl func85 bu1 rfl enS exS (hC.A0 4 rfl) hC.frozen rfl) ?_;refine U61 ?_;exact⟨hC.set (o:=4) (.pointer (some ⟨lb,0,none⟩)),dz0 w0 ⟨cb,4,none⟩ _⟩
theorem ll0 (wb:Nat) (obj num:Int) (x:Int) (w0:World) (hW:S0 w0 wb #[.bool false] 105):C prog 53 #[.pointer (some ⟨wb,0,none⟩),.int .i64 obj,.int .i64 num,.int .i64 x] w0 fun v w=>∃cb sa,v= .pointer (some ⟨cb,0,none⟩)/\w0.heap.size <=cb/\S0 w cb #[.int .i64 obj,.int .i64 num,.pointer (some ⟨wb,0,none⟩),.int .i64 x,sa] 123/\Below w0.heap.size w0 w:=by
 refine C.enter (n:=23) func53 rfl rfl ?_;refine U3 ?_;intro hb;refine U38 ?_;refine U497 ?_;refine U45 ?_;refine L.va (V0 (parts:=[(0,.tmp 12),(1,.tmp 13),(2,.tmp 14)]) rfl (Rs0 obj num ((some ⟨wb,0,none⟩)) x)) ?_;refine L.box (cs:=#[.int .i64 obj,.int .i64 num,.pointer (some ⟨wb,0,none⟩),.int .i64 x,.int .i64 0]) rfl rfl (fun w b16 F16=>?_);have xv0:=F16.lq hb.size;have hb:=N0 hb F16.below;have lj0:=F16.blk;refine U27 ?_;refine U24 ?_;refine L.va (O0 rfl underlying123 rfl Uv0 (by decide)) ?_;refine L.va (T5 rfl) ?_;refine L.call (l3 rfl rfl func82 rfl bt1 rfl) (Bx0 b16 _ _ _ _ _ x _ lj0) ?_;rintro _ w ⟨D1,hg⟩;have B5:=Q7.ef0 lj0 hg;have hb:=I4 hb hb.size hg xv0;have lj0:=D1;refine U59 ?_;refine U305 ?_;exact⟨b16,_,rfl,xv0,lj0,hb⟩
theorem rf0 (wb:Nat) (obj num:Int) (x:Int) (w0:World) (hW:S0 w0 wb #[.bool false] 105):C prog 54 #[.pointer (some ⟨wb,0,none⟩),.int .i64 obj,.int .i64 num,.int .i64 x] w0 fun v w=>∃cb sa,v= .pointer (some ⟨cb,0,none⟩)/\w0.heap.size <=cb/\S0 w cb #[.int .i64 obj,.int .i64 num,.pointer (some ⟨wb,0,none⟩),.int .i64 x,sa] 132/\Below w0.heap.size w0 w:=by
 refine C.enter (n:=22) func54 rfl rfl ?_;refine U3 ?_;intro hb;refine L.box (cs:=#[.int .i64 x]) rfl rfl (fun w b7 F7=>?_);have lt7:=F7.lq hb.size;have hb:=N0 hb F7.below;have hB7:=F7.blk;refine U38 ?_;refine U497 ?_;refine L.va (Y2 rfl) ?_;refine L.va (F0 rfl underlying2 rfl (hB7.A0 0 (v:=.int .i64 x) rfl)) ?_;refine L.va (V0 (parts:=[(0,.tmp 12),(1,.tmp 13),(2,.tmp 14)]) rfl (Rt0 obj num ((some ⟨wb,0,none⟩)) x)) ?_;refine L.box (cs:=#[.int .i64 obj,.int .i64 num,.pointer (some ⟨wb,0,none⟩),.int .i64 x,.pointer none]) rfl rfl (fun w b16 F16=>?_);have xv0:=F16.lq hb.size;have hb:=N0 hb F16.below;have hB7:=hB7.E0 F16.below;have lj0:=F16.blk;refine U27 ?_;refine U24 ?_;refine L.va (O0 rfl underlying132 rfl Ux0 (by decide)) ?_;refine L.call (l3 rfl rfl func61 rfl bj1 rfl) (By0 b16 b7 _ _ _ _ _ _ _ lj0 hB7) ?_;rintro _ w ⟨D1,hg⟩;have B5:=Q7.ef0 lj0 hg;have hb:=I4 hb hb.size hg xv0;have lj0:=D1;refine U59 ?_;refine U305 ?_;exact⟨b16,_,rfl,xv0,lj0,hb⟩
theorem Al0 (wb:Nat) (obj num:Int) (x:Int) (w0:World) (hW:S0 w0 wb #[.bool false] 105):C prog 55 #[.pointer (some ⟨wb,0,none⟩),.int .i64 obj,.int .i64 num,.int .i64 x] w0 fun v w=>∃cb,v= .pointer (some ⟨cb,0,none⟩)/\w0.heap.size <=cb/\S0 w cb #[.int .i64 obj,.int .i64 num,.pointer (some ⟨wb,0,none⟩),.int .i64 x] 115/\Below w0.heap.size w0 w:=by
 refine C.enter (n:=16) func55 rfl rfl ?_;refine U3 ?_;intro hb;refine U38 ?_;refine U71 ?_;refine L.va (V0 (parts:=[(0,.tmp 9),(1,.tmp 10)]) rfl (xu0 obj num)) ?_;refine U45 ?_;refine L.va (V0 (parts:=[(0,.tmp 11),(1,.tmp 12),(2,.tmp 13)]) rfl (Ru0 obj num ((some ⟨wb,0,none⟩)) x)) ?_;refine L.box (cs:=#[.int .i64 obj,.int .i64 num,.pointer (some ⟨wb,0,none⟩),.int .i64 x]) rfl rfl (fun w b15 F15=>?_);have Lj0:=F15.lq hb.size;have hb:=N0 hb F15.below;have xw0:=F15.blk;exact U294
structure bm0 (w:World) (B wb tb:Nat) (sb mb:Nat->Nat->Nat):Prop where
 hT:S0 w tb (arr 10 fun j=>.pointer (some ⟨if j/2+1 <=2 then mb (j/2+1) (j%2) else sb (j/2+1) (j%2),0,none⟩)) 72
 lT:B <=tb
 hM:∀t n,1 <=t->t <=2->n<2->S0 w (mb t n) #[.iface 193 (.pointer (some ⟨sb t n,0,none⟩))] (mty t)/\B <=mb t n
 hS:∀t n,1 <=t->t <=5->n<2->∃sa,S0 w (sb t n) (T6 wb ps0 t n sa) (tty t)
 lS:∀t n,1 <=t->t <=5->n<2->B <=sb t n
 inj:∀t n t' n',1 <=t->t <=5->n<2->1 <=t'->t' <=5->n'<2->sb t n=sb t' n'->t=t'/\n=n'
def sel (a0 a1 b0 b1 c0 c1 d0 d1 e0 e1:Nat) (t n:Nat):Nat:=match t with
 |1=>if n=0 then a0 else a1
 |2=>if n=0 then b0 else b1
 |3=>if n=0 then c0 else c1
 |4=>if n=0 then d0 else d1
 |_=>if n=0 then e0 else e1
omit [Ctx prog] in
theorem y3 {w:World} {b b':Nat} {cs S5:Array Value} {T T':TypeId} (h:S0 w b cs T) (h':S0 w b' S5 T') (hT:T≠T'):b≠b':=S0.ne h h' hT
omit [Ctx prog] in
set_option maxHeartbeats 4000000 in
theorem Rw0 (x10 x11 x20 x21 x30 x31 x40 x41 x50 x51:Nat) (ed1:x10≠x11) (ee1:x10≠x20) (ef1:x10≠x21) (eg1:x10≠x30) (eh1:x10≠x31) (ei1:x10≠x40) (ej1:x10≠x41) (ek1:x10≠x50) (el1:x10≠x51) (em1:x11≠x20) (en1:x11≠x21) (eo1:x11≠x30) (ep1:x11≠x31) (eq1:x11≠x40) (er1:x11≠x41) (es1:x11≠x50) (et1:x11≠x51) (eu1:x20≠x21) (ev1:x20≠x30) (ew1:x20≠x31) (ex1:x20≠x40) (ey1:x20≠x41) (ez1:x20≠x50) (fa1:x20≠x51) (fb1:x21≠x30) (fc1:x21≠x31) (fd1:x21≠x40) (fe1:x21≠x41) (ff1:x21≠x50) (fg1:x21≠x51) (fh1:x30≠x31) (fi1:x30≠x40) (fj1:x30≠x41) (fk1:x30≠x50) (fl1:x30≠x51) (fm1:x31≠x40) (fn1:x31≠x41) (fo1:x31≠x50) (fp1:x31≠x51) (fq1:x40≠x41) (fr1:x40≠x50) (fs1:x40≠x51) (ft1:x41≠x50) (fu1:x41≠x51) (fv1:x50≠x51):∀t n t' n',1 <=t->t <=5->n<2->1 <=t'->t' <=5->n'<2->sel x10 x11 x20 x21 x30 x31 x40 x41 x50 x51 t n=sel x10 x11 x20 x21 x30 x31 x40 x41 x50 x51 t' n'->t=t'/\n=n':=by
 intro t n t' n' h1 h2 h3 h4 h5 h6 he;obtain rfl|rfl|rfl|rfl|rfl:t=1\/t=2\/t=3\/t=4\/t=5:=by omega
 all_goals obtain rfl|rfl|rfl|rfl|rfl:t'=1\/t'=2\/t'=3\/t'=4\/t'=5:=by omega
 all_goals obtain rfl|rfl:n=0\/n=1:=by omega
 all_goals obtain rfl|rfl:n'=0\/n'=1:=by omega
 all_goals first|exact⟨rfl,rfl⟩|(exfalso;simp[sel]at he;first|exact absurd he (by assumption)|exact absurd he.symm (by assumption))
set_option maxHeartbeats 4000000 in
theorem Hl0 (wb:Nat) (w0:World) (hW:S0 w0 wb #[.bool false] 105):C prog 16 #[.pointer (some ⟨wb,0,none⟩)] w0 fun v w=>∃tb sb mb,v= .pointer (some ⟨tb,0,none⟩)/\bm0 w w0.heap.size wb tb sb mb/\Below w0.heap.size w0 w:=by
 refine C.enter (n:=52) func16 rfl rfl ?_;refine U3 ?_;intro hb;refine U27 ?_;refine L.va (V0 (parts:=[]) rfl Rv0) ?_;refine L.box (cs:=#[.pointer none,.pointer none,.pointer none,.pointer none,.pointer none,.pointer none,.pointer none,.pointer none,.pointer none,.pointer none]) rfl rfl (fun w b6 F6=>?_);have lt6:=F6.lq hb.size;have hb:=N0 hb F6.below;have hW:=hW.E0 F6.below;have V6:=F6.blk;refine U38 ?_;refine U80 ?_;refine U193 ?_;refine W.rounds 3 ?_;refine U149 ?_;refine L.va (B2 (r:=true) (by decide) (cm0 (m:=0) (k:=2) rfl rfl)) ?_;refine U150 ?_;refine W.seq ?_;refine U414 ?_;intro n6 hb hW V6;clear n6;generalize w.drew=w at *;refine U32 ?_;refine U467 ?_;refine L.call (L3 rfl rfl rfl func51 rfl Vq0 rfl) (vq0 wb 1 0 _ hW) ?_;rintro _ w ⟨m10,s10,rfl,db1,dc1,A5,P4,I1⟩;have Yj0:=Nat.le_trans hb.size db1;have Yk0:=Nat.le_trans hb.size dc1;refine U431 ?_;intro hb hW V6;refine L.nil ⟨rfl,trivial,?_⟩;refine U17 ?_;refine L.va (C2 (i:=0) (n:=2) rfl rfl underlying62 wv0 (by decide)) ?_;refine L.pu 0 [.pointer (some ⟨m10,0,none⟩)] #[.pointer (some ⟨m10,0,none⟩),.pointer none,.pointer none,.pointer none,.pointer none,.pointer none,.pointer none,.pointer none,.pointer none,.pointer none] wv0 V6 (fun w D1 hg n2=>?_);refine U42 ?_;intro B5 hb hW P4 A5;have V6:=D1;refine U95 ?_;refine U43 ?_;intro n6 hb hW V6 P4 A5;clear n6;generalize w.drew=w at *;refine U32 ?_;refine U468 ?_;refine L.call (L3 rfl rfl rfl func52 rfl Vr0 rfl) (lk0 wb 2 0 _ hW) ?_;rintro _ w ⟨m20,s20,rfl,dd1,Yl0,j5,K4,I1⟩;have Ym0:=Nat.le_trans hb.size dd1;have Yn0:=Nat.le_trans hb.size Yl0;have Rx0:s10≠s20:=Nat.ne_of_lt (Nat.lt_of_lt_of_le (l4 P4).lt Yl0);refine U54 ?_;intro hb hW V6 P4 A5;refine L.nil ⟨rfl,trivial,?_⟩;refine U17 ?_;refine L.va (C2 (i:=0) (n:=2) rfl rfl underlying64 st0 (by decide)) ?_;refine L.pu 2 [.pointer (some ⟨m20,0,none⟩)] #[.pointer (some ⟨m10,0,none⟩),.pointer none,.pointer (some ⟨m20,0,none⟩),.pointer none,.pointer none,.pointer none,.pointer none,.pointer none,.pointer none,.pointer none] st0 V6 (fun w D1 hg n2=>?_);refine U42 ?_;intro B5 hb hW P4 A5;refine U389 ?_;intro K4 j5;have V6:=D1;refine U95 ?_;refine U43 ?_;intro n6 hb hW V6 P4 A5;refine U458 ?_;intro K4 j5;clear n6;generalize w.drew=w at *;refine U32 ?_;refine U469 ?_;refine L.call (Y6 rfl rfl rfl rfl func53 rfl Vs0 rfl) (ll0 wb 3 0 0 _ hW) ?_;rintro _ w ⟨s30,a30,rfl,de1,k5,I1⟩;have Yo0:=Nat.le_trans hb.size de1;refine U54 ?_;intro hb hW V6 P4 A5;refine U459 ?_;intro K4 j5;refine L.nil ⟨rfl,trivial,?_⟩;refine U17 ?_;refine L.va (C2 (i:=0) (n:=2) rfl rfl underlying66 ur0 (by decide)) ?_;refine L.pu 4 [.pointer (some ⟨s30,0,none⟩)] #[.pointer (some ⟨m10,0,none⟩),.pointer none,.pointer (some ⟨m20,0,none⟩),.pointer none,.pointer (some ⟨s30,0,none⟩),.pointer none,.pointer none,.pointer none,.pointer none,.pointer none] ur0 V6 (fun w D1 hg n2=>?_);refine U42 ?_;intro B5 hb hW P4 A5;refine U51 ?_;intro K4 j5 k5;have V6:=D1;refine U95 ?_;refine U43 ?_;intro n6 hb hW V6 P4 A5;refine U510 ?_;intro K4 j5 k5;clear n6;generalize w.drew=w at *;refine U32 ?_;refine U470 ?_;refine L.call (Y6 rfl rfl rfl rfl func54 rfl Vt0 rfl) (rf0 wb 4 0 0 _ hW) ?_;rintro _ w ⟨s40,a40,rfl,df1,P5,I1⟩;have Yp0:=Nat.le_trans hb.size df1;refine U54 ?_;intro hb hW V6 P4 A5;refine U511 ?_;intro K4 j5 k5;refine L.nil ⟨rfl,trivial,?_⟩;refine U17 ?_;refine L.va (C2 (i:=0) (n:=2) rfl rfl underlying68 us0 (by decide)) ?_;refine L.pu 6 [.pointer (some ⟨s40,0,none⟩)] #[.pointer (some ⟨m10,0,none⟩),.pointer none,.pointer (some ⟨m20,0,none⟩),.pointer none,.pointer (some ⟨s30,0,none⟩),.pointer none,.pointer (some ⟨s40,0,none⟩),.pointer none,.pointer none,.pointer none] us0 V6 (fun w D1 hg n2=>?_);refine U42 ?_;intro B5 hb hW P4 A5;refine U51 ?_;intro K4 j5 k5;have P5:=P5.mod B5 rfl;have V6:=D1;clear B5;refine U7 ?_;refine U43 ?_;intro n6 hb hW V6 P4 A5;refine U97 ?_;intro K4 j5 k5 P5;clear n6;generalize w.drew=w at *;refine U32 ?_;refine U471 ?_;refine L.call (Y6 rfl rfl rfl rfl func55 rfl Vu0 rfl) (Al0 wb 5 0 0 _ hW) ?_;rintro _ w ⟨s50,rfl,dg1,Q5,I1⟩;have Yq0:=Nat.le_trans hb.size dg1;refine U54 ?_;intro hb hW V6 P4 A5;refine U98 ?_;intro K4 j5 k5 P5;refine L.nil ⟨rfl,trivial,?_⟩;refine U17 ?_;refine L.va (C2 (i:=0) (n:=2) rfl rfl underlying70 ut0 (by decide)) ?_;refine L.pu 8 [.pointer (some ⟨s50,0,none⟩)] #[.pointer (some ⟨m10,0,none⟩),.pointer none,.pointer (some ⟨m20,0,none⟩),.pointer none,.pointer (some ⟨s30,0,none⟩),.pointer none,.pointer (some ⟨s40,0,none⟩),.pointer none,.pointer (some ⟨s50,0,none⟩),.pointer none] ut0 V6 (fun w D1 hg n2=>?_);refine U42 ?_;intro B5 hb hW P4 A5;refine U51 ?_;intro K4 j5 k5;refine U89 ?_;intro P5 Q5;have V6:=D1;clear B5;refine L.nil ?_;refine U75 ?_;refine L.va (C8 (r:=1) (by decide) (by decide) rfl rfl) ?_;refine U31 ?_;refine L.va (B2 (r:=true) (by decide) (cm0 (m:=1) (k:=2) rfl rfl)) ?_;refine U150 ?_;refine W.seq ?_;refine U43 ?_;intro n6 hb hW V6 P4 A5;refine U97 ?_;intro K4 j5 k5 P5;have Q5:=Q5.E0 n6;clear n6;generalize w.drew=w at *;refine U32 ?_;refine U467 ?_;refine L.call (L3 rfl rfl rfl func51 rfl Vq0 rfl) (vq0 wb 1 1 _ hW) ?_;rintro _ w ⟨m11,s11,rfl,dh1,Ry0,K8,W6,I1⟩;have Yr0:=Nat.le_trans hb.size dh1;have Ys0:=Nat.le_trans hb.size Ry0;have Rz0:s10≠s11:=Nat.ne_of_lt (Nat.lt_of_lt_of_le (l4 P4).lt Ry0);have Sa0:s20≠s11:=Nat.ne_of_lt (Nat.lt_of_lt_of_le (l4 K4).lt Ry0);refine U54 ?_;intro hb hW V6 P4 A5;refine U98 ?_;intro K4 j5 k5 P5;have Q5:=Q5.E0 I1;refine L.nil ⟨rfl,trivial,?_⟩;refine U17 ?_;refine L.va (C2 (i:=1) (n:=2) rfl rfl underlying62 wv0 (by decide)) ?_;refine L.pu 1 [.pointer (some ⟨m11,0,none⟩)] #[.pointer (some ⟨m10,0,none⟩),.pointer (some ⟨m11,0,none⟩),.pointer (some ⟨m20,0,none⟩),.pointer none,.pointer (some ⟨s30,0,none⟩),.pointer none,.pointer (some ⟨s40,0,none⟩),.pointer none,.pointer (some ⟨s50,0,none⟩),.pointer none] wv0 V6 (fun w D1 hg n2=>?_);refine U42 ?_;intro B5 hb hW P4 A5;refine U51 ?_;intro K4 j5 k5;refine U89 ?_;intro P5 Q5;refine U124 ?_;intro W6 K8;have V6:=D1;refine U95 ?_;refine U43 ?_;intro n6 hb hW V6 P4 A5;refine U97 ?_;intro K4 j5 k5 P5;have Q5:=Q5.E0 n6;have W6:=W6.E0 n6;have K8:=K8.E0 n6;clear n6;generalize w.drew=w at *;refine U32 ?_;refine U468 ?_;refine L.call (L3 rfl rfl rfl func52 rfl Vr0 rfl) (lk0 wb 2 1 _ hW) ?_;rintro _ w ⟨m21,s21,rfl,di1,Lk0,at0,Z7,I1⟩;have Yt0:=Nat.le_trans hb.size di1;have Yu0:=Nat.le_trans hb.size Lk0;have Sb0:s10≠s21:=Nat.ne_of_lt (Nat.lt_of_lt_of_le (l4 P4).lt Lk0);have Sc0:s20≠s21:=Nat.ne_of_lt (Nat.lt_of_lt_of_le (l4 K4).lt Lk0);have Sd0:s11≠s21:=Nat.ne_of_lt (Nat.lt_of_lt_of_le (l4 W6).lt Lk0);refine U54 ?_;intro hb hW V6 P4 A5;refine U98 ?_;intro K4 j5 k5 P5;have Q5:=Q5.E0 I1;have W6:=W6.E0 I1;have K8:=K8.E0 I1;refine L.nil ⟨rfl,trivial,?_⟩;refine U17 ?_;refine L.va (C2 (i:=1) (n:=2) rfl rfl underlying64 st0 (by decide)) ?_;refine L.pu 3 [.pointer (some ⟨m21,0,none⟩)] #[.pointer (some ⟨m10,0,none⟩),.pointer (some ⟨m11,0,none⟩),.pointer (some ⟨m20,0,none⟩),.pointer (some ⟨m21,0,none⟩),.pointer (some ⟨s30,0,none⟩),.pointer none,.pointer (some ⟨s40,0,none⟩),.pointer none,.pointer (some ⟨s50,0,none⟩),.pointer none] st0 V6 (fun w D1 hg n2=>?_);refine U42 ?_;intro B5 hb hW P4 A5;refine U51 ?_;intro K4 j5 k5;refine U89 ?_;intro P5 Q5;refine U124 ?_;intro W6 K8;have Z7:=Z7.mod B5 rfl;have at0:=at0.mod B5 rfl;have V6:=D1;refine U95 ?_;refine U43 ?_;intro n6 hb hW V6 P4 A5;refine U97 ?_;intro K4 j5 k5 P5;have Q5:=Q5.E0 n6;have W6:=W6.E0 n6;have K8:=K8.E0 n6;have Z7:=Z7.E0 n6;have at0:=at0.E0 n6;clear n6;generalize w.drew=w at *;refine U32 ?_;refine U469 ?_;refine L.call (Y6 rfl rfl rfl rfl func53 rfl Vs0 rfl) (ll0 wb 3 1 0 _ hW) ?_;rintro _ w ⟨s31,a31,rfl,Yv0,K9,I1⟩;have Yw0:=Nat.le_trans hb.size Yv0;have Se0:s30≠s31:=Nat.ne_of_lt (Nat.lt_of_lt_of_le (l4 k5).lt Yv0);refine U54 ?_;intro hb hW V6 P4 A5;refine U98 ?_;intro K4 j5 k5 P5;have Q5:=Q5.E0 I1;have W6:=W6.E0 I1;have K8:=K8.E0 I1;have Z7:=Z7.E0 I1;have at0:=at0.E0 I1;refine L.nil ⟨rfl,trivial,?_⟩;refine U17 ?_;refine L.va (C2 (i:=1) (n:=2) rfl rfl underlying66 ur0 (by decide)) ?_;refine L.pu 5 [.pointer (some ⟨s31,0,none⟩)] #[.pointer (some ⟨m10,0,none⟩),.pointer (some ⟨m11,0,none⟩),.pointer (some ⟨m20,0,none⟩),.pointer (some ⟨m21,0,none⟩),.pointer (some ⟨s30,0,none⟩),.pointer (some ⟨s31,0,none⟩),.pointer (some ⟨s40,0,none⟩),.pointer none,.pointer (some ⟨s50,0,none⟩),.pointer none] ur0 V6 (fun w D1 hg n2=>?_);refine U42 ?_;intro B5 hb hW P4 A5;refine U51 ?_;intro K4 j5 k5;refine U89 ?_;intro P5 Q5;refine U124 ?_;intro W6 K8;have Z7:=Z7.mod B5 rfl;have at0:=at0.mod B5 rfl;have K9:=K9.mod B5 rfl;have V6:=D1;refine U95 ?_;refine U43 ?_;intro n6 hb hW V6 P4 A5;refine U97 ?_;intro K4 j5 k5 P5;have Q5:=Q5.E0 n6;have W6:=W6.E0 n6;have K8:=K8.E0 n6;have Z7:=Z7.E0 n6;have at0:=at0.E0 n6;have K9:=K9.E0 n6;clear n6;generalize w.drew=w at *;refine U32 ?_;refine U470 ?_;refine L.call (Y6 rfl rfl rfl rfl func54 rfl Vt0 rfl) (rf0 wb 4 1 0 _ hW) ?_;rintro _ w ⟨s41,a41,rfl,Yx0,cy0,I1⟩;have Yy0:=Nat.le_trans hb.size Yx0;have Sf0:s40≠s41:=Nat.ne_of_lt (Nat.lt_of_lt_of_le (l4 P5).lt Yx0);refine U54 ?_;intro hb hW V6 P4 A5;refine U98 ?_;intro K4 j5 k5 P5;have Q5:=Q5.E0 I1;have W6:=W6.E0 I1;have K8:=K8.E0 I1;have Z7:=Z7.E0 I1;have at0:=at0.E0 I1;have K9:=K9.E0 I1;refine L.nil ⟨rfl,trivial,?_⟩;refine U17 ?_;refine L.va (C2 (i:=1) (n:=2) rfl rfl underlying68 us0 (by decide)) ?_;refine L.pu 7 [.pointer (some ⟨s41,0,none⟩)] #[.pointer (some ⟨m10,0,none⟩),.pointer (some ⟨m11,0,none⟩),.pointer (some ⟨m20,0,none⟩),.pointer (some ⟨m21,0,none⟩),.pointer (some ⟨s30,0,none⟩),.pointer (some ⟨s31,0,none⟩),.pointer (some ⟨s40,0,none⟩),.pointer (some ⟨s41,0,none⟩),.pointer (some ⟨s50,0,none⟩),.pointer none] us0 V6 (fun w D1 hg n2=>?_);refine U42 ?_;intro B5 hb hW P4 A5;refine U51 ?_;intro K4 j5 k5;refine U89 ?_;intro P5 Q5;refine U124 ?_;intro W6 K8;have Z7:=Z7.mod B5 rfl;have at0:=at0.mod B5 rfl;have K9:=K9.mod B5 rfl;have cy0:=cy0.mod B5 rfl;have V6:=D1;clear B5;refine U7 ?_;refine U43 ?_;intro n6 hb hW V6 P4 A5;refine U97 ?_;intro K4 j5 k5 P5;have Q5:=Q5.E0 n6;have W6:=W6.E0 n6;have K8:=K8.E0 n6;have Z7:=Z7.E0 n6;have at0:=at0.E0 n6;have K9:=K9.E0 n6;have cy0:=cy0.E0 n6;clear n6;generalize w.drew=w at *;refine U32 ?_;refine U471 ?_;refine L.call (Y6 rfl rfl rfl rfl func55 rfl Vu0 rfl) (Al0 wb 5 1 0 _ hW) ?_;rintro _ w ⟨s51,rfl,Yz0,lm0,I1⟩;have Za0:=Nat.le_trans hb.size Yz0;have Sg0:s50≠s51:=Nat.ne_of_lt (Nat.lt_of_lt_of_le (l4 Q5).lt Yz0);have hb:=N0 hb I1;have V6:=V6.E0 I1;refine U430 ?_;intro P4 A5;refine U98 ?_;intro K4 j5 k5 P5;have Q5:=Q5.E0 I1;have W6:=W6.E0 I1;have K8:=K8.E0 I1;have Z7:=Z7.E0 I1;have at0:=at0.E0 I1;have K9:=K9.E0 I1;have cy0:=cy0.E0 I1;refine L.nil ⟨rfl,trivial,?_⟩;refine U17 ?_;refine L.va (C2 (i:=1) (n:=2) rfl rfl underlying70 ut0 (by decide)) ?_;refine L.pu 9 [.pointer (some ⟨s51,0,none⟩)] #[.pointer (some ⟨m10,0,none⟩),.pointer (some ⟨m11,0,none⟩),.pointer (some ⟨m20,0,none⟩),.pointer (some ⟨m21,0,none⟩),.pointer (some ⟨s30,0,none⟩),.pointer (some ⟨s31,0,none⟩),.pointer (some ⟨s40,0,none⟩),.pointer (some ⟨s41,0,none⟩),.pointer (some ⟨s50,0,none⟩),.pointer (some ⟨s51,0,none⟩)] ut0 V6 (fun w D1 hg n2=>?_);refine U342 ?_;intro B5 hb;refine U368 ?_;intro P4 A5;refine U51 ?_;intro K4 j5 k5;refine U89 ?_;intro P5 Q5;refine U124 ?_;intro W6 K8;have Z7:=Z7.mod B5 rfl;have at0:=at0.mod B5 rfl;have K9:=K9.mod B5 rfl;have cy0:=cy0.mod B5 rfl;have lm0:=lm0.mod B5 rfl;have V6:=D1;clear B5;refine L.nil ?_;refine U75 ?_;refine U236 ?_;refine L.va (B2 (r:=false) (by decide) (cm0 (m:=2) (k:=2) rfl rfl)) ?_;refine U7 ?_;refine U288 ?_;refine U81 ?_;refine U305 ?_;refine⟨b6,sel s10 s11 s20 s21 s30 s31 s40 s41 s50 s51,sel m10 m11 m20 m21 0 0 0 0 0 0,rfl,⟨V6,lt6,fun t n h1 h2 h3=>?_,fun t n h1 h2 h3=>?_,fun t n h1 h2 h3=>?_,?_⟩,hb⟩
 ·obtain rfl|rfl:t=1\/t=2:=by omega
  ·obtain rfl|rfl:n=0\/n=1:=by omega
   ·exact⟨A5,Yj0⟩
   ·exact⟨K8,Yr0⟩
  ·obtain rfl|rfl:n=0\/n=1:=by omega
   ·exact⟨j5,Ym0⟩
   ·exact⟨at0,Yt0⟩
 ·obtain rfl|rfl|rfl|rfl|rfl:t=1\/t=2\/t=3\/t=4\/t=5:=by omega
  ·obtain rfl|rfl:n=0\/n=1:=by omega
   ·exact⟨.bool false,P4⟩
   ·exact⟨.bool false,W6⟩
  ·obtain rfl|rfl:n=0\/n=1:=by omega
   ·exact⟨.bool false,K4⟩
   ·exact⟨.bool false,Z7⟩
  ·obtain rfl|rfl:n=0\/n=1:=by omega
   ·exact⟨a30,k5⟩
   ·exact⟨a31,K9⟩
  ·obtain rfl|rfl:n=0\/n=1:=by omega
   ·exact⟨a40,P5⟩
   ·exact⟨a41,cy0⟩
  ·obtain rfl|rfl:n=0\/n=1:=by omega
   ·exact⟨.bool false,Q5⟩
   ·exact⟨.bool false,lm0⟩
 ·obtain rfl|rfl|rfl|rfl|rfl:t=1\/t=2\/t=3\/t=4\/t=5:=by omega
  ·obtain rfl|rfl:n=0\/n=1:=by omega
   ·exact Yk0
   ·exact Ys0
  ·obtain rfl|rfl:n=0\/n=1:=by omega
   ·exact Yn0
   ·exact Yu0
  ·obtain rfl|rfl:n=0\/n=1:=by omega
   ·exact Yo0
   ·exact Yw0
  ·obtain rfl|rfl:n=0\/n=1:=by omega
   ·exact Yp0
   ·exact Yy0
  ·obtain rfl|rfl:n=0\/n=1:=by omega
   ·exact Yq0
   ·exact Za0
 ·refine Rw0 s10 s11 s20 s21 s30 s31 s40 s41 s50 s51 Rz0 Rx0 Sb0 (y3 P4 k5 (by decide)) (y3 P4 K9 (by decide)) (y3 P4 P5 (by decide)) (y3 P4 cy0 (by decide)) (y3 P4 Q5 (by decide)) (y3 P4 lm0 (by decide)) Sa0.symm Sd0 (y3 W6 k5 (by decide)) (y3 W6 K9 (by decide)) (y3 W6 P5 (by decide)) (y3 W6 cy0 (by decide)) (y3 W6 Q5 (by decide)) (y3 W6 lm0 (by decide)) Sc0 (y3 K4 k5 (by decide)) (y3 K4 K9 (by decide)) (y3 K4 P5 (by decide)) (y3 K4 cy0 (by decide)) (y3 K4 Q5 (by decide)) (y3 K4 lm0 (by decide)) (y3 Z7 k5 (by decide)) (y3 Z7 K9 (by decide)) (y3 Z7 P5 (by decide)) (y3 Z7 cy0 (by decide)) (y3 Z7 Q5 (by decide)) (y3 Z7 lm0 (by decide)) Se0 (y3 k5 P5 (by decide)) (y3 k5 cy0 (by decide)) (y3 k5 Q5 (by decide)) (y3 k5 lm0 (by decide)) (y3 K9 P5 (by decide)) (y3 K9 cy0 (by decide)) (y3 K9 Q5 (by decide)) (y3 K9 lm0 (by decide)) Sf0 (y3 P5 Q5 (by decide)) (y3 P5 lm0 (by decide)) (y3 cy0 Q5 (by decide)) (y3 cy0 lm0 (by decide)) Sg0
end
end Go.Vy.Sc
end
section
namespace Go.Vy.Sc
open Go Go.Conc Go.Yc Go.RowKit Go.Proofs Go.Proofs.YtnifpkopeheodaaGreat Tryz
open Go.Vc Go.Wg
open Go.ConcN (sumTo)
structure dn0 (w:World) (ba:Option Addr) (m:Nat) (bo:Nat->List L2) (oa:Nat->Option Addr) (oc:Nat->Nat):Prop where
 sl:SL ba m
 row:∀i,i<m->w.cell? ⟨ab ba,ao ba+i*1,none⟩=some (.slice (oa i) (bo i).length (oc i))
 ops:∀i,i<m->gz0 w (oa i) (bo i)
 len:∀i,i<m->(bo i).length <=1048576
theorem dn0.E0 {w w':World} {ba:Option Addr} {m:Nat} {bo:Nat->List L2} {oa:Nat->Option Addr} {oc:Nat->Nat} (h:dn0 w ba m bo oa oc) (hb:Below w.heap.size w w'):dn0 w' ba m bo oa oc :=
 ⟨h.sl,fun i hi=>dl0 (h.row i hi) hb,fun i hi=>(h.ops i hi).E0 hb,h.len⟩
structure Sh0 (m:Nat) (bo:Nat->List L2) (sn:Nat):Prop where
 m1:m <=16
 sum:sumTo m (fun i=>(bo i).length) <=3000
 ops:∀i,i<m->∀o,o∈bo i->G8 o
 sn1:sn <=20000
section
variable [Ctx prog]
theorem Ll0 (o:L2) (w0:World):C prog 37 #[.agg #[.int .i64 o.z5,.int .i64 o.ga0,.int .i64 o.call,.int .i64 o.val]] w0 fun v w=>∃b,v= .bool b/\(b=true↔G8 o)/\Below w0.heap.size w0 w:=by
 refine C.enter (n:=55) func37 rfl rfl ?_;refine U531 ?_;intro hb w b1 F1;have lt1:=F1.lq hb.size;have hb:=N0 hb F1.below;have hB1:=F1.blk;refine U30 ?_;refine U25 ?_;refine L.va (F0 rfl underlying3 rfl (hB1.A0 0 (v:=.int .i64 o.z5) rfl)) ?_;refine U91 ?_;refine L.va (M4 rfl rfl) ?_;refine U30 ?_;refine W.fh0 rfl (fun h5=>?_) (fun h5=>?_)
 ·refine W.seq ?_;refine U215 ?_;refine L.pg0 4 [10,11,12,13,14] 14 (.bool (decide (o.call=1\/o.call=2))) (tj:=10) rfl (fun Si0=>?_) (fun Si0=>?_) (fun f=>?_)
  ·refine L.off rfl ?_;refine U213 ?_;refine⟨rfl,congrArg Value.bool (by first|exact Jc0 Si0|rfl|(simp_all;done)|(rw[Bool.eq_iff_iff];simp_all;omega)),?_⟩;exact K1.upd rfl (K1.upd rfl (K1.upd rfl (K1.upd rfl (K1.upd rfl (K1.refl _ _)))))
  ·refine L.on rfl ?_;refine U214 ?_;refine⟨rfl,congrArg Value.bool (by first|exact Jd0 Si0|rfl|(simp_all;done)|(rw[Bool.eq_iff_iff];simp_all;omega)),?_⟩;exact K1.upd rfl (K1.upd rfl (K1.upd rfl (K1.upd rfl (K1.upd rfl (K1.refl _ _)))))
  exact U122
 ·refine W.seq ?_;refine U218 ?_;refine W.fh0 rfl (fun h15=>?_) (fun h15=>?_)
  ·refine W.seq ?_;refine U443 ?_;refine L.va (Df0 rfl rfl) ?_;refine L.va (id0 rfl) ?_;refine L.pg0 4 [20,21,22,23,24] 24 (.bool (decide (1 <=o.call/\o.call <=4))) (tj:=20) rfl (fun Sj0=>?_) (fun Sj0=>?_) (fun f=>?_)
   ·refine L.on rfl ?_;refine U344 ?_;refine L.on rfl ?_;refine L.va (D7 rfl rfl) ?_;refine U180 ?_;refine⟨rfl,congrArg Value.bool (by first|exact Mn0 Sj0|rfl|(simp_all;done)|(rw[Bool.eq_iff_iff];simp_all;omega)),?_⟩;exact K1.upd rfl (K1.upd rfl (K1.upd rfl (K1.upd rfl (K1.upd rfl (K1.refl _ _)))))
   ·refine L.off rfl ?_;refine U147 ?_;refine L.nil ?_;refine⟨rfl,congrArg Value.bool (by first|exact Mm0 Sj0|rfl|(simp_all;done)|(rw[Bool.eq_iff_iff];simp_all;omega)),?_⟩;exact K1.upd rfl (K1.upd rfl (K1.upd rfl (K1.upd rfl (K1.upd rfl (K1.refl _ _)))))
   exact U122
  ·refine W.seq ?_;refine U218 ?_;refine W.fh0 rfl (fun h25=>?_) (fun h25=>?_)
   ·refine W.seq ?_;refine U215 ?_;refine L.pg0 4 [30,31,32,33,34] 34 (.bool (decide (o.call=5\/o.call=7))) (tj:=30) rfl (fun Sk0=>?_) (fun Sk0=>?_) (fun f=>?_)
    ·refine L.off rfl ?_;refine U213 ?_;refine⟨rfl,congrArg Value.bool (by first|exact Jc0 Sk0|rfl|(simp_all;done)|(rw[Bool.eq_iff_iff];simp_all;omega)),?_⟩;exact K1.upd rfl (K1.upd rfl (K1.upd rfl (K1.upd rfl (K1.upd rfl (K1.refl _ _)))))
    ·refine L.on rfl ?_;refine U214 ?_;refine⟨rfl,congrArg Value.bool (by first|exact Jd0 Sk0|rfl|(simp_all;done)|(rw[Bool.eq_iff_iff];simp_all;omega)),?_⟩;exact K1.upd rfl (K1.upd rfl (K1.upd rfl (K1.upd rfl (K1.upd rfl (K1.refl _ _)))))
    exact U122
   ·refine W.seq ?_;refine U218 ?_;refine W.fh0 rfl (fun h35=>?_) (fun h35=>?_)
    ·refine W.seq ?_;refine U215 ?_;refine L.pg0 4 [40,41,42,43,44] 44 (.bool (decide (o.call=5\/o.call=6))) (tj:=40) rfl (fun Sl0=>?_) (fun Sl0=>?_) (fun f=>?_)
     ·refine L.off rfl ?_;refine U213 ?_;refine⟨rfl,congrArg Value.bool (by first|exact Jc0 Sl0|rfl|(simp_all;done)|(rw[Bool.eq_iff_iff];simp_all;omega)),?_⟩;exact K1.upd rfl (K1.upd rfl (K1.upd rfl (K1.upd rfl (K1.upd rfl (K1.refl _ _)))))
     ·refine L.on rfl ?_;refine U214 ?_;refine⟨rfl,congrArg Value.bool (by first|exact Jd0 Sl0|rfl|(simp_all;done)|(rw[Bool.eq_iff_iff];simp_all;omega)),?_⟩;exact K1.upd rfl (K1.upd rfl (K1.upd rfl (K1.upd rfl (K1.upd rfl (K1.refl _ _)))))
     exact U122
    ·refine W.seq ?_;refine U218 ?_;refine W.fh0 rfl (fun h45=>?_) (fun h45=>?_)
     ·refine W.seq ?_;refine U215 ?_;refine L.pg0 4 [50,51,52,53,54] 54 (.bool (decide (o.call=8\/o.call=9))) (tj:=50) rfl (fun Sm0=>?_) (fun Sm0=>?_) (fun f=>?_)
      ·refine L.off rfl ?_;refine U213 ?_;refine⟨rfl,congrArg Value.bool (by first|exact Jc0 Sm0|rfl|(simp_all;done)|(rw[Bool.eq_iff_iff];simp_all;omega)),?_⟩;exact K1.upd rfl (K1.upd rfl (K1.upd rfl (K1.upd rfl (K1.upd rfl (K1.refl _ _)))))
      ·refine L.on rfl ?_;refine U214 ?_;refine⟨rfl,congrArg Value.bool (by first|exact Jd0 Sm0|rfl|(simp_all;done)|(rw[Bool.eq_iff_iff];simp_all;omega)),?_⟩;exact K1.upd rfl (K1.upd rfl (K1.upd rfl (K1.upd rfl (K1.upd rfl (K1.refl _ _)))))
      exact U122
     ·refine W.skip ?_;refine U252 ?_;refine U66 ?_;exact⟨_,rfl,by unfold G8;simp only[Bool.false_eq_true,false_iff];omega,hb⟩
end
theorem Am0 {f:Nat->Nat}:∀{m i:Nat},i<m->f i <=sumTo m f
 |m+1,i,h=>by
  show f i <=sumTo m f+f m;rcases Nat.lt_or_eq_of_le (Nat.le_of_lt_succ h)with z|z
  ·have:=Am0 (f:=f) z;omega
  ·subst z;omega
theorem Zb0 {p:L4}:∀q,(D4 p).Reach q->q.T2=[]:=by
 refine Sys.ind (Y:=D4 p) (fun q=>q.T2=[]) rfl (fun q h _=>?_) (fun q i l h _ hf _=>?_)
 ·show q.T2++tell _ _ (m4 (p.bo q.ft.length) 0 q.s).T2=[];rw[h];rfl
 ·unfold Sys.L5;rw[hf];show q.T2++tell _ _ (goP (p.bo i) i l q.s).T2=[];rw[h,Ag0];rfl
def fvP (b1:Nat->Nat) (bp tp k:Nat):Value:=.func (.func 46) #[] #[.pointer (some ⟨b1 k,0,none⟩),.pointer (some ⟨bp,0,none⟩),.pointer (some ⟨tp,0,none⟩)]
theorem Bz0 {m x bp tp:Nat} {b1:Nat->Nat}:(List.range (m+1)).map (fvP (upN b1 m x) bp tp)=(List.range m).map (fvP b1 bp tp) ++ [.func (.func 46) #[] #[.pointer (some ⟨x,0,none⟩),.pointer (some ⟨bp,0,none⟩),.pointer (some ⟨tp,0,none⟩)]]:=by
 rw[List.range_succ,List.map_append];congr 1
 ·apply List.map_congr_left;intro i hi;have:i≠m:=by have:i<m:=(by simpa using hi);omega
  unfold fvP;rw[w5 this]
 ·simp[fvP,T4]
structure L9 (w:World) (m:Nat) (bo:Nat->List L2) (oa:Nat->Option Addr) (oc b1:Nat->Nat):Prop where
 blk:∀i,i<m->S0 w (b1 i) #[.slice (oa i) (bo i).length (oc i)] 50
section
variable {w w':World}{m:Nat}{bo:Nat->List L2}{oa:Nat->Option Addr}{oc b1:Nat->Nat}
theorem L9.E0 (h:L9 w m bo oa oc b1) (hb:Below w.heap.size w w'):L9 w' m bo oa oc b1:=⟨fun i hi=>(h.blk i hi).E0 hb⟩
theorem L9.mod {B:Nat} {TS:List TypeId} (h:L9 w m bo oa oc b1) (hm:Q7 w w' B TS) (hT:TS.contains 50=false):L9 w' m bo oa oc b1:=⟨fun i hi=>(h.blk i hi).mod hm hT⟩
theorem L9.snoc {x:Nat} (h:L9 w m bo oa oc b1) (hx:S0 w x #[.slice (oa m) (bo m).length (oc m)] 50):L9 w (m+1) bo oa oc (upN b1 m x):=by
 have key:∀i,i<m+1->i≠m->i<m:=fun i hi hn=>by omega
 refine⟨fun i hi=>?_⟩;by_cases hn:i=m
 ·subst hn;rw[T4];exact hx
 ·rw[w5 hn];exact h.blk i (key i hi hn)
end
theorem bu0 {T:TypeId} (h1:T≠195) (h2:T≠123) (h3:T≠132) (h4:T≠115):∀t,T≠tty t:=fun t=>by
 unfold tty;split
 ·exact h1
 split
 ·exact h2
 split
 ·exact h3
 ·exact h4
theorem Hm0 (t:Nat):(∀k,mty t≠tty k)/\mty t≠45/\mty t≠2/\mty t≠0/\mty t≠73:=by
 unfold mty;split
 ·exact⟨bu0 (by decide) (by decide) (by decide) (by decide),by decide,by decide,by decide,by decide⟩
 ·exact⟨bu0 (by decide) (by decide) (by decide) (by decide),by decide,by decide,by decide,by decide⟩
section
variable {w w':World}{B wb tb:Nat}{sb mb:Nat->Nat->Nat}
theorem bm0.E0 (h:bm0 w B wb tb sb mb) (hb:Below w.heap.size w w'):bm0 w' B wb tb sb mb :=
 ⟨h.hT.E0 hb,h.lT,fun t n h1 h2 h3=>⟨(h.hM t n h1 h2 h3).1.E0 hb,(h.hM t n h1 h2 h3).2⟩,fun t n h1 h2 h3=>let⟨sa,hS⟩:=h.hS t n h1 h2 h3;⟨sa,hS.E0 hb⟩,h.lS,h.inj⟩
theorem bm0.down {B':Nat} (h:bm0 w B wb tb sb mb) (hB:B' <=B):bm0 w B' wb tb sb mb :=
 ⟨h.hT,Nat.le_trans hB h.lT,fun t n h1 h2 h3=>⟨(h.hM t n h1 h2 h3).1,Nat.le_trans hB (h.hM t n h1 h2 h3).2⟩,h.hS,fun t n h1 h2 h3=>Nat.le_trans hB (h.lS t n h1 h2 h3),h.inj⟩
theorem bm0.mod {B':Nat} {TS:List TypeId} (h:bm0 w B wb tb sb mb) (hm:Q7 w w' B' TS) (hT:(TS.contains 72 ||TS.contains 113 ||TS.contains 125 ||TS.contains 195 ||TS.contains 123 ||TS.contains 132 ||TS.contains 115)=false):bm0 w' B wb tb sb mb:=by
 simp only[Bool.or_eq_false_iff]at hT;obtain⟨⟨⟨⟨⟨⟨a1,a2⟩,a3⟩,a4⟩,a5⟩,a6⟩,a7⟩:=hT;refine⟨h.hT.mod hm a1,h.lT,fun t n h1 h2 h3=>⟨(h.hM t n h1 h2 h3).1.mod hm ?_,(h.hM t n h1 h2 h3).2⟩,fun t n h1 h2 h3=>let⟨sa,hS⟩:=h.hS t n h1 h2 h3;⟨sa,hS.mod hm ?_⟩,h.lS,h.inj⟩
 ·unfold mty;split
  ·exact a2
  ·exact a3
 ·unfold tty;split
  ·exact a4
  split
  ·exact a5
  split
  ·exact a6
  ·exact a7
end
abbrev pS (p:L4) (sc:Nat->Int) (sn:Nat):PS:=((D4 p).pn sc sn).s
structure cz0 (p:L4) (sc:Nat->Int) (sn B:Nat) (w:World) (R:Rn) (r:K5):Prop where
 lg:S0 w p.lgb (arr p.m fun i=>.slice (r.la i) ((pS p sc sn).O3 i).length (r.lc i)) 45
 ans:∀i,i<p.m->Own w p.B 2 1 (r.la i) ((pS p sc sn).O3 i).length (r.lc i) (Hi0 ((pS p sc sn).O3 i))
 run:fw0 (D4 p) sc sn B R w
section
variable {p:L4}{sc:Nat->Int}{sn B:Nat}{w w':World}{R:Rn}{r:K5}
theorem cz0.E0 (h:cz0 p sc sn B w R r) (hb:Below w.heap.size w w'):cz0 p sc sn B w' R r :=
 ⟨h.lg.E0 hb,fun i hi=>Own.congr (h.ans i hi) fun ha=>hb.block _ ((h.ans i hi).lt ha),h.run.E0 hb⟩
theorem cz0.down {B':Nat} (h:cz0 p sc sn B w R r) (hB:B' <=B):cz0 p sc sn B' w R r:=⟨h.lg,h.ans,h.run.down hB⟩
theorem cz0.H5 (h:cz0 p sc sn B w R r) {b:Nat} (hg:w.grownBy w' (some b)) (hn:b<B/\∃cs,S0 w b cs 30):cz0 p sc sn B w' R r:=by
 obtain⟨R2,cs,hB⟩:=hn;exact⟨h.lg.other hg (S0.ne h.lg hB (by decide)),fun i hi=>(h.ans i hi).H5 hg (Own.Yb0 (h.ans i hi) (l4 hB) (by decide)),h.run.H5 hg fun z=>by have:=h.run.fp b z;omega⟩
end
theorem Hn0 {w:World} {a:Addr} {v:Value} (h:w.cell? a=some v):w.heap[a.block]? ≠some nothing:=by
 unfold World.cell? at h;intro e;rw[e]at h;simp[nothing]at h
set_option maxHeartbeats 1000000 in
theorem xx0 {lb:Nat} {pl:Nat->c6} {m sn lc scp wb tb lgb bp tp:Nat} {bo:Nat->List L2} {sc:Nat->Int} {ba l sa:Option Addr} {oa:Nat->Option Addr} {oc b1:Nat->Nat} {sb mb:Nat->Nat->Nat} {w0 w:World} (hBo:dn0 w0 ba m bo oa oc) (hz:∀i,m <=i->bo i=[]) (hSc:xh0 w0 sa sn scp sc) (hF:Sh0 m bo sn) (hb:Below w0.heap.size w0 w)
  (hl:Own w w0.heap.size 73 1 l m lc ((List.range m).map (fvP b1 bp tp))) (hTh:bm0 w w0.heap.size wb tb sb mb) (hW:S0 w wb #[.bool false] 105)
  (hG:S0 w lgb (arr m fun _=>.slice none 0 0) 45) (hbp:S0 w bp #[.pointer (some ⟨tb,0,none⟩)] 54) (htp:S0 w tp #[.slice (some ⟨lgb,0,none⟩) m m] 31) (hx:L9 w m bo oa oc b1) (l1:w0.heap.size <=lgb) :
  @C prog (J6 lb pl) 48 #[.slice l m lc,.slice sa sn scp] w fun v w'=>∃(p:L4) (R:Rn) (r:K5),v= .tuple #[Fl0 R,.int .i64 0]/\(p.m=m/\p.bo=bo/\p.lgb=lgb/\p.B=w0.heap.size)/\g5 p/\cz0 p sc sn w.heap.size w' R r /\
   S0 w' tp #[.slice (some ⟨lgb,0,none⟩) m m] 31/\Below w0.heap.size w0 w'/\(w.heap.size <=w'.heap.size)/\∀(b:Nat) (cs:Array Value),w0.heap.size <=b->S0 w b cs 30->S0 w' b cs 30:=by
 classical
 let RO:Nat->Prop:=fun b=>b=tb\/b=wb\/(∃t n,1 <=t/\t <=2/\n<2/\b=mb t n)\/b=bp\/b=tp\/(∃i,i<m/\b=b1 i)\/∃i,i<m/\0<(bo i).length/\b=ab (oa i)
 let p:L4:=⟨m,bo,tb,wb,sb,mb,lgb,RO,w,w0.heap.size,lb,pl⟩
 have C5:∀i,i<m->0<(bo i).length->∃v,w0.cell? ⟨ab (oa i),ao (oa i)+0*4+0,none⟩=some v:=fun i hi hl0=>by
  obtain⟨o,ho⟩:∃o,(bo i)[0]? =some o:=⟨_,List.getElem?_eq_getElem hl0⟩
  exact⟨_,(hBo.ops i hi).cell 0 o ho 0 _ rfl⟩
 have nn0:∀i,i<m->0<(bo i).length->ab (oa i)<w0.heap.size:=fun i hi hl0=>by
  obtain⟨v,hv⟩:=C5 i hi hl0;exact fv0 hv
 have hRO:∀b,RO b->b<w0.heap.size\/∃cs T,S0 w b cs T/\(∀t,T≠tty t)/\T≠45/\T≠2/\T≠0/\T≠73:=by
  rintro b (h|h|⟨t,n,h1,h2,h3,h⟩|h|h|⟨i,hi,h⟩|⟨i,hi,h0,h⟩)
  ·rw[h];exact .inr ⟨_,_,hTh.hT,bu0 (by decide) (by decide) (by decide) (by decide),by decide,by decide,by decide,by decide⟩
  ·rw[h];exact .inr ⟨_,_,hW,bu0 (by decide) (by decide) (by decide) (by decide),by decide,by decide,by decide,by decide⟩
  ·have:=Hm0 t;rw[h];exact .inr ⟨_,_,(hTh.hM t n h1 h2 h3).1,this.1,this.2.1,this.2.2.1,this.2.2.2.1,this.2.2.2.2⟩
  ·rw[h];exact .inr ⟨_,_,hbp,bu0 (by decide) (by decide) (by decide) (by decide),by decide,by decide,by decide,by decide⟩
  ·rw[h];exact .inr ⟨_,_,htp,bu0 (by decide) (by decide) (by decide) (by decide),by decide,by decide,by decide,by decide⟩
  ·rw[h];exact .inr ⟨_,_,hx.blk i hi,bu0 (by decide) (by decide) (by decide) (by decide),by decide,by decide,by decide,by decide⟩
  ·rw[h];exact .inl (nn0 i hi h0)
 have dj1:∀b,RO b->b<w.heap.size/\w.heap[b]? ≠some nothing:=fun b hr=>by
  rcases hRO b hr with R2|⟨cs,T,hB,_,_,_,h0,_⟩
  ·have hx:∃i,i<m/\0<(bo i).length/\b=ab (oa i)\/∃cs T,S0 w b cs T/\T≠0:=by
    rcases hr with h|h|⟨t,n,h1,h2,h3,h⟩|h|h|⟨i,hi,h⟩|⟨i,hi,h0,h⟩
    ·exact⟨0,.inr ⟨_,_,h▸hTh.hT,by decide⟩⟩
    ·exact⟨0,.inr ⟨_,_,h▸hW,by decide⟩⟩
    ·exact⟨0,.inr ⟨_,_,h▸(hTh.hM t n h1 h2 h3).1,(Hm0 t).2.2.2.1⟩⟩
    ·exact⟨0,.inr ⟨_,_,h▸hbp,by decide⟩⟩
    ·exact⟨0,.inr ⟨_,_,h▸htp,by decide⟩⟩
    ·exact⟨0,.inr ⟨_,_,h▸hx.blk i hi,by decide⟩⟩
    ·exact⟨i,.inl ⟨hi,h0,h⟩⟩
   obtain⟨i,⟨hi,h0,h⟩|⟨cs,T,hB,hT⟩⟩:=hx
   ·obtain⟨v,hv⟩:=C5 i hi h0;have hv':=dl0 hv hb;rw[h];exact⟨fv0 hv',Hn0 hv'⟩
   ·exact fz0 hB hT
  ·exact fz0 hB h0
 have hP:g5 p:=by
  refine⟨dj1,fun b hr=>?_,fun t n h1 h2 h3=>hTh.lS t n h1 h2 h3,hTh.inj,⟨.inl rfl,hTh.hT⟩,⟨.inr (.inl rfl),hW⟩,fun t n h1 h2 h3=>⟨.inr (.inr (.inl ⟨t,n,h1,h2,h3,rfl⟩)),(hTh.hM t n h1 h2 h3).1⟩,fun i o ho=>?_⟩
  ·rcases hRO b hr with h|⟨cs,T,hB,h1,h2,h3,_,_⟩
   ·exact .inl h
   ·exact .inr ⟨cs,T,hB,h1,h2,h3⟩
  ·rcases Nat.lt_or_ge i m with z|z
   ·exact hF.ops i z o ho
   ·rw[show p.bo i=[] from hz i z]at ho;cases ho
 have hlen:∀i,i<m->(bo i).length <=100000:=fun i hi=>by
  have h1:=Am0 (f:=fun i=>(bo i).length) hi;have h2:=hF.sum;have h1:(bo i).length <=sumTo m fun i=>(bo i).length:=h1;omega
 have hD:∀i,i<m->nw0 p i (b1 i) bp tp (oa i) (oc i):=fun i hi=>⟨.inr (.inr (.inr (.inr (.inr (.inl ⟨i,hi,rfl⟩))))),.inr (.inr (.inr (.inl rfl))),.inr (.inr (.inr (.inr (.inl rfl)))),fun h0=>.inr (.inr (.inr (.inr (.inr (.inr ⟨i,hi,h0,rfl⟩))))),hx.blk i hi,hbp,htp,(hBo.ops i hi).E0 hb,hlen i hi⟩
 have hO:io0 (D4 p) (fun _=>46) (fun i=>#[.pointer (some ⟨b1 i,0,none⟩),.pointer (some ⟨bp,0,none⟩),.pointer (some ⟨tp,0,none⟩)]) (fvP b1 bp tp) l sa sn sc:=by
  refine⟨gc0 hP,hF.m1,Nat.le_trans hF.sn1 (by decide),hl.sl,hSc.sl,fun i hi=>.inr ⟨rfl,rfl,_,func46,rfl,bf1⟩,?_,fun base i cb top u F hi _ hs=>?_⟩
  ·rw[Zb0 _ (.inr ⟨sc,sn,rfl⟩)];exact Nat.zero_le _
  ·obtain⟨s,r,hE,hc,_⟩:=H8.start hs hP;exact Bv0 rfl (Rn0 (hD i hi) hi u hE hc)
 let r0:K5:=⟨fun _=>none,fun _=>0⟩
 have hM0:cc0 p w ps0 r0:=⟨hTh.hS,hG,fun i hi=>Own.nil _ _ _ _,fun i j _ _ _ h=>absurd rfl h,fun _ _=>rfl,l1⟩
 have hinv:Rk0 p ps0 (fun _=>0) w (PF p r0):=⟨r0,rfl,hM0⟩
 have hFT:∀b,PF p r0 b->b<w0.heap.size/\RO b\/∃cs T,S0 w b cs T/\T≠73:=fun b hb2=>by
  rcases hb2 with⟨t,n,h1,h2,h3,rfl⟩|rfl|⟨i,_,ha,_⟩|h
  ·obtain⟨sa,hS⟩:=hTh.hS t n h1 h2 h3;exact .inr ⟨_,_,hS,(bu0 (T:=73) (by decide) (by decide) (by decide) (by decide) t).symm⟩
  ·exact .inr ⟨_,_,hG,by decide⟩
  ·exact absurd rfl ha
  ·rcases hRO b h with z|⟨cs,T,hB,_,_,_,_,h5⟩
   ·exact .inl ⟨z,h⟩
   ·exact .inr ⟨cs,T,hB,h5⟩
 have hlF:0<m->¬PF p r0 (ab l):=fun hm hh=>by
  obtain⟨cur,hc,hle,_⟩:=hl.row (hl.zg0 hm);rcases hFT _ hh with⟨z,_⟩|⟨cs,T,hB,hT⟩
  ·omega
  ·exact S0.ne hB hc hT rfl
 have Nx0:∀b,b<w0.heap.size->PF p r0 b->RO b:=fun b R2 hh=>by
  rcases hh with⟨t,n,h1,h2,h3,e⟩|e|⟨i,_,ha,_⟩|h
  ·have:=hTh.lS t n h1 h2 h3;have e:b=sb t n:=e;omega
  ·have e:b=lgb:=e;omega
  ·exact absurd rfl ha
  ·exact h
 have hsF:0<sn->¬PF p r0 (ab sa)\/∀s m w' F',(D4 p).Inv s m w' F'->w'.heap[ab sa]? =w.heap[ab sa]?:=fun h0=>by
  by_cases hr:RO (ab sa)
  ·refine .inr fun s m w' F' hI=>?_;obtain⟨r,_,hr'⟩:∃r,F'=PF p r/\cc0 p w' s r:=hI;exact hr'.ro _ hr
  ·exact .inl fun hh=>hr (Nx0 _ (fv0 (hSc.cell 0 h0)) hh)
 have key:=Ks0 (Y:=D4 p) (m0:=fun _=>0) (lc:=lc) hO hinv (fun j hj=>by
   have hj:j<m:=hj;rw[hl.off,Nat.zero_add,Nat.mul_one];exact hl.cell (by simp[hj])) hlF (hSc.E0 hb) hsF
 refine @Calls.mono _ (J6 lb pl) _ _ _ _ _ key fun e w' he=>?_;cases e with
 |panicked ch=>exact he.elim
 |outgrown=>exact he.elim
 |returned v=>
  obtain⟨R,rfl,hX,⟨m',F',hI,hdR⟩,hos,en0,Zc0,n2,J7⟩:=he;obtain⟨r,rfl,hR'⟩:∃r,F'=PF p r/\cc0 p w' (pS p sc sn) r:=hI;have e4:∀(b:Nat) (cs:Array Value),w0.heap.size <=b->S0 w b cs 30->S0 w' b cs 30:=fun b cs hlo hB=>by
   refine(J7 b (l4 hB).lt fun hF2=>?_).trans hB;rcases hF2 with⟨t,n,h1,h2,h3,z⟩|z|⟨i,_,ha,_⟩|h
   ·obtain⟨sa,hS⟩:=hTh.hS t n h1 h2 h3;exact S0.ne hB hS (bu0 (by decide) (by decide) (by decide) (by decide) t) z
   ·exact S0.ne hB hG (by decide) z
   ·exact absurd rfl ha
   ·rcases h with h|h|⟨t,n,h1,h2,h3,h⟩|h|h|⟨i,hi,h⟩|⟨i,hi,h0,h⟩
    ·exact S0.ne hB hTh.hT (by decide) h
    ·exact S0.ne hB hW (by decide) h
    ·exact S0.ne hB (hTh.hM t n h1 h2 h3).1 (by unfold mty;split <;> decide) h
    ·exact S0.ne hB hbp (by decide) h
    ·exact S0.ne hB htp (by decide) h
    ·exact S0.ne hB (hx.blk i hi) (by decide) h
    ·have:=nn0 i hi h0;omega
  refine⟨p,R,r,rfl,⟨rfl,rfl,rfl,rfl⟩,hP,⟨hR'.hG,hR'.hL,hX⟩,(hR'.ro tp (.inr (.inr (.inr (.inr (.inl rfl)))))).trans htp,hb.trans ⟨hos,Zc0,en0,n2,fun k hk=>?_⟩,n2,e4⟩;by_cases hkF:PF p r0 k
  ·exact hR'.ro k (Nx0 k hk hkF)
  ·exact J7 k (Nat.lt_of_lt_of_le hk hb.size) hkF
end Go.Vy.Sc
end
section
namespace Go.Vy.Sc
open Go Go.Conc Go.Yc Go.RowKit Go.Proofs Go.Proofs.YtnifpkopeheodaaGreat Tryz
open Go.Vc Go.Wg
theorem Lm0 (m:Nat) (v:Value):Array.replicate (m*1) v=arr m fun _=>v:=by
 rw[Nat.mul_one];apply Array.toList_inj.1;simp[arr,List.map_const']
section
variable [Ctx prog]
theorem Zd0 (x:Int) (w0:World):C prog 49 #[.int .i64 x] w0 fun v w=>v= .int .i64 x/\w=w0:=by
 refine C.enter (n:=4) func49 rfl rfl ?_;refine U6 ?_;refine U34 ?_;refine U100 ?_;refine U10 ?_;exact⟨rfl,rfl⟩
end
section
set_option maxHeartbeats 1000000 in
theorem Sn0 {lb:Nat} {pl:Nat->c6} {m bc sn scp:Nat} {bo:Nat->List L2} {sc:Nat->Int} {ba sa:Option Addr} {oa:Nat->Option Addr} {oc:Nat->Nat} (w0:World) (hBo:dn0 w0 ba m bo oa oc) (hz:∀i,m <=i->bo i=[]) (hSc:xh0 w0 sa sn scp sc) (hF:Sh0 m bo sn) :
  @C prog (J6 lb pl) 11 #[.slice ba m bc,.slice sa sn scp] w0 fun v w=>∃(p:L4) (R:Rn) (r:K5),v= .tuple #[Fl0 R,.slice (some ⟨p.lgb,0,none⟩) m m,.bool true]/\(p.m=m/\p.bo=bo/\p.B=w0.heap.size)/\g5 p/\cz0 p sc sn w0.heap.size w R r/\Below w0.heap.size w0 w:=by
 letI:Ctx prog:=J6 lb pl;refine C.enter (n:=44) func11 rfl rfl ?_;have hb:Below w0.heap.size w0 w0:=Below.refl _ _;have fw1:=hF.m1;refine U6 ?_;refine L.alloc (cs:=#[.slice none 0 0,.slice none 0 0,.slice none 0 0,.slice none 0 0,.bool false,.int .i64 0]) Jq0 rfl (fun w b4 F4=>?_);have D8:=F4.lq hb.size;have hb:=N0 hb F4.below;have L1:=F4.blk;refine L.va (bw0 rfl) ?_;refine U68 ?_;refine L.call (bq0  func36 rfl Vm0 rfl) (ip0 _) ?_;rintro _ w ⟨wb,rfl,hwb,hW,I1⟩;have hwb:=Nat.le_trans hb.size hwb;have hb:=N0 hb I1;have L1:=L1.E0 I1;refine L.call (M0 rfl func16 rfl bd1 rfl) (Hl0 wb _ hW) ?_;rintro _ w ⟨tb,sb,mb,rfl,hTh,I1⟩;have hTh:bm0 w w0.heap.size wb tb sb mb:=hTh.down hb.size;have hb:=N0 hb I1;have L1:=L1.E0 I1;have hW:=hW.E0 I1;have da0:=L1;have vr0:=hW;have iq0:=hTh;have ln0:=hb;refine L.alloc (cs:=#[.pointer none]) aw1 rfl (fun w b7 F7=>?_);have lt7:=F7.lq hb.size;have hB7:=F7.blk;refine L.pa [.p tb] av1 hB7 (fun w D1 hg n2=>?_);have hbA:=I4 F7.below F7.below.size hg (by have:=F7.here;omega);have L1:=da0.E0 hbA;have hW:=vr0.E0 hbA;have hTh:=iq0.E0 hbA;have hb:=N0 ln0 hbA;have hB7:=D1;clear D1 hg n2 hbA F7 da0 vr0 iq0 ln0;refine U36 ?_;refine U556 ?_;refine L.make (m:=m) rfl rfl underlying31 ar1 (z0:=.slice none 0 0) rfl (by decide) (by omega) (by omega) (fun w b18 F18=>?_);have fx1:=F18.lq hb.size;have l18:w0.heap.size <=b18:=by omega
 have hb:=N0 hb F18.below;have L1:=L1.E0 F18.below;have hW:=hW.E0 F18.below;have hTh:=hTh.E0 F18.below;have hB7:=hB7.E0 F18.below;have Ze0:=F18.blk;have hG:S0 w b18 (arr m fun _=>.slice none 0 0) 45:=by have h9:=Ze0;rw[Lm0]at h9;exact h9
 clear Ze0;have da0:=L1;have vr0:=hW;have iq0:=hTh;have vs0:=hB7;have Ho0:=hG;have ln0:=hb;refine L.alloc (cs:=#[.slice none 0 0]) aq1 rfl (fun w b8 F8=>?_);have lt8:=F8.lq hb.size;have hB8:=F8.blk;refine L.pa [.slice (some ⟨b18,0,none⟩) m m] ap1 hB8 (fun w D1 hg n2=>?_);have hbA:=I4 F8.below F8.below.size hg (by have:=F8.here;omega);have L1:=da0.E0 hbA;have hW:=vr0.E0 hbA;have hTh:=iq0.E0 hbA;have hB7:=vs0.E0 hbA;have hG:=Ho0.E0 hbA;have hb:=N0 ln0 hbA;have hB8:=D1;clear D1 hg n2 hbA F8 da0 vr0 iq0 vs0 Ho0 ln0;refine U36 ?_;refine L.va (bw0 rfl) ?_;refine U33 ?_;refine U193 ?_;refine W.loop (fun k e w=>∃(i:Nat),∃(l:Option Addr),∃(lc:Nat),∃(b1:Nat->Nat),k=m-i/\e 0= .slice ba m bc/\e 1= .slice sa sn scp/\e 4= .pointer (some ⟨b4,0,none⟩)/\e 7= .pointer (some ⟨b7,0,none⟩)/\e 8= .pointer (some ⟨b8,0,none⟩)/\e 9= .slice l i lc/\e 10= .int .i64 (i:Nat)/\i <=m/\Own w w0.heap.size 73 1 l i lc ((List.range i).map (fvP b1 b7 b8))/\L9 w i bo oa oc b1/\bm0 w w0.heap.size wb tb sb mb/\S0 w wb #[.bool false] 105/\S0 w b18 (arr m fun _=>.slice none 0 0) 45/\S0 w b4 #[.slice none 0 0,.slice none 0 0,.slice none 0 0,.slice none 0 0,.bool false,.int .i64 0] 30/\S0 w b7 #[.pointer (some ⟨tb,0,none⟩)] 54/\S0 w b8 #[.slice (some ⟨b18,0,none⟩) m m] 31/\Below w0.heap.size w0 w) _ ⟨0,none,0,(fun _=>0),rfl,rfl,rfl,rfl,rfl,rfl,rfl,rfl,Nat.zero_le _,Own.nil _ _ _ _,⟨fun i hi=>absurd hi (Nat.not_lt_zero _)⟩,hTh,hW,hG,L1,hB7,hB8,hb⟩ ?_;rintro k e w ⟨i,l,lc,b1,hk,s0,s1,s4,s7,s8,s9,s10,hi,hl,hx,hTh,hW,hG,L1,hB7,hB8,hb⟩;rw[S2 s0,S2 s1,S2 s4,S2 s7,S2 s8,S2 s9,S2 s10];clear s0 s1 s4 s7 s8 s9 s10;refine W.seq ?_;refine U100 ?_;refine U556 ?_;refine L.va (cm0 rfl rfl) ?_;refine U7 ?_;refine W.fh0 rfl (fun h22=>?_) (fun h22=>?_)
 ·have R2:i<m:=by omega
  refine U148 ?_;refine U6 ?_;refine U577 ?_;refine L.va (ay0 (i:=i) rfl rfl underlying22 Pn0 hBo.sl R2) ?_;refine L.va (F0 (v:=.slice (oa i) (bo i).length (oc i)) rfl underlying50 rfl ((hBo.E0 hb).row i R2)) ?_;have Zf0:=hl;have Zg0:=hx;have iq0:=hTh;have vr0:=hW;have Ho0:=hG;have da0:=L1;have vs0:=hB7;have vt0:=hB8;have ln0:=hb;refine L.alloc (cs:=#[.slice none 0 0]) Up0 rfl (fun w b11 F11=>?_);have fy1:=F11.lq hb.size;have xy0:=F11.blk;refine L.pa [.slice (oa i) ((bo i).length) (oc i)] Pn0 xy0 (fun w D1 hg n2=>?_);have hbA:=I4 F11.below F11.below.size hg (by have:=F11.here;omega);have hl:=Zf0.E0 hbA;have hx:=Zg0.E0 hbA;have hTh:=iq0.E0 hbA;have hW:=vr0.E0 hbA;have hG:=Ho0.E0 hbA;have L1:=da0.E0 hbA;have hB7:=vs0.E0 hbA;have hB8:=vt0.E0 hbA;have hb:=N0 ln0 hbA;have xy0:=D1;clear D1 hg n2 hbA F11 Zf0 Zg0 iq0 vr0 Ho0 da0 vs0 vt0 ln0;refine U84 ?_;refine L.va (aw0 rfl) ?_;refine L.va (S3 (l:=[.tmp 11,.tmp 7,.tmp 8]) (vs:=[.pointer (some ⟨b11,0,none⟩),.pointer (some ⟨b7,0,none⟩),.pointer (some ⟨b8,0,none⟩)]) rfl) ?_;refine L.kl0 (cs:=#[.func (.func 46) #[] #[.pointer (some ⟨b11,0,none⟩),.pointer (some ⟨b7,0,none⟩),.pointer (some ⟨b8,0,none⟩)]]) rfl rfl underlying90 Ut0 rfl ⟨_,ax1⟩ (by decide) (fun w b31 F31=>?_);have fz1:=F31.lq hb.size;have hb:=N0 hb F31.below;have hl:=hl.E0 F31.below;have hx:=hx.E0 F31.below;have hTh:=hTh.E0 F31.below;have hW:=hW.E0 F31.below;have hG:=hG.E0 F31.below;have L1:=L1.E0 F31.below;have hB7:=hB7.E0 F31.below;have hB8:=hB8.E0 F31.below;have xy0:=xy0.E0 F31.below;have dk1:=F31.blk;refine L.di0 (B:=w0.heap.size) (m:=1) rfl rfl underlying90 ay1 rfl (by decide) hl (fun h=>by cases h) (news:=[.func (.func 46) #[] #[.p b11,.p b7,.p b8]]) rfl (fun ad had j u hj=>by
   cases had;rw[Addr.add_lit]
   match j,hj with
   |0,hj=>cases hj;exact dk1.A0 0 rfl) (fun u hu=>by simp only[List.mem_cons,List.not_mem_nil,or_false]at hu;subst hu;rfl) (by omega) (by omega) hb.size (fun l2 lc2 w2 hO2 hg2 cp0 _=>?_)
  have hmo:Q7 w w2 w0.heap.size [73]:=Q7.app hl hg2 cp0 rfl hO2;have hb:=hb.trans cp0;have hx:=hx.mod hmo rfl;have hTh:=hTh.mod hmo rfl;have hW:=hW.mod hmo rfl;have hG:=hG.mod hmo rfl;have L1:=L1.mod hmo rfl;have hB7:=hB7.mod hmo rfl;have hB8:=hB8.mod hmo rfl;have xy0:=xy0.mod hmo rfl;clear hmo hg2 cp0 hl
  rename World=>w
  refine U290 ?_;refine U75 ?_;refine L.va (ke0 rfl rfl (by omega)) ?_;refine U225 ?_;exact⟨_,by omega,⟨i+1,l2,lc2,(upN b1 i b11),rfl,rfl,rfl,rfl,rfl,rfl,rfl,rfl,(by omega),(by rw[Bz0];exact hO2),(hx.snoc xy0),hTh,hW,hG,L1,hB7,hB8,hb⟩⟩
 ·obtain rfl:m=i:=by omega
  refine W.exit ?_;refine U102 ?_;refine U81 ?_;refine L.va (aw0 rfl) ?_;refine L.va (aw0 rfl) ?_;refine L.call (l3 rfl rfl func48 rfl bh1 rfl) (xx0 hBo hz hSc hF hb hl hTh hW hG hB7 hB8 hx l18) ?_;have h4l:=L1.lt;rintro _ w1 ⟨p,R,r1,rfl,⟨pm,pbo,plg,pB⟩,hP,hY,hT2,I1,n2,hrn⟩;have L1:=hrn _ _ D8 L1;have hb:=I1;have hB8:=hT2;clear I1 hT2 hl hTh hW hG hx hrn hB7
  skip
  rename World=>w
  refine L.va (zd0 rfl) ?_;refine U557 ?_;have Hp0:=hY;have da0:=L1;have vt0:=hB8;have ln0:=hb;refine L.alloc (cs:=#[.slice none 0 0,.slice none 0 0,.slice none 0 0,.slice none 0 0,.bool false,.int .i64 0]) Jq0 rfl (fun w b12 F12=>?_);have Li0:=F12.lq hb.size;have Ln0:=F12.ne L1;have he0:=F12.blk;refine L.pa [.slice R.ea R.evs.length R.ec,.slice R.na R.T2.length R.nc,.slice (some ⟨R.eb,0,none⟩) R.m R.m,.slice (some ⟨R.wb,0,none⟩) R.m R.m,.bool R.stuck,.int .i64 (R.used:Int)] iw0 he0 (fun w D1 hg n2=>?_);have hbA:=I4 F12.below F12.below.size hg (by have:=F12.here;omega);have hY:=Hp0.E0 hbA;have L1:=da0.E0 hbA;have hB8:=vt0.E0 hbA;have hb:=N0 ln0 hbA;have he0:=D1;clear D1 hg n2 hbA F12 Hp0 da0 vt0 ln0;refine U34 ?_;refine W.seq ?_;refine W.fl 7 [3,5] [0,1,2,3,4,5,6] (fun w'=>S0 w' b12 #[.slice R.ea R.evs.length R.ec,.slice R.na R.T2.length R.nc,.slice (some ⟨R.eb,0,none⟩) R.m R.m,.slice (some ⟨R.wb,0,none⟩) R.m R.m,.bool R.stuck,.int .i64 (R.used:Int)] 30/\S0 w' b8 #[.slice (some ⟨b18,0,none⟩) m m] 31) (by kernel_rfl) (by kernel_rfl) (by kernel_rfl) (by kernel_rfl) (by kernel_rfl) (⟨he0.E0 (Below.refl w.heap.size w).drew,hB8.E0 (Below.refl w.heap.size w).drew⟩) ?_;have n6:Below w.heap.size w w.drew:=(Below.refl w.heap.size w).drew;have hb:=N0 hb n6;have hY:=hY.E0 n6;have L1:=L1.E0 n6;have hB8:=hB8.E0 n6;have he0:=he0.E0 n6;clear n6;generalize w.drew=w at *;refine F.va rfl rfl (fun w' r3=>(G0 (cs:=[.slice R.ea R.evs.length R.ec,.slice R.na R.T2.length R.nc,.slice (some ⟨R.eb,0,none⟩) R.m R.m,.slice (some ⟨R.wb,0,none⟩) R.m R.m,.bool R.stuck,.int .i64 (R.used:Int)]) rfl underlying30 rfl iw0 rfl (r3.1.J1 rfl))) ?_;refine F.va rfl rfl (fun w' r3=>(F0 rfl underlying31 rfl (r3.2.A0 0 (v:=.slice (some ⟨b18,0,none⟩) m m) rfl))) ?_;refine F.va rfl rfl (fun w' r3=>(T5 rfl)) ?_;refine F.doo rfl rfl ?_;refine L.call (M0 rfl func49 rfl bi1 rfl) (Zd0 _ w) ?_;rintro _ w1 ⟨rfl,hw⟩;refine U28 ?_;refine L.nil ⟨rfl,⟨he0,hB8⟩,?_⟩;refine F.va rfl rfl (fun w' r3=>(B2 (r:=true) (by decide) (M4 (m:=0) (k:=0) rfl rfl))) ?_;refine F.doo rfl rfl ?_;refine L.pu 0 [.slice R.ea R.evs.length R.ec,.slice R.na R.T2.length R.nc,.slice (some ⟨R.eb,0,none⟩) R.m R.m,.slice (some ⟨R.wb,0,none⟩) R.m R.m,.bool R.stuck,.int .i64 (R.used:Int)] #[.slice R.ea R.evs.length R.ec,.slice R.na R.T2.length R.nc,.slice (some ⟨R.eb,0,none⟩) R.m R.m,.slice (some ⟨R.wb,0,none⟩) R.m R.m,.bool R.stuck,.int .i64 (R.used:Int)] iw0 L1 (fun w D1 hg n2=>?_);refine U316 ?_;intro B5 hb;have hY:=hY.H5 hg ⟨h4l,_,L1⟩;have hB8:=hB8.mod B5 rfl;have he0:=he0.other hg (Ne.symm Ln0);have L1:=D1;clear B5;refine L.nil ⟨rfl,⟨he0,hB8⟩,?_⟩;refine F.va rfl rfl (fun w' r3=>(bw0 rfl)) ?_;refine U17 ?_;refine U30 ?_;refine U517 ?_;refine ends.Gk0 (cs:=#[.slice R.ea R.evs.length R.ec,.slice R.na R.T2.length R.nc,.slice (some ⟨R.eb,0,none⟩) R.m R.m,.slice (some ⟨R.wb,0,none⟩) R.m R.m,.bool R.stuck,.int .i64 (R.used:Int)]) (.inr rfl) rfl rfl underlying30 rfl iw0 L1 ?_;exact⟨p,R,r1,by rw[plg];rfl,⟨pm,pbo,pB⟩,hP,hY.down (by omega),hb⟩
end
end Go.Vy.Sc
end
section
namespace Go.Yc
open Go Go.Conc
open Go.ConcN (sumTo upd sumTo_upd upd_ne upd_same sumTo_congr)
section
attribute [local irreducible] KK
def On (L:Q3) (B:Nat->Prop) (a:Touch):Prop:=(a.write=false/\∃p∈L,a.loc= .cell p.1)\/∃ad,a.loc= .cell ad/\B ad.block
theorem On.mono {L:Q3} {B B':Nat->Prop} (hB:∀b,B b->B' b) {a:Touch} (h:On L B a):On L B' a:=h.imp id fun⟨ad,h1,h2⟩=>⟨ad,h1,hB _ h2⟩
structure Apart (L0 Lc:Q3) (B0 Bc:Nat->Prop):Prop where
 l0:∀p∈L0,¬Bc p.1.block
 lc:∀p∈Lc,¬B0 p.1.block
 own:∀b,B0 b->¬Bc b
theorem Apart.no {L0 Lc:Q3} {B0 Bc:Nat->Prop} (H:Apart L0 Lc B0 Bc) {a b:Touch} (ha:On L0 B0 a) (hb:On Lc Bc b) (hl:a.loc=b.loc) (hw:a.write=true\/b.write=true):False:=by
 rcases ha with⟨h1,p,hp,h2⟩|⟨ad,h1,h2⟩ <;> rcases hb with⟨h3,p',hp',h4⟩|⟨ad',h3,h4⟩
 ·rcases hw with h|h
  ·rw[h1]at h;cases h
  ·rw[h3]at h;cases h
 ·rw[h2,h3]at hl;cases hl;exact H.l0 p hp h4
 ·rw[h1,h4]at hl;cases hl;exact H.lc p' hp' h2
 ·rw[h1,h3]at hl;cases hl;exact H.own _ h2 h4
structure TB (Sh:Loc->Prop) (Us:Nat->Prop) (c n0:Nat) (L0 Lc:Q3) (B0 Bc:Nat->Prop) (A:Addr) (r:Option Nat) (t:Trace):Prop where
 clean:∀said,¬Race said t
 pre:∀i a,i<n0->touchAt t i=some a->a.loc.isMemory=true->¬Sh a.loc->Knows t 0 i/\Knows t c i
 post:∀i a g,n0 <=i->touchAt t i=some a->¬Sh a.loc->t.g? i=some g->(g=0/\On L0 B0 a)\/(g=c/\On Lc Bc a/\∀r0,r=some r0->i<r0)
 cd0:∀i a g,touchAt t i=some a->Sh a.loc->t.g? i=some g->(∀g',Us g'->Knows t g' i)\/(a.kind≠.plain/\(g≠0->a.kind= .atomic/\¬t.heard i))
 rel:∀r0,r=some r0->r0<t.size/\t.act? r0=some (.mark (.releaseMerge A))/\t.g? r0=some c/\t.heard r0/\∀k,r0<k->t.act? k≠some (.mark (.release A))
def rh0 (u:Trace):Prop:=∀op∈u,∀a,op.act≠.mark (.release a)
section
variable {Sh:Loc->Prop}{Us Us':Nat->Prop}{c n0:Nat}{L0 Lc:Q3}{B0 Bc B0' Bc':Nat->Prop}{A:Addr}{r:Option Nat}{t u:Trace}
theorem act?_old {i:Nat} (h:i<t.size):(t++u).act? i=t.act? i:=by simp only[Trace.act?,getElem?_append_old h]
theorem TB.grow (H:TB Sh Us c n0 L0 Lc B0 Bc A r t) (h0:∀b,B0 b->B0' b) (hc:∀b,Bc b->Bc' b):TB Sh Us c n0 L0 Lc B0' Bc' A r t :=
 ⟨H.clean,H.pre,fun i a g hi ha hs hg=>(H.post i a g hi ha hs hg).imp (fun z=>⟨z.1,z.2.mono h0⟩) fun z=>⟨z.1,z.2.1.mono hc,z.2.2⟩,H.cd0,H.rel⟩
theorem TB.leave (H:TB Sh Us c n0 L0 Lc B0 Bc A r t) (hU:∀g,Us' g->Us g):TB Sh Us' c n0 L0 Lc B0 Bc A r t :=
 ⟨H.clean,H.pre,H.post,fun i a g ha hs hg=>(H.cd0 i a g ha hs hg).imp (fun z g' r6=>z g' (hU g' r6)) id,H.rel⟩
theorem TB.ti0 (H:TB Sh Us c n0 L0 Lc B0 Bc A r t) (hn:r≠none->rh0 u):∀r0,r=some r0->r0<(t++u).size/\(t++u).act? r0=some (.mark (.releaseMerge A))/\(t++u).g? r0=some c/\(t++u).heard r0/\∀k,r0<k->(t++u).act? k≠some (.mark (.release A)):=by
 intro r0 h0;obtain⟨h1,h2,h3,h4,h5⟩:=H.rel r0 h0;refine⟨by rw[Array.size_append];omega,by rw[act?_old h1];exact h2,by rw[g?_old h1];exact h3,(heard_old h1).2 h4,fun k hk he=>?_⟩;rcases Nat.lt_or_ge k t.size with h|h
 ·rw[act?_old h]at he;exact h5 k hk he
 ·unfold Trace.act? at he;obtain⟨op,ho,he⟩:=Option.map_eq_some_iff.1 he;rcases getElem?_append_cases ho with⟨h',_⟩|⟨_,C5⟩
  ·omega
  ·exact hn (by rw[h0];simp) op C5 A he
theorem TB.B7 (H:TB Sh Us c n0 L0 Lc B0 Bc A r t) {i g:Nat} {a:Touch} {x:MemOp} (W3:t[i]? =some x) (u5:x.act.touch? =some a) (hs:Sh a.loc) (hg:(t++u).g? i=some g) :
  (∀g',Us g'->Knows (t++u) g' i)\/(a.kind≠.plain/\(g≠0->a.kind= .atomic/\¬(t++u).heard i)):=by
 have R2:=lt_size_of_getElem? W3;rw[g?_old R2]at hg;rcases H.cd0 i a g (by rw[touchAt_of W3];exact u5) hs hg with this|this
 ·exact .inl fun g' r6=>(this g' r6).app u
 ·exact .inr ⟨this.1,fun D3=>⟨(this.2 D3).1,fun hh=>(this.2 D3).2 ((heard_old R2).1 hh)⟩⟩
theorem TB.mute (H:TB Sh Us c n0 L0 Lc B0 Bc A r t) (hn0:n0 <=t.size) (hn:∀op∈u,op.act.touch? =none) (hr:r≠none->rh0 u):TB Sh Us c n0 L0 Lc B0 Bc A r (t++u):=by
 refine⟨fun said=>noRace_appendMute (H.clean said) hn,fun i a hi ha hm hs=>?_,fun i a g hi ha hs hg=>?_,fun i a g ha hs hg=>?_,H.ti0 hr⟩
 ·rw[touchAt_old (by omega)]at ha;have:=H.pre i a hi ha hm hs;exact⟨this.1.app u,this.2.app u⟩
 ·obtain⟨x,hx,u5⟩:=touch_of ha;rcases getElem?_append_cases hx with⟨R2,W3⟩|⟨_,B8⟩
  ·rw[g?_old R2]at hg;exact H.post i a g hi (by rw[touchAt_of W3];exact u5) hs hg
  ·rw[hn x B8]at u5;cases u5
 ·obtain⟨x,hx,u5⟩:=touch_of ha;rcases getElem?_append_cases hx with⟨_,W3⟩|⟨_,B8⟩
  ·exact H.B7 W3 u5 hs hg
  ·rw[hn x B8]at u5;cases u5
theorem TB.own (H:TB Sh Us c n0 L0 Lc B0 Bc A r t) (hap:Apart L0 Lc B0 Bc) (hn0:n0 <=t.size) {x:Nat} (hu:∀op∈u,op.g=x) (hs:∀op∈u,∀b,op.act.touch? =some b->¬Sh b.loc/\((x=0/\On L0 B0 b)\/(x=c/\On Lc Bc b/\r=none))) (hr:r≠none->rh0 u):TB Sh Us c n0 L0 Lc B0 Bc A r (t++u):=by
 refine⟨fun said=>noRace_append (H.clean said) hu fun i a ha op C5 b hb hc=>?_,fun i a hi ha hm hs=>?_,fun i a g hi ha hns hg=>?_,fun i a g ha V9 hg=>?_,H.ti0 hr⟩
 ·obtain⟨h1,h2⟩:=hs op C5 b hb;have hns:¬Sh a.loc:=by rw[hc.1];exact h1
  rcases Nat.lt_or_ge i n0 with hi|hi
  ·have:=H.pre i a hi ha hc.2.1 hns;rcases h2 with⟨rfl,_⟩|⟨rfl,_⟩
   ·exact this.1
   ·exact this.2
  ·obtain⟨z,hz,hza⟩:=touch_of ha;have hk:=knows_own hz;rcases H.post i a z.g hi ha hns (g?_of hz)with⟨e,h3⟩|⟨e,h3,_⟩ <;> rcases h2 with⟨rfl,h4⟩|⟨e2,h4,_⟩
   ·rw[e]at hk;exact hk
   ·exact(hap.no h3 h4 hc.1 hc.2.2.1).elim
   ·exact(hap.no h4 h3 hc.1.symm hc.2.2.1.symm).elim
   ·rw[e,<- e2]at hk;exact hk
 ·rw[touchAt_old (by omega)]at ha;have:=H.pre i a hi ha hm hs;exact⟨this.1.app u,this.2.app u⟩
 ·obtain⟨z,hz,hza⟩:=touch_of ha;rcases getElem?_append_cases hz with⟨R2,hz'⟩|⟨_,hzu⟩
  ·rw[g?_old R2]at hg;exact H.post i a g hi (by rw[touchAt_of hz'];exact hza) hns hg
  ·have hgx:g=x:=by rw[g?_of hz]at hg;rw[<- hu z hzu];exact(Option.some.inj hg).symm
   rcases(hs z hzu a hza).2 with⟨e,h⟩|⟨e,h,h'⟩
   ·exact .inl ⟨hgx.trans e,h⟩
   ·exact .inr ⟨hgx.trans e,h,fun r0 e=>by rw[h']at e;cases e⟩
 ·obtain⟨z,hz,hza⟩:=touch_of ha;rcases getElem?_append_cases hz with⟨_,hz'⟩|⟨_,hzu⟩
  ·exact H.B7 hz' hza V9 hg
  ·exact absurd V9 (hs z hzu a hza).1
theorem TB.sh (H:TB Sh Us c n0 L0 Lc B0 Bc A r t) (hn0:n0 <=t.size) {g:Nat} (hUs:Us g) (hu:∀op∈u,op.g=g) (hs:∀op∈u,GOk Sh g op) (hdf:g≠0->∀i,t.size <=i->i<t.size+u.size->(t++u).deaf g i≠0) (hr:r≠none->rh0 u):TB Sh Us c n0 L0 Lc B0 Bc A r (t++u):=by
 refine⟨fun said=>noRace_append (H.clean said) hu fun i a ha op C5 b hb hc=>?_,fun i a hi ha hm hs=>?_,fun i a g' hi ha hns hg=>?_,fun i a g' ha V9 r6=>?_,H.ti0 hr⟩
 ·obtain⟨h1,h2,h3⟩:=hs op C5 b hb;obtain⟨x,hx,u5⟩:=touch_of ha;rcases H.cd0 i a x.g ha (hc.1▸h1) (g?_of hx)with hsx|hsx
  ·exact hsx g hUs
  rcases hc.2.2.2 with y|y|⟨_,y1,y2⟩
  ·exact absurd y hsx.1
  ·exact absurd y h2
  ·have e1:g=0:=Classical.byContradiction fun e=>by have:=h3 e;rw[y2]at this;cases this
   have e2:x.g=0:=Classical.byContradiction fun e=>by have:=(hsx.2 e).1;rw[y1]at this;cases this
   have:=knows_own hx;rw[e2]at this;rw[e1];exact this
 ·rw[touchAt_old (by omega)]at ha;have:=H.pre i a hi ha hm hs;exact⟨this.1.app u,this.2.app u⟩
 ·obtain⟨z,hz,hza⟩:=touch_of ha;rcases getElem?_append_cases hz with⟨R2,hz'⟩|⟨_,hzu⟩
  ·rw[g?_old R2]at hg;exact H.post i a g' hi (by rw[touchAt_of hz'];exact hza) hns hg
  ·exact absurd (hs z hzu a hza).1 hns
 ·obtain⟨x,hx,u5⟩:=touch_of ha;rcases getElem?_append_cases hx with⟨_,W3⟩|⟨hi,B8⟩
  ·exact H.B7 W3 u5 V9 r6
  ·obtain⟨h1,h2,h3⟩:=hs x B8 a u5;have hgx:g'=g:=by rw[g?_of hx]at r6;rw[<- hu x B8];exact(Option.some.inj r6).symm
   subst hgx;refine .inr ⟨h2,fun D3=>⟨h3 D3,?_⟩⟩;rintro⟨g2,hg2,hd2⟩;rw[r6]at hg2;obtain rfl:=Option.some.inj hg2;exact hdf D3 i hi (by have:=lt_size_of_getElem? hx;simpa using this) hd2
theorem TB.release (H:TB Sh Us c n0 L0 Lc B0 Bc A none t) (hn0:n0 <=t.size) {fn:FuncId} {ps:String} (hd:Deaf t c=0):TB Sh Us c n0 L0 Lc B0 Bc A (some t.size) (t ++ #[{g:=c,fn,pos:=ps,act:=.mark (.releaseMerge A)}]):=by
 have M:=H.mute (u:=#[{g:=c,fn,pos:=ps,act:=.mark (.releaseMerge A)}]) hn0 (fun op C5=>by simp at C5;subst C5;rfl) (fun h=>absurd rfl h);have e0:(t ++ #[{g:=c,fn,pos:=ps,act:=MemAct.mark (.releaseMerge A)}])[t.size]? =some {g:=c,fn,pos:=ps,act:=.mark (.releaseMerge A)}:=by simp
 refine⟨M.clean,M.pre,fun i a g hi ha hs hg=>(M.post i a g hi ha hs hg).imp id fun z=>⟨z.1,z.2.1,fun r0 e=>?_⟩,M.cd0,fun r0 e=>?_⟩
 ·obtain⟨x,hx,u5⟩:=touch_of ha;rcases getElem?_append_cases hx with⟨R2,_⟩|⟨_,B8⟩
  ·have:=Option.some.inj e;omega
  ·simp at B8;subst B8;cases u5
 ·obtain rfl:=Option.some.inj e;refine⟨by simp,by rw[act?_of e0],by rw[g?_of e0],⟨c,g?_of e0,by rw[deaf_old (Nat.le_refl _)];exact hd⟩,fun k hk he=>?_⟩;unfold Trace.act? at he;obtain⟨op,ho,he⟩:=Option.map_eq_some_iff.1 he;have:=lt_size_of_getElem? ho;simp at this;omega
theorem TB.acquire {r0:Nat} (H:TB Sh Us c n0 L0 Lc B0 Bc A (some r0) t) (hn0:n0 <=t.size) {fn:FuncId} {ps:String} (hd:Deaf t 0=0) :
  let t':=t ++ #[{g:=0,fn,pos:=ps,act:=.mark (.acquire A)}]
  (∀said,¬Race said t')/\(∀i a,touchAt t' i=some a->a.loc.isMemory=true->¬Sh a.loc->Knows t' 0 i)/\∀i a g,touchAt t' i=some a->Sh a.loc->t'.g? i=some g->(∀g',Us g'->Knows t' g' i)\/(a.kind≠.plain/\(g≠0->a.kind= .atomic/\¬t'.heard i)):=by
 intro t';have hnr:rh0 #[{g:=0,fn,pos:=ps,act:=MemAct.mark (.acquire A)}]:=fun op C5 a=>by simp at C5;subst C5;simp
 have M:TB Sh Us c n0 L0 Lc B0 Bc A (some r0) t':=H.mute hn0 (fun op C5=>by simp at C5;subst C5;rfl) fun _=>hnr;refine⟨M.clean,fun i a ha hm hs=>?_,M.cd0⟩;obtain⟨h1,h2,h3,h4,h5⟩:=M.rel r0 rfl;have e0:t'[t.size]? =some {g:=0,fn,pos:=ps,act:=MemAct.mark (.acquire A)}:=by simp[t']
 have R2:=(H.rel r0 rfl).1;have Ap0:HappensBefore t' r0 t.size:=Relation.TransGen.single (.inr ⟨.marked R2 (.inr h2) (act?_of e0) fun k hk _=>h5 k hk,h4,⟨0,g?_of e0,by
  show(t++_).deaf 0 t.size=0;rw[deaf_old (Nat.le_refl _)];exact hd⟩⟩)
 rcases Nat.lt_or_ge i n0 with hi|hi
 ·exact(M.pre i a hi ha hm hs).1
 ·obtain⟨x,hx,u5⟩:=touch_of ha;rcases M.post i a x.g hi ha hs (g?_of hx)with⟨e,_⟩|⟨e,_,h⟩
  ·have:=knows_own hx;rw[e]at this;exact this
  ·have hir:=h r0 rfl;obtain⟨y,hy,hyg⟩:∃y,t'[r0]? =some y/\y.g=c:=by
    unfold Trace.g? at h3;obtain⟨y,hy,h⟩:=Option.map_eq_some_iff.1 h3;exact⟨y,hy,h⟩
   exact⟨t.size,_,e0,rfl,.inr (Relation.TransGen.trans (hb_po hir hx hy (by rw[e,hyg])) Ap0)⟩
end
end
end Go.Yc
end
section
namespace Go.Yc
open Go Go.Conc Go.Wg Go.Vy
open Go.Vc (Env upd m3 ev j4 k3 C9)
section
attribute [local irreducible] KK
abbrev PM:=List (Nat×Obj)
def ir0 (pm:PM) (b:Nat) (o:Obj):PM:=pm.map fun x=>if x.1=b then(b,o) else x
structure lo0 (gr:H4) (L:Q3) (pm:PM) (w:World):Prop where
 K2:∃st sm,q7 gr st sm w
 stay:∀p∈L,w.cell? p.1=some p.2
 own:∀x∈pm,w.heap[x.1]? =some x.2
def EvM (L:Q3) (pm:PM) (e:Event):Prop:=∃a,e=⟨.cell a,false,false⟩/\((∃v,(a,v)∈L)\/∃o,(a.block,o)∈pm)
def MP (P:Program) (main:Bool) (gr:H4) (L:Q3) (E:Nat->PM->Goroutine->Prop):Nat->PM->Goroutine->Prop
 |0,_,_=>False
 |n+1,pm,g=>E n pm g\/(g.status= .running/\(
   (∃g' es,g'.status= .running/\(∀e∈es,EvM L pm e)/\(∀w,lo0 gr L pm w->stepG P main g w= .go g' w es)/\MP P main gr L E n pm g') \/
   (∃g' b cs T i v es,g'.status= .running/\(b,.cells cs T (0,0))∈pm/\(∀e∈es,e=⟨.cell ⟨b,i,none⟩,true,false⟩)/\(∀w,lo0 gr L pm w->stepG P main g w= .go g' (w.setCell ⟨b,i,none⟩ v) es)/\MP P main gr L E n (ir0 pm b (.cells (cs.setIfInBounds i v) T (0,0))) g') \/
   ∃gf:Nat->Goroutine,∃cs T,(∀b,(gf b).status= .running)/\(∀w,stepG P main g w= .go (gf w.heap.size) (w.alloc (.cells cs T (0,0))) #[])/\∀b,MP P main gr L E n ((b,.cells cs T (0,0))::pm) (gf b)))
section
variable {P:Program}{main:Bool}{gr:H4}{L:Q3}{E:Nat->PM->Goroutine->Prop}{pm:PM}
abbrev YM (P:Program) (main:Bool) (gr:H4) (L:Q3) (E:Nat->PM->Goroutine->Prop) (pm:PM):Nat->Nat->Goroutine->Prop:=fun m d g=>d=0->MP P main gr L E m pm g
theorem H2:HF P main (fun _=>False) (YM P main gr L E pm) :=
 ⟨fun m d g g' es h1 h2 h3 h4 h5 hd=>.inr ⟨h1,.inl ⟨g',es,h2,fun e he=>(h3 e he).elim,fun w _=>h4 w,h5 (by
  have:es=#[]:=by
   obtain⟨l⟩:=es;cases l with
   |nil=>rfl
   |cons e l=>exact(h3 e (by simp)).elim
  subst this;exact hd)⟩⟩⟩
theorem dl1:StG P main gr (YM P main gr L E pm):=fun m d g g' h1 h2 h3 h4 hd=>.inr ⟨h1,.inl ⟨g',#[],h2,fun e he=>by simp at he,fun w hw=>by obtain⟨st,sm,h⟩:=hw.K2;exact h3 w st sm h,h4 hd⟩⟩
variable {ft n:Nat}{b:Frame}{cs:List Frame}{ds:List Deferred}{e:Env}{k:List Item}{ops:Array Oper}{i:Nat}{l:List Oper}{dst:Option Nat}{ty:TypeId}{ps:String}{af:Array Edge}{T:TypeId}{x y:Operand}
def Src (L:Q3) (pm:PM) (p:Addr) (v:Value):Prop:=(p,v)∈L\/∃cs T,(p.block,.cells cs T (0,0))∈pm/\p.spot=none/\cs[p.off]? =some v
theorem Src.cell {p:Addr} {v:Value} {w:World} (h:Src L pm p v) (hw:lo0 gr L pm w):w.cell? p=some v:=by
 rcases h with h|⟨cs,T,h1,h2,h3⟩
 ·exact hw.stay _ h
 ·have:=hw.own _ h1;unfold World.cell?;rw[this];simp[h2,h3]
theorem Src.evm {p:Addr} {v:Value} (h:Src L pm p v):EvM L pm ⟨.cell p,false,false⟩:=by
 rcases h with h|⟨cs,T,h1,_⟩
 ·exact⟨p,rfl,.inl ⟨v,h⟩⟩
 ·exact⟨p,rfl,.inr ⟨_,h1⟩⟩
theorem I0.Hq0 {g:Option (Nat×Bool)} {p:Addr} {v:Value} {u:TypeDesc} (hg:∀a,cr0 n a e ds->Region.wanted (⟨dst,.load T x,ty,ps,af,g⟩:Oper) (yielded ops a.tmps)=true) (hk:b.kind≠.early) (hd:j4 n dst=true) (hx:ev e x= .pointer (some p)) (hT:P.underlying T=some u) (hu:C9 u=true) (hp:Src L pm p v)
  (h:I0 (YM P main gr L E pm) ft n b cs ds 0 (m3 e dst v) ops (i+1) l k):I0 (YM P main gr L E pm) (ft+1) n b cs ds 0 e ops i (⟨dst,.load T x,ty,ps,af,g⟩::l) k:=by
 intro hl a ha _;obtain⟨ho,x5⟩:=E3 hl;refine .inr ⟨rfl,.inl ⟨_,seen P b.fn #[⟨.cell p,false,false⟩],rfl,fun ev' he=>?_,fun w r3=>?_,h x5 _ (ha.put hd v) rfl⟩⟩
 ·have:=mem_seen he;have:ev'=⟨.cell p,false,false⟩:=by simpa using this
  subst this;exact hp.evm
 ·have hc:=hp.cell r3;show stepG P main (G (b.at a (.inRegion ops (i::List.range' (i+1) l.length)::k)) cs) w=_;rw[stepG_value ho (hg a ha) hk (by rw[ha.eval];exact Go.Vc.F0 hx hT hu hc),listed];have he:∀es,(isAgg T).events P w es=es:=fun es=>by
   cases u <;> simp[isAgg,go_sem,run_underlying hT]
  have hq:(execOp a.eval ⟨dst,.load T x,ty,ps,af,g⟩).events P w #[]=#[⟨.cell p,false,false⟩]:=by
   rw[ha.eval];simp[execOp,Instr.loadAt,hx,Instr.sureAddr,loadVar,Go.Vc.m9 hT,hu,hc,he]
  rw[hq]
theorem I0.is0 {p:Addr} {v:Value} {u:TypeDesc} (hk:b.kind≠.early) (hd:j4 n dst=true) (hx:ev e x= .pointer (some p)) (hT:P.underlying T=some u) (hu:C9 u=true) (hp:Src L pm p v)
  (h:I0 (YM P main gr L E pm) ft n b cs ds 0 (m3 e dst v) ops (i+1) l k):I0 (YM P main gr L E pm) (ft+1) n b cs ds 0 e ops i (⟨dst,.load T x,ty,ps,af,none⟩::l) k:=I0.Hq0 (fun _a _=>rfl) hk hd hx hT hu hp h
theorem I0.So0 {g:Nat×Bool} {p:Addr} {v:Value} {u:TypeDesc} (hk:b.kind≠.early) (hw:k3 ops e g.1=some g.2) (hd:j4 n dst=true) (hx:ev e x= .pointer (some p)) (hT:P.underlying T=some u) (hu:C9 u=true) (hp:Src L pm p v)
  (h:I0 (YM P main gr L E pm) ft n b cs ds 0 (m3 e dst v) ops (i+1) l k):I0 (YM P main gr L E pm) (ft+1) n b cs ds 0 e ops i (⟨dst,.load T x,ty,ps,af,some g⟩::l) k :=
 I0.Hq0 (fun a ha=>by rw[ha.yielded];simp[Region.wanted,hw]) hk hd hx hT hu hp h
theorem I0.Zh0 {o:Oper} {cs0:List Value} {T0:TypeId} (hg:o.guard=none) (hk:b.kind≠.early) (hd:j4 n o.dst=true) (hr:∀w,(execOp (ev e) o).run P w= .ok (.value (.pointer (some ⟨w.heap.size,0,none⟩))) (w.alloc (.cells cs0.toArray T0 (0,0)))) (hv:∀w,(execOp (ev e) o).events P w #[]=#[])
  (h:∀bl,I0 (YM P main gr L E ((bl,.cells cs0.toArray T0 (0,0))::pm)) ft n b cs ds 0 (m3 e o.dst (.pointer (some ⟨bl,0,none⟩))) ops (i+1) l k):I0 (YM P main gr L E pm) (ft+1) n b cs ds 0 e ops i (o::l) k:=by
 intro hl a ha _;obtain⟨ho,x5⟩:=E3 hl;refine .inr ⟨rfl,.inr (.inr ⟨fun bl=>G (b.at (a.put o.dst (.pointer (some ⟨bl,0,none⟩))) (.inRegion ops (List.range' (i+1) l.length)::k)) cs,cs0.toArray,T0,fun _=>rfl,fun w=>?_,fun bl=>h bl x5 _ (ha.put hd _) rfl⟩)⟩;rw[show stepG P main (G (b.at a (.inRegion ops (List.range' i (o::l).length)::k)) cs) w=stepG P main (G (b.at a (.inRegion ops (i::List.range' (i+1) l.length)::k)) cs) w from rfl];rw[stepG_value ho (by obtain⟨d,op,ty,ps,af,g⟩:=o;cases hg;rfl) hk (by rw[ha.eval];exact hr w),listed,ha.eval,hv,seen_none]
theorem I0.Zi0 {v:Value} {cs0:List Value} (hk:b.kind≠.early) (hd:j4 n dst=true) (hx:ev e x=v) (hc:v.cells=cs0.toArray)
  (h:∀bl,I0 (YM P main gr L E ((bl,.cells cs0.toArray T (0,0))::pm)) ft n b cs ds 0 (m3 e dst (.pointer (some ⟨bl,0,none⟩))) ops (i+1) l k):I0 (YM P main gr L E pm) (ft+1) n b cs ds 0 e ops i (⟨dst,.box T x,ty,ps,af,none⟩::l) k :=
 I0.Zh0 rfl hk hd (fun w=>by rw[<- hc];exact Go.Vc.zf0 hx) (fun w=>by simp[execOp,Instr.box,newVar,newRow,hx]) h
theorem I0.Sp0 {v:Value} {cs0:List Value} (hk:b.kind≠.early) (hd:j4 n dst=true) (hz:(P.info? T).bind (·.zero)=some v) (hc:v.cells=cs0.toArray)
  (h:∀bl,I0 (YM P main gr L E ((bl,.cells cs0.toArray T (0,0))::pm)) ft n b cs ds 0 (m3 e dst (.pointer (some ⟨bl,0,none⟩))) ops (i+1) l k):I0 (YM P main gr L E pm) (ft+1) n b cs ds 0 e ops i (⟨dst,.alloc T,ty,ps,af,none⟩::l) k :=
 I0.Zh0 rfl hk hd (fun w=>by rw[<- hc];exact Go.Vc.ji0 hz) (fun w=>by
  obtain⟨inf,hi,hz'⟩:=Option.bind_eq_some_iff.1 hz;simp[execOp,Instr.alloc,newVar,newRow,zeroValue,typeInfo,hi,hz',go_sem]) h
theorem I0.Hr0 {bl o:Nat} {v v0:Value} {cs0:Array Value} {T0:TypeId} (hk:b.kind≠.early) (hx:ev e x= .pointer (some ⟨bl,o,none⟩)) (hy:ev e y=v) (hs:(P.info? T).map (·.size)=some 1) (h1:v.oneCell'=true) (hm:(bl,.cells cs0 T0 (0,0))∈pm) (hc:cs0[o]? =some v0)
  (h:I0 (YM P main gr L E (ir0 pm bl (.cells (cs0.setIfInBounds o v) T0 (0,0)))) ft n b cs ds 0 e ops (i+1) l k):I0 (YM P main gr L E pm) (ft+1) n b cs ds 0 e ops i (⟨none,.store T x y,ty,ps,af,none⟩::l) k:=by
 intro hl a ha _;obtain⟨ho,x5⟩:=E3 hl;refine .inr ⟨rfl,.inr (.inl ⟨_,bl,cs0,T0,o,v,seen P b.fn #[⟨.cell ⟨bl,o,none⟩,true,false⟩],rfl,hm,fun ev' he=>?_,fun w r3=>?_,h x5 a ha rfl⟩)⟩
 ·have:=mem_seen he;simpa using this
 ·have hb:=r3.own _ hm;have G9:w.cell? ⟨bl,o,none⟩=some v0:=by unfold World.cell?;rw[hb];simp[hc]
  have hfr:w.frozen? ⟨bl,o,none⟩=false:=by simp[World.frozen?,hb]
  show stepG P main (G (b.at a (.inRegion ops (i::List.range' (i+1) l.length)::k)) cs) w=_;rw[stepG_none ho (by rw[ha.yielded];rfl) hk (by rw[ha.eval];exact Go.Vc.jh0 hx hy hs h1 G9 hfr),listed];have hv:v.cells=#[v]:=by cases v <;> first|rfl|(simp[Value.oneCell']at h1)
  have ha0:(⟨bl,o,none⟩:Addr).add 0=⟨bl,o,none⟩:=by simp[Addr.add]
  have hq:(execOp a.eval ⟨none,.store T x y,ty,ps,af,none⟩).events P w #[]=#[⟨.cell ⟨bl,o,none⟩,true,false⟩]:=by
   rw[ha.eval];simp[execOp,Instr.storeAt,hx,hy,Instr.sureAddr,storeVar,Go.Vc.run_sizeOf hs,hv,storeCells,ha0,events_store P w #[] ⟨bl,o,none⟩ v .plain h1,G9,hfr]
  rw[hq];rfl
end
end
end Go.Yc
end
section
namespace Go.Yc
open Go Go.Conc Go.Wg Go.Vy
open Go.ConcN (sumTo upd sumTo_upd upd_ne upd_same sumTo_congr)
section
attribute [local irreducible] KK
def Lo0 (G:H4) (w:World):Array Value×TypeId:=((let c:=w.heap[G.blk]?;match c with|some (.cells c _ _)=>c.extract 0 G.off|_=>#[]),(match w.heap[G.blk]? with|some (.cells _ T _)=>T|_=>0))
structure WF (G:H4) (bx:Nat) (w0 w:World):Prop where
 os:w.os=w0.os
 output:w.output=w0.output
 size:w0.heap.size <=w.heap.size
 old:∀b,b<w0.heap.size->b≠G.blk->b≠bx->w.heap[b]? =w0.heap[b]?
 pre:Lo0 G w=Lo0 G w0
section
variable {G:H4}{bx:Nat}{w0 w:World}
theorem WF.refl:WF G bx w w:=⟨rfl,rfl,Nat.le_refl _,fun _ _ _ _=>rfl,rfl⟩
theorem WF.at (h:WF G bx w0 w) (d:Nat):WF G bx w0 (w.at d):=⟨h.os,h.output,h.size,h.old,h.pre⟩
theorem size_setCell (w:World) (a:Addr) (v:Value):(w.setCell a v).heap.size=w.heap.size:=by simp[World.setCell]
theorem WF.cell (h:WF G bx w0 w) {b i:Nat} (v:Value) (hb:b=bx\/w0.heap.size <=b) (hg:b≠G.blk):WF G bx w0 (w.setCell ⟨b,i,none⟩ v):=by
 refine⟨h.os,h.output,by rw[size_setCell];exact h.size,fun k hk h1 h2=>?_,?_⟩
 ·have:k≠b:=by rintro rfl;rcases hb with e|e;exact h2 e;omega
  rw[C1 w v (a:=⟨b,i,none⟩) this];exact h.old k hk h1 h2
 ·rw[<- h.pre];unfold Lo0;rw[C1 w v (a:=⟨b,i,none⟩) (Ne.symm hg)]
theorem WF.alloc (h:WF G bx w0 w) (o:Obj) (hg:G.blk<w0.heap.size):WF G bx w0 (w.alloc o):=by
 have hh:∀k,k<w0.heap.size->(w.alloc o).heap[k]? =w.heap[k]?:=fun k hk=>by
  have:=h.size;show(w.heap.push o)[k]? =_;rw[Array.getElem?_push,if_neg (by omega)]
 refine⟨h.os,h.output,by have:=h.size;show _ <=(w.heap.push o).size;rw[Array.size_push];omega,fun k hk h1 h2=>by rw[hh k hk];exact h.old k hk h1 h2,?_⟩;rw[<- h.pre];unfold Lo0;rw[hh _ hg]
theorem WF.Hs0 (h:WF G bx w0 w) {st sm:Int} (hg:q7 G st sm w) {a:Addr} (ha:a.block=G.blk) (hs:a.spot=none) (ho:G.off <=a.off) (v:Value):WF G bx w0 (w.setCell a v):=by
 refine⟨h.os,h.output,by rw[size_setCell];exact h.size,fun k hk h1 h2=>?_,?_⟩
 ·rw[C1 w v (by rw[ha];exact h1)];exact h.old k hk h1 h2
 ·rw[<- h.pre];have:=cf0 hg ha hs ho v;exact Prod.ext this.1 this.2
end
inductive Bd where
 |up (wt:Bool)
 |out
 |last (s:Nat)
 |done
def bst:Bd->Int×Int
 | .up wt=>((((0+1)*KK+(if wt then 1 else 0):Nat):Int),0)
 | .out=>(0,0)
 | .last 0=>(0,0)
 | .last (_+1)=>(1,0)
 | .done=>(0,1)
def frB:Bd->Bool
 | .up false=>true
 | .out=>true
 |_=>false
def UsB (c:Nat) (σ:Bd) (g:Nat):Prop:=g=0\/(g=c/\(match σ with| .up _=>True| .last _=>True|_=>False))
def xz0 (P:Program) (G:H4) (A:Addr) (Fp:PM->Prop) (n:Nat) (pm:PM) (g:Goroutine):Prop :=
 g.status= .running/\Fp pm/\∃g',(∀w,stepG P false g w= .go g' w #[⟨.mark (.releaseMerge A),false,true⟩])/\Lt P G n 0 g'
def db0 (P:Program) (G:H4) (Lc:Q3) (A:Addr) (Fp:PM->Prop) (σ:Bd) (r:Option Nat) (pm:PM) (d n:Nat) (g:Goroutine):Prop:=match σ with
 | .up _=>(r=none/\d=0/\MP P false G Lc (xz0 P G A Fp) n pm g)\/(r≠none/\Lt P G n d g)
 | .last s=>r≠none/\s <=2/\Lst P G n s d g
 |_=>r≠none/\QuitsD P n d g
def GB (X:Gh) (b:Nat):Prop:=∃G,(X.K2=some G\/G∈X.old)/\b=G.blk
structure StB (X:Gh) (G:H4) (c bx:Nat) (w0:World) (L0 Lc:Q3):Prop where
 K2:X.K2=some G
 c0:c≠0
 st:∀p,p∈L0\/p∈Lc->w0.cell? p.1=some p.2/\p.1.block<w0.heap.size/\p.1.block≠bx/\¬GB X p.1.block
 bx:bx<w0.heap.size/\¬GB X bx
 gb:∀b,GB X b->b<w0.heap.size
abbrev BM (pm:PM) (b:Nat):Prop:=∃o,(b,o)∈pm
structure Rb (P:Program) (X:Gh) (G:H4) (c bx n0:Nat) (w0:World) (L0 Lc:Q3) (A:Addr) (Fp:PM->Prop) (N:Nat) (σ:Bd) (r:Option Nat) (o7 L6:PM) (d:Nat) (T:Trace) (gs:Array Goroutine) (w:World) (q:Nat->Nat):Prop where
 wf:WF G bx w0 w
 tb:TB X.Sh (UsB c σ) c n0 L0 Lc (BM o7) (BM L6) A r T
 n0:n0 <=T.size
 d0:Deaf T 0=d
 own:∀x,x∈o7\/x∈L6->(x.1=bx\/w0.heap.size <=x.1)/\w.heap[x.1]? =some x.2
 apart:Apart L0 Lc (BM o7) (BM L6)
 child:∀g,gs[c]? =some g->db0 P G Lc A Fp σ r L6 (Deaf T c) (q c) g
 rest:∀i g,i≠0->i≠c->gs[i]? =some g->QuitsD P (q i) (Deaf T i) g
 o6:q7 G (bst σ).1 (bst σ).2 w
 size:c<gs.size/\gs.size=N
 above:∀j,gs.size <=j->Deaf T j=0
 fin:r≠none->Fp L6
theorem vu0 {e:Event} {a:Addr} (h:MemAct.ofEvent e= .mark (.release a)):e.loc= .mark (.release a):=by
 obtain⟨l,w,s⟩:=e;cases l with
 |mark m=>cases m <;> simp[MemAct.ofEvent]at h⊢<;> exact h
 |_=>cases w <;> cases s <;> simp[MemAct.ofEvent]at h
section
variable {P:Program}{X:Gh}{G:H4}{c bx n0:Nat}{w0:World}{L0 Lc:Q3}{A:Addr}{Fp:PM->Prop}{N:Nat}{σ σ':Bd}{r r':Option Nat}{o7 L6 pmc':PM}{d:Nat}{T:Trace}{gs:Array Goroutine}{w w':World}{q:Nat->Nat}
theorem norel_of {x:Nat} {fn:FuncId} {pos:String} {es:Array Event} (h:∀e∈es,∀a,e.loc≠.mark (.release a)):rh0 (MemOp.ofEvents x fn pos es):=fun op C5 a e=>by
 obtain⟨ev,he,rfl⟩:=Go.Conc.mem_ofEvents C5;exact h ev he a (vu0 e)
theorem TB.K2 {Us:Nat->Prop} {B0 Bc:Nat->Prop} (H:TB X.Sh Us c n0 L0 Lc B0 Bc A r T) (hn0:n0 <=T.size) (hG:X.K2=some G) {x:Nat} {fn:FuncId} {pos:String} {es:Array Event} (r9:∀e∈es,GEv G x e) (hu:(∀e∈es,(MemAct.ofEvent e).touch? =none)\/(Us x/\(x≠0->∀k,k<es.size->deafBehind (Deaf T x) (es.extract 0 k)≠0))) :
  TB X.Sh Us c n0 L0 Lc B0 Bc A r (T++MemOp.ofEvents x fn pos es):=by
 have hnr:=norel_of (x:=x) (fn:=fn) (pos:=pos) fun e he=>(r9 e he).2;rcases hu with hu|⟨hU,hdf⟩
 ·exact H.mute hn0 (fun op C5=>by obtain⟨e,he,rfl⟩:=Go.Conc.mem_ofEvents C5;exact hu e he) fun _=>hnr
 ·refine H.sh hn0 hU r2 (fun op C5 b hb=>?_) (fun D3 i hi1 hi2=>?_) fun _=>hnr
  ·obtain⟨e,he,rfl⟩:=Go.Conc.mem_ofEvents C5;obtain⟨⟨a,h1,h2,h3⟩,h4⟩:=(r9 e he).1 b hb;exact⟨⟨a,G,.inl hG,h1,h2,h3⟩,h4⟩
  ·obtain⟨m,rfl⟩:∃m,i=T.size+m:=⟨i-T.size,by omega⟩
   have hm:m<es.size:=by
    have n2:(MemOp.ofEvents x fn pos es).size=es.size:=by rw[ofEvents_eq];simp
    omega
   rw[Go.Conc.deaf_inside T x fn pos es m (Nat.le_of_lt hm)];exact hdf D3 m hm
theorem StB.on0 (S:StB X G c bx w0 L0 Lc) (l7:∀b,BM o7 b->b=bx\/w0.heap.size <=b) {a:Touch} (h:On L0 (BM o7) a):¬X.Sh a.loc:=by
 rintro⟨ad,G',hG',e,hb,_⟩;have hgb:GB X ad.block:=⟨G',hG',hb⟩
 rcases h with⟨_,p,hp,h2⟩|⟨ad',h1,h2⟩
 ·rw[e]at h2;cases h2;exact(S.st p (.inl hp)).2.2.2 hgb
 ·rw[e]at h1;cases h1;rcases l7 _ h2 with e|e
  ·rw[e]at hgb;exact S.bx.2 hgb
  ·have:=S.gb _ hgb;omega
theorem StB.onc (S:StB X G c bx w0 L0 Lc) (l7:∀b,BM L6 b->b=bx\/w0.heap.size <=b) {a:Touch} (h:On Lc (BM L6) a):¬X.Sh a.loc:=by
 rintro⟨ad,G',hG',e,hb,_⟩;have hgb:GB X ad.block:=⟨G',hG',hb⟩
 rcases h with⟨_,p,hp,h2⟩|⟨ad',h1,h2⟩
 ·rw[e]at h2;cases h2;exact(S.st p (.inr hp)).2.2.2 hgb
 ·rw[e]at h1;cases h1;rcases l7 _ h2 with e|e
  ·rw[e]at hgb;exact S.bx.2 hgb
  ·have:=S.gb _ hgb;omega
theorem StB.cell (S:StB X G c bx w0 L0 Lc) (hw:WF G bx w0 w) {p:Addr×Value} (hp:p∈L0\/p∈Lc):w.cell? p.1=some p.2:=by
 obtain⟨h1,h2,h3,h4⟩:=S.st p hp;have:=(p5 (u:=w0) (u':=w) (a:=p.1) (hw.old _ h2 (fun e=>h4 ⟨G,.inl S.K2,e⟩) h3)).1;rw[this];exact h1
theorem EvM.on {L:Q3} {pm:PM} {e:Event} (h:EvM L pm e):(∀b,(MemAct.ofEvent e).touch? =some b->On L (BM pm) b)/\(∀a,e.loc≠.mark (.release a))/\e.loc≠.mark .disable/\e.loc≠.mark .enable:=by
 obtain⟨a,rfl,h⟩:=h;refine⟨fun b hb=>?_,by simp,by simp,by simp⟩;simp only[ofEvent_cell0,MemAct.touch?,Option.some.injEq]at hb;subst hb;rcases h with⟨v,hv⟩|⟨o,ho⟩
 ·exact .inl ⟨rfl,_,hv,rfl⟩
 ·exact .inr ⟨a,rfl,o,ho⟩
theorem dc0 {L:Q3} {pm:PM} {bl i:Nat} {o:Obj} (h:(bl,o)∈pm) {e:Event} (he:e=⟨.cell ⟨bl,i,none⟩,true,false⟩):(∀b,(MemAct.ofEvent e).touch? =some b->On L (BM pm) b)/\(∀a,e.loc≠.mark (.release a))/\e.loc≠.mark .disable/\e.loc≠.mark .enable:=by
 subst he;refine⟨fun b hb=>?_,by simp,by simp,by simp⟩;simp only[MemAct.ofEvent,MemAct.touch?,Option.some.injEq]at hb;subst hb;exact .inr ⟨_,rfl,o,h⟩
theorem Rb.Zj0 (C:Rb P X G c bx n0 w0 L0 Lc A Fp N σ r o7 L6 d T gs w q):∀b,BM o7 b->b=bx\/w0.heap.size <=b:=fun _b ⟨_o,h⟩=>(C.own _ (.inl h)).1
theorem Rb.Zk0 (C:Rb P X G c bx n0 w0 L0 Lc A Fp N σ r o7 L6 d T gs w q):∀b,BM L6 b->b=bx\/w0.heap.size <=b:=fun _b ⟨_o,h⟩=>(C.own _ (.inr h)).1
theorem Rb.Ht0 (C:Rb P X G c bx n0 w0 L0 Lc A Fp N σ r o7 L6 d T gs w q) (S:StB X G c bx w0 L0 Lc):lo0 G L0 o7 w:=⟨⟨_,_,C.o6⟩,fun _p hp=>S.cell C.wf (.inl hp),fun x hx=>(C.own x (.inl hx)).2⟩
theorem Rb.Hu0 (C:Rb P X G c bx n0 w0 L0 Lc A Fp N σ r o7 L6 d T gs w q) (S:StB X G c bx w0 L0 Lc):lo0 G Lc L6 w:=⟨⟨_,_,C.o6⟩,fun _p hp=>S.cell C.wf (.inr hp),fun x hx=>(C.own x (.inr hx)).2⟩
theorem Rb.at (C:Rb P X G c bx n0 w0 L0 Lc A Fp N σ r o7 L6 d T gs w q) (k:Nat):Rb P X G c bx n0 w0 L0 Lc A Fp N σ r o7 L6 d T gs (w.at k) q :=
 ⟨C.wf.at k,C.tb,C.n0,C.d0,C.own,C.apart,C.child,C.rest,C.o6,C.size,C.above,C.fin⟩
theorem MP.running {main:Bool} {gr:H4} {L:Q3} {E:Nat->PM->Goroutine->Prop} (hE:∀n pm g,E n pm g->g.status= .running):∀{n:Nat} {pm:PM} {g:Goroutine},MP P main gr L E n pm g->g.status= .running
 |0,_,_,h=>h.elim
 |_+1,_,_,h=>h.elim (hE _ _ _) fun z=>z.1
theorem db0.status {n:Nat} {g:Goroutine} (h:db0 P G Lc A Fp σ r L6 d n g):g.status= .running\/g.status= .finished:=by
 cases σ with
 |up wt=>rcases h with⟨_,_,h⟩|⟨_,h⟩;exact .inl (h.running fun _ _ _ z=>z.1);exact .inl h.running
 |last s=>exact .inl h.2.2.running
 |out=>exact h.2.status
 |done=>exact h.2.status
theorem Rb.status (C:Rb P X G c bx n0 w0 L0 Lc A Fp N σ r o7 L6 d T gs w q) {i:Nat} {g:Goroutine} (hi:i≠0) (hg:gs[i]? =some g):g.status= .running\/g.status= .finished:=by
 by_cases e:i=c
 ·subst e;exact(C.child g hg).status
 ·exact(C.rest i g hi e hg).status
theorem Rb.move (C:Rb P X G c bx n0 w0 L0 Lc A Fp N σ r o7 L6 d T gs w q) {i n:Nat} {g g':Goroutine} {es:Array Event} {sl:Option (Nat×Nat)} (hi:gs[i]? =some g) (D3:i≠0) (P2:stepG P false g w= .go g' w' es) (hq:q i=n+1)
  (tb':TB X.Sh (UsB c σ') c n0 L0 Lc (BM o7) (BM pmc') A r' (T++MemOp.ofEvents i g.frame.fn g.frame.place es)) (wf':WF G bx w0 w') (Bd0:∀x,x∈o7\/x∈pmc'->(x.1=bx\/w0.heap.size <=x.1)/\w'.heap[x.1]? =some x.2) (ya0:Apart L0 Lc (BM o7) (BM pmc')) (Hv0:q7 G (bst σ').1 (bst σ').2 w') (dm1:r'≠none->Fp pmc')
  (jp0:(i=c->db0 P G Lc A Fp σ' r' pmc' (deafBehind (Deaf T c) es) n g')/\(i≠c->σ'=σ/\r'=r/\pmc'=L6/\QuitsD P n (deafBehind (Deaf T i) es) g')) :
  ∃E4 ops q',runT P (crowd gs w sl) i=(.next (crowd E4 w' sl),ops)/\E4.size=gs.size/\(∀g0,gs[0]? =some g0->E4[0]? =some (woken P g g' w' g0))/\Rb P X G c bx n0 w0 L0 Lc A Fp N σ' r' o7 pmc' d (T++ops) E4 w' q'/\sumTo E4.size q'<sumTo gs.size q:=by
 have R2:i<gs.size:=(Array.getElem?_eq_some_iff.1 hi).1;have hi0:(i==0)=false:=by simpa using D3
 have n2:((gs.map (woken P g g' w')).setIfInBounds i g').size=gs.size:=by simp
 have hdo:∀x,x≠i->Deaf (T++MemOp.ofEvents i g.frame.fn g.frame.place es) x=Deaf T x:=fun x hx=>Deaf_other T (Ne.symm hx) _ r2;have vi0:∀x y,x≠0->((gs.map (woken P g g' w')).setIfInBounds i g')[x]? =some y->(x=i/\y=g')\/(x≠i/\gs[x]? =some y):=fun x y hx hy=>by
  by_cases e:x=i
  ·subst e;rw[Array.getElem?_setIfInBounds_self_of_lt (by simpa using R2)]at hy;exact .inl ⟨rfl,(Option.some.inj hy).symm⟩
  ·rw[Array.getElem?_setIfInBounds_ne (fun z=>e z.symm),Array.getElem?_map]at hy;obtain⟨y₀,hy₀,rfl⟩:=Option.map_eq_some_iff.1 hy;rw[woken_of_again (again_of_running (C.status hx hy₀) w')];exact .inr ⟨e,hy₀⟩
 refine⟨_,_,upd q i n,runT_crowd_go (sl:=sl) hi (by rw[hi0];exact P2),n2,fun g0 h0=>?_,⟨wf',tb',by rw[Array.size_append];have:=C.n0;omega,(hdo 0 (Ne.symm D3)).trans C.d0,Bd0,ya0,fun y hy=>?_,fun x y hx hxc hy=>?_,Hv0,by rw[n2];exact C.size,fun j hj=>?_,dm1⟩,?_⟩
 ·rw[Array.getElem?_setIfInBounds_ne D3,Array.getElem?_map,h0];rfl
 ·have hc0:c≠0\/c=0:=(Decidable.em (c=0)).symm;by_cases e:i=c
  ·subst e;rw[Array.getElem?_setIfInBounds_self_of_lt (by simpa using R2)]at hy;obtain rfl:=Option.some.inj hy;rw[Deaf_own,upd_same];exact jp0.1 rfl
  ·obtain⟨rfl,rfl,rfl,_⟩:=jp0.2 e;have hy':gs[c]? =some y:=by
    rw[Array.getElem?_setIfInBounds_ne e,Array.getElem?_map]at hy;obtain⟨y₀,hy₀,rfl⟩:=Option.map_eq_some_iff.1 hy;rw[woken_of_again (again_of_running (C.child y₀ hy₀).status w')];exact hy₀
   rw[hdo c (Ne.symm e),upd_ne q n (Ne.symm e)];exact C.child y hy'
 ·rcases vi0 x y hx hy with⟨rfl,rfl⟩|⟨e,hy'⟩
  ·rw[Deaf_own,upd_same];exact(jp0.2 hxc).2.2.2
  ·rw[hdo x e,upd_ne q n e];exact C.rest x y hx hxc hy'
 ·rw[n2]at hj;rw[hdo j (by omega)];exact C.above j hj
 ·have h2:sumTo gs.size (upd q i n)+(n+1)=sumTo gs.size q+n:=by
   have:=sumTo_upd q n id R2;simpa [hq]using this
  rw[n2];omega
end
end
section
attribute [local irreducible] KK
theorem ec0 {x:Nat} {fn:FuncId} {pos:String} {m:Mark}:MemOp.ofEvents x fn pos #[⟨.mark m,false,true⟩]=#[{g:=x,fn,pos,act:=.mark m}]:=by
 rw[ofEvents_eq];simp[MemAct.ofEvent]
theorem tj0 {pm:PM} {b k:Nat} {o:Obj} (h:BM (ir0 pm b o) k):BM pm k:=by
 obtain⟨x,hx⟩:=h;obtain⟨y,hy,e⟩:=List.mem_map.1 hx;by_cases e1:y.1=b
 ·rw[if_pos e1]at e;cases e;exact⟨y.2,by rw[<- e1];exact hy⟩
 ·rw[if_neg e1]at e;cases e;exact⟨_,hy⟩
theorem mem_set {pm:PM} {b:Nat} {o:Obj} {x:Nat×Obj} (h:x∈ir0 pm b o):(x=(b,o)/\BM pm b)\/(x∈pm/\x.1≠b):=by
 obtain⟨y,hy,e⟩:=List.mem_map.1 h;by_cases e1:y.1=b
 ·rw[if_pos e1]at e;exact .inl ⟨e.symm,y.2,by rw[<- e1];exact hy⟩
 ·rw[if_neg e1]at e;subst e;exact .inr ⟨hy,e1⟩
theorem heap_put {w:World} {b i:Nat} {cs:Array Value} {T:TypeId} {v:Value} (h:w.heap[b]? =some (.cells cs T (0,0))):(w.setCell ⟨b,i,none⟩ v).heap[b]? =some (.cells (cs.setIfInBounds i v) T (0,0)):=by
 rw[heap_setCell,h];simp
theorem tk0 {w:World} {b:Nat} {o:Obj} (h:w.heap[b]? =some o):b<w.heap.size:=(Array.getElem?_eq_some_iff.1 h).1
theorem heap_alloc {w:World} {b:Nat} {o x:Obj} (h:w.heap[b]? =some x):(w.alloc o).heap[b]? =some x:=by
 show(w.heap.push o)[b]? =_;rw[Array.getElem?_push,if_neg (by have:=tk0 h;omega)];exact h
theorem heap_alloc_new {w:World} {o:Obj}:(w.alloc o).heap[w.heap.size]? =some o:=by
 show(w.heap.push o)[w.heap.size]? =_;rw[Array.getElem?_push,if_pos rfl]
section
variable {P:Program}{X:Gh}{G:H4}{c bx n0:Nat}{w0:World}{L0 Lc:Q3}{A:Addr}{Fp:PM->Prop}{N:Nat}{σ:Bd}{r:Option Nat}{o7 L6:PM}{d:Nat}{T:Trace}{gs:Array Goroutine}{w:World}{q:Nat->Nat}
theorem StB.Ca0 (S:StB X G c bx w0 L0 Lc):G.blk<w0.heap.size/\G.blk≠bx:=⟨S.gb _ ⟨G,.inl S.K2,rfl⟩,fun e=>S.bx.2 ⟨G,.inl S.K2,e.symm⟩⟩
theorem StB.ng (S:StB X G c bx w0 L0 Lc) {b:Nat} (h:b=bx\/w0.heap.size <=b):b≠G.blk:=by
 have:=S.Ca0;rintro rfl;rcases h with e|e
 ·exact this.2 e
 ·omega
def ByB (P:Program) (X:Gh) (G:H4) (c bx n0:Nat) (w0:World) (L0 Lc:Q3) (A:Addr) (Fp:PM->Prop) (N:Nat) (σ:Bd) (o7:PM) (d:Nat) (T:Trace) (gs:Array Goroutine) (w:World) (q:Nat->Nat) (i:Nat) (sl:Option (Nat×Nat)):Prop :=
 ∃E4 ops q' w' σ' r' pmc',runT P (crowd gs w sl) i=(.next (crowd E4 w' sl),ops)/\E4.size=gs.size/\(∀g0,gs[0]? =some g0->E4[0]? =some g0\/E4[0]? =some (g0.again w'))/\Rb P X G c bx n0 w0 L0 Lc A Fp N σ' r' o7 pmc' d (T++ops) E4 w' q'/\sumTo E4.size q'<sumTo gs.size q/\frB σ'=frB σ /\
   (σ'= .done->σ= .done\/∀g0,gs[0]? =some g0->E4[0]? =some (g0.again w'))/\(σ= .out->σ'= .out)
theorem Rb.by (C:Rb P X G c bx n0 w0 L0 Lc A Fp N σ r o7 L6 d T gs w q) (S:StB X G c bx w0 L0 Lc) {i:Nat} {g:Goroutine} {sl:Option (Nat×Nat)} (hi:gs[i]? =some g) (D3:i≠0) (e4:g.status= .running):ByB P X G c bx n0 w0 L0 Lc A Fp N σ o7 d T gs w q i sl:=by
 have pack:∀{g':Goroutine} {w':World} {σ':Bd} {r':Option Nat} {pmc':PM},(∃E4 ops q',runT P (crowd gs w sl) i=(.next (crowd E4 w' sl),ops)/\E4.size=gs.size/\(∀g0,gs[0]? =some g0->E4[0]? =some (woken P g g' w' g0))/\Rb P X G c bx n0 w0 L0 Lc A Fp N σ' r' o7 pmc' d (T++ops) E4 w' q'/\sumTo E4.size q'<sumTo gs.size q) ->
   frB σ'=frB σ->((σ'= .done->σ= .done\/∀g0,woken P g g' w' g0=g0.again w')/\(σ= .out->σ'= .out))->ByB P X G c bx n0 w0 L0 Lc A Fp N σ o7 d T gs w q i sl:=by
  rintro g' w' σ' r' pmc' ⟨E4,ops,q',h1,h2,h3,h4,h5⟩ hf hd;refine⟨E4,ops,q',w',σ',r',pmc',h1,h2,fun g0 h0=>?_,h4,h5,hf,fun e=>(hd.1 e).imp id fun z g0 h0=>?_,hd.2⟩
  ·rw[h3 g0 h0];rcases tw0 P g g' w' g0 with e|e <;> rw[e]
   ·exact .inl rfl
   ·exact .inr rfl
  ·rw[h3 g0 h0,z g0]
 have quit:QuitsD P (q i) (Deaf T i) g->(i=c->(σ= .out\/σ= .done)/\r≠none)->ByB P X G c bx n0 w0 L0 Lc A Fp N σ o7 d T gs w q i sl:=fun hQ hc=>by
  cases hq:q i with
  |zero=>rw[hq]at hQ;rw[hQ.1]at e4;cases e4
  |succ k=>
   rw[hq]at hQ;rcases hQ with⟨hf,_⟩|⟨_,g',es,hm,u3,hQ⟩
   ·rw[hf]at e4;cases e4
   ·refine pack (C.move (sl:=sl) hi D3 (u3 w) hq (C.tb.K2 C.n0 S.K2 (fun e he=>tv0 (hm e he)) (.inl fun e he=>touch_mute (hm e he))) C.wf C.own C.apart C.o6 C.fin ⟨fun e=>?_,fun e=>⟨rfl,rfl,rfl,hQ⟩⟩) rfl ⟨fun e=>.inl e,id⟩;subst e;obtain⟨h1,h2⟩:=hc rfl;rcases h1 with rfl|rfl
    ·exact⟨h2,hQ⟩
    ·exact⟨h2,hQ⟩
 by_cases hic:i=c
 case neg=>exact quit (C.rest i g D3 hic hi) fun e=>absurd e hic
 subst hic;have R5:=C.child g hi;cases hq:q i with
 |zero=>
  rw[hq]at R5;cases σ with
  |up wt=>rcases R5 with⟨_,_,h⟩|⟨_,h⟩ <;> exact h.elim
  |last s=>exact R5.2.2.elim
  |out=>rw[R5.2.1]at e4;cases e4
  |done=>rw[R5.2.1]at e4;cases e4
 |succ k=>
 cases σ with
 |out=>exact quit R5.2 fun _=>⟨.inl rfl,R5.1⟩
 |done=>exact quit R5.2 fun _=>⟨.inr rfl,R5.1⟩
 |up wt=>
  rw[hq]at R5;rcases R5 with⟨hr,hd0,hM⟩|⟨hr,hL⟩
  ·subst hr;unfold MP at hM;rcases hM with⟨hr,hF,g',P2,hL⟩|⟨_,⟨g',es,hr',r9,P2,hM⟩|⟨g',b,cs,T1,o,v,es,hr',hm,r9,P2,hM⟩|⟨gf,cs,T1,hr',P2,hM⟩⟩
   ·
    refine pack (C.move (sl:=sl) (σ':=.up wt) (r':=some T.size) (pmc':=L6) hi D3 (P2 w) hq (by rw[ec0];exact C.tb.release C.n0 hd0) C.wf C.own C.apart C.o6 (fun _=>hF) ⟨fun _=>.inr ⟨by simp,?_⟩,fun e=>absurd rfl e⟩) rfl ⟨fun e=>(by cases e),fun e=>(by cases e)⟩;rw[hd0];exact hL
   ·have hd:deafBehind (Deaf T i) es=Deaf T i:=deafBehind_still (fun e he=>(r9 e he).on.2.2) _;refine pack (C.move (sl:=sl) (σ':=.up wt) (r':=none) (pmc':=L6) hi D3 (P2 w (C.Hu0 S)) hq (C.tb.own C.apart C.n0 r2 (fun op C5 bb hb=>?_) fun h=>absurd rfl h) C.wf C.own C.apart C.o6 C.fin ⟨fun _=>.inl ⟨rfl,hd.trans hd0,hM⟩,fun e=>absurd rfl e⟩) rfl ⟨fun e=>(by cases e),fun e=>(by cases e)⟩;obtain⟨e,he,rfl⟩:=Go.Conc.mem_ofEvents C5;have:=(r9 e he).on.1 bb hb;exact⟨S.onc C.Zk0 this,.inr ⟨rfl,this,rfl⟩⟩
   ·have hd:deafBehind (Deaf T i) es=Deaf T i:=deafBehind_still (fun e he=>(dc0 (L:=Lc) hm (r9 e he)).2.2) _;have hob:=(C.own _ (.inr hm))
    have hng:=S.ng hob.1;have r3:∀x,x∈o7\/x∈ir0 L6 b (.cells (cs.setIfInBounds o v) T1 (0,0))->(x.1=bx\/w0.heap.size <=x.1)/\(w.setCell ⟨b,o,none⟩ v).heap[x.1]? =some x.2:=fun x hx=>by
     rcases hx with hx|hx
     ·have h1:=C.own x (.inl hx);have:x.1≠b:=fun e=>C.apart.own x.1 ⟨x.2,hx⟩ ⟨_,by rw[e];exact hm⟩;exact⟨h1.1,by rw[C1 w v (a:=⟨b,o,none⟩) this];exact h1.2⟩
     ·rcases mem_set hx with⟨rfl,_⟩|⟨hx,hxb⟩
      ·exact⟨hob.1,heap_put hob.2⟩
      ·have h1:=C.own x (.inr hx);exact⟨h1.1,by rw[C1 w v (a:=⟨b,o,none⟩) hxb];exact h1.2⟩
    refine pack (C.move (sl:=sl) (σ':=.up wt) (r':=none) (pmc':=ir0 L6 b (.cells (cs.setIfInBounds o v) T1 (0,0))) hi D3 (P2 w (C.Hu0 S)) hq ?_ (C.wf.cell v hob.1 hng) r3 ⟨fun p hp h=>C.apart.l0 p hp (tj0 h),C.apart.lc,fun bb h h'=>C.apart.own bb h (tj0 h')⟩
     (C.o6.of_block (C1 w v (a:=⟨b,o,none⟩) (Ne.symm hng))) (fun h=>absurd rfl h) ⟨fun _=>.inl ⟨rfl,hd.trans hd0,hM⟩,fun e=>absurd rfl e⟩) rfl ⟨fun e=>(by cases e),fun e=>(by cases e)⟩
    refine(C.tb.own C.apart C.n0 r2 (fun op C5 bb hb=>?_) fun h=>absurd rfl h).grow (fun _ h=>h) fun k hk=>?_
    ·obtain⟨e,he,rfl⟩:=Go.Conc.mem_ofEvents C5;have:=(dc0 (L:=Lc) hm (r9 e he)).1 bb hb;exact⟨S.onc C.Zk0 this,.inr ⟨rfl,this,rfl⟩⟩
    ·obtain⟨x,hx⟩:=hk;by_cases e:k=b
     ·exact⟨.cells (cs.setIfInBounds o v) T1 (0,0),List.mem_map.2 ⟨(k,x),hx,by rw[if_pos e,e]⟩⟩
     ·exact⟨x,List.mem_map.2 ⟨(k,x),hx,by rw[if_neg e]⟩⟩
   ·have n2:=C.wf.size;have hd:deafBehind (Deaf T i) #[]=Deaf T i:=rfl;refine pack (C.move (sl:=sl) (σ':=.up wt) (r':=none) (pmc':=(w.heap.size,.cells cs T1 (0,0))::L6) hi D3 (P2 w) hq ?_ (C.wf.alloc _ S.Ca0.1) (fun x hx=>?_) ⟨fun p hp h=>?_,C.apart.lc,fun bb h h'=>?_⟩ (C.o6.of_block ?_) (fun h=>absurd rfl h) ⟨fun _=>.inl ⟨rfl,hd.trans hd0,hM w.heap.size⟩,fun e=>absurd rfl e⟩) rfl ⟨fun e=>(by cases e),fun e=>(by cases e)⟩
    ·refine(C.tb.mute C.n0 (fun op C5=>?_) fun h=>absurd rfl h).grow (fun _ h=>h) fun k ⟨x,hx⟩=>⟨x,List.mem_cons_of_mem _ hx⟩
     obtain⟨e,he,rfl⟩:=Go.Conc.mem_ofEvents C5;simp at he
    ·rcases hx with hx|hx
     ·have:=C.own x (.inl hx);exact⟨this.1,heap_alloc this.2⟩
     ·rcases List.mem_cons.1 hx with rfl|hx
      ·exact⟨.inr n2,heap_alloc_new⟩
      ·have:=C.own x (.inr hx);exact⟨this.1,heap_alloc this.2⟩
    ·obtain⟨x,hx⟩:=h;rcases List.mem_cons.1 hx with e|hx
     ·have:=(S.st p (.inl hp)).2.1;have e:=congrArg Prod.fst e;simp only at e;omega
     ·exact C.apart.l0 p hp ⟨x,hx⟩
    ·obtain⟨x,hx⟩:=h';rcases List.mem_cons.1 hx with e|hx
     ·obtain⟨y,hy⟩:=h;have:=tk0 (C.own _ (.inl hy)).2;cases e;simp at this
     ·exact C.apart.own bb h ⟨x,hx⟩
    ·show(w.heap.push _)[G.blk]? =_;rw[Array.getElem?_push,if_neg (by have:=S.Ca0.1;omega)]
  ·unfold Lt at hL;have hUs:UsB i (.up wt) i:=.inr ⟨rfl,trivial⟩;rcases hL with⟨g',es,⟨_,hsy,u3⟩,hL⟩|⟨_,hd0,tt0⟩
   ·exact pack (C.move (sl:=sl) (σ':=.up wt) (r':=r) (pmc':=L6) hi D3 (u3 w _ _ C.o6) hq (C.tb.K2 C.n0 S.K2 (fun e he=>ch0 (hsy e he)) (.inl fun e he=>N7 (hsy e he))) C.wf C.own C.apart C.o6 C.fin ⟨fun _=>.inr ⟨hr,hL⟩,fun e=>absurd rfl e⟩) rfl ⟨fun e=>(by cases e),fun e=>(by cases e)⟩
   ·have dp0:=C.o6;obtain⟨g',u3,et0,Cq0⟩:=tt0 0 (if wt then 1 else 0) (by split <;> omega) (by omega);have P2:=u3 w dp0;have hdd:deafBehind (Deaf T i) #[rdA (stA G),wrA (stA G)]=Deaf T i:=deafBehind_still je0 _;have htb:TB X.Sh (UsB i (.up wt)) i n0 L0 Lc (BM o7) (BM L6) A r (T++MemOp.ofEvents i g.frame.fn g.frame.place #[rdA (stA G),wrA (stA G)]):=C.tb.K2 C.n0 S.K2 x9 (.inr ⟨hUs,fun _ j _=>by rw[O7 je0];omega⟩);have l7:∀x,x∈o7\/x∈L6->(x.1=bx\/w0.heap.size <=x.1)/\(w.setCell (stA G) (.int .u64 ((0*KK+(if wt then 1 else 0):Nat):Int))).heap[x.1]? =some x.2:=fun x hx=>by
     have:=C.own x hx;exact⟨this.1,by rw[C1 w _ (a:=stA G) (S.ng this.1)];exact this.2⟩
    have hg2:=dp0.setSt ((0*KK+(if wt then 1 else 0):Nat):Int);cases wt with
    |false=>
     refine pack (C.move (sl:=sl) (σ':=.out) (r':=r) (pmc':=L6) hi D3 P2 hq (htb.leave fun x hx=>?_) (C.wf.Hs0 dp0 rfl rfl (Nat.le_refl _) _) l7 C.apart ?_ C.fin ⟨fun _=>⟨hr,by rw[hdd];exact et0 (by simp)⟩,fun e=>absurd rfl e⟩) rfl ⟨fun e=>(by cases e),fun e=>(by cases e)⟩
     ·rcases hx with e|⟨_,h⟩
      ·exact .inl e
      ·exact h.elim
     ·have e1:((0*KK+(if false=true then 1 else 0):Nat):Int)=0:=by rw[Nat.zero_mul];rfl
      rw[e1]at hg2⊢;exact hg2
    |true=>
     refine pack (C.move (sl:=sl) (σ':=.last 2) (r':=r) (pmc':=L6) hi D3 P2 hq (htb.leave fun x hx=>?_) (C.wf.Hs0 dp0 rfl rfl (Nat.le_refl _) _) l7 C.apart ?_ C.fin ⟨fun _=>⟨hr,Nat.le_refl _,by rw[hdd];exact Cq0 ⟨rfl,rfl⟩⟩,fun e=>absurd rfl e⟩) rfl ⟨fun e=>(by cases e),fun e=>(by cases e)⟩
     ·rcases hx with e|⟨e,_⟩
      ·exact .inl e
      ·exact .inr ⟨e,trivial⟩
     ·have e1:((0*KK+(if true=true then 1 else 0):Nat):Int)=1:=by rw[Nat.zero_mul];rfl
      rw[e1]at hg2⊢;exact hg2
 |last s=>
  rw[hq]at R5;obtain⟨hr,hs2,hL⟩:=R5;unfold Lst at hL;obtain⟨hd0,hL⟩:=hL;have hUs:UsB i (.last s) i:=.inr ⟨rfl,trivial⟩;have l7:∀(a:Addr) (v:Value),a.block=G.blk->∀x,x∈o7\/x∈L6->(x.1=bx\/w0.heap.size <=x.1)/\(w.setCell a v).heap[x.1]? =some x.2:=fun a v ha x hx=>by
   have:=C.own x hx;exact⟨this.1,by rw[C1 w _ (by rw[ha];exact S.ng this.1)];exact this.2⟩
  rcases hL with⟨g',es,⟨_,hsy,u3⟩,hnm,hL⟩|⟨_,hL⟩
  ·exact pack (C.move (sl:=sl) (σ':=.last s) (r':=r) (pmc':=L6) hi D3 (u3 w _ _ C.o6) hq (C.tb.K2 C.n0 S.K2 (fun e he=>ch0 (hsy e he)) (.inl fun e he=>N7 (hsy e he))) C.wf C.own C.apart C.o6 C.fin ⟨fun _=>⟨hr,hs2,by rw[deafBehind_still hnm];exact hL⟩,fun e=>absurd rfl e⟩) rfl ⟨fun e=>(by cases e),fun e=>(by cases e)⟩
  ·rcases s with _|_|_|s
   ·simp only at hL;obtain⟨hwk,g',u3,hQ⟩:=hL;have P2:=u3 w C.o6;refine pack (C.move (sl:=sl) (σ':=.done) (r':=r) (pmc':=L6) hi D3 P2 hq ((C.tb.K2 C.n0 S.K2 jd0 (.inr ⟨hUs,fun _=>ia0 hd0⟩)).leave fun x hx=>?_) (C.wf.Hs0 C.o6 rfl rfl (Nat.le_succ _) _) (l7 (smA G) _ rfl) C.apart (C.o6.setSm _) C.fin ⟨fun _=>⟨hr,by rw[ev0];exact hQ⟩,fun e=>absurd rfl e⟩) rfl ⟨fun _=>.inr fun g0=>?_,fun e=>(by cases e)⟩
    ·rcases hx with e|⟨_,h⟩
     ·exact .inl e
     ·exact h.elim
    ·unfold woken;rw[if_pos];rw[hwk];rcases hQ.status with e|e <;> rw[e] <;> rfl
   ·simp only at hL;obtain⟨g',u3,hL⟩:=hL;have P2:=u3 w C.o6;exact pack (C.move (sl:=sl) (σ':=.last 0) (r':=r) (pmc':=L6) hi D3 P2 hq ((C.tb.K2 C.n0 S.K2 Cn0 (.inr ⟨hUs,fun _ j _=>by rw[O7 ew0];omega⟩)).leave fun x hx=>hx) (C.wf.Hs0 C.o6 rfl rfl (Nat.le_refl _) _) (l7 (stA G) _ rfl) C.apart (C.o6.setSt _) C.fin ⟨fun _=>⟨hr,by omega,by rw[deafBehind_still ew0];exact hL⟩,fun e=>absurd rfl e⟩) rfl ⟨fun e=>(by cases e),fun e=>(by cases e)⟩
   ·simp only at hL;obtain⟨g',u3,hL⟩:=hL;have P2:=u3 w C.o6;exact pack (C.move (sl:=sl) (σ':=.last 1) (r':=r) (pmc':=L6) hi D3 P2 hq ((C.tb.K2 C.n0 S.K2 gi0 (.inr ⟨hUs,fun _ j _=>by rw[O7 n8];omega⟩)).leave fun x hx=>hx) C.wf C.own C.apart C.o6 C.fin ⟨fun _=>⟨hr,by omega,by rw[deafBehind_still n8];exact hL⟩,fun e=>absurd rfl e⟩) rfl ⟨fun e=>(by cases e),fun e=>(by cases e)⟩
   ·omega
end
end
section
attribute [local irreducible] KK
def dd0 (u:World) (bx:Nat) (ox:Obj) (k:Nat):World:={u with heap:=u.heap.setIfInBounds bx ox++Array.replicate k nothing}
def Gh.gd0 (X:Gh) (u:World) (bx k:Nat):Gh:={X with n:=X.n+1,pend:=0,cap:=0,dn:=0,low:=fun b=>X.low b\/b=bx\/(u.heap.size <=b/\b<u.heap.size+k)}
theorem ge0 {u:World} {bx k:Nat} {ox:Obj} {b:Nat} (h:b<u.heap.size) (hb:b≠bx):(dd0 u bx ox k).heap[b]? =u.heap[b]?:=by
 show(u.heap.setIfInBounds bx ox++_)[b]? =_;rw[Array.getElem?_append_left (by simpa using h),Array.getElem?_setIfInBounds_ne (Ne.symm hb)]
theorem tl0 {u:World} {bx k:Nat} {ox:Obj} (h:bx<u.heap.size):(dd0 u bx ox k).heap[bx]? =some ox:=by
 show(u.heap.setIfInBounds bx ox++_)[bx]? =_;rw[Array.getElem?_append_left (by simpa using h),Array.getElem?_setIfInBounds_self_of_lt h]
theorem vv0 {u:World} {bx k:Nat} {ox:Obj} {b:Nat} (h:u.heap.size <=b):(dd0 u bx ox k).heap[b]? =if b<u.heap.size+k then some nothing else none:=by
 show(u.heap.setIfInBounds bx ox++_)[b]? =_;rw[Array.getElem?_append_right (by simpa using h),Array.getElem?_replicate];simp only[Array.size_setIfInBounds];split <;> split <;> first|rfl|omega
theorem hh0 {u:World} {bx k:Nat} {ox:Obj}:(dd0 u bx ox k).heap.size=u.heap.size+k:=by
 show(u.heap.setIfInBounds bx ox++_).size=_;simp
theorem Hw0 {u w0 w:World} {G:H4} {bx k:Nat} {ρ:Nat->c6} {st sm:Int} {cs:Array Value} {T:TypeId} {f:Nat×Nat} (hs:D5 ρ (W2 u w0.tape w0.drawn) w0) (hc:Cut u G) (w8:q7 G st sm w0) (hg:q7 G 0 0 w) (hw:WF G bx w0 w) (hgx:G.blk≠bx) (hbx:bx<u.heap.size) (hk:w.heap.size=u.heap.size+k) (ho:w.heap[bx]? =some (.cells cs T f)) :
  ∃ρ',D5 ρ' (W2 (dd0 u bx (.cells cs T f) k) w.tape w.drawn) w/\(∀b,b<u.heap.size->b≠bx->b≠G.blk->ρ' b=ρ b)/\∀b,u.heap.size+k <=b->ρ' b= .all:=by
 have n2:w0.heap.size=u.heap.size:=hs.size;have ga1:G.blk<u.heap.size:=by
  obtain⟨c,T,f,hb,_⟩:=hc;exact(Array.getElem?_eq_some_iff.1 hb).1
 have hy:=hg.extract;obtain⟨y,hyG⟩:∃y,w.heap[G.blk]? =some y:=⟨_,hy⟩
 have hw1:({w0 with heap:=w0.heap.setIfInBounds G.blk y}:World).heap[G.blk]? =some y:=by
  show(w0.heap.setIfInBounds G.blk y)[G.blk]? =_;rw[Array.getElem?_setIfInBounds_self_of_lt (by omega)]
 obtain⟨ρ1,h1,h2⟩:=D5.K2 (w':={w0 with heap:=w0.heap.setIfInBounds G.blk y}) hs hc w8 0 0 (by
   rw[hw1,<- hyG,hy];exact congrArg (fun z:Array Value×TypeId=>some (Obj.cells (z.1 ++ #[.int .u64 0,.int .u32 0]) z.2 (0,0))) hw.pre) (fun b hb=>by
   show(w0.heap.setIfInBounds G.blk y)[b]? =_;rw[Array.getElem?_setIfInBounds_ne (Ne.symm hb)]) (by simp) rfl rfl
 refine⟨fun b=>if b=bx then .all else if u.heap.size <=b/\b<u.heap.size+k then .gone ((w.heap[b]?).getD nothing) else ρ1 b,⟨hw.os.trans h1.os,hw.output.trans h1.output,rfl,rfl,hk.trans hh0.symm,fun b x hx=>?_,fun b hb=>?_,fun b x hx=>?_⟩,fun b h3 h4 h5=>?_,fun b hb=>?_⟩
 ·have W3:(dd0 u bx (.cells cs T f) k).heap[b]? =some x:=hx;by_cases e:b=bx
  ·subst e;rw[tl0 hbx]at W3;obtain rfl:=Option.some.inj W3;exact⟨_,ho,by rw[if_pos rfl];exact .same _⟩
  ·rw[if_neg e];rcases Nat.lt_or_ge b u.heap.size with hb|hb
   ·rw[ge0 hb e]at W3;rw[if_neg (by omega)];obtain⟨z,hz,hl⟩:=h1.obj b x W3;refine⟨z,?_,hl⟩;by_cases eG:b=G.blk
    ·subst eG;rw[hw1]at hz;rw[hyG,hz]
    ·have hz':(w0.heap.setIfInBounds G.blk y)[b]? =some z:=hz;rw[Array.getElem?_setIfInBounds_ne (Ne.symm eG)]at hz';rw[hw.old b (by omega) eG e];exact hz'
   ·rw[vv0 hb]at W3;split at W3
    ·rename_i R2;obtain rfl:=Option.some.inj W3;obtain⟨z,hz⟩:∃z,w.heap[b]? =some z:=⟨_,Array.getElem?_eq_getElem (by omega)⟩
     refine⟨z,hz,?_⟩;rw[if_pos ⟨hb,R2⟩,hz];exact .gone _ _ _
    ·cases W3
 ·have g7:(dd0 u bx (.cells cs T f) k).heap.size <=b:=hb;rw[hh0]at g7;show(if b=bx then _ else if _ then _ else _)=_;exact U499
 ·have W3:(dd0 u bx (.cells cs T f) k).heap[b]? =some x:=hx;by_cases e:b=bx
  ·subst e;rw[tl0 hbx]at W3;obtain rfl:=Option.some.inj W3;rfl
  ·rcases Nat.lt_or_ge b u.heap.size with hb|hb
   ·rw[ge0 hb e]at W3;exact h1.u6 b x W3
   ·rw[vv0 hb]at W3;split at W3
    ·obtain rfl:=Option.some.inj W3;rfl
    ·cases W3
 ·show(if b=bx then _ else if _ then _ else _)=_;rw[if_neg h4,if_neg (by omega)];exact h2 b h5
 ·show(if b=bx then _ else if _ then _ else _)=_;exact U499
section
variable {P:Program}{X:Gh}{G:H4}{c bx n0:Nat}{u w0:World}{L0 Lc:Q3}{A:Addr}{Fp:PM->Prop}{N:Nat}{r:Option Nat}{o7 L6:PM}{T T0:Trace}{gs gs0:Array Goroutine}{w:World}{q q0:Nat->Nat}{live:Nat->Bool}
theorem ring_end (C0:Ring P X 0 u live T0 gs0 w0 q0) (e8:∀i,X.G1 i=none) (hl:u9 X bx) (hbx:bx<u.heap.size) (S:StB X G c bx w0 L0 Lc) (hN:N=X.n+1) (C:Rb P X G c bx n0 w0 L0 Lc A Fp N .out r o7 L6 0 T gs w q) {cs:Array Value} {Ty:TypeId} {f:Nat×Nat} (ho:(bx,.cells cs Ty f)∈L6) {g g':Goroutine} (hg:gs[0]? =some g) :
  ∃k,Ring P (X.gd0 u bx k) 0 (dd0 u bx (.cells cs Ty f) k) (fun _=>false) (T++MemOp.ofEvents 0 g.frame.fn g.frame.place #[⟨.mark (.acquire A),false,true⟩]) ((gs.map (woken P g g' w)).setIfInBounds 0 g') w q/\((gs.map (woken P g g' w)).setIfInBounds 0 g')[0]? =some g':=by
 obtain⟨ρ,hs,hlw⟩:=C0.O9;have gb1:w0.heap.size=u.heap.size:=hs.size;obtain⟨k,hk⟩:∃k,w.heap.size=u.heap.size+k:=⟨w.heap.size-u.heap.size,by have:=C.wf.size;omega⟩
 obtain⟨ma0,w8⟩:=C0.K2 G S.K2;have dp0:q7 G 0 0 w:=C.o6;obtain⟨ρ',hs',hold,D1⟩:=Hw0 (k:=k) hs ma0 w8 dp0 C.wf S.Ca0.2 hbx hk (C.own _ (.inr ho)).2;have Hx0:0<gs.size:=(Array.getElem?_eq_some_iff.1 hg).1;have R5:∃gc,gs[c]? =some gc:=⟨_,Array.getElem?_eq_getElem C.size.1⟩
 obtain⟨gc,hgc⟩:=R5;have hr:=(C.child gc hgc).1;obtain⟨r0,rfl⟩:∃r0,r=some r0:=Option.ne_none_iff_exists'.1 hr;obtain⟨p1,p2,p3⟩:=C.tb.acquire (fn:=g.frame.fn) (ps:=g.frame.place) C.n0 C.d0;have et0:∀i y,i≠0->gs[i]? =some y->QuitsD P (q i) (Deaf T i) y:=fun i y hi hy=>by
  by_cases e:i=c
  ·subst e;exact(C.child y hy).2
  ·exact C.rest i y hi e hy
 have hD:∀i,Deaf (T ++ #[{g:=0,fn:=g.frame.fn,pos:=g.frame.place,act:=MemAct.mark (.acquire A)}]) i=Deaf T i:=fun i=>Deaf_quiet (fun op C5 d=>by simp at C5;subst C5;rfl);have J7:∀b,b<u.heap.size->b≠bx->(dd0 u bx (.cells cs Ty f) k).heap[b]? =u.heap[b]?:=fun b h1 h2=>ge0 h1 h2;have Ny0:∀G',(X.K2=some G'\/G'∈X.old)->Cut u G'->Cut (dd0 u bx (.cells cs Ty f) k) G':=fun G' hG' ⟨c',T',f',D6,dn1⟩=>⟨c',T',f',by rw[J7 _ (Array.getElem?_eq_some_iff.1 D6).1 (hl.K2 G' hG')];exact D6,dn1⟩
 have Hy0:∀b,b≠bx->bp0 u b->bp0 (dd0 u bx (.cells cs Ty f) k) b:=fun b hb ⟨T',f',D6⟩=>⟨T',f',by rw[J7 b (Array.getElem?_eq_some_iff.1 D6).1 hb];exact D6⟩
 have hwk:∀b,b≠bx->(X.A7 b\/X.X3 b≠none)->bp0 u b->w.heap[b]? =w0.heap[b]?:=fun b hb R5 hgn=>C.wf.old b (by
  obtain⟨T',f',D6⟩:=hgn;have:=(Array.getElem?_eq_some_iff.1 D6).1;omega) (fun e=>by
  subst e;have:=C0.C7.2 G (.inl S.K2);exact R5.elim this.1 fun z=>z this.2) hb
 rw[ec0];refine⟨k,⟨⟨ρ',hs',fun b hb=>?_⟩,fun i y hi hy=>?_,e8 0,by simpa using Hx0,(by simp only[Array.size_setIfInBounds,Array.size_map];rw[C.size.2,hN];rfl),fun i p hp=>?_,fun ch hc=>?_,fun i s e=>(by have e':X.G1 i=some s:=e;rw[e8 i]at e';cases e'),fun i j s s' e=>(by have e':X.G1 i=some s:=e;rw[e8 i]at e';cases e'),
  fun b o e=>?_,fun G' e=>.inl (C0.P9 G' e),⟨fun ch e=>.inl (C0.C7.1 ch e),C0.C7.2⟩,fun G' e=>⟨Ny0 G' (.inl e) (C0.K2 G' e).1,?_⟩,fun G' e=>Ny0 G' (.inr e) (C0.old G' e),fun j hj=>?_,?_,fun i h=>(by cases h),fun i hi h=>?_,(hD 0).trans C.d0,?_⟩,Array.getElem?_setIfInBounds_self_of_lt (by simpa using Hx0)⟩
 ·have S4:¬X.low b:=fun z=>hb (.inl z);have hb2:b≠bx:=fun z=>hb (.inr (.inl z));have hb3:¬(u.heap.size <=b/\b<u.heap.size+k):=fun z=>hb (.inr (.inr z));show ρ' b=X.C4 b;rcases Nat.lt_or_ge b u.heap.size with h|h
  ·rw[hold b h hb2 fun e=>S4 (e▸C0.P9 G S.K2)];exact hlw b S4
  ·rw[D1 b (by omega),<- hlw b S4];exact(hs.new b h).symm
 ·rw[Array.getElem?_setIfInBounds_ne (fun e=>hi e.symm),Array.getElem?_map]at hy;obtain⟨y₀,hy₀,rfl⟩:=Option.map_eq_some_iff.1 hy;have h1:=et0 i y₀ hi hy₀;rw[woken_of_again (again_of_running h1.status w)];unfold Idle;rw[show(X.gd0 u bx k).G1 i=none from e8 i];exact⟨by omega,by rw[if_neg (by simp),hD];exact h1⟩
 ·have h1:=C0.stays i p hp;obtain⟨c',T',f',D6,_,_⟩:=B4 h1.1;have:=p5 (u:=u) (u':=dd0 u bx (.cells cs Ty f) k) (a:=p.1) (J7 _ (Array.getElem?_eq_some_iff.1 D6).1 (hl.stay i p hp));rw[this.1,this.2];exact h1
 ·obtain⟨h1,h2,kk,h3⟩:=C0.chans ch hc;have D3:ch≠bx:=fun e=>hl.A7 (e▸hc);exact⟨Hy0 ch D3 h1,h2,kk,by rw[hwk ch D3 (.inl hc) h1];exact h3⟩
 ·obtain⟨h1,h2,p,y,h3,h4⟩:=C0.X3 b o e;have D3:b≠bx:=fun z=>by subst z;have e2:X.X3 b=some o:=e;rw[hl.X3]at e2;cases e2
  exact⟨Hy0 b D3 h1,h2,p,y,by rw[hwk b D3 (.inr (by have e':X.X3 b=some o:=e;rw[e'];simp)) h1];exact h3,h4⟩
 ·have e':X.K2=some G':=e;rw[S.K2]at e';obtain rfl:=Option.some.inj e';have hz:count (fun _=>false) ((gs.map (woken P g g' w)).setIfInBounds 0 g').size=0:=by
   unfold count;generalize ((gs.map (woken P g g' w)).setIfInBounds 0 g').size=m
   induction m with
   |zero=>rfl
   |succ m ih=>show sumTo m _+_=0;rw[ih];rfl
  have hz':(((count (fun _=>false) ((gs.map (woken P g g' w)).setIfInBounds 0 g').size+(X.gd0 u bx k).pend)*KK:Nat):Int)=0:=by
   rw[hz];show(((0+0)*KK:Nat):Int)=0;rw[Nat.zero_add,Nat.zero_mul];rfl
  rw[hz'];exact dp0
 ·simp only[Array.size_setIfInBounds,Array.size_map]at hj;have h2:=C0.above j (by have:=C0.num;have:=C.size.2;omega);exact⟨(hD j).trans (C.above j hj),e8 j,rfl,h2.2.2.2⟩
 ·refine⟨?_,by show(0:Nat) <=65536;omega⟩;have hz:count (fun _=>false) ((gs.map (woken P g g' w)).setIfInBounds 0 g').size=0:=by
   unfold count;generalize ((gs.map (woken P g g' w)).setIfInBounds 0 g').size=m
   induction m with
   |zero=>rfl
   |succ m ih=>show sumTo m _+_=0;rw[ih];rfl
  rw[hz];exact Nat.le_refl _
 ·rcases h with h|h
  ·exact absurd (e8 i) h
  ·exact absurd h hi
 ·have hM:∀x,(X.gd0 u bx k).Mem 0 x->x=0:=fun x hx=>by
   rcases hx with⟨e,_⟩|h
   ·exact e
   ·exact absurd (e8 x) h
  refine⟨p1,fun i a ha hm hns=>.inl (p2 i a ha hm hns),fun i a ha _ x hx hS=>?_,fun x hx=>?_,fun i a x ha V9 hx=>?_⟩
  ·obtain rfl:=hM x hx;obtain⟨h1,h2⟩:=C0.base.Cj0 (l:=a.loc) (i:=0) hS;exact p2 i a ha h1 h2
  ·obtain rfl:=hM x hx;rw[hD];exact C.d0
  ·refine(p3 i a x ha V9 hx).imp (fun z x' W3=>?_) id;rcases W3 with e|e
   ·exact z x' (.inl e)
   ·cases e
end
end
end Go.Yc
end
