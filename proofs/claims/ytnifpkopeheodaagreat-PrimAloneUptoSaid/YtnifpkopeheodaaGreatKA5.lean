/- What the claim leans on, part 5. Laws. -/
import Derived.Test.YtnifpkopeheodaaGreatKA4
import Derived.Conc.LeavingOf
import Derived.JoinedCond
import Derived.Deep.CondSized
set_option linter.unusedVariables false
section
namespace Go.Yc
open Go Go.Conc Go.Wg Go.Vy
open Go.ConcN (sumTo upd sumTo_upd upd_ne upd_same sumTo_congr)
section
attribute [local irreducible] KK
theorem ew0 {x:Nat} {fn:FuncId} {pos:String} {m:Mark}:MemOp.ofEvents x fn pos #[⟨.mark m,false,true⟩]=#[{g:=x,fn,pos,act:=.mark m}]:=by
 rw[ofEvents_eq];simp[MemAct.ofEvent]
theorem um0 {pm:PM} {b k:Nat} {o:Obj} (h:BM (jq0 pm b o) k):BM pm k:=by
 obtain⟨x,hx⟩:=h;obtain⟨y,hy,e⟩:=List.mem_map.1 hx;by_cases e1:y.1=b
 ·rw[if_pos e1]at e;cases e;exact⟨y.2,by rw[<- e1];exact hy⟩
 ·rw[if_neg e1]at e;cases e;exact⟨_,hy⟩
theorem mem_set {pm:PM} {b:Nat} {o:Obj} {x:Nat×Obj} (h:x∈jq0 pm b o):(x=(b,o)/\BM pm b)\/(x∈pm/\x.1≠b):=by
 obtain⟨y,hy,e⟩:=List.mem_map.1 h;by_cases e1:y.1=b
 ·rw[if_pos e1]at e;exact .inl ⟨e.symm,y.2,by rw[<- e1];exact hy⟩
 ·rw[if_neg e1]at e;subst e;exact .inr ⟨hy,e1⟩
theorem heap_put {w:World} {b i:Nat} {cs:Array Value} {T:TypeId} {v:Value} (h:w.heap[b]? =some (.cells cs T (0,0))):(w.setCell ⟨b,i,none⟩ v).heap[b]? =some (.cells (cs.setIfInBounds i v) T (0,0)):=by
 rw[heap_setCell,h];simp
theorem un0 {w:World} {b:Nat} {o:Obj} (h:w.heap[b]? =some o):b<w.heap.size:=(Array.getElem?_eq_some_iff.1 h).1
theorem heap_alloc {w:World} {b:Nat} {o x:Obj} (h:w.heap[b]? =some x):(w.alloc o).heap[b]? =some x:=by
 show(w.heap.push o)[b]? =_;rw[Array.getElem?_push,if_neg (by have:=un0 h;omega)];exact h
theorem heap_alloc_new {w:World} {o:Obj}:(w.alloc o).heap[w.heap.size]? =some o:=by
 show(w.heap.push o)[w.heap.size]? =_;rw[Array.getElem?_push,if_pos rfl]
section
variable {P:Program}{X:Gh}{G:M4}{c bx n0:Nat}{w0:World}{L0 Lc:N3}{A:Addr}{Fp:PM->Prop}{N:Nat}{σ:Bd}{r:Option Nat}{u7 R6:PM}{d:Nat}{T:Trace}{gs:Array Goroutine}{w:World}{q:Nat->Nat}
theorem StB.Cw0 (S:StB X G c bx w0 L0 Lc):G.blk<w0.heap.size/\G.blk≠bx:=⟨S.gb _ ⟨G,.inl S.K2,rfl⟩,fun e=>S.bx.2 ⟨G,.inl S.K2,e.symm⟩⟩
theorem StB.ng (S:StB X G c bx w0 L0 Lc) {b:Nat} (h:b=bx\/w0.heap.size <=b):b≠G.blk:=by
 have:=S.Cw0;rintro rfl;rcases h with e|e
 ·exact this.2 e
 ·omega
def ByB (P:Program) (X:Gh) (G:M4) (c bx n0:Nat) (w0:World) (L0 Lc:N3) (A:Addr) (Fp:PM->Prop) (N:Nat) (σ:Bd) (u7:PM) (d:Nat) (T:Trace) (gs:Array Goroutine) (w:World) (q:Nat->Nat) (i:Nat) (sl:Option (Nat×Nat)):Prop :=
 ∃J4 ops q' w' σ' r' pmc',runT P (crowd gs w sl) i=(.next (crowd J4 w' sl),ops)/\J4.size=gs.size/\(∀g0,gs[0]? =some g0->J4[0]? =some g0\/J4[0]? =some (g0.again w'))/\Rb P X G c bx n0 w0 L0 Lc A Fp N σ' r' u7 pmc' d (T++ops) J4 w' q'/\sumTo J4.size q'<sumTo gs.size q/\frB σ'=frB σ /\
   (σ'= .done->σ= .done\/∀g0,gs[0]? =some g0->J4[0]? =some (g0.again w'))/\(σ= .out->σ'= .out)
theorem Rb.by (C:Rb P X G c bx n0 w0 L0 Lc A Fp N σ r u7 R6 d T gs w q) (S:StB X G c bx w0 L0 Lc) {i:Nat} {g:Goroutine} {sl:Option (Nat×Nat)} (hi:gs[i]? =some g) (n3:i≠0) (Y3:g.status= .running):ByB P X G c bx n0 w0 L0 Lc A Fp N σ u7 d T gs w q i sl:=by
 have pack:∀{g':Goroutine} {w':World} {σ':Bd} {r':Option Nat} {pmc':PM},(∃J4 ops q',runT P (crowd gs w sl) i=(.next (crowd J4 w' sl),ops)/\J4.size=gs.size/\(∀g0,gs[0]? =some g0->J4[0]? =some (woken P g g' w' g0))/\Rb P X G c bx n0 w0 L0 Lc A Fp N σ' r' u7 pmc' d (T++ops) J4 w' q'/\sumTo J4.size q'<sumTo gs.size q) ->
   frB σ'=frB σ->((σ'= .done->σ= .done\/∀g0,woken P g g' w' g0=g0.again w')/\(σ= .out->σ'= .out))->ByB P X G c bx n0 w0 L0 Lc A Fp N σ u7 d T gs w q i sl:=by
  rintro g' w' σ' r' pmc' ⟨J4,ops,q',h1,h2,h3,h4,h5⟩ hf hd;refine⟨J4,ops,q',w',σ',r',pmc',h1,h2,fun g0 h0=>?_,h4,h5,hf,fun e=>(hd.1 e).imp id fun z g0 h0=>?_,hd.2⟩
  ·rw[h3 g0 h0];rcases va0 P g g' w' g0 with e|e <;> rw[e]
   ·exact .inl rfl
   ·exact .inr rfl
  ·rw[h3 g0 h0,z g0]
 have quit:QuitsD P (q i) (Deaf T i) g->(i=c->(σ= .out\/σ= .done)/\r≠none)->ByB P X G c bx n0 w0 L0 Lc A Fp N σ u7 d T gs w q i sl:=fun hQ hc=>by
  cases hq:q i with
  |zero=>rw[hq]at hQ;rw[hQ.1]at Y3;cases Y3
  |succ k=>
   rw[hq]at hQ;rcases hQ with⟨hf,_⟩|⟨_,g',es,hm,j3,hQ⟩
   ·rw[hf]at Y3;cases Y3
   ·refine pack (C.move (sl:=sl) hi n3 (j3 w) hq (C.tb.K2 C.n0 S.K2 (fun e he=>uz0 (hm e he)) (.inl fun e he=>touch_mute (hm e he))) C.wf C.own C.apart C.y6 C.fin ⟨fun e=>?_,fun e=>⟨rfl,rfl,rfl,hQ⟩⟩) rfl ⟨fun e=>.inl e,id⟩;subst e;obtain⟨h1,h2⟩:=hc rfl;rcases h1 with rfl|rfl
    ·exact⟨h2,hQ⟩
    ·exact⟨h2,hQ⟩
 by_cases hic:i=c
 case neg=>exact quit (C.rest i g n3 hic hi) fun e=>absurd e hic
 subst hic;have Y5:=C.child g hi;cases hq:q i with
 |zero=>
  rw[hq]at Y5;cases σ with
  |up wt=>rcases Y5 with⟨_,_,h⟩|⟨_,h⟩ <;> exact h.elim
  |last s=>exact Y5.2.2.elim
  |out=>rw[Y5.2.1]at Y3;cases Y3
  |done=>rw[Y5.2.1]at Y3;cases Y3
 |succ k=>
 cases σ with
 |out=>exact quit Y5.2 fun _=>⟨.inl rfl,Y5.1⟩
 |done=>exact quit Y5.2 fun _=>⟨.inr rfl,Y5.1⟩
 |up wt=>
  rw[hq]at Y5;rcases Y5 with⟨hr,hd0,hM⟩|⟨hr,hL⟩
  ·subst hr;unfold MP at hM;rcases hM with⟨hr,hF,g',E2,hL⟩|⟨_,⟨g',es,hr',I9,E2,hM⟩|⟨g',b,cs,T1,o,v,es,hr',hm,I9,E2,hM⟩|⟨gf,cs,T1,hr',E2,hM⟩⟩
   ·
    refine pack (C.move (sl:=sl) (σ':=.up wt) (r':=some T.size) (pmc':=R6) hi n3 (E2 w) hq (by rw[ew0];exact C.tb.release C.n0 hd0) C.wf C.own C.apart C.y6 (fun _=>hF) ⟨fun _=>.inr ⟨by simp,?_⟩,fun e=>absurd rfl e⟩) rfl ⟨fun e=>(by cases e),fun e=>(by cases e)⟩;rw[hd0];exact hL
   ·have hd:deafBehind (Deaf T i) es=Deaf T i:=deafBehind_still (fun e he=>(I9 e he).on.2.2) _;refine pack (C.move (sl:=sl) (σ':=.up wt) (r':=none) (pmc':=R6) hi n3 (E2 w (C.Iv0 S)) hq (C.tb.own C.apart C.n0 V1 (fun op M5 bb hb=>?_) fun h=>absurd rfl h) C.wf C.own C.apart C.y6 C.fin ⟨fun _=>.inl ⟨rfl,hd.trans hd0,hM⟩,fun e=>absurd rfl e⟩) rfl ⟨fun e=>(by cases e),fun e=>(by cases e)⟩;obtain⟨e,he,rfl⟩:=Go.Conc.mem_ofEvents M5;have:=(I9 e he).on.1 bb hb;exact⟨S.onc C.Zr0 this,.inr ⟨rfl,this,rfl⟩⟩
   ·have hd:deafBehind (Deaf T i) es=Deaf T i:=deafBehind_still (fun e he=>(dv0 (L:=Lc) hm (I9 e he)).2.2) _;have hob:=(C.own _ (.inr hm))
    have hng:=S.ng hob.1;have N2:∀x,x∈u7\/x∈jq0 R6 b (.cells (cs.setIfInBounds o v) T1 (0,0))->(x.1=bx\/w0.heap.size <=x.1)/\(w.setCell ⟨b,o,none⟩ v).heap[x.1]? =some x.2:=fun x hx=>by
     rcases hx with hx|hx
     ·have h1:=C.own x (.inl hx);have:x.1≠b:=fun e=>C.apart.own x.1 ⟨x.2,hx⟩ ⟨_,by rw[e];exact hm⟩;exact⟨h1.1,by rw[A1 w v (a:=⟨b,o,none⟩) this];exact h1.2⟩
     ·rcases mem_set hx with⟨rfl,_⟩|⟨hx,hxb⟩
      ·exact⟨hob.1,heap_put hob.2⟩
      ·have h1:=C.own x (.inr hx);exact⟨h1.1,by rw[A1 w v (a:=⟨b,o,none⟩) hxb];exact h1.2⟩
    refine pack (C.move (sl:=sl) (σ':=.up wt) (r':=none) (pmc':=jq0 R6 b (.cells (cs.setIfInBounds o v) T1 (0,0))) hi n3 (E2 w (C.Iv0 S)) hq ?_ (C.wf.cell v hob.1 hng) N2 ⟨fun p hp h=>C.apart.l0 p hp (um0 h),C.apart.lc,fun bb h h'=>C.apart.own bb h (um0 h')⟩
     (C.y6.of_block (A1 w v (a:=⟨b,o,none⟩) (Ne.symm hng))) (fun h=>absurd rfl h) ⟨fun _=>.inl ⟨rfl,hd.trans hd0,hM⟩,fun e=>absurd rfl e⟩) rfl ⟨fun e=>(by cases e),fun e=>(by cases e)⟩
    refine(C.tb.own C.apart C.n0 V1 (fun op M5 bb hb=>?_) fun h=>absurd rfl h).grow (fun _ h=>h) fun k hk=>?_
    ·obtain⟨e,he,rfl⟩:=Go.Conc.mem_ofEvents M5;have:=(dv0 (L:=Lc) hm (I9 e he)).1 bb hb;exact⟨S.onc C.Zr0 this,.inr ⟨rfl,this,rfl⟩⟩
    ·obtain⟨x,hx⟩:=hk;by_cases e:k=b
     ·exact⟨.cells (cs.setIfInBounds o v) T1 (0,0),List.mem_map.2 ⟨(k,x),hx,by rw[if_pos e,e]⟩⟩
     ·exact⟨x,List.mem_map.2 ⟨(k,x),hx,by rw[if_neg e]⟩⟩
   ·have D2:=C.wf.size;have hd:deafBehind (Deaf T i) #[]=Deaf T i:=rfl;refine pack (C.move (sl:=sl) (σ':=.up wt) (r':=none) (pmc':=(w.heap.size,.cells cs T1 (0,0))::R6) hi n3 (E2 w) hq ?_ (C.wf.alloc _ S.Cw0.1) (fun x hx=>?_) ⟨fun p hp h=>?_,C.apart.lc,fun bb h h'=>?_⟩ (C.y6.of_block ?_) (fun h=>absurd rfl h) ⟨fun _=>.inl ⟨rfl,hd.trans hd0,hM w.heap.size⟩,fun e=>absurd rfl e⟩) rfl ⟨fun e=>(by cases e),fun e=>(by cases e)⟩
    ·refine(C.tb.mute C.n0 (fun op M5=>?_) fun h=>absurd rfl h).grow (fun _ h=>h) fun k ⟨x,hx⟩=>⟨x,List.mem_cons_of_mem _ hx⟩
     obtain⟨e,he,rfl⟩:=Go.Conc.mem_ofEvents M5;simp at he
    ·rcases hx with hx|hx
     ·have:=C.own x (.inl hx);exact⟨this.1,heap_alloc this.2⟩
     ·rcases List.mem_cons.1 hx with rfl|hx
      ·exact⟨.inr D2,heap_alloc_new⟩
      ·have:=C.own x (.inr hx);exact⟨this.1,heap_alloc this.2⟩
    ·obtain⟨x,hx⟩:=h;rcases List.mem_cons.1 hx with e|hx
     ·have:=(S.st p (.inl hp)).2.1;have e:=congrArg Prod.fst e;simp only at e;omega
     ·exact C.apart.l0 p hp ⟨x,hx⟩
    ·obtain⟨x,hx⟩:=h';rcases List.mem_cons.1 hx with e|hx
     ·obtain⟨y,hy⟩:=h;have:=un0 (C.own _ (.inl hy)).2;cases e;simp at this
     ·exact C.apart.own bb h ⟨x,hx⟩
    ·show(w.heap.push _)[G.blk]? =_;rw[Array.getElem?_push,if_neg (by have:=S.Cw0.1;omega)]
  ·unfold Lt at hL;have hUs:UsB i (.up wt) i:=.inr ⟨rfl,trivial⟩;rcases hL with⟨g',es,⟨_,hsy,j3⟩,hL⟩|⟨_,hd0,ux0⟩
   ·exact pack (C.move (sl:=sl) (σ':=.up wt) (r':=r) (pmc':=R6) hi n3 (j3 w _ _ C.y6) hq (C.tb.K2 C.n0 S.K2 (fun e he=>db0 (hsy e he)) (.inl fun e he=>e8 (hsy e he))) C.wf C.own C.apart C.y6 C.fin ⟨fun _=>.inr ⟨hr,hL⟩,fun e=>absurd rfl e⟩) rfl ⟨fun e=>(by cases e),fun e=>(by cases e)⟩
   ·have ek0:=C.y6;obtain⟨g',j3,fm0,Dq0⟩:=ux0 0 (if wt then 1 else 0) (by split <;> omega) (by omega);have E2:=j3 w ek0;have hdd:deafBehind (Deaf T i) #[Y8 (stA G),wrA (stA G)]=Deaf T i:=deafBehind_still kd0 _;have htb:TB X.Sh (UsB i (.up wt)) i n0 L0 Lc (BM u7) (BM R6) A r (T++MemOp.ofEvents i g.frame.fn g.frame.place #[Y8 (stA G),wrA (stA G)]):=C.tb.K2 C.n0 S.K2 L9 (.inr ⟨hUs,fun _ j _=>by rw[g8 kd0];omega⟩);have o7:∀x,x∈u7\/x∈R6->(x.1=bx\/w0.heap.size <=x.1)/\(w.setCell (stA G) (.int .u64 ((0*KK+(if wt then 1 else 0):Nat):Int))).heap[x.1]? =some x.2:=fun x hx=>by
     have:=C.own x hx;exact⟨this.1,by rw[A1 w _ (a:=stA G) (S.ng this.1)];exact this.2⟩
    have hg2:=ek0.setSt ((0*KK+(if wt then 1 else 0):Nat):Int);cases wt with
    |false=>
     refine pack (C.move (sl:=sl) (σ':=.out) (r':=r) (pmc':=R6) hi n3 E2 hq (htb.leave fun x hx=>?_) (C.wf.It0 ek0 rfl rfl (Nat.le_refl _) _) o7 C.apart ?_ C.fin ⟨fun _=>⟨hr,by rw[hdd];exact fm0 (by simp)⟩,fun e=>absurd rfl e⟩) rfl ⟨fun e=>(by cases e),fun e=>(by cases e)⟩
     ·rcases hx with e|⟨_,h⟩
      ·exact .inl e
      ·exact h.elim
     ·have e1:((0*KK+(if false=true then 1 else 0):Nat):Int)=0:=by rw[Nat.zero_mul];rfl
      rw[e1]at hg2⊢;exact hg2
    |true=>
     refine pack (C.move (sl:=sl) (σ':=.last 2) (r':=r) (pmc':=R6) hi n3 E2 hq (htb.leave fun x hx=>?_) (C.wf.It0 ek0 rfl rfl (Nat.le_refl _) _) o7 C.apart ?_ C.fin ⟨fun _=>⟨hr,Nat.le_refl _,by rw[hdd];exact Dq0 ⟨rfl,rfl⟩⟩,fun e=>absurd rfl e⟩) rfl ⟨fun e=>(by cases e),fun e=>(by cases e)⟩
     ·rcases hx with e|⟨e,_⟩
      ·exact .inl e
      ·exact .inr ⟨e,trivial⟩
     ·have e1:((0*KK+(if true=true then 1 else 0):Nat):Int)=1:=by rw[Nat.zero_mul];rfl
      rw[e1]at hg2⊢;exact hg2
 |last s=>
  rw[hq]at Y5;obtain⟨hr,hs2,hL⟩:=Y5;unfold Lst at hL;obtain⟨hd0,hL⟩:=hL;have hUs:UsB i (.last s) i:=.inr ⟨rfl,trivial⟩;have o7:∀(a:Addr) (v:Value),a.block=G.blk->∀x,x∈u7\/x∈R6->(x.1=bx\/w0.heap.size <=x.1)/\(w.setCell a v).heap[x.1]? =some x.2:=fun a v ha x hx=>by
   have:=C.own x hx;exact⟨this.1,by rw[A1 w _ (by rw[ha];exact S.ng this.1)];exact this.2⟩
  rcases hL with⟨g',es,⟨_,hsy,j3⟩,hnm,hL⟩|⟨_,hL⟩
  ·exact pack (C.move (sl:=sl) (σ':=.last s) (r':=r) (pmc':=R6) hi n3 (j3 w _ _ C.y6) hq (C.tb.K2 C.n0 S.K2 (fun e he=>db0 (hsy e he)) (.inl fun e he=>e8 (hsy e he))) C.wf C.own C.apart C.y6 C.fin ⟨fun _=>⟨hr,hs2,by rw[deafBehind_still hnm];exact hL⟩,fun e=>absurd rfl e⟩) rfl ⟨fun e=>(by cases e),fun e=>(by cases e)⟩
  ·rcases s with _|_|_|s
   ·simp only at hL;obtain⟨hwk,g',j3,hQ⟩:=hL;have E2:=j3 w C.y6;refine pack (C.move (sl:=sl) (σ':=.done) (r':=r) (pmc':=R6) hi n3 E2 hq ((C.tb.K2 C.n0 S.K2 kc0 (.inr ⟨hUs,fun _=>iw0 hd0⟩)).leave fun x hx=>?_) (C.wf.It0 C.y6 rfl rfl (Nat.le_succ _) _) (o7 (smA G) _ rfl) C.apart (C.y6.setSm _) C.fin ⟨fun _=>⟨hr,by rw[fo0];exact hQ⟩,fun e=>absurd rfl e⟩) rfl ⟨fun _=>.inr fun g0=>?_,fun e=>(by cases e)⟩
    ·rcases hx with e|⟨_,h⟩
     ·exact .inl e
     ·exact h.elim
    ·unfold woken;rw[if_pos];rw[hwk];rcases hQ.status with e|e <;> rw[e] <;> rfl
   ·simp only at hL;obtain⟨g',j3,hL⟩:=hL;have E2:=j3 w C.y6;exact pack (C.move (sl:=sl) (σ':=.last 0) (r':=r) (pmc':=R6) hi n3 E2 hq ((C.tb.K2 C.n0 S.K2 Dn0 (.inr ⟨hUs,fun _ j _=>by rw[g8 fp0];omega⟩)).leave fun x hx=>hx) (C.wf.It0 C.y6 rfl rfl (Nat.le_refl _) _) (o7 (stA G) _ rfl) C.apart (C.y6.setSt _) C.fin ⟨fun _=>⟨hr,by omega,by rw[deafBehind_still fp0];exact hL⟩,fun e=>absurd rfl e⟩) rfl ⟨fun e=>(by cases e),fun e=>(by cases e)⟩
   ·simp only at hL;obtain⟨g',j3,hL⟩:=hL;have E2:=j3 w C.y6;exact pack (C.move (sl:=sl) (σ':=.last 1) (r':=r) (pmc':=R6) hi n3 E2 hq ((C.tb.K2 C.n0 S.K2 hh0 (.inr ⟨hUs,fun _ j _=>by rw[g8 B8];omega⟩)).leave fun x hx=>hx) C.wf C.own C.apart C.y6 C.fin ⟨fun _=>⟨hr,by omega,by rw[deafBehind_still B8];exact hL⟩,fun e=>absurd rfl e⟩) rfl ⟨fun e=>(by cases e),fun e=>(by cases e)⟩
   ·omega
end
end
section
attribute [local irreducible] KK
def dw0 (u:World) (bx:Nat) (ox:Obj) (k:Nat):World:={u with heap:=u.heap.setIfInBounds bx ox++Array.replicate k nothing}
def Gh.gv0 (X:Gh) (u:World) (bx k:Nat):Gh:={X with n:=X.n+1,pend:=0,cap:=0,dn:=0,low:=fun b=>X.low b\/b=bx\/(u.heap.size <=b/\b<u.heap.size+k)}
theorem gw0 {u:World} {bx k:Nat} {ox:Obj} {b:Nat} (h:b<u.heap.size) (hb:b≠bx):(dw0 u bx ox k).heap[b]? =u.heap[b]?:=by
 show(u.heap.setIfInBounds bx ox++_)[b]? =_;rw[Array.getElem?_append_left (by simpa using h),Array.getElem?_setIfInBounds_ne (Ne.symm hb)]
theorem uo0 {u:World} {bx k:Nat} {ox:Obj} (h:bx<u.heap.size):(dw0 u bx ox k).heap[bx]? =some ox:=by
 show(u.heap.setIfInBounds bx ox++_)[bx]? =_;rw[Array.getElem?_append_left (by simpa using h),Array.getElem?_setIfInBounds_self_of_lt h]
theorem wx0 {u:World} {bx k:Nat} {ox:Obj} {b:Nat} (h:u.heap.size <=b):(dw0 u bx ox k).heap[b]? =if b<u.heap.size+k then some nothing else none:=by
 show(u.heap.setIfInBounds bx ox++_)[b]? =_;rw[Array.getElem?_append_right (by simpa using h),Array.getElem?_replicate];simp only[Array.size_setIfInBounds];split <;> split <;> first|rfl|omega
theorem iq0 {u:World} {bx k:Nat} {ox:Obj}:(dw0 u bx ox k).heap.size=u.heap.size+k:=by
 show(u.heap.setIfInBounds bx ox++_).size=_;simp
theorem Ix0 {u w0 w:World} {G:M4} {bx k:Nat} {ρ:Nat->w6} {st sm:Int} {cs:Array Value} {T:TypeId} {f:Nat×Nat} (hs:N5 ρ (P2 u w0.tape w0.drawn) w0) (hc:Cut u G) (I8:w7 G st sm w0) (hg:w7 G 0 0 w) (hw:WF G bx w0 w) (hgx:G.blk≠bx) (hbx:bx<u.heap.size) (hk:w.heap.size=u.heap.size+k) (ho:w.heap[bx]? =some (.cells cs T f)) :
  ∃ρ',N5 ρ' (P2 (dw0 u bx (.cells cs T f) k) w.tape w.drawn) w/\(∀b,b<u.heap.size->b≠bx->b≠G.blk->ρ' b=ρ b)/\∀b,u.heap.size+k <=b->ρ' b= .all:=by
 have D2:w0.heap.size=u.heap.size:=hs.size;have ht1:G.blk<u.heap.size:=by
  obtain⟨c,T,f,hb,_⟩:=hc;exact(Array.getElem?_eq_some_iff.1 hb).1
 have hy:=hg.extract;obtain⟨y,hyG⟩:∃y,w.heap[G.blk]? =some y:=⟨_,hy⟩
 have hw1:({w0 with heap:=w0.heap.setIfInBounds G.blk y}:World).heap[G.blk]? =some y:=by
  show(w0.heap.setIfInBounds G.blk y)[G.blk]? =_;rw[Array.getElem?_setIfInBounds_self_of_lt (by omega)]
 obtain⟨ρ1,h1,h2⟩:=N5.K2 (w':={w0 with heap:=w0.heap.setIfInBounds G.blk y}) hs hc I8 0 0 (by
   rw[hw1,<- hyG,hy];exact congrArg (fun z:Array Value×TypeId=>some (Obj.cells (z.1 ++ #[.int .u64 0,.int .u32 0]) z.2 (0,0))) hw.pre) (fun b hb=>by
   show(w0.heap.setIfInBounds G.blk y)[b]? =_;rw[Array.getElem?_setIfInBounds_ne (Ne.symm hb)]) (by simp) rfl rfl
 refine⟨fun b=>if b=bx then .all else if u.heap.size <=b/\b<u.heap.size+k then .gone ((w.heap[b]?).getD nothing) else ρ1 b,⟨hw.os.trans h1.os,hw.output.trans h1.output,rfl,rfl,hk.trans iq0.symm,fun b x hx=>?_,fun b hb=>?_,fun b x hx=>?_⟩,fun b h3 h4 h5=>?_,fun b hb=>?_⟩
 ·have V3:(dw0 u bx (.cells cs T f) k).heap[b]? =some x:=hx;by_cases e:b=bx
  ·subst e;rw[uo0 hbx]at V3;obtain rfl:=Option.some.inj V3;exact⟨_,ho,by rw[if_pos rfl];exact .same _⟩
  ·rw[if_neg e];rcases Nat.lt_or_ge b u.heap.size with hb|hb
   ·rw[gw0 hb e]at V3;rw[if_neg (by omega)];obtain⟨z,hz,hl⟩:=h1.obj b x V3;refine⟨z,?_,hl⟩;by_cases eG:b=G.blk
    ·subst eG;rw[hw1]at hz;rw[hyG,hz]
    ·have hz':(w0.heap.setIfInBounds G.blk y)[b]? =some z:=hz;rw[Array.getElem?_setIfInBounds_ne (Ne.symm eG)]at hz';rw[hw.old b (by omega) eG e];exact hz'
   ·rw[wx0 hb]at V3;split at V3
    ·rename_i C2;obtain rfl:=Option.some.inj V3;obtain⟨z,hz⟩:∃z,w.heap[b]? =some z:=⟨_,Array.getElem?_eq_getElem (by omega)⟩
     refine⟨z,hz,?_⟩;rw[if_pos ⟨hb,C2⟩,hz];exact .gone _ _ _
    ·cases V3
 ·have L7:(dw0 u bx (.cells cs T f) k).heap.size <=b:=hb;rw[iq0]at L7;show(if b=bx then _ else if _ then _ else _)=_;exact U463
 ·have V3:(dw0 u bx (.cells cs T f) k).heap[b]? =some x:=hx;by_cases e:b=bx
  ·subst e;rw[uo0 hbx]at V3;obtain rfl:=Option.some.inj V3;rfl
  ·rcases Nat.lt_or_ge b u.heap.size with hb|hb
   ·rw[gw0 hb e]at V3;exact h1.A6 b x V3
   ·rw[wx0 hb]at V3;split at V3
    ·obtain rfl:=Option.some.inj V3;rfl
    ·cases V3
 ·show(if b=bx then _ else if _ then _ else _)=_;rw[if_neg h4,if_neg (by omega)];exact h2 b h5
 ·show(if b=bx then _ else if _ then _ else _)=_;exact U463
section
variable {P:Program}{X:Gh}{G:M4}{c bx n0:Nat}{u w0:World}{L0 Lc:N3}{A:Addr}{Fp:PM->Prop}{N:Nat}{r:Option Nat}{u7 R6:PM}{T T0:Trace}{gs gs0:Array Goroutine}{w:World}{q q0:Nat->Nat}{live:Nat->Bool}
theorem ring_end (C0:Ring P X 0 u live T0 gs0 w0 q0) (v8:∀i,X.C1 i=none) (hl:J9 X bx) (hbx:bx<u.heap.size) (S:StB X G c bx w0 L0 Lc) (hN:N=X.n+1) (C:Rb P X G c bx n0 w0 L0 Lc A Fp N .out r u7 R6 0 T gs w q) {cs:Array Value} {Ty:TypeId} {f:Nat×Nat} (ho:(bx,.cells cs Ty f)∈R6) {g g':Goroutine} (hg:gs[0]? =some g) :
  ∃k,Ring P (X.gv0 u bx k) 0 (dw0 u bx (.cells cs Ty f) k) (fun _=>false) (T++MemOp.ofEvents 0 g.frame.fn g.frame.place #[⟨.mark (.acquire A),false,true⟩]) ((gs.map (woken P g g' w)).setIfInBounds 0 g') w q/\((gs.map (woken P g g' w)).setIfInBounds 0 g')[0]? =some g':=by
 obtain⟨ρ,hs,hlw⟩:=C0.sim;have hu1:w0.heap.size=u.heap.size:=hs.size;obtain⟨k,hk⟩:∃k,w.heap.size=u.heap.size+k:=⟨w.heap.size-u.heap.size,by have:=C.wf.size;omega⟩
 obtain⟨na0,I8⟩:=C0.K2 G S.K2;have ek0:w7 G 0 0 w:=C.y6;obtain⟨ρ',hs',hold,I1⟩:=Ix0 (k:=k) hs na0 I8 ek0 C.wf S.Cw0.2 hbx hk (C.own _ (.inr ho)).2;have Iy0:0<gs.size:=(Array.getElem?_eq_some_iff.1 hg).1;have Y5:∃gc,gs[c]? =some gc:=⟨_,Array.getElem?_eq_getElem C.size.1⟩
 obtain⟨gc,hgc⟩:=Y5;have hr:=(C.child gc hgc).1;obtain⟨r0,rfl⟩:∃r0,r=some r0:=Option.ne_none_iff_exists'.1 hr;obtain⟨p1,p2,p3⟩:=C.tb.acquire (fn:=g.frame.fn) (ps:=g.frame.place) C.n0 C.d0;have fm0:∀i y,i≠0->gs[i]? =some y->QuitsD P (q i) (Deaf T i) y:=fun i y hi hy=>by
  by_cases e:i=c
  ·subst e;exact(C.child y hy).2
  ·exact C.rest i y hi e hy
 have hD:∀i,Deaf (T ++ #[{g:=0,fn:=g.frame.fn,pos:=g.frame.place,act:=MemAct.mark (.acquire A)}]) i=Deaf T i:=fun i=>Deaf_quiet (fun op M5 d=>by simp at M5;subst M5;rfl);have T7:∀b,b<u.heap.size->b≠bx->(dw0 u bx (.cells cs Ty f) k).heap[b]? =u.heap[b]?:=fun b h1 h2=>gw0 h1 h2;have Pb0:∀G',(X.K2=some G'\/G'∈X.old)->Cut u G'->Cut (dw0 u bx (.cells cs Ty f) k) G':=fun G' hG' ⟨c',T',f',L6,eq1⟩=>⟨c',T',f',by rw[T7 _ (Array.getElem?_eq_some_iff.1 L6).1 (hl.K2 G' hG')];exact L6,eq1⟩
 have Iz0:∀b,b≠bx->cc0 u b->cc0 (dw0 u bx (.cells cs Ty f) k) b:=fun b hb ⟨T',f',L6⟩=>⟨T',f',by rw[T7 b (Array.getElem?_eq_some_iff.1 L6).1 hb];exact L6⟩
 have hwk:∀b,b≠bx->(X.J7 b\/X.X3 b≠none)->cc0 u b->w.heap[b]? =w0.heap[b]?:=fun b hb Y5 hgn=>C.wf.old b (by
  obtain⟨T',f',L6⟩:=hgn;have:=(Array.getElem?_eq_some_iff.1 L6).1;omega) (fun e=>by
  subst e;have:=C0.K7.2 G (.inl S.K2);exact Y5.elim this.1 fun z=>z this.2) hb
 rw[ew0];refine⟨k,⟨⟨ρ',hs',fun b hb=>?_⟩,fun i y hi hy=>?_,v8 0,by simpa using Iy0,(by simp only[Array.size_setIfInBounds,Array.size_map];rw[C.size.2,hN];rfl),fun i p hp=>?_,fun ch hc=>?_,fun i s e=>(by have e':X.C1 i=some s:=e;rw[v8 i]at e';cases e'),fun i j s s' e=>(by have e':X.C1 i=some s:=e;rw[v8 i]at e';cases e'),
  fun b o e=>?_,fun G' e=>.inl (C0.aa0 G' e),⟨fun ch e=>.inl (C0.K7.1 ch e),C0.K7.2⟩,fun G' e=>⟨Pb0 G' (.inl e) (C0.K2 G' e).1,?_⟩,fun G' e=>Pb0 G' (.inr e) (C0.old G' e),fun j hj=>?_,?_,fun i h=>(by cases h),fun i hi h=>?_,(hD 0).trans C.d0,?_⟩,Array.getElem?_setIfInBounds_self_of_lt (by simpa using Iy0)⟩
 ·have E5:¬X.low b:=fun z=>hb (.inl z);have hb2:b≠bx:=fun z=>hb (.inr (.inl z));have hb3:¬(u.heap.size <=b/\b<u.heap.size+k):=fun z=>hb (.inr (.inr z));show ρ' b=X.N4 b;rcases Nat.lt_or_ge b u.heap.size with h|h
  ·rw[hold b h hb2 fun e=>E5 (e▸C0.aa0 G S.K2)];exact hlw b E5
  ·rw[I1 b (by omega),<- hlw b E5];exact(hs.new b h).symm
 ·rw[Array.getElem?_setIfInBounds_ne (fun e=>hi e.symm),Array.getElem?_map]at hy;obtain⟨y₀,hy₀,rfl⟩:=Option.map_eq_some_iff.1 hy;have h1:=fm0 i y₀ hi hy₀;rw[woken_of_again (again_of_running h1.status w)];unfold Idle;rw[show(X.gv0 u bx k).C1 i=none from v8 i];exact⟨by omega,by rw[if_neg (by simp),hD];exact h1⟩
 ·have h1:=C0.stays i p hp;obtain⟨c',T',f',L6,_,_⟩:=H4 h1.1;have:=y5 (u:=u) (u':=dw0 u bx (.cells cs Ty f) k) (a:=p.1) (T7 _ (Array.getElem?_eq_some_iff.1 L6).1 (hl.stay i p hp));rw[this.1,this.2];exact h1
 ·obtain⟨h1,h2,kk,h3⟩:=C0.chans ch hc;have n3:ch≠bx:=fun e=>hl.J7 (e▸hc);exact⟨Iz0 ch n3 h1,h2,kk,by rw[hwk ch n3 (.inl hc) h1];exact h3⟩
 ·obtain⟨h1,h2,p,y,h3,h4⟩:=C0.X3 b o e;have n3:b≠bx:=fun z=>by subst z;have e2:X.X3 b=some o:=e;rw[hl.X3]at e2;cases e2
  exact⟨Iz0 b n3 h1,h2,p,y,by rw[hwk b n3 (.inr (by have e':X.X3 b=some o:=e;rw[e'];simp)) h1];exact h3,h4⟩
 ·have e':X.K2=some G':=e;rw[S.K2]at e';obtain rfl:=Option.some.inj e';have hz:count (fun _=>false) ((gs.map (woken P g g' w)).setIfInBounds 0 g').size=0:=by
   unfold count;generalize ((gs.map (woken P g g' w)).setIfInBounds 0 g').size=m
   induction m with
   |zero=>rfl
   |succ m ih=>show sumTo m _+_=0;rw[ih];rfl
  have hz':(((count (fun _=>false) ((gs.map (woken P g g' w)).setIfInBounds 0 g').size+(X.gv0 u bx k).pend)*KK:Nat):Int)=0:=by
   rw[hz];show(((0+0)*KK:Nat):Int)=0;rw[Nat.zero_add,Nat.zero_mul];rfl
  rw[hz'];exact ek0
 ·simp only[Array.size_setIfInBounds,Array.size_map]at hj;have h2:=C0.above j (by have:=C0.num;have:=C.size.2;omega);exact⟨(hD j).trans (C.above j hj),v8 j,rfl,h2.2.2.2⟩
 ·refine⟨?_,by show(0:Nat) <=65536;omega⟩;have hz:count (fun _=>false) ((gs.map (woken P g g' w)).setIfInBounds 0 g').size=0:=by
   unfold count;generalize ((gs.map (woken P g g' w)).setIfInBounds 0 g').size=m
   induction m with
   |zero=>rfl
   |succ m ih=>show sumTo m _+_=0;rw[ih];rfl
  rw[hz];exact Nat.le_refl _
 ·rcases h with h|h
  ·exact absurd (v8 i) h
  ·exact absurd h hi
 ·have hM:∀x,(X.gv0 u bx k).Mem 0 x->x=0:=fun x hx=>by
   rcases hx with⟨e,_⟩|h
   ·exact e
   ·exact absurd (v8 x) h
  refine⟨p1,fun i a ha hm hns=>.inl (p2 i a ha hm hns),fun i a ha _ x hx hS=>?_,fun x hx=>?_,fun i a x ha hsh hx=>?_⟩
  ·obtain rfl:=hM x hx;obtain⟨h1,h2⟩:=C0.base.Dj0 (l:=a.loc) (i:=0) hS;exact p2 i a ha h1 h2
  ·obtain rfl:=hM x hx;rw[hD];exact C.d0
  ·refine(p3 i a x ha hsh hx).imp (fun z x' V3=>?_) id;rcases V3 with e|e
   ·exact z x' (.inl e)
   ·cases e
end
end
section
attribute [local irreducible] KK
section
variable (P:Program)(G:M4)(A:Addr)(K:Goroutine->Prop)
def WA:Nat->Nat->Goroutine->Prop
 |0,_,_=>False
 |n+1,d,g=>g.status= .running/\((∃g' es,(∀e∈es,GEv G 0 e)/\(∀w,w7 G 0 0 w->stepG P true g w= .go g' w es)/\WA n (deafBehind d es) g')\/(d=0/\∃g',(∀w,stepG P true g w= .go g' w #[⟨.mark (.acquire A),false,true⟩])/\WE P G K n 0 g'))
theorem WA.mono:∀{n m d:Nat} {g:Goroutine},WA P G A K n d g->n <=m->WA P G A K m d g
 |0,_,_,_,h,_=>h.elim
 |n+1,0,_,_,_,hm=>absurd hm (by omega)
 |n+1,m+1,_,_,⟨hr,h⟩,hm=>⟨hr,h.imp (fun⟨g',es,h1,h2,h3⟩=>⟨g',es,h1,h2,WA.mono h3 (by omega)⟩) fun⟨hd,g',h1,h2⟩=>⟨hd,g',h1,WE.mono h2 (by omega)⟩⟩
def Mx0 (n:Nat) (_:PM) (g:Goroutine):Prop:=WH P G (WA P G A K) n none 1 0 g
end
theorem WH.running {P:Program} {G:M4} {E:Nat->Nat->Goroutine->Prop} {n:Nat} {o:Option Nat} {V d:Nat} {g:Goroutine} (h:WH P G E n o V d g):g.status= .running:=by
 cases n with
 |zero=>exact h.elim
 |succ n=>
  unfold WH at h;rcases h with⟨_,_,hh,_⟩|hh
  ·exact hh.1
  ·exact hh.1
theorem WS.running {P:Program} {G:M4} {E:Nat->Nat->Goroutine->Prop} {n d:Nat} {g:Goroutine} (h:WS P G E n d g):g.status= .running:=by
 cases n with
 |zero=>exact h.elim
 |succ n=>
  rcases h with⟨_,_,hh,_⟩|⟨_,hh⟩
  ·exact hh.1
  ·exact hh.1
def ir0:Bd->Nat
 | .up _=>1
 |_=>0
theorem Ja0 {σ:Bd} (h:frB σ=true):bst σ=(((ir0 σ*KK:Nat):Int),0):=by
 cases σ with
 |up wt=>
  cases wt with
  |false=>show((((0+1)*KK+0:Nat):Int),(0:Int))=_;rw[Nat.add_zero,Nat.zero_add];rfl
  |true=>cases h
 |out=>show((0:Int),(0:Int))=(((0*KK:Nat):Int),0);rw[Nat.zero_mul];rfl
 |last s=>cases h
 |done=>cases h
structure up0 (P:Program) (Post:Value->World->Prop) (X:Gh) (G:M4) (c bx:Nat) (u w0:World) (L0 Lc:N3) (A:Addr) (ox:Obj) (N:Nat) (K:Goroutine->Prop):Prop where
 ring:∃live T0 gs0 q0,Ring P X 0 u live T0 gs0 w0 q0
 no:∀i,X.C1 i=none
 at0:J9 X bx
 blt:bx<u.heap.size
 st:StB X G c bx w0 L0 Lc
 num:N=X.n+1
 isx:∃cs T f,ox= .cells cs T f
 k:∀k g,K g->Fin P Post (X.gv0 u bx k) 0 g (dw0 u bx ox k)
section
variable {P:Program}{Post:Value->World->Prop}{X:Gh}{G:M4}{c bx n0:Nat}{u w0:World}{L0 Lc:N3}{A:Addr}{ox:Obj}{N:Nat}{K:Goroutine->Prop}{σ σ':Bd}{r:Option Nat}{u7 pm0' R6:PM}{d:Nat}{T:Trace}{gs:Array Goroutine}{w w':World}{q:Nat->Nat}
theorem Rb.awake {Fp:PM->Prop} (C:Rb P X G c bx n0 w0 L0 Lc A Fp N σ r u7 R6 d T gs w q) {a:Goroutine} (ha:gs[0]? =some a) (hs:a.status= .running\/a.status= .blocked):∀g∈gs,awake g:=by
 intro g hg;obtain⟨i,hi,rfl⟩:=Array.mem_iff_getElem.1 hg;by_cases e:i=0
 ·subst e;have:gs[0]=a:=by simpa [Array.getElem?_eq_getElem hi]using ha
  rw[this];exact awake_of (hs.elim .inl fun x=>.inr (.inl x))
 ·exact awake_of ((C.status e (Array.getElem?_eq_getElem hi)).elim .inl fun x=>.inr (.inr x))
theorem Rb.main {Fp:PM->Prop} (C:Rb P X G c bx n0 w0 L0 Lc A Fp N σ r u7 R6 d T gs w q) (hc0:c≠0) {g g':Goroutine} {es:Array Event} (tb':TB X.Sh (UsB c σ') c n0 L0 Lc (BM pm0') (BM R6) A r (T++MemOp.ofEvents 0 g.frame.fn g.frame.place es)) (wf':WF G bx w0 w') (Bu0:∀x,x∈pm0'\/x∈R6->(x.1=bx\/w0.heap.size <=x.1)/\w'.heap[x.1]? =some x.2) (zg0:Apart L0 Lc (BM pm0') (BM R6)) (Iw0:w7 G (bst σ').1 (bst σ').2 w')
  (Y5:∀d n y,du0 P G Lc A Fp σ r R6 d n y->du0 P G Lc A Fp σ' r R6 d n y):Rb P X G c bx n0 w0 L0 Lc A Fp N σ' r pm0' R6 (deafBehind d es) (T++MemOp.ofEvents 0 g.frame.fn g.frame.place es) ((gs.map (woken P g g' w')).setIfInBounds 0 g') w' q/\((gs.map (woken P g g' w')).setIfInBounds 0 g')[0]? =some g':=by
 have D2:((gs.map (woken P g g' w')).setIfInBounds 0 g').size=gs.size:=by simp
 have hs0:0<gs.size:=by have:=C.size.1;omega
 have hdo:∀x,x≠0->Deaf (T++MemOp.ofEvents 0 g.frame.fn g.frame.place es) x=Deaf T x:=fun x hx=>Deaf_other T (Ne.symm hx) _ V1;have wk0:∀x y,x≠0->((gs.map (woken P g g' w')).setIfInBounds 0 g')[x]? =some y->gs[x]? =some y:=fun x y hx hy=>by
  rw[Array.getElem?_setIfInBounds_ne (fun z=>hx z.symm),Array.getElem?_map]at hy;obtain⟨y₀,hy₀,rfl⟩:=Option.map_eq_some_iff.1 hy;rw[woken_of_again (again_of_running (C.status hx hy₀) w')];exact hy₀
 refine⟨⟨wf',tb',by rw[Array.size_append];have:=C.n0;omega,by rw[Deaf_own,C.d0],Bu0,zg0,fun y hy=>?_,fun x y hx hxc hy=>?_,Iw0,by rw[D2];exact C.size,fun j hj=>?_,C.fin⟩,Array.getElem?_setIfInBounds_self_of_lt (by simpa using hs0)⟩
 ·rw[hdo c hc0];exact Y5 _ _ _ (C.child y (wk0 c y hc0 hy))
 ·rw[hdo x hx];exact C.rest x y hx hxc (wk0 x y hx hy)
 ·rw[D2]at hj;rw[hdo j (by omega)];exact C.above j hj
theorem Rb.mo0 {Fp:PM->Prop} (C:Rb P X G c bx n0 w0 L0 Lc A Fp N σ r u7 R6 d T gs w q) (S:StB X G c bx w0 L0 Lc) {g g':Goroutine} {es:Array Event} (I9:∀e∈es,GEv G 0 e) (hU:∀x,UsB c σ' x->UsB c σ x) (hw:w'=w\/∃a v,a.block=G.blk/\a.spot=none/\G.off <=a.off/\w'=w.setCell a v) (Iw0:w7 G (bst σ').1 (bst σ').2 w')
  (Y5:∀d n y,du0 P G Lc A Fp σ r R6 d n y->du0 P G Lc A Fp σ' r R6 d n y):Rb P X G c bx n0 w0 L0 Lc A Fp N σ' r u7 R6 (deafBehind d es) (T++MemOp.ofEvents 0 g.frame.fn g.frame.place es) ((gs.map (woken P g g' w')).setIfInBounds 0 g') w' q/\((gs.map (woken P g g' w')).setIfInBounds 0 g')[0]? =some g':=by
 refine C.main S.c0 ((C.tb.K2 C.n0 S.K2 I9 (.inr ⟨.inl rfl,fun h=>absurd rfl h⟩)).leave hU) ?_ ?_ C.apart Iw0 Y5
 ·rcases hw with rfl|⟨a,v,h1,h2,h3,rfl⟩
  ·exact C.wf
  ·exact C.wf.It0 C.y6 h1 h2 h3 v
 ·intro x hx;have:=C.own x hx;refine⟨this.1,?_⟩;rcases hw with rfl|⟨a,v,h1,h2,h3,rfl⟩
  ·exact this.2
  ·rw[A1 w _ (by rw[h1];exact S.ng this.1)];exact this.2
theorem up0.wa (B:up0 P Post X G c bx u w0 L0 Lc A ox N K):∀(μ n d:Nat) (g:Goroutine) r u7 R6 T gs w sl q,μ=n+sumTo gs.size q->Rb P X G c bx n0 w0 L0 Lc A (fun pm=>(bx,ox)∈pm) N .out r u7 R6 d T gs w q->gs[0]? =some g->WA P G A K n d g->Ends P Post (crowd gs w sl) T:=by
 intro μ
 induction μ using Nat.strongRecOn with
 |_ μ ih=>
  intro n d g r u7 R6 T gs w sl q hμ C h0 hW;cases n with
  |zero=>exact hW.elim
  |succ n=>
   obtain⟨hr,hW'⟩:=hW;obtain⟨i,gi,dd,Y4,hi,hgi,E2⟩:=crowd_pick (P:=P) (w:=w) (sl:=sl) (C.awake h0 (.inl hr)) ⟨0,g,h0,hr⟩;have Cd:=C.at dd;by_cases e:i=0
   ·subst e;rcases hW' with⟨g',es,I9,j3,hW'⟩|⟨rfl,g',j3,hE⟩
    ·obtain⟨C',r2⟩:=Cd.mo0 B.st (g:=g) (g':=g') (σ':=.out) (w':=w.at dd) I9 (fun _ h=>h) (.inl rfl) Cd.y6 (fun _ _ _ h=>h);exact Ends.step (E2.trans (runT_crowd_go (sl:=Y4) (i:=0) h0 (j3 _ Cd.y6))) (ih _ (by simp only[Array.size_setIfInBounds,Array.size_map];omega) n _ g' _ _ _ _ _ _ Y4 q rfl C' r2 hW')
    ·obtain⟨live,T0,gs0,q0,R0⟩:=B.ring;obtain⟨cs,Ty,f,rfl⟩:=B.isx;have Y5:∃gc,gs[c]? =some gc:=⟨_,Array.getElem?_eq_getElem C.size.1⟩
     obtain⟨gc,hgc⟩:=Y5;obtain⟨k,R,r2⟩:=ring_end R0 B.no B.at0 B.blt B.st B.num Cd (C.fin (C.child gc hgc).1) (g':=g') h0;exact Ends.step (E2.trans (runT_crowd_go (sl:=Y4) (i:=0) h0 (j3 _))) (Fin.we (X:=X.gv0 u bx k) B.st.K2 (fun g hg=>B.k k g hg) n 0 g' hE _ _ _ _ _ _ r2 R)
   ·obtain⟨J4,ops,q',w',σ',r',pmc',hrt,D2,h0',C',C2,_,_,bx0⟩:=Cd.by (sl:=Y4) B.st hi e hgi
    have hσ:=bx0 rfl;subst hσ;refine Ends.step (E2.trans hrt) (ih _ (by omega) (n+1) d g r' u7 pmc' _ J4 w' Y4 q' rfl C' ?_ ⟨hr,hW'⟩);rcases h0' g h0 with z|z
    ·exact z
    ·rw[again_of_running (.inl hr)]at z;exact z
theorem up0.sem (B:up0 P Post X G c bx u w0 L0 Lc A ox N K):∀(μ n d:Nat) (g:Goroutine) (b:Bool) σ r u7 R6 T gs w sl q,μ=3*sumTo gs.size q+3*n+(if b then 1 else 0)->Rb P X G c bx n0 w0 L0 Lc A (fun pm=>(bx,ox)∈pm) N σ r u7 R6 d T gs w q->frB σ=false ->
  (if b then gs[0]? =some g/\WS P G (WA P G A K) n d g else σ≠.done/\gs[0]? =some {g with status:=.blocked}/\∃k,n=k+1/\0<d/\Dm0 P G (WA P G A K) k d g)->Ends P Post (crowd gs w sl) T:=by
 intro μ
 induction μ using Nat.strongRecOn with
 |_ μ ih=>
  intro n d g b σ r u7 R6 T gs w sl q hμ C hmf hb;have Y5:∃gc,gs[c]? =some gc:=⟨_,Array.getElem?_eq_getElem C.size.1⟩
  obtain⟨gc,hgc⟩:=Y5;have vb0:(∃(i:Nat) (g:Goroutine),gs[i]? =some g/\g.status= .running)/\∀g∈gs,awake g:=by
   cases b with
   |true=>obtain⟨h0,hW⟩:=hb;exact⟨⟨0,g,h0,hW.running⟩,C.awake h0 (.inl hW.running)⟩
   |false=>
    obtain⟨hmd,h0,k,_,_,_⟩:=hb;refine⟨⟨c,gc,hgc,?_⟩,C.awake h0 (.inr rfl)⟩;have hI:=C.child gc hgc;cases σ with
    |up wt=>rcases hI with⟨_,_,h⟩|⟨_,h⟩;exact h.running fun _ _ _ z=>z.1;exact h.running
    |last s=>exact hI.2.2.running
    |out=>cases hmf
    |done=>exact absurd rfl hmd
  obtain⟨i,gi,dd,Y4,hi,hgi,E2⟩:=crowd_pick (P:=P) (w:=w) (sl:=sl) vb0.2 vb0.1;have Cd:=C.at dd;by_cases e:i=0
  ·subst e;cases b with
   |false=>obtain⟨_,h0,_⟩:=hb;rw[h0]at hi;obtain rfl:=Option.some.inj hi;cases hgi
   |true=>
    obtain⟨h0,hW⟩:=hb;rw[h0]at hi;obtain rfl:=Option.some.inj hi;cases n with
    |zero=>exact hW.elim
    |succ n=>
     rcases hW with⟨g',es,⟨_,_,I9,j3⟩,hW⟩|⟨hd0,hr,ho,td0,g',Dr0,hE⟩
     ·obtain⟨C',r2⟩:=Cd.mo0 B.st (g:=g) (g':=g') (σ':=σ) (w':=w.at dd) I9 (fun _ h=>h) (.inl rfl) Cd.y6 (fun _ _ _ h=>h);exact Ends.step (E2.trans (runT_crowd_go (sl:=Y4) (i:=0) h0 (j3 _ _ _ Cd.y6))) (ih _ (by simp only[Array.size_setIfInBounds,Array.size_map];rw[hμ];simp only[if_true];omega) n _ g' true σ _ _ _ _ _ _ Y4 q rfl C' hmf ⟨r2,hW⟩)
     ·have blk:σ≠.done->(∃st,w7 G st 0 (w.at dd))->Ends P Post (crowd gs w sl) T:=fun hmd ⟨st,hat⟩=>by
       have hgo:=td0 _ _ hat;have hrt:=runT_crowd_go (P:=P) (sl:=Y4) (i:=0) h0 hgo;rw[show(MemOp.ofEvents 0 g.frame.fn g.frame.place #[]:Array MemOp)=#[] from rfl]at hrt;obtain⟨C',r2⟩:=Cd.mo0 B.st (g:=g) (g':={g with status:=.blocked}) (es:=#[]) (σ':=σ) (w':=w.at dd) (fun e he=>by simp at he) (fun _ h=>h) (.inl rfl) Cd.y6 (fun _ _ _ h=>h);rw[show(MemOp.ofEvents 0 g.frame.fn g.frame.place #[]:Array MemOp)=#[] from rfl]at C';exact Ends.step (E2.trans hrt) (ih _ (by simp only[Array.size_setIfInBounds,Array.size_map];rw[hμ];simp) (n+1) d g false σ _ _ _ _ _ _ Y4 q rfl C' hmf ⟨hmd,r2,n,rfl,hd0,hr,ho,td0,g',Dr0,hE⟩)
      cases σ with
      |out=>cases hmf
      |up wt=>exact blk (fun e=>by cases e) ⟨_,Cd.y6⟩
      |last s=>exact blk (fun e=>by cases e) (by
        have:=Cd.y6;cases s with
        |zero=>exact⟨_,this⟩
        |succ s=>exact⟨_,this⟩)
      |done=>
       obtain⟨C',r2⟩:=Cd.mo0 B.st (g:=g) (g':=g') (es:=semEvents (smA G)) (σ':=.out) (w':=(w.at dd).setCell (smA G) (.int .u32 0)) kc0 (fun _ h=>h) (.inr ⟨_,_,rfl,rfl,Nat.le_succ _,rfl⟩) (Cd.y6.setSm 0) (fun _ _ _ h=>h);rw[fo0]at C';exact Ends.step (E2.trans (runT_crowd_go (sl:=Y4) (i:=0) h0 (Dr0 _ Cd.y6))) (B.wa _ n d g' _ _ _ _ _ _ Y4 q rfl C' r2 hE)
  ·obtain⟨J4,ops,q',w',σ',r',pmc',hrt,D2,h0',C',C2,hfr,Dt0,_⟩:=Cd.by (sl:=Y4) B.st hi e hgi
   rw[hmf]at hfr;refine Ends.step (E2.trans hrt) ?_;cases b with
   |true=>
    obtain⟨h0,hW⟩:=hb;refine ih _ (by rw[hμ];simp only[if_true];omega) n d g true σ' r' u7 pmc' _ J4 w' Y4 q' rfl C' hfr ⟨?_,hW⟩;rcases h0' g h0 with z|z
    ·exact z
    ·rw[again_of_running (.inl hW.running)]at z;exact z
   |false=>
    obtain⟨hmd,h0,k,hk,hd0,te0⟩:=hb;have hA:J4[0]? =some (({g with status:=.blocked}:Goroutine).again w')->Ends P Post (crowd J4 w' Y4) (T++ops):=fun z=>by
     rw[again_blocked te0.1 te0.2.1]at z;exact ih _ (by rw[hμ];simp only[if_true];simp;omega) n d g true σ' r' u7 pmc' _ J4 w' Y4 q' rfl C' hfr ⟨z,by rw[hk];exact .inr ⟨hd0,te0⟩⟩
    by_cases c9:σ'= .done
    ·exact hA ((Dt0 c9).resolve_left hmd _ h0)
    ·rcases h0' _ h0 with z|z
     ·exact ih _ (by rw[hμ];simp;omega) n d g false σ' r' u7 pmc' _ J4 w' Y4 q' rfl C' hfr ⟨c9,z,k,hk,hd0,te0⟩
     ·exact hA z
theorem up0.head (B:up0 P Post X G c bx u w0 L0 Lc A ox N K):∀(μ n:Nat) (o:Option Nat) (V d:Nat) (g:Goroutine) σ r u7 R6 T gs w sl q,μ=n+sumTo gs.size q->Rb P X G c bx n0 w0 L0 Lc A (fun pm=>(bx,ox)∈pm) N σ r u7 R6 d T gs w q->frB σ=true->gs[0]? =some g->WH P G (WA P G A K) n o V d g ->
  (match o with|none=>ir0 σ <=V|some vs=>0<vs/\ir0 σ <=vs)->Ends P Post (crowd gs w sl) T:=by
 intro μ
 induction μ using Nat.strongRecOn with
 |_ μ ih=>
  intro n o V d g σ r u7 R6 T gs w sl q hμ C hfr h0 hW hV;have hr:=hW.running;cases n with
  |zero=>exact hW.elim
  |succ n=>
   obtain⟨i,gi,dd,Y4,hi,hgi,E2⟩:=crowd_pick (P:=P) (w:=w) (sl:=sl) (C.awake h0 (.inl hr)) ⟨0,g,h0,hr⟩;have Cd:=C.at dd;by_cases e:i=0
   ·subst e;rw[h0]at hi;obtain rfl:=Option.some.inj hi;have hat:w7 G ((ir0 σ*KK:Nat):Int) 0 (w.at dd):=by have:=Cd.y6;rw[Ja0 hfr]at this;exact this
    unfold WH at hW;rcases hW with⟨g',es,⟨_,_,I9,j3⟩,hW⟩|⟨_,hW⟩
    ·obtain⟨C',r2⟩:=Cd.mo0 B.st (g:=g) (g':=g') (σ':=σ) (w':=w.at dd) I9 (fun _ h=>h) (.inl rfl) Cd.y6 (fun _ _ _ h=>h);exact Ends.step (E2.trans (runT_crowd_go (sl:=Y4) (i:=0) h0 (j3 _ _ _ hat))) (ih _ (by simp only[Array.size_setIfInBounds,Array.size_map];omega) n o V _ g' σ _ _ _ _ _ _ Y4 q rfl C' hfr r2 hW hV)
    ·have kv0:∀g',stepG P true g (w.at dd)= .go g' (w.at dd) #[Y8 (stA G)]->(∀T' J4,Rb P X G c bx n0 w0 L0 Lc A (fun pm=>(bx,ox)∈pm) N σ r u7 R6 d T' J4 (w.at dd) q->J4.size=gs.size->J4[0]? =some g'->Ends P Post (crowd J4 (w.at dd) Y4) T')->Ends P Post (crowd gs w sl) T:=fun g' hgo hk=>by
      obtain⟨C',r2⟩:=Cd.mo0 B.st (g:=g) (g':=g') (es:=#[Y8 (stA G)]) (σ':=σ) (w':=w.at dd) hh0 (fun _ h=>h) (.inl rfl) Cd.y6 (fun _ _ _ h=>h);rw[deafBehind_still B8]at C';exact Ends.step (E2.trans (runT_crowd_go (sl:=Y4) (i:=0) h0 hgo)) (hk _ _ C' (by simp) r2)
     cases o with
     |none=>
      have hV':ir0 σ <=V:=hV;obtain⟨g',j3,hz,hnz⟩:=hW (ir0 σ) hV';refine kv0 g' (j3 _ hat) fun T' J4 C' D2 r2=>?_;by_cases hc:ir0 σ=0
      ·have hσ:σ= .out:=by
        cases σ with
        |out=>rfl
        |up wt=>cases hc
        |last s=>cases hfr
        |done=>cases hfr
       subst hσ;exact B.wa _ n d g' _ _ _ _ _ _ Y4 q rfl C' r2 (hz hc)
      ·exact ih _ (by rw[D2];omega) n (some (ir0 σ)) V d g' σ _ _ _ T' J4 _ Y4 q rfl C' hfr r2 (hnz hc) ⟨by omega,Nat.le_refl _⟩
     |some vs=>
      obtain⟨hvs,hle⟩:=hV;obtain⟨⟨g1,Bl0,hS⟩,Du0⟩:=hW;by_cases hc:ir0 σ=vs
      ·have hσ:σ= .up false:=by
        cases σ with
        |out=>have h2:0=vs:=hc;omega
        |up wt=>cases wt with
         |false=>rfl
         |true=>cases hfr
        |last s=>cases hfr
        |done=>cases hfr
       subst hσ;have er1:vs=1:=hc.symm;subst er1;have e1:(((1*KK+1:Nat)):Int)=(bst (.up true)).1:=by show _=((((0+1)*KK+(if true=true then 1 else 0):Nat)):Int);rw[Nat.zero_add];rfl
       obtain⟨C',r2⟩:=Cd.mo0 B.st (g:=g) (g':=g1) (es:=#[Y8 (stA G),wrA (stA G)]) (σ':=.up true) (w':=(w.at dd).setCell (stA G) (.int .u64 ((1*KK+1:Nat):Int))) L9 (fun _ h=>h) (.inr ⟨_,_,rfl,rfl,Nat.le_refl _,rfl⟩) (by
        have:=Cd.y6.setSt ((1*KK+1:Nat):Int);rw[<- e1];exact this) (fun _ _ _ h=>h)
       rw[he0]at C';exact Ends.step (E2.trans (runT_crowd_go (sl:=Y4) (i:=0) h0 (Bl0 _ hat))) (B.sem _ n d g1 true (.up true) _ _ _ _ _ _ Y4 q rfl C' rfl ⟨r2,hS⟩)
      ·obtain⟨g',j3,hH⟩:=Du0 (ir0 σ) (by omega);refine kv0 g' (j3 _ hat) fun T' J4 C' D2 r2=>?_;exact ih _ (by rw[D2];omega) n none (ir0 σ) d g' σ _ _ _ T' J4 _ Y4 q rfl C' hfr r2 hH (Nat.le_refl _)
   ·obtain⟨J4,ops,q',w',σ',r',pmc',hrt,D2,h0',C',C2,wl0,_,bx0⟩:=Cd.by (sl:=Y4) B.st hi e hgi
    rw[hfr]at wl0;have D6:ir0 σ' <=ir0 σ:=by
     cases σ with
     |out=>rw[bx0 rfl];exact Nat.le_refl _
     |up wt=>cases σ' <;> first|exact Nat.le_refl _|exact Nat.zero_le _
     |last s=>cases hfr
     |done=>cases hfr
    refine Ends.step (E2.trans hrt) (ih _ (by omega) (n+1) o V d g σ' r' u7 pmc' _ J4 w' Y4 q' rfl C' wl0 ?_ hW ?_)
    ·rcases h0' g h0 with z|z
     ·exact z
     ·rw[again_of_running (.inl hr)]at z;exact z
    ·cases o with
     |none=>exact Nat.le_trans D6 hV
     |some vs=>exact⟨hV.1,Nat.le_trans D6 hV.2⟩
theorem up0.path (B:up0 P Post X G c bx u w0 L0 Lc A ox N K):∀(μ n:Nat) (g:Goroutine) σ r u7 R6 T gs w sl q,μ=n+sumTo gs.size q->Rb P X G c bx n0 w0 L0 Lc A (fun pm=>(bx,ox)∈pm) N σ r u7 R6 0 T gs w q->frB σ=true->gs[0]? =some g->MP P true G L0 (Mx0 P G A K) n u7 g->Ends P Post (crowd gs w sl) T:=by
 intro μ
 induction μ using Nat.strongRecOn with
 |_ μ ih=>
  intro n g σ r u7 R6 T gs w sl q hμ C hfr h0 hW;have hr:g.status= .running:=hW.running fun n pm g z=>WH.running (show WH P G (WA P G A K) n none 1 0 g from z);cases n with
  |zero=>exact hW.elim
  |succ n=>
   unfold MP at hW;rcases hW with hE|⟨_,hW⟩
   ·exact B.head _ n none 1 0 g σ r u7 R6 T gs w sl q rfl C hfr h0 hE (by cases σ <;> first|exact Nat.le_refl _|exact Nat.zero_le _)
   obtain⟨i,gi,dd,Y4,hi,hgi,E2⟩:=crowd_pick (P:=P) (w:=w) (sl:=sl) (C.awake h0 (.inl hr)) ⟨0,g,h0,hr⟩;have Cd:=C.at dd;by_cases e:i=0
   ·subst e;rw[h0]at hi;obtain rfl:=Option.some.inj hi;rcases hW with⟨g',es,hr',I9,j3,hM⟩|⟨g',b,cs,T1,o,v,es,hr',hm,I9,j3,hM⟩|⟨gf,cs,T1,hr',j3,hM⟩
    ·have hd:deafBehind 0 es=0:=deafBehind_still (fun e he=>(I9 e he).on.2.2) _;obtain⟨C',r2⟩:=Cd.main B.st.c0 (g:=g) (g':=g') (es:=es) (σ':=σ) (pm0':=u7) (w':=w.at dd) (Cd.tb.own Cd.apart Cd.n0 V1 (fun op M5 bb hb=>by
      obtain⟨e,he,rfl⟩:=Go.Conc.mem_ofEvents M5;have:=(I9 e he).on.1 bb hb;exact⟨B.st.on0 Cd.Zq0 this,.inl ⟨rfl,this⟩⟩) fun _=>norel_of fun e he=>(I9 e he).on.2.1) Cd.wf Cd.own Cd.apart Cd.y6 (fun _ _ _ h=>h)
     rw[hd]at C';exact Ends.step (E2.trans (runT_crowd_go (sl:=Y4) (i:=0) h0 (j3 _ (Cd.Iu0 B.st)))) (ih _ (by simp only[Array.size_setIfInBounds,Array.size_map];omega) n g' σ _ _ _ _ _ _ Y4 q rfl C' hfr r2 hM)
    ·have hd:deafBehind 0 es=0:=deafBehind_still (fun e he=>(dv0 (L:=L0) hm (I9 e he)).2.2) _;have hob:=(Cd.own _ (.inl hm))
     have hng:=B.st.ng hob.1;obtain⟨C',r2⟩:=Cd.main B.st.c0 (g:=g) (g':=g') (es:=es) (σ':=σ) (pm0':=jq0 u7 b (.cells (cs.setIfInBounds o v) T1 (0,0))) (w':=(w.at dd).setCell ⟨b,o,none⟩ v) ((Cd.tb.own Cd.apart Cd.n0 V1 (fun op M5 bb hb=>by
      obtain⟨e,he,rfl⟩:=Go.Conc.mem_ofEvents M5;have:=(dv0 (L:=L0) hm (I9 e he)).1 bb hb;exact⟨B.st.on0 Cd.Zq0 this,.inl ⟨rfl,this⟩⟩) fun _=>norel_of fun e he=>(dv0 (L:=L0) hm (I9 e he)).2.1).grow (fun k hk=>by
       obtain⟨x,hx⟩:=hk;by_cases e:k=b
       ·exact⟨.cells (cs.setIfInBounds o v) T1 (0,0),List.mem_map.2 ⟨(k,x),hx,by rw[if_pos e,e]⟩⟩
       ·exact⟨x,List.mem_map.2 ⟨(k,x),hx,by rw[if_neg e]⟩⟩) fun _ h=>h) (Cd.wf.cell v hob.1 hng) (fun x hx=>by
       rcases hx with hx|hx
       ·rcases mem_set hx with⟨rfl,_⟩|⟨hx,hxb⟩
        ·exact⟨hob.1,heap_put hob.2⟩
        ·have h1:=Cd.own x (.inl hx);exact⟨h1.1,by rw[A1 _ v (a:=⟨b,o,none⟩) hxb];exact h1.2⟩
       ·have h1:=Cd.own x (.inr hx);have:x.1≠b:=fun e=>Cd.apart.own x.1 ⟨_,by rw[e];exact hm⟩ ⟨x.2,hx⟩;exact⟨h1.1,by rw[A1 _ v (a:=⟨b,o,none⟩) this];exact h1.2⟩)
      ⟨Cd.apart.l0,fun p hp h=>Cd.apart.lc p hp (um0 h),fun bb h h'=>Cd.apart.own bb (um0 h) h'⟩ (Cd.y6.of_block (A1 _ v (a:=⟨b,o,none⟩) (Ne.symm hng))) (fun _ _ _ h=>h)
     rw[hd]at C';exact Ends.step (E2.trans (runT_crowd_go (sl:=Y4) (i:=0) h0 (j3 _ (Cd.Iu0 B.st)))) (ih _ (by simp only[Array.size_setIfInBounds,Array.size_map];omega) n g' σ _ _ _ _ _ _ Y4 q rfl C' hfr r2 hM)
    ·have D2:=Cd.wf.size;have es1:w0.heap.size <=w.heap.size:=D2;obtain⟨C',r2⟩:=Cd.main B.st.c0 (g:=g) (g':=gf w.heap.size) (es:=#[]) (σ':=σ) (pm0':=(w.heap.size,.cells cs T1 (0,0))::u7) (w':=(w.at dd).alloc (.cells cs T1 (0,0))) ((Cd.tb.mute Cd.n0 (fun op M5=>by
      obtain⟨e,he,rfl⟩:=Go.Conc.mem_ofEvents M5;simp at he) fun _=>norel_of fun e he=>by simp at he).grow (fun k ⟨x,hx⟩=>⟨x,List.mem_cons_of_mem _ hx⟩) fun _ h=>h) (Cd.wf.alloc _ B.st.Cw0.1) (fun x hx=>by
       rcases hx with hx|hx
       ·rcases List.mem_cons.1 hx with rfl|hx
        ·exact⟨.inr es1,heap_alloc_new (w:=w.at dd)⟩
        ·have:=Cd.own x (.inl hx);exact⟨this.1,heap_alloc this.2⟩
       ·have:=Cd.own x (.inr hx);exact⟨this.1,heap_alloc this.2⟩)
      ⟨Cd.apart.l0,fun p hp h=>by
       obtain⟨x,hx⟩:=h;rcases List.mem_cons.1 hx with e|hx
       ·have:=(B.st.st p (.inr hp)).2.1;have e:=congrArg Prod.fst e;simp only at e;omega
       ·exact Cd.apart.lc p hp ⟨x,hx⟩,fun bb h h'=>by
       obtain⟨x,hx⟩:=h;rcases List.mem_cons.1 hx with e|hx
       ·obtain⟨y,hy⟩:=h';have h1:bb<w.heap.size:=un0 (Cd.own _ (.inr hy)).2;have e:=congrArg Prod.fst e;simp only at e;omega
       ·exact Cd.apart.own bb ⟨x,hx⟩ h'⟩ (Cd.y6.of_block (by
       show(w.heap.push _)[G.blk]? =w.heap[G.blk]?;rw[Array.getElem?_push,if_neg (by have:=B.st.Cw0.1;omega)])) (fun _ _ _ h=>h)
     exact Ends.step (E2.trans (runT_crowd_go (sl:=Y4) (i:=0) h0 (j3 _))) (ih _ (by simp only[Array.size_setIfInBounds,Array.size_map];omega) n (gf w.heap.size) σ _ _ _ _ _ _ Y4 q rfl C' hfr r2 (hM w.heap.size))
   ·obtain⟨J4,ops,q',w',σ',r',pmc',hrt,D2,h0',C',C2,wl0,_,_⟩:=Cd.by (sl:=Y4) B.st hi e hgi
    rw[hfr]at wl0;refine Ends.step (E2.trans hrt) (ih _ (by omega) (n+1) g σ' r' u7 pmc' _ J4 w' Y4 q' rfl C' wl0 ?_ (by unfold MP;exact .inr ⟨hr,hW⟩));rcases h0' g h0 with z|z
    ·exact z
    ·rw[again_of_running (.inl hr)]at z;exact z
end
end
section
attribute [local irreducible] KK
theorem Fin.beside {P:Program} {Post:Value->World->Prop} {X:Gh} {u:World} {g g1 child:Goroutine} {G:M4} {bx nc np:Nat} {ox0 ox:Obj} {L0 Lc:N3} {A:Addr} {K:Goroutine->Prop} (Y3:g.status= .running) (c9:X.dn=0) (iv0:X.pend=1) (ex0:X.cap=1) (hG:X.K2=some G) (v8:∀i,X.C1 i=none)
  (hgo:∀w,stepG P true g w= .spawn g1 child w #[]) (hl:J9 X bx) (hw:¬X.low bx) (K9:X.N4 bx= .all) (hb:u.heap[bx]? =some ox0) (E2:∀p,p∈L0\/p∈Lc->u.cell? p.1=some p.2/\p.1.block≠bx/\¬GB X p.1.block)
  (Tm0:MP P true G L0 (Mx0 P G A K) np [] g1) (Y5:MP P false G Lc (zf0 P G A (fun pm=>(bx,ox)∈pm)) nc [(bx,ox0)] child) (hox:∃cs T f,ox= .cells cs T f) (hK:∀k g,K g->Fin P Post (X.gv0 u bx k) 0 g (dw0 u bx ox k)):Fin P Post X 0 g u:=by
 refine Fin.o9 Y3 fun live T gs w sl d Y4 q hg j3 C=>?_;have hrt:=runT_crowd_spawn (P:=P) (sl:=Y4) (i:=0) hg (hgo (w.at d));have Di0:(((MemOp.ofEvents 0 g.frame.fn g.frame.place #[]:Array MemOp).push {g:=0,fn:=g.frame.fn,pos:=g.frame.place,act:=.go gs.size}).push {g:=gs.size,fn:=child.frame.fn,pos:=g.frame.place,act:=.start})=
   #[{g:=0,fn:=g.frame.fn,pos:=g.frame.place,act:=.go gs.size},{g:=gs.size,fn:=child.frame.fn,pos:=g.frame.place,act:=.start}]:=rfl
 rw[Di0]at hrt;refine Ends.step (j3.trans hrt) ?_;have h0:=C.size;have tb0:=C.above gs.size (Nat.le_refl _);have hc0:gs.size≠0:=by omega
 obtain⟨ρ,hs,hlw⟩:=C.sim;have D2:(w.at d).heap.size=u.heap.size:=hs.size;have hz:count live gs.size=0:=by have:=C.few;omega
 have kr0:∀i,live i=false:=fun i=>by
  rcases Nat.lt_or_ge i gs.size with hi|hi
  ·cases e:live i with
   |false=>rfl
   |true=>have:=count_le hi e;omega
  ·exact(C.above i hi).2.2.1
 have na0:∀G',(X.K2=some G'\/G'∈X.old)->Cut u G':=fun G' hG'=>hG'.elim (fun e=>(C.K2 G' e).1) (C.old G');have S:StB X G gs.size bx (w.at d) L0 Lc:=by
  refine⟨hG,hc0,fun p hp=>?_,⟨by rw[D2];exact(Array.getElem?_eq_some_iff.1 hb).1,fun⟨G',hG',e⟩=>hl.K2 G' hG' e.symm⟩,fun b ⟨G',hG',e⟩=>?_⟩
  ·obtain⟨h1,h2,h3⟩:=E2 p hp;obtain⟨c',T',f',L6,_,_⟩:=H4 h1;exact⟨hs.cell (u:=P2 u (w.at d).tape (w.at d).drawn) h1,by rw[D2];exact(Array.getElem?_eq_some_iff.1 L6).1,h2,h3⟩
  ·obtain⟨c',T',f',L6,_⟩:=na0 G' hG';rw[D2,e];exact(Array.getElem?_eq_some_iff.1 L6).1
 have B:up0 P Post X G gs.size bx u (w.at d) L0 Lc A ox (X.n+1) K:=⟨⟨live,T,gs,q,C⟩,v8,hl,(Array.getElem?_eq_some_iff.1 hb).1,S,rfl,hox,hK⟩
 generalize hu:(#[{g:=0,fn:=g.frame.fn,pos:=g.frame.place,act:=.go gs.size},{g:=gs.size,fn:=child.frame.fn,pos:=g.frame.place,act:=.start}]:Trace)=U;have hn:∀op∈U,op.act.touch? =none:=by
  intro op M5;subst hu;simp only[List.mem_toArray,List.mem_cons,List.not_mem_nil,or_false]at M5;rcases M5 with rfl|rfl <;> rfl
 have hD:∀x,Deaf (T++U) x=Deaf T x:=fun x=>Deaf_quiet (fun op M5 d=>by
  subst hu;simp only[List.mem_toArray,List.mem_cons,List.not_mem_nil,or_false]at M5;rcases M5 with rfl|rfl <;> rfl)
 have p:=PastH.born (c:=gs.size) C.past (.inl ⟨rfl,c9⟩) tb0.1 (fun l ⟨p,hp,_⟩=>by rw[tb0.2.2.2]at hp;cases hp) (.inl rfl) g.frame.fn g.frame.place child.frame.fn;rw[hu]at p;have hlo:∀x,¬X.Lo 0 x:=fun x hx=>hx.2 (v8 x);have Cg0:((gs.setIfInBounds 0 g1).push child).size=gs.size+1:=by simp
 have wk0:∀i y,i≠0->i≠gs.size->((gs.setIfInBounds 0 g1).push child)[i]? =some y->gs[i]? =some y:=fun i y hi hic hy=>by
  rw[Array.getElem?_push,if_neg (by simpa using hic),Array.getElem?_setIfInBounds_ne (Ne.symm hi)]at hy;exact hy
 obtain⟨y,hy,hlk⟩:=hs.obj bx ox0 (show(P2 u (w.at d).tape (w.at d).drawn).heap[bx]? =some ox0 from hb);have hyo:(w.at d).heap[bx]? =some ox0:=by
  rw[hlw bx hw,K9]at hlk;cases hlk;exact hy
 refine B.path (n0:=(T++U).size) _ np g1 (.up false) none [] [(bx,ox0)] (T++U) _ (w.at d) Y4 (upd q gs.size nc) rfl ⟨WF.refl,⟨p.clean,fun i a _ ha hm hs'=>⟨?_,?_⟩,fun i a x hi ha _ _=>?_,fun i a x ha hsh hx=>?_,fun r0 e=>(by cases e)⟩,Nat.le_refl _,by rw[hD,C.dfn,c9],fun x hx=>?_,⟨fun p hp=>?_,fun p hp h=>?_,fun b h=>?_⟩,
  fun y hy=>?_,fun i y hi hic hy=>?_,?_,⟨by rw[Cg0];omega,by rw[Cg0,C.num]⟩,fun j hj=>?_,fun e=>absurd rfl e⟩ rfl ?_ Tm0
 ·obtain⟨x,hx,C5⟩:=touch_of ha;rcases getElem?_append_cases hx with⟨C2,V3⟩|⟨_,N8⟩
  ·rcases C.past.known i a (by rw[touchAt_of V3];exact C5) hm hs' with h|⟨_,x,_,h,_⟩
   ·exact h.app U
   ·exact absurd h (hlo x)
  ·rw[hn x N8]at C5;cases C5
 ·rcases p.known i a ha hm hs' with h|⟨_,x,_,h,_⟩
  ·exact h
  ·exact absurd h (hlo x)
 ·obtain⟨z,hz',hza⟩:=touch_of ha;have:=lt_size_of_getElem? hz';omega
 ·refine(p.cy0 i a x ha hsh hx).imp (fun z g' K6=>z g' ?_) id;rcases K6 with e|⟨e,_⟩
  ·exact .inl (.inl e)
  ·exact .inr e
 ·rcases hx with hx|hx
  ·cases hx
  ·rcases List.mem_cons.1 hx with rfl|hx
   ·exact⟨.inl rfl,hyo⟩
   ·cases hx
 ·rintro⟨o,ho⟩;rcases List.mem_cons.1 ho with e|ho
  ·exact(S.st p (.inl hp)).2.2.1 (congrArg Prod.fst e)
  ·cases ho
 ·obtain⟨o,ho⟩:=h;cases ho
 ·obtain⟨o,ho⟩:=h;cases ho
 ·rw[Array.getElem?_push,if_pos (by simp)]at hy;obtain rfl:=Option.some.inj hy;rw[upd_same];exact .inl ⟨rfl,(hD _).trans tb0.1,Y5⟩
 ·rw[upd_ne q nc hic,hD];have:=C.idle i y hi (wk0 i y hi hic hy);unfold Idle at this;rw[v8 i]at this;simp only[kr0,Bool.false_eq_true,if_false]at this;exact this.2
 ·have:=(C.K2 G hG).2;rw[hz,iv0]at this;exact this
 ·rw[Cg0]at hj;rw[hD];exact(C.above j (by omega)).1
 ·rw[Array.getElem?_push,if_neg (by simp;omega),Array.getElem?_setIfInBounds_self_of_lt h0]
end
end Go.Yc
end
section
namespace Go.Vy
open Go Go.Conc Go.Yc Go.RowKit
open Go.Vc Go.Wg
section
attribute [local irreducible] KK
structure sr0 (n:Nat) (b:Frame) (cs:List Frame) (ds:List Deferred) (e:Env) (todo:List Item) (c:Frame):Prop where
 rep:∃a,dj0 n a e ds/\c={b.at a todo with mode:=.returning}
theorem sr0.mode {n:Nat} {b c:Frame} {cs:List Frame} {ds:List Deferred} {e:Env} {todo:List Item} (h:sr0 n b cs ds e todo c):c.mode= .returning:=by
 obtain⟨a,_,rfl⟩:=h.rep;rfl
theorem sr0.go {n:Nat} {b c:Frame} {cs:List Frame} {ds:List Deferred} {e:Env} {todo:List Item} (h:sr0 n b cs ds e todo c) {Y:Nat->Nat->Goroutine->Prop} {ft d:Nat} (hA:AtR Y ft n b cs ds d e todo):Y ft d (G c cs):=by
 obtain⟨a,ha,rfl⟩:=h.rep;exact hA a ha
section
variable {P:Program}{main:Bool}{ok:Event->Prop}{Y:Nat->Nat->Goroutine->Prop}{ft n:Nat}{b:Frame}{cs:List Frame}{ds:List Deferred}{d:Nat}{e:Env}{k todo:List Item}{ops:Array Oper}{i:Nat}{l:List Oper}{dst:Option Nat}{ty:TypeId}{ps:String}{af:Array Edge}{f:FuncId}{fn:Func}{c:Code}
theorem G0.Tn0 (hY:HF P main ok Y) (hk:b.kind≠.early) {o:Oper} {args:Array Value} (m:Nat) (hg:o.guard=none) (hd:j4 n o.dst=true) (hf:P.funcs[f]? =some fn) (hb:fn.body=some c) (hr:∀w,(execOp (ev e) o).run P w= .ok (.enter f args) w) (hv:∀w,(execOp (ev e) o).events P w #[]=#[])
  (hm:args.size+(fn.ntmps-args.size)=m) (h:∀Z5,Ez0 n b cs ds e ops i o.dst l k Z5->At Y ft m (base f) Z5 [] d (Wg.G7 args) [.code c]):G0 Y (ft+1) n b cs ds d e ops i (o::l) k:=by
 intro hl a ha;obtain⟨ho,w5⟩:=o3 hl;refine hY.c rfl rfl (fun w=>?_) (h _ ⟨⟨a,ha,rfl⟩,by rw[ho];rfl,hd,w5⟩ {tmps:=args++Array.replicate (fn.ntmps-args.size) undef,defers:=[]} (A7 args _ hm));show stepG P main (G (b.at a (.inRegion ops (i::List.range' (i+1) l.length)::k)) cs) w=_;rw[stepG_enter ho (by obtain⟨d,op,ty,ps,af,g⟩:=o;cases hg;rfl) hk (by rw[ha.eval];exact hr w),enter_at _ hf hb];have h1:listed P b.fn a o w=#[]:=by unfold listed;rw[ha.eval,hv w];exact seen_none P _
 rw[h1]
theorem G0.Zs0 (hY:HF P main ok Y) (hk:b.kind≠.early) {x:Operand} {caps:Array Value} (m:Nat) (hd:j4 n dst=true) (hx:ev e x= .func (.func f) #[] caps) (hf:P.funcs[f]? =some fn) (H2:(fn.name== "runtime.NumGoroutine")=false) (hb:fn.body=some c)
  (hm:caps.size+(fn.ntmps-caps.size)=m) (h:∀Z5,Ez0 n b cs ds e ops i dst l k Z5->At Y ft m (base f) Z5 [] d (Wg.G7 caps) [.code c]):G0 Y (ft+1) n b cs ds d e ops i (⟨dst,.call {callee:=.value x,args:=#[],argTypes:=#[]},ty,ps,af,none⟩::l) k:=by
 have h1:¬fn.name= "runtime.NumGoroutine":=by simpa using H2
 refine G0.Tn0 hY hk (args:=caps) m rfl hd hf hb (fun w=>?_) (fun w=>?_) hm h
 ·simp[execOp,resolve,Deferred.ofValue,invoke,callFunc,hx,hf,h1,hb]
 ·simp[execOp,resolve,Deferred.ofValue,invoke,callFunc,hx,hf,h1,hb]
theorem G0.ig0 (hY:HF P main ok Y) {cf:Frame} (hd:j4 n dst=true) (hk:b.kind= .deferred) (hr:b.roundOf=none) (hc:cf.mode= .returning) (h:G0 Y ft n b (cf::cs) ds d (T2 e dst .nilIface) ops (i+1) l k):G0 Y (ft+1) n b (cf::cs) ds d e ops i (⟨dst,.call {callee:=.builtin .recover,args:=#[],argTypes:=#[]},ty,ps,af,none⟩::l) k:=by
 intro hl a ha;obtain⟨ho,w5⟩:=o3 hl;exact hY.c rfl rfl (fun w=>cr0 ho hk hr hc) (h w5 _ (ha.put hd _))
theorem AtR.Jb0 (hY:HF P main ok Y) {args caps:Array Value} (m:Nat) (hf:P.funcs[f]? =some fn) (H2:(fn.name== "runtime.NumGoroutine")=false) (hb:fn.body=some c) (hm:(args++caps).size+(fn.ntmps-(args++caps).size)=m)
  (h:∀cf,sr0 n b cs ds e todo cf->At Y ft m (baseD f) (cf::cs) [] d (Wg.G7 (args++caps)) [.code c]):AtR Y (ft+1) n b cs ({target:=.fn (.func f) caps,args} :: ds) d e todo:=by
 intro a ha;refine hY.c rfl rfl (fun w=>dm0 (a:=a) (by simp) ha.defers hf H2 hb) ?_;exact h _ ⟨⟨a.tmps,ds⟩,⟨ha.size,rfl,ha.get⟩,rfl⟩ _ (A7 (args++caps) _ hm)
end
section
variable {P:Program}{gr:M4}{A:Addr}{Fp:PM->Prop}{pm:PM}{L:N3}{K:Goroutine->Prop}{ft n:Nat}{b:Frame}{cs:List Frame}{ds:List Deferred}{d:Nat}{e:Env}{k:List Item}{ops:Array Oper}{i:Nat}{l:List Oper}{dst:Option Nat}{ty:TypeId}{ps:String}{af:Array Edge}{f:FuncId}{fn:Func}{asx:Array Operand}{ats:Array TypeId}
theorem G0.et1 (hk:b.kind≠.early) (hd:j4 n dst=true) (hf:P.funcs[f]? =some fn) (H2:(fn.name== "runtime.NumGoroutine")=false) (hb:fn.body.isNone=true) (hn:Extern.findNext fn=none) (he:Extern.find fn=some (Extern.Race.marked .releaseMerge)) (hx:(asx.toList.map (ev e))[0]? =some (.pointer (some A))) (hF:Fp pm)
  (h:G0 (YLt P gr) ft n b cs ds 0 (T2 e dst (.tuple #[])) ops (i+1) l k):G0 (YM P false gr L (zf0 P gr A Fp) pm) (ft+1) n b cs ds 0 e ops i (⟨dst,.call {callee:=.value (.func f),args:=asx,argTypes:=ats},ty,ps,af,none⟩::l) k:=by
 intro hl a ha _;obtain⟨ho,w5⟩:=o3 hl;refine .inl ⟨rfl,hF,_,fun w=>stepG_markAt (P:=P) .releaseMerge (by simp) ho (by rw[ha.yielded];rfl) hk rfl hf H2 hb hn he (by rw[ha.eval,X6 rfl];simpa using hx),h w5 _ (ha.put hd _)⟩
abbrev YWA (P:Program) (gr:M4) (A:Addr) (K:Goroutine->Prop):Nat->Nat->Goroutine->Prop:=fun m d g=>WA P gr A K m d g
theorem m4:HF P true (okM gr) (YWA P gr A K):=⟨fun _m _d _g g' es h1 _ h3 h4 h5=>⟨h1,.inl ⟨g',es,fun e he=>ts0 (h3 e he),fun w _=>h4 w,h5⟩⟩⟩
theorem Zt0:StG P true gr (YWA P gr A K):=fun m d g g' h1 _ h3 h4=>⟨h1,.inl ⟨g',#[],fun e he=>by simp at he,fun w hw=>h3 w _ _ hw,h4⟩⟩
theorem G0.To0 {x:Operand} (hk:b.kind≠.early) (hd:j4 n dst=true) (hf:P.funcs[f]? =some fn) (H2:(fn.name== "runtime.NumGoroutine")=false) (hb:fn.body.isNone=true) (hn:Extern.findNext fn=none) (he:Extern.find fn=some (Extern.Atomic.loadT (.int .u64))) (hx:ev e x= .pointer (some ⟨gr.blk,gr.off,none⟩))
  (h:G0 (YWA P gr A K) ft n b cs ds d (T2 e dst (.int .u64 0)) ops (i+1) l k) :
  G0 (YWA P gr A K) (ft+1) n b cs ds d e ops i (⟨dst,.call {callee:=.value (.func f),args:=#[x],argTypes:=ats},ty,ps,af,none⟩::l) k:=by
 intro hl a ha;obtain⟨ho,w5⟩:=o3 hl;refine⟨rfl,.inl ⟨G (b.at (a.put dst (.int .u64 0)) (.inRegion ops (List.range' (i+1) l.length)::k)) cs,#[Y8 (stA gr)],hh0,fun w hw=>?_,?_⟩⟩
 ·exact stepG_load_atomic ho (by rw[ha.yielded];rfl) hk rfl hf H2 hb hn .u64 he (ad:=stA gr) (by rw[ha.eval];exact hx) hw.cells.1
 ·rw[deafBehind_still B8];exact h w5 _ (ha.put hd _)
theorem G0.Zu0 (hk:b.kind≠.early) (hd:j4 n dst=true) (hf:P.funcs[f]? =some fn) (H2:(fn.name== "runtime.NumGoroutine")=false) (hb:fn.body.isNone=true) (hn:Extern.findNext fn=none) (he:Extern.find fn=some (Extern.Race.marked .acquire)) (hx:(asx.toList.map (ev e))[0]? =some (.pointer (some A)))
  (h:G0 (YWE P gr K) ft n b cs ds 0 (T2 e dst (.tuple #[])) ops (i+1) l k):G0 (YWA P gr A K) (ft+1) n b cs ds 0 e ops i (⟨dst,.call {callee:=.value (.func f),args:=asx,argTypes:=ats},ty,ps,af,none⟩::l) k:=by
 intro hl a ha;obtain⟨ho,w5⟩:=o3 hl;exact⟨rfl,.inr ⟨rfl,_,fun w=>stepG_markAt (P:=P) .acquire (by simp) ho (by rw[ha.yielded];rfl) hk rfl hf H2 hb hn he (by rw[ha.eval,X6 rfl];simpa using hx),h w5 _ (ha.put hd _)⟩⟩
end
end
end Go.Vy
end
section
namespace Go.Proofs.YtnifpkopeheodaaGreat
open Go Go.Conc Go.Yc Go.Vy Go.Wg
open Go.Vc (Env upd T2 ev j4 R2)
section
attribute [local irreducible] KK
set_option maxRecDepth 20000 in
theorem Tp0 (gr:M4) {L:N3} {Fp:PM->Prop} {pm:PM} (hF:Fp pm) {c:Frame} {cs:List Frame} (hcm:c.mode= .returning) {N:Nat} (hT:QuitsD Tryz.prog N 0 (Conc.G c cs)):At (YM Tryz.prog false gr L (zf0 Tryz.prog gr (stA gr) Fp) pm) (N+500) 4 (baseD 68) (c::cs) [] 0 (Wg.G7 #[.pointer (some ⟨gr.blk,gr.off,none⟩)]) [.code (Tryz.f68.body.getD .skip)]:=by
 refine At.region A2 ?_;refine G0.val A2 (bkd _) rfl (v:=.pointer (some ⟨gr.blk,gr.off,none⟩)) (I0 rfl) ?_;refine G0.call A2 (bkd _) [.pointer (some ⟨gr.blk,gr.off,none⟩),.int .i64 (-1)] 117 rfl Tryz.func66 Kx0 rfl rfl rfl (fun cs1 E5=>?_);refine At.seq A2 ?_;refine At.P4 A2 rfl ?_;refine At.seq A2 ?_;refine U16 ?_;refine G0.val A2 (W0 _) rfl (v:=.int .i64 (-1)) (I0 rfl) ?_;refine U413 ?_;refine At.P4 A2 rfl ?_;refine At.region A2 ?_;refine G0.val A2 (W0 _) rfl (v:=.pointer (some ⟨gr.blk,gr.off,none⟩)) (I0 rfl) ?_;refine G0.toUnsafe eo1 (W0 _) rfl rfl (.inl rfl) Tryz.underlying165 Tryz.underlying128 Ai0 ?_;refine G0.et1 (W0 _) rfl Tryz.func87 Wm0 rfl rfl Xa0 rfl hF ?_;refine U425 ?_;simp only[dl0];refine G0.nil (m3 _ gr) ?_;refine U494 ?_;refine U155 ?_;refine U435 ?_;refine U261 ?_;refine U397 ?_;refine U525 ?_;refine U82 ?_;refine U349 ?_;refine G0.val (m3 _ gr) (W0 _) rfl (v:=.int .i64 (-1)) (I0 rfl) ?_;refine U301 ?_;refine U394 ?_;intro cs2 hb2;refine U480 ?_;refine U198 ?_;refine U308 ?_;refine G0.Nu0 (W0 _) rfl Tryz.func109 Fr0 rfl rfl Fs0 rfl rfl (fun v wt hwt hv n3=>?_) ?_
 ·by_cases hv0:0<v
  ·have hwc:wt=0\/wt=1:=by omega
   rcases hwc with rfl|rfl
   ·refine G0.val (j0 _) (W0 _) rfl (v:=.int .u64 (((v*4294967296+0:Nat):Int))) (P0 rfl) ?_;refine G0.nil (j0 _) ?_;refine At.ret (j0 _) (fun _=>?_);refine U323 ?_;refine U23 ?_;refine U316 ?_;refine U72 ?_;refine U131 ?_;refine U364 ?_;refine G0.nil (j0 _) ?_;refine U131 ?_;refine U383 ?_;refine U23 ?_;refine U124 ?_;refine U186 ?_;refine U189 ?_;refine U243 ?_;refine U187 ?_;refine At.ret (j0 _) (fun _=>?_);refine AtR.mark (j0 _) .enable (by simp) rfl Tryz.func89 jx0 rfl rfl jy0 ?_;simp only[r6];refine U30 ?_;refine At.done (j0 _) (fun _=>?_);exact U29
   ·refine G0.val (j0 _) (W0 _) rfl (v:=.int .u64 (((v*4294967296+1:Nat):Int))) (P0 rfl) ?_;refine G0.nil (j0 _) ?_;refine At.ret (j0 _) (fun _=>?_);refine U324 ?_;refine U23 ?_;refine U317 ?_;refine U72 ?_;refine U132 ?_;refine U363 ?_;refine G0.nil (j0 _) ?_;refine U132 ?_;refine U311 ?_;refine U458 ?_;refine U124 ?_;refine U186 ?_;refine U28 ?_;refine U354 ?_;refine U124 ?_;refine U252 ?_;refine U187 ?_;refine At.ret (j0 _) (fun _=>?_);refine AtR.mark (j0 _) .enable (by simp) rfl Tryz.func89 jx0 rfl rfl jy0 ?_;simp only[r6];refine U30 ?_;refine At.done (j0 _) (fun _=>?_);exact U29
  ·obtain rfl:v=0:=by omega
   obtain rfl:wt=0:=by omega
   refine U204 ?_;refine At.ret (j0 _) (fun _=>?_);refine U402 ?_;refine U28 ?_;refine U318 ?_;refine U72 ?_;refine U133 ?_;refine U300 ?_;refine U395 ?_;refine U133 ?_;refine U384 ?_;refine U23 ?_;refine U124 ?_;refine U194 ?_;refine U192 ?_;refine U408 ?_;refine U189 ?_;refine U192 ?_;refine U355 ?_;refine U345 ?_;refine U417 ?_;refine At.P4 (j0 _) rfl ?_;refine At.ret (j0 _) (fun _=>?_);refine AtR.mark (j0 _) .enable (by simp) rfl Tryz.func89 jx0 rfl rfl jy0 ?_;simp only[r6];refine U30 ?_;refine At.done (j0 _) (fun _=>?_);exact U29
 ·refine G0.val (O0 _ gr 2) (W0 _) rfl (v:=.int .u64 (((0*4294967296+1:Nat):Int))) (P0 rfl) ?_;refine G0.nil (O0 _ gr 2) ?_;refine At.ret (O0 _ gr 2) (fun _=>?_);refine U320 ?_;refine U521 ?_;refine U60 ?_;refine U319 ?_;refine U61 ?_;refine U38 ?_;refine U60 ?_;refine U298 ?_;refine U392 ?_;refine U60 ?_;refine U309 ?_;refine U410 ?_;refine U45 ?_;refine U362 ?_;refine U119 ?_;refine U61 ?_;refine U81 ?_;refine U38 ?_;refine U135 ?_;refine U377 ?_;refine U200 ?_;refine U45 ?_;refine U350 ?_;refine U362 ?_;refine U119 ?_;refine U61 ?_;refine U81 ?_;refine U38 ?_;refine U135 ?_;refine U348 ?_;refine U344 ?_;refine U38 ?_;refine U45 ?_;refine U116 ?_;refine U310 ?_;intro cs3 hb3;refine U57 ?_;refine U411 ?_;refine U57 ?_;refine U116 ?_;refine U314 ?_;refine U412 ?_;refine At.ret (O0 _ gr 1) (fun _=>?_);refine U462 ?_;refine U511 ?_;refine U522 ?_;refine U158 ?_;refine U307 ?_;intro cs4 hb4;refine U158 ?_;refine U312 ?_;refine U421 ?_;refine At.done (O0 _ gr 0) (fun _=>?_);refine U448 ?_;refine U161 ?_;refine U418 ?_;refine U512 ?_;refine U518 ?_;refine U161 ?_;refine U351 ?_;refine U513 ?_;refine At.skip (O0 _ gr 0) ?_;refine U520 ?_;refine U373 ?_;refine U304 ?_;refine U442 ?_;refine At.inBlock (j0 _) ?_;refine U427 ?_;refine U356 ?_;refine U526 ?_;refine U205 ?_;refine U414 ?_;refine At.exit (j0 _) rfl ?_;refine At.done (j0 _) (fun _=>?_);refine AtR.mark (j0 _) .enable (by simp) rfl Tryz.func89 jx0 rfl rfl jy0 ?_;simp only[r6];refine U30 ?_;refine At.done (j0 _) (fun _=>?_);exact U29
set_option maxRecDepth 20000 in
theorem zh0 (gr:M4) (K:Goroutine->Prop) {c:Frame} {cs:List Frame} (hK:K (Conc.G (c.finish (.tuple #[])) cs)):∀(V:Nat),V<2147483648->∀(e:Env),At (XWH Tryz.prog gr (WA Tryz.prog gr (stA gr) K) none V) (500*V+500) 84 (base 70) (c::cs) [] 1 (upd e 0 (.pointer (some ⟨gr.blk,gr.off,none⟩))) [.code Aj0,.inLoop Aj0,.inBlock 0]:=by
 intro V
 induction V using Nat.strongRecOn with
 |_ V ih=>
 intro hV e;refine At.block W1 ?_;refine U6 ?_;refine U122 ?_;refine U481 ?_;intro cs1 E5;refine U460 ?_;refine U6 ?_;refine U121 ?_;refine G0.Fj0 (W0 _) rfl Tryz.func110 vw0 rfl rfl vx0 rfl ?_ (fun v hv hv0=>?_)
 ·refine G0.val m4 (W0 _) rfl (v:=.int .u64 0) (P0 rfl) ?_;refine G0.nil m4 ?_;refine At.ret m4 (fun _=>?_);refine AtR.leave1 m4 E5 rfl Tryz.func96 rfl (.int .u64 0) rfl ?_;refine U231 ?_;refine U498 ?_;refine G0.val m4 (W0 _) rfl (v:=.int .u64 0) (cm0 (r:=0) rfl rfl (by decide) (by decide)) ?_;refine G0.val m4 (W0 _) rfl (v:=.int .i32 0) (Z2 (r:=0) rfl Tryz.underlying136 Tryz.underlying21 (by decide)) ?_;refine G0.val m4 (W0 _) rfl (v:=.int .i32 0) (P0 rfl) ?_;refine G0.nil m4 ?_;refine U498 ?_;refine G0.val m4 (W0 _) rfl (v:=.int .u64 0) (I6 (r:=0) rfl rfl (by decide)) ?_;refine G0.val m4 (W0 _) rfl (v:=.int .u32 0) (Z2 (r:=0) rfl Tryz.underlying136 Tryz.underlying139 (by decide)) ?_;refine G0.val m4 (W0 _) rfl (v:=.int .u32 0) (P0 rfl) ?_;refine U256 ?_;refine U145 ?_;refine G0.val m4 (W0 _) rfl (v:=.int .i32 0) (I0 rfl) ?_;refine G0.val m4 (W0 _) rfl (v:=.bool true) (w9 (r:=true) rfl rfl (by decide)) ?_;refine G0.nil m4 ?_;refine At.P4 m4 rfl ?_;refine At.seq m4 ?_;refine At.P4 m4 rfl ?_;refine U423 ?_;simp only[r6];refine G0.nil m4 ?_;refine U209 ?_;refine U357 ?_;refine U65 ?_;refine U22 ?_;refine U365 ?_;refine U378 ?_;refine U342 ?_;refine U375 ?_;refine G0.off B2 rfl rfl ?_;refine U438 ?_;refine U169 ?_;refine At.ret B2 (fun _=>?_);exact U153
 ·refine G0.val W1 (W0 _) rfl (v:=.int .u64 (((v*4294967296+0:Nat):Int))) (P0 rfl) ?_;refine G0.nil W1 ?_;refine At.ret W1 (fun _=>?_);refine U333 ?_;refine G0.nil W1 ?_;refine U134 ?_;refine U302 ?_;refine U428 ?_;refine U134 ?_;refine U315 ?_;refine U451 ?_;refine At.seq W1 ?_;refine U6 ?_;refine U343 ?_;refine U254 ?_;refine U6 ?_;refine U122 ?_;refine U340 ?_;refine U299 ?_;intro cs2 hb2;refine U6 ?_;refine U452 ?_;refine U6 ?_;refine U121 ?_;refine U341 ?_;refine G0.Nv0 (vs:=v) (W0 _) rfl Tryz.func112 Ob0 rfl rfl Oj0 rfl rfl rfl ?_ (fun v2 hv2=>?_)
  ·refine G0.val r4 (W0 _) rfl (v:=.bool true) (P0 rfl) ?_;refine G0.nil r4 ?_;refine At.ret r4 (fun _=>?_);refine U485 ?_;refine U493 ?_;refine U482 ?_;refine U238 ?_;refine U191 ?_;refine U326 ?_;rw[m8 _ rfl];refine G0.nil r4 ?_;refine U225 ?_;refine U449 ?_;refine U255 ?_;refine U327 ?_;refine U360 ?_;refine U434 ?_;refine U536 ?_;refine At.skip r4 ?_;refine At.seq r4 ?_;refine U191 ?_;refine U379 ?_;refine U256 ?_;refine U409 ?_;refine G0.val m4 (W0 _) rfl (v:=.pointer (some ⟨gr.blk,gr.off,none⟩)) (l3 (s:=1) gr.off gr.off rfl Tryz.underlying141 rfl lr0 (by decide) rfl) ?_;refine G0.call m4 (W0 _) [.pointer (some ⟨gr.blk,gr.off,none⟩)] 7 rfl Tryz.func96 Ky0 rfl rfl rfl (fun cs3 hb3=>?_);refine U145 ?_;refine U231 ?_;refine At.seq m4 ?_;refine U409 ?_;refine G0.val m4 (W0 _) rfl (v:=.pointer (some ⟨gr.blk,gr.off,none⟩)) (l3 (s:=1) gr.off gr.off rfl Tryz.underlying138 rfl lq0 (by decide) rfl) ?_;refine G0.To0 (W0 _) rfl Tryz.func110 vw0 rfl rfl vx0 rfl ?_;refine U231 ?_;refine At.ret m4 (fun _=>?_);refine AtR.leave1 m4 hb3 rfl Tryz.func96 rfl (.int .u64 0) rfl ?_;refine G0.val m4 (W0 _) rfl (v:=.bool false) (k7 (r:=false) rfl rfl (by decide)) ?_;refine G0.val m4 (W0 _) rfl (v:=.bool false) (P0 rfl) ?_;refine U256 ?_;refine At.P4 m4 rfl ?_;refine U423 ?_;simp only[r6];refine G0.nil m4 ?_;refine U209 ?_;refine U357 ?_;refine U65 ?_;refine U489 ?_;refine U169 ?_;refine At.ret B2 (fun _=>?_);exact U153
  ·refine G0.val W1 (W0 _) rfl (v:=.bool false) (P0 rfl) ?_;refine G0.nil W1 ?_;refine At.ret W1 (fun _=>?_);refine U483 ?_;refine U537 ?_;exact At.Ff0 (E:=WA Tryz.prog gr (stA gr) K) (fun _ _ _ _=>WA.mono _ _ _ _) (At.ki0 (fun e=>ih v2 (by omega) (by omega) e) rfl) (by omega)
set_option maxRecDepth 20000 in
theorem Tq0 (gr:M4) (K:Goroutine->Prop) {c:Frame} {cs:List Frame} (hK:K (Conc.G (c.finish (.tuple #[])) cs)) (V:Nat) (hV:V<2147483648):At (XWH Tryz.prog gr (WA Tryz.prog gr (stA gr) K) none V) (500*V+510) 84 (base 70) (c::cs) [] 0 (Wg.G7 #[.pointer (some ⟨gr.blk,gr.off,none⟩)]) [.code (Tryz.f70.body.getD .skip)]:=by
 refine At.seq W1 ?_;refine At.P4 W1 rfl ?_;refine U398 ?_;simp only[dl0];refine G0.nil W1 ?_;refine At.block W1 ?_;refine At.loop W1 ?_;exact At.Ff0 (E:=WA Tryz.prog gr (stA gr) K) (fun _ _ _ _=>WA.mono _ _ _ _) (At.ki0 (fun e=>zh0 gr K hK V hV e) rfl) (by omega)
end
end Go.Proofs.YtnifpkopeheodaaGreat
end
section
namespace Go.Vy
open Go Go.Conc Go.Yc Go.RowKit
open Go.Vc Go.Wg
section
attribute [local irreducible] KK
theorem dx0 {pm:PM} {b:Nat} {o o':Obj} (h:(b,o)∈pm):(b,o')∈jq0 pm b o':=List.mem_map.2 ⟨(b,o),h,by simp⟩
section
variable {P:Program}{ρ:Operand->Value}{d:Option Nat}{ty:TypeId}{ps:String}{af:Array Edge}{g:Option (Nat×Bool)}{x y:Operand}{T T':TypeId}
theorem mp0:Op.maxDepth=9999+1:=rfl
theorem Tr0 {p:Addr} {u:TypeId} (hx:ρ x= .pointer (some p)) (hy:ρ y= .pointer none) (hT:P.underlying T=some (.pointer u)):Pu P (execOp ρ ⟨d,.binOp .eql T x y T',ty,ps,af,g⟩) (.bool false):=by
 refine⟨fun w=>Go.Vc.k5 hx hy hT,fun w=>?_⟩;have h2:(Op.equalIn Op.maxDepth T (.pointer (some p)) (.pointer none)).events P w #[]=#[]:=by rw[mp0,Op.equalIn];simp[run_underlying hT,go_sem]
 simp[execOp,hx,hy,go_sem,eqGuard,binOp,Op.equal,h2]
theorem Ts0 {p:Addr} {u:TypeId} (hx:ρ x= .pointer (some p)) (hy:ρ y= .pointer none) (hT:P.underlying T=some (.pointer u)):Pu P (execOp ρ ⟨d,.binOp .neq T x y T',ty,ps,af,g⟩) (.bool true):=by
 refine⟨fun w=>Go.Vc.x7 hx hy hT,fun w=>?_⟩;have h2:(Op.equalIn Op.maxDepth T (.pointer (some p)) (.pointer none)).events P w #[]=#[]:=by rw[mp0,Op.equalIn];simp[run_underlying hT,go_sem]
 simp[execOp,hx,hy,go_sem,eqGuard,binOp,Op.equal,h2]
theorem zi0 {u:TypeDesc} (hx:ρ x= .nilFunc) (hy:ρ y= .nilFunc) (hT:P.underlying T=some u) (hu:∃a b c,u= .func a b c):Pu P (execOp ρ ⟨d,.binOp .eql T x y T',ty,ps,af,g⟩) (.bool true):=by
 refine⟨fun w=>Go.Vc.y7 hx (.inl ⟨rfl,rfl⟩) hy hT hu,fun w=>?_⟩;obtain⟨a,b,c,rfl⟩:=hu;have h2:(Op.equalIn Op.maxDepth T .nilFunc .nilFunc).events P w #[]=#[]:=by rw[mp0,Op.equalIn];simp[run_underlying hT,go_sem]
 simp[execOp,hx,hy,go_sem,eqGuard,binOp,Op.equal,h2]
theorem Jc0 {b o n c s:Nat} {E:TypeId} {i:Nat} (r:Nat) (hx:ρ x= .slice (some ⟨b,o,none⟩) n c) (hy:ρ y= .int .i64 (i:Int)) (hT:P.underlying T=some (.slice E)) (hs:(P.info? E).map (·.size)=some s) (h:i<n) (hr:o+i*s=r):Pu P (execOp ρ ⟨d,.indexAddr T x y,ty,ps,af,g⟩) (.pointer (some ⟨b,r,none⟩)):=by
 subst hr;refine⟨fun w=>Go.Vc.r9 hx hy hT hs h,fun w=>?_⟩;have h1:=Go.Vc.r9 (d:=d) (ty:=ty) (ps:=ps) (af:=af) (g:=g) (w:=w) hx hy hT hs h;obtain⟨inf,hi,hs'⟩:=Option.map_eq_some_iff.1 hs;simp[execOp,hx,hy,Instr.indexAt,go_sem,run_underlying hT,sizeOf,typeInfo,hi];intro hh;omega
end
section
variable {P:Program}{main:Bool}{b c:Frame}{a:Act}{k todo:List Item}{cs:List Frame}{w:World}{ops:Array Oper}{i:Nat}{rest:List Nat}{f:FuncId}{fn:Func}{args caps:Array Value}
theorem Cx0 {x:Operand} {dst:Option Nat} {ty:TypeId} {ps:String} {af:Array Edge} (hk:b.kind≠.early) (ho:ops[i]? =some ⟨dst,.go {callee:=.value x,args:=#[],argTypes:=#[]},ty,ps,af,none⟩) (hx:a.eval x= .func (.func f) #[] caps) (w:World) :
  stepG P main (G (b.at a (.inRegion ops (i::rest)::k)) cs) w= .spawn (G (b.at (a.put dst undef) (.inRegion ops rest::k)) cs) (born P {target:=.fn (.func f) caps,args:=#[]}) w #[]:=by
 have hr:(execOp a.eval ⟨dst,.go {callee:=.value x,args:=#[],argTypes:=#[]},ty,ps,af,none⟩).run P w= .ok (.spawn {target:=.fn (.func f) caps,args:=#[]}) w:=by
  unfold execOp;simp[resolve,Deferred.ofValue,hx]
 have he:(execOp a.eval ⟨dst,.go {callee:=.value x,args:=#[],argTypes:=#[]},ty,ps,af,none⟩).events P w #[]=#[]:=by
  unfold execOp;simp[resolve,Deferred.ofValue,hx]
 rw[stepG_spawn ho rfl hk hr rfl,listed,he,seen_none]
theorem zj0 {body:Code} (hf:P.funcs[f]? =some fn) (H2:(fn.name== "runtime.NumGoroutine")=false) (hb:fn.body=some body) :
  stepG P main (born P {target:=.fn (.func f) caps,args}) w= .go (G ((baseD f).at {tmps:=(args++caps)++Array.replicate (fn.ntmps-(args++caps).size) undef,defers:=[]} [.code body]) [c6 P]) w #[]:=by
 have h1:¬fn.name= "runtime.NumGoroutine":=by simpa using H2
 rw[<- enter_atD (args++caps) hf hb];simp[born,G,stepG,unwind,callDeferred,invoke,callFunc,hf,h1,hb,GStep.after,seen_none,c6];exact⟨rfl,rfl,rfl,rfl⟩
theorem Jd0 {ok:Event->Prop} {Y:Nat->Nat->Goroutine->Prop} {ft d:Nat} {c:Code} (hY:HF P main ok Y) (m:Nat) (hf:P.funcs[f]? =some fn) (H2:(fn.name== "runtime.NumGoroutine")=false) (hb:fn.body=some c) (hm:(args++caps).size+(fn.ntmps-(args++caps).size)=m) (h:At Y ft m (baseD f) [c6 P] [] d (Wg.G7 (args++caps)) [.code c]):Y (ft+1) d (born P {target:=.fn (.func f) caps,args}) :=
 hY.c rfl rfl (fun _w=>zj0 hf H2 hb) (h _ (A7 (args++caps) _ hm))
theorem zk0 {n:Nat} {e:Env} (hc:sr0 n b [c6 P] [] e todo c) (hn:b.kind= .deferred) (hf:P.funcs[b.fn]? =some fn) (hr:fn.results=#[]):QuitsD P 2 0 (G c [c6 P]):=by
 obtain⟨a,ha,rfl⟩:=hc.rep;refine .inr ⟨rfl,_,#[],fun e he=>by simp at he,fun w=>ra0 (fn:=fn) hn ha.defers hf (results_none hr _ _ w) (events_results_none hr _ _),?_⟩;exact .inr ⟨rfl,_,#[],fun e he=>by simp at he,fun w=>rc0,rfl,rfl⟩
end
section
theorem MP.end {P:Program} {main:Bool} {gr:M4} {L:N3} {E:Nat->PM->Goroutine->Prop} {n:Nat} {pm:PM} {g:Goroutine} (h:E n pm g):MP P main gr L E (n+1) pm g:=by unfold MP;exact .inl h
variable {P:Program}{Post:Value->World->Prop}{X:Gh}{n:Nat}{b:Frame}{cs:List Frame}{e:Env}{k:List Item}{ops:Array Oper}{i:Nat}{rest:List Nat}{ty:TypeId}{ps:String}{af:Array Edge}{x:Operand}{w:World}
theorem ZA.beside {f:FuncId} {caps:Array Value} {gr:M4} {A:Addr} {bx np:Nat} {ox0 ox:Obj} {L0 Lc:N3} {K:Goroutine->Prop} (hb:b.kind≠.early) (ho:ops[i]? =some ⟨none,.go {callee:=.value x,args:=#[],argTypes:=#[]},ty,ps,af,none⟩) (hx:ev e x= .func (.func f) #[] caps)
  (c9:X.dn=0) (iv0:X.pend=1) (ex0:X.cap=1) (hG:X.K2=some gr) (v8:∀i,X.C1 i=none) (hl:J9 X bx) (hw:¬X.low bx) (K9:X.N4 bx= .all) (hB:w.heap[bx]? =some ox0) (E2:∀p,p∈L0\/p∈Lc->w.cell? p.1=some p.2/\p.1.block≠bx/\¬GB X p.1.block)
  (Tm0:At (YM P true gr L0 (Mx0 P gr A K) []) np n b cs [] 0 e (.inRegion ops rest::k)) (Y5:∃nc,MP P false gr Lc (zf0 P gr A (fun pm=>(bx,ox)∈pm)) nc [(bx,ox0)] (born P {target:=.fn (.func f) caps,args:=#[]})) (hox:∃cs T f,ox= .cells cs T f) (hK:∀k g,K g->Fin P Post (X.gv0 w bx k) 0 g (dw0 w bx ox k)) :
  ZA (Fin P Post X 0) n b cs e (.inRegion ops (i::rest)::k) w:=by
 intro a ha;obtain⟨nc,Y5⟩:=Y5;exact Fin.beside (g1:=G (b.at (a.put none undef) (.inRegion ops rest::k)) cs) rfl c9 iv0 ex0 hG v8 (fun w=>Cx0 hb ho (by rw[ha.eval];exact hx) w) hl hw K9 hB E2 (Tm0 a (gj0 ha) rfl) Y5 hox hK
end
end
end Go.Vy
end
section
namespace Go.Proofs.YtnifpkopeheodaaGreat
open Go Go.Conc Go.Yc Go.Vy Go.Wg
open Go.Vc (Env upd T2 ev j4 R2)
section
attribute [local irreducible] KK
abbrev js0 (bw:Nat) (v:Int):Obj:=.cells #[.int .i64 1,.int .i64 1,.pointer (some ⟨bw,0,none⟩),.int .i64 v] 145 (0,0)
abbrev stC (bb b6 bx bw:Nat):N3:=[(⟨bb,0,none⟩,.func (.func 45) #[] #[.pointer (some ⟨b6,0,none⟩)]),(⟨b6,0,none⟩,.pointer (some ⟨bx,0,none⟩)),(⟨bw,0,none⟩,.bool true)]
abbrev fpC (bx bw:Nat) (pm:PM):Prop:=(bx,js0 bw 5)∈pm
set_option maxRecDepth 20000 in
theorem My0 (gr:M4) (bb b6 bx bw:Nat):∃n,MP Tryz.prog false gr (stC bb b6 bx bw) (zf0 Tryz.prog gr (stA gr) (fpC bx bw)) n [(bx,js0 bw 0)] (born Tryz.prog {target:=.fn (.func 67) #[.pointer (some ⟨gr.blk,gr.off,none⟩),.pointer (some ⟨bb,0,none⟩)],args:=#[]}):=by
 refine⟨580,(?_:YM Tryz.prog false gr (stC bb b6 bx bw) (zf0 Tryz.prog gr (stA gr) (fpC bx bw)) [(bx,js0 bw 0)] 580 0 _) rfl⟩;refine Jd0 A2 4 Tryz.func67 co1 rfl rfl ?_;refine U16 ?_;refine G0.defer A2 (bkd _) [.pointer (some ⟨gr.blk,gr.off,none⟩)] rfl ?_;refine G0.nil A2 ?_;refine U16 ?_;refine G0.defer A2 (bkd _) [] rfl ?_;refine G0.nil A2 ?_;refine At.region A2 ?_;refine G0.jr0 (bkd _) rfl (v:=.func (.func 45) #[] #[.pointer (some ⟨b6,0,none⟩)]) rfl Tryz.underlying1 rfl (.inl (.head _)) ?_;refine G0.Zs0 A2 (bkd _) (caps:=#[.pointer (some ⟨b6,0,none⟩)]) 3 rfl rfl Tryz.func45 ci1 rfl rfl (fun cs1 E5=>?_);refine At.region A2 ?_;refine G0.jr0 (W0 _) rfl (v:=.pointer (some ⟨bx,0,none⟩)) rfl Tryz.underlying86 rfl (.inl (.tail _ (.head _))) ?_;refine G0.call A2 (W0 _) [.pointer (some ⟨bx,0,none⟩),.pointer none,.int .i64 5] 26 rfl Tryz.func42 cg1 rfl rfl rfl (fun cs2 hb2=>?_);refine U16 ?_;refine G0.Zp0 (v:=.pointer (some ⟨bx,0,none⟩)) (cs0:=[.pointer (some ⟨bx,0,none⟩)]) (W0 _) rfl rfl rfl (fun q1=>?_);refine G0.Zp0 (v:=.int .i64 5) (cs0:=[.int .i64 5]) (W0 _) rfl rfl rfl (fun q2=>?_);refine G0.nil A2 ?_;refine At.block A2 ?_;refine U370 ?_;refine G0.val A2 (W0 _) rfl (v:=.bool false) (Tr0 rfl rfl Tryz.underlying86) ?_;refine U471 ?_;refine At.Q5 A2 rfl ?_;refine U370 ?_;refine G0.val A2 (W0 _) rfl (v:=.pointer (some ⟨bx,0,none⟩)) (A3 rfl) ?_;refine G0.val A2 (W0 _) rfl (v:=.pointer (some ⟨bx,2,none⟩)) (l3 (s:=1) 0 2 rfl Tryz.underlying145 rfl Fm0 (by decide) rfl) ?_;refine G0.jr0 (W0 _) rfl (v:=.pointer (some ⟨bw,0,none⟩)) rfl Tryz.underlying56 rfl (.inr ⟨_,_,(.tail _ (.tail _ (.head _))),rfl,rfl⟩) ?_;refine G0.call A2 (W0 _) [.pointer (some ⟨bw,0,none⟩)] 11 rfl Tryz.func44 ya0 rfl rfl rfl (fun cs3 hb3=>?_);refine U16 ?_;refine U471 ?_;refine U16 ?_;refine G0.val A2 (W0 _) rfl (v:=.pointer (some ⟨bw,0,none⟩)) (I0 rfl) ?_;refine G0.val A2 (W0 _) rfl (v:=.bool true) (Ts0 rfl rfl Tryz.underlying56) ?_;refine G0.val A2 (W0 _) rfl (v:=.bool true) (I0 rfl) ?_;refine G0.H8 A2 (W0 _) rfl rfl (v:=.pointer (some ⟨bw,0,none⟩)) (I0 rfl) ?_;refine G0.H8 A2 (W0 _) rfl rfl (v:=.pointer (some ⟨bw,0,none⟩)) (A3 rfl) ?_;refine G0.H8 A2 (W0 _) rfl rfl (v:=.pointer (some ⟨bw,0,none⟩)) (l3 (s:=1) 0 0 rfl Tryz.underlying105 rfl sz4 (by decide) rfl) ?_;refine G0.Tk0 (W0 _) rfl rfl (v:=.bool true) rfl Tryz.underlying4 rfl (.inl (.tail _ (.tail _ (.head _)))) ?_;refine G0.val A2 (W0 _) rfl (v:=.bool true) (S7 rfl rfl) ?_;refine U472 ?_;refine At.ret A2 (fun _=>?_);refine AtR.leave1 A2 hb3 rfl Tryz.func44 rfl (.bool true) rfl ?_;refine U472 ?_;refine At.P4 A2 rfl ?_;refine At.region A2 ?_;refine G0.jr0 (W0 _) rfl (v:=.pointer (some ⟨bx,0,none⟩)) rfl Tryz.underlying86 rfl (.inr ⟨_,_,(.tail _ (.head _)),rfl,rfl⟩) ?_;refine G0.jr0 (W0 _) rfl (v:=.int .i64 5) rfl Tryz.underlying3 rfl (.inr ⟨_,_,(.head _),rfl,rfl⟩) ?_;refine G0.val A2 (W0 _) rfl (v:=.pointer (some ⟨bx,0,none⟩)) (A3 rfl) ?_;refine G0.val A2 (W0 _) rfl (v:=.pointer (some ⟨bx,3,none⟩)) (l3 (s:=1) 0 3 rfl Tryz.underlying145 rfl sz3 (by decide) rfl) ?_;refine G0.Is0 (v:=.int .i64 5) (W0 _) rfl rfl sz3 rfl (.tail _ (.tail _ (.head _))) rfl ?_;refine G0.nil A2 ?_;refine At.inBlock A2 ?_;refine At.done A2 (fun _=>?_);refine AtR.leave0 A2 hb2 rfl Tryz.func42 rfl ?_;refine G0.nil A2 ?_;refine At.done A2 (fun _=>?_);refine AtR.leave0 A2 E5 rfl Tryz.func45 rfl ?_;refine G0.nil A2 ?_;refine At.done A2 (fun _=>?_);refine AtR.Jb0 A2 1 Tryz.func69 cp1 rfl rfl (fun cf1 p8=>?_);refine At.region A2 ?_;refine G0.ig0 A2 rfl rfl rfl p8.mode ?_;refine G0.nil A2 ?_;refine At.done A2 (fun _=>?_);refine AtR.leaveD A2 rfl Tryz.func69 rfl p8.mode ?_;refine p8.go ?_;refine AtR.Jb0 A2 4 Tryz.func68 Wi0 rfl rfl (fun cf2 hc2=>?_);exact Tp0 gr (dx0 (.tail _ (.tail _ (.head _)))) hc2.mode (zk0 hc2 rfl Tryz.func67 rfl)
end
end Go.Proofs.YtnifpkopeheodaaGreat
end
section
namespace Go.Vy.Sc
open Go Go.Conc Go.Yc Go.RowKit Go.Proofs Go.Proofs.YtnifpkopeheodaaGreat Tryz
open Go.Vc Go.Wg
section
attribute [local irreducible] KK
structure wy0 (w:World) (bs b6 bx bw:Nat):Prop where
 sl:Q0 w bs #[.func (.func 45) #[] #[.pointer (some ⟨b6,0,none⟩)],.nilFunc] 1
 p6:Q0 w b6 #[.pointer (some ⟨bx,0,none⟩)] 86
 cx:w.heap[bx]? =some (js0 bw 0)
 cw:Q0 w bw #[.bool true] 105
theorem wy0.A0 {w w':World} {bs b6 bx bw:Nat} (h:wy0 w bs b6 bx bw) (hk:∀b,b<w.heap.size->w'.heap[b]? =w.heap[b]?):wy0 w' bs b6 bx bw :=
 ⟨(hk bs h.sl.lt).trans h.sl,(hk b6 h.p6.lt).trans h.p6,(hk bx (Array.getElem?_eq_some_iff.1 h.cx).1).trans h.cx,(hk bw h.cw.lt).trans h.cw⟩
structure Tt0 (w w':World) (bx bw:Nat):Prop where
 size:w.heap.size <=w'.heap.size
 os:w'.os=w.os
 output:w'.output=w.output
 tape:w'.tape=w.tape
 block:∀b,b<w.heap.size->b≠bx->w'.heap[b]? =w.heap[b]?
 cx:w'.heap[bx]? =some (js0 bw 5)
structure Zv0 (X X':Gh) (n1:Nat) (w':World):Prop where
 C1:∀i,X'.C1 i=none
 cap:X'.cap=0
 pend:X'.pend=0
 dn:X'.dn=0
 under:X'.Z8 w'.heap.size
 N4:X'.N4=X.N4
 ii0:0<X'.n
 low:∀b,X'.low b->X.low b\/n1 <=b
def Tu0 (cs:List Frame) (g:Goroutine):Prop:=∃a,a.tmps.size=17/\a.defers=[]/\g=G (((base 33).at a (.inRegion (match Tryz.f33.body with|some (.seq _ (.seq _ (.region _ o _)))=>o|_=>#[]) [0] :: [])).finish (.tuple #[])) cs
set_option maxRecDepth 20000 in
theorem zl0 {X:Gh} {Post:Value->World->Prop} {cs:List Frame} {w:World} {bs b6 bx bw n1:Nat} (hin:wy0 w bs b6 bx bw) (h0:∀i,X.C1 i=none) (ex0:X.cap=0) (hp:X.pend=0) (c9:X.dn=0) (hU:X.Z8 n1) (K9:∀b,n1 <=b->X.N4 b= .all) (hnb:n1 <=bs/\n1 <=b6/\n1 <=bx/\n1 <=bw)
  (hk:∀X' w' fr,Zv0 X X' n1 w'->Tt0 w w' bx bw->fr.fn=33->Leaves prog fr w' (.returned (.tuple #[]))->Fin prog Post X' 0 (G fr cs) w'):Fin prog Post X 0 (G (Frame.enter prog 33 #[.slice (some ⟨bs,0,none⟩) 2 2] .normal) cs) w:=by
 letI:Ctx prog:=L1 prog true;have hZ:Ctx.Zs prog (Fin prog Post X 0):=A4;have hb:=W0 33;rw[enter_at _ func33 rfl];refine(?_:ZA (Fin prog Post X 0) 17 (base 33) cs (Vc.G7 #[.slice (some ⟨bs,0,none⟩) 2 2]) [.code (Tryz.f33.body.getD .skip)] w) _ (e6 _ _ rfl);have hUw:∀b,n1 <=b->J9 X b:=fun b hb=>hU.at0 hb;have hlw:∀b,n1 <=b->¬X.low b:=fun b hb hl=>by have:=hU.low b hl;omega
 refine U2 ?_;refine L.alloc (cs:=#[.int .u64 0,.int .u32 0]) Vt0 rfl (fun w1 bG F1=>?_);refine U1 ?_;have Zw0:=hin.A0 (fun b hb=>F1.below.block b hb);refine ZA.seq hZ ?_;refine U48 ?_;refine L.va (M7 rfl underlying60 rfl) ?_;refine U168 ?_;refine U162 ?_;refine U74 ?_;refine ZA.P4 hZ rfl ?_;refine U136 ?_;refine ZA.block hZ ?_;refine U2 ?_;refine L.va (r9 (i:=0) rfl rfl underlying60 sz1 (by decide)) ?_;refine L.va (F0 (v:=.func (.func 45) #[] #[.pointer (some ⟨b6,0,none⟩)]) rfl underlying1 rfl (Zw0.sl.cell rfl)) ?_;refine L.alloc (cs:=#[.nilFunc]) zr1 rfl (fun w2 bb F2=>?_);refine L.put #[.func (.func 45) #[] #[.pointer (some ⟨b6,0,none⟩)]] rfl rfl rfl sz1 rfl rfl F2.blk (by decide) rfl (fun w3 hB3 hg3 hs3=>?_);refine U1 ?_;have hbG:bG=w.heap.size:=F1.here;have hbb:bb=w1.heap.size:=F2.here;have hz1:=F1.size;have hz2:=F2.size;have hGb:Q0 w1 bG #[.int .u64 0,.int .u32 0] 141:=F1.blk;have zm0:∀b,b<w1.heap.size->w3.heap[b]? =w1.heap[b]?:=fun b hb=>by
  rw[hg3.block b (by omega) (fun e=>by cases e;omega)];exact F2.below.block b hb
 have Mz0:=Zw0.A0 zm0;have hG3:w3.heap[bG]? =some (.cells (#[] ++ #[.int .u64 0,.int .u32 0]) 141 (0,0)):=by
  rw[zm0 bG (by omega)];exact hGb
 refine ZA.seq hZ ?_;refine U2 ?_;refine L.va (F0 (v:=.func (.func 45) #[] #[.pointer (some ⟨b6,0,none⟩)]) rfl underlying1 rfl (hB3.cell rfl)) ?_;refine L.va (y7 (b:=false) rfl (.inr ⟨_,_,_,rfl,rfl⟩) rfl underlying1 ⟨_,_,_,rfl⟩) ?_;refine U106 ?_;have Tv0:n1 <=bG:=by have:=hin.sl.lt;omega
 intro a ha;refine Fin.Df0 (f':=(0,0)) (b:=bG) (c:=#[]) ex0 (hUw bG Tv0) (hlw bG Tv0) (K9 bG Tv0) hG3 (Nat.zero_le _) ?_;revert ha;revert a;generalize hw4:G2 w3 bG (.cells #[] 141 (0,0))=w4;have is0:∀b,b≠bG->w4.heap[b]? =w3.heap[b]?:=fun b hb=>by rw[<- hw4];exact D5 _ _ (Ne.symm hb)
 have hv1:w4.heap.size=w.heap.size+2:=by rw[<- hw4];show(w3.heap.setIfInBounds _ _).size=_;rw[Array.size_setIfInBounds];omega
 have C2:=fun(b:Nat) (cs:Array Value) (T:TypeId) (h:Q0 w b cs T)=>h.lt;have Je0:wy0 w4 bs b6 bx bw:=by
  have h1:=hin.sl.lt;have h2:=hin.p6.lt;have h3:=(Array.getElem?_eq_some_iff.1 hin.cx).1;have h4:=hin.cw.lt;exact⟨(is0 bs (by omega)).trans Mz0.sl,(is0 b6 (by omega)).trans Mz0.p6,(is0 bx (by omega)).trans Mz0.cx,(is0 bw (by omega)).trans Mz0.cw⟩
 have m9:Q0 w4 bb #[.func (.func 45) #[] #[.pointer (some ⟨b6,0,none⟩)]] 1:=(is0 bb (by omega)).trans hB3;generalize hX1:({X.lower bG with K2:=some ⟨bG,0⟩,old:=X.K2.toList++X.old}:Gh)=X1;have gx0:X1=({X.lower bG with K2:=some ⟨bG,0⟩,old:=X.K2.toList++X.old}:Gh):=hX1.symm;show ZA (Fin prog Post X1 0) 17 (base 33) cs _ _ w4;have hZ1:Ctx.Zs prog (Fin prog Post X1 0):=A4;refine ZA.region hZ1 ?_;refine ZA.call (i:=0) (rest:=[]) hZ1 hb (f:=66) (args:=#[.pointer (some ⟨bG,0,none⟩),.int .i64 1]) rfl rfl (C4 rfl rfl func66 rfl Kx0 rfl) (fun a ha=>?_);have hXe:X1={X1 with dn:=0}:=by rw[gx0];show _=_;cases X;simp only[Gh.lower]at c9⊢;subst c9;rfl
 rw[hXe];refine Fin.Dl0 (G:=⟨bG,0⟩) (X:=X1) (K:=fun g'=>g'=_) (by rw[gx0]) (by rw[gx0];exact hp) (by rw[gx0];show X.cap<65536;omega) (fun g' K6=>?_) _ _ _ (Om0 ⟨bG,0⟩ (fun g'=>g'=_) rfl);subst K6;refine ZA.home (i:=0) rfl rfl ha ?_;have fj1:X1.cap=0:=by rw[gx0];exact ex0
 generalize hX2:({X1 with pend:=1,cap:=X1.cap+1,dn:=0}:Gh)=X2;have kb0:X2=({X1 with pend:=1,cap:=X1.cap+1,dn:=0}:Gh):=hX2.symm;have hZ2:Ctx.Zs prog (Fin prog Post X2 0):=A4;refine ZA.Y2 hZ2 ?_;refine ZA.upto hZ2 hb 1 rfl rfl (R:=fun e' w'=>ZA _ _ _ _ e' _ w') ?_ (fun _ _ h=>h);show L _ _ _ _ _ _ _;refine L.va (Q3 rfl) ?_;refine U1 ?_;have yh0:X2.stay=X.stay:=by rw[kb0,gx0];rfl
 have Pc0:X2.X3=X.X3:=by rw[kb0,gx0];rfl
 have Pd0:X2.J7=X.J7:=by rw[kb0,gx0];rfl
 have Jf0:X2.low=fun k=>X.low k\/k=bG:=by rw[kb0,gx0];rfl
 have Pe0:X2.K2=some ⟨bG,0⟩:=by rw[kb0,gx0]
 have Zx0:X2.old=X.K2.toList++X.old:=by rw[kb0,gx0]
 have Jg0:X2.N4=X.N4:=by rw[kb0,gx0];rfl
 have Jh0:∀i,X2.C1 i=none:=fun i=>by rw[kb0,gx0];exact h0 i
 have hn2:X2.n=X.n:=by rw[kb0,gx0];rfl
 have Tw0:∀G,(X2.K2=some G\/G∈X2.old)->G.blk=bG\/G.blk<n1:=fun G hG=>by
  rw[Pe0,Zx0]at hG;rcases hG with hG|hG
  ·cases hG;exact .inl rfl
  ·rcases List.mem_append.1 hG with hG|hG
   ·exact .inr (hU.K2 G (.inl (by simpa using hG)))
   ·exact .inr (hU.K2 G (.inr hG))
 have eu1:∀b,n1 <=b->b≠bG->¬GB X2 b:=fun b hb n3 ⟨G,hG,e⟩=>by
  rcases Tw0 G hG with h|h
  ·exact n3 (e.trans h)
  ·omega
 have hl1:=hin.sl.lt;have hl2:=hin.p6.lt;have hl3:=(Array.getElem?_eq_some_iff.1 hin.cx).1;have hl4:=hin.cw.lt;have hnx:∀(b:Nat) (cs:Array Value) (T:TypeId),Q0 w4 b cs T->cs.size≠4->b≠bx:=fun b cs T h hs e=>by
  subst e;unfold Q0 at h;rw[Je0.cx]at h;have:=(Obj.cells.inj (Option.some.inj h)).1;exact hs (by rw[<- this];rfl)
 refine ZA.beside (i:=1) (rest:=[]) (f:=67) (caps:=#[.pointer (some ⟨bG,0,none⟩),.pointer (some ⟨bb,0,none⟩)]) (gr:=⟨bG,0⟩) (A:=⟨bG,0,none⟩) (bx:=bx) (np:=1056) (ox0:=js0 bw 0) (ox:=js0 bw 5) (L0:=[(⟨bs,1,none⟩,.nilFunc)]) (Lc:=stC bb b6 bx bw) (K:=Tu0 cs) hb rfl rfl
  (by rw[kb0]) (by rw[kb0]) (by rw[kb0];show X1.cap+1=1;omega) Pe0 Jh0 ⟨fun i p hp=>?_,?_,?_,fun G hG e=>?_⟩ ?_ ?_ Je0.cx (fun p hp=>?_) ?_ (My0 ⟨bG,0⟩ bb b6 bx bw) ⟨_,_,_,rfl⟩ (fun k g hg=>?_)
 ·rw[yh0]at hp;exact(hUw bx hnb.2.2.1).stay i p hp
 ·rw[Pc0];exact(hUw bx hnb.2.2.1).X3
 ·rw[Pd0];exact(hUw bx hnb.2.2.1).J7
 ·rcases Tw0 G hG with h|h <;> omega
 ·rw[Jf0];rintro(h|h)
  ·exact hlw bx hnb.2.2.1 h
  ·omega
 ·rw[Jg0];exact K9 bx hnb.2.2.1
 ·have key:∀b cs T i v,Q0 w4 b cs T->cs[i]? =some v->cs.size≠4->n1 <=b->b≠bG->w4.cell? ⟨b,i,none⟩=some v/\b≠bx/\¬GB X2 b:=fun b cs T i v h hv hs hn n3=>⟨h.cell hv,hnx b cs T h hs,eu1 b hn n3⟩
  rcases hp with hp|hp
  ·simp only[List.mem_cons,List.not_mem_nil,or_false]at hp;subst hp;exact key bs _ _ 1 _ Je0.sl rfl (by simp) hnb.1 (by omega)
  ·simp only[stC,List.mem_cons,List.not_mem_nil,or_false]at hp;rcases hp with rfl|rfl|rfl
   ·exact key bb _ _ 0 _ m9 rfl (by simp) (by omega) (by omega)
   ·exact key b6 _ _ 0 _ Je0.p6 rfl (by simp) hnb.2.1 (by omega)
   ·exact key bw _ _ 0 _ Je0.cw rfl (by simp) hnb.2.2.2 (by omega)
 ·refine(?_:At (YM prog true ⟨bG,0⟩ [(⟨bs,1,none⟩,.nilFunc)] (Mx0 prog ⟨bG,0⟩ ⟨bG,0,none⟩ (Tu0 cs)) []) 1056 17 (base 33) cs [] 0 _ _);refine At.Y2 A2 ?_;refine At.inBlock A2 ?_;refine At.region A2 ?_;refine G0.val A2 (W0 _) rfl (v:=.int .i64 1) (xy0 (r:=1) rfl rfl (by decide)) ?_;refine G0.val A2 (W0 _) rfl (v:=.int .i64 1) (I0 rfl) ?_;refine G0.nil A2 ?_;refine At.inLoop A2 ?_;refine U16 ?_;refine U413 ?_;refine At.seq A2 ?_;refine At.P4 A2 rfl ?_;refine At.skip A2 ?_;refine At.seq A2 ?_;refine At.block A2 ?_;refine U16 ?_;refine G0.val A2 (W0 _) rfl (v:=.pointer (some ⟨bs,1,none⟩)) (Jc0 (i:=1) 1 rfl rfl underlying60 sz1 (by decide) rfl) ?_;refine G0.jr0 (W0 _) rfl (v:=.nilFunc) rfl underlying1 rfl (.inl (.head _)) ?_;refine G0.Tl0 (v:=.nilFunc) (cs0:=[.nilFunc]) (W0 _) rfl zr1 rfl (fun q1=>?_);refine G0.Is0 (v:=.nilFunc) (W0 _) rfl rfl sz1 rfl (.head _) rfl ?_;refine G0.nil A2 ?_;refine At.seq A2 ?_;refine U16 ?_;refine G0.jr0 (W0 _) rfl (v:=.nilFunc) rfl underlying1 rfl (.inr ⟨_,_,(dx0 (.head _)),rfl,rfl⟩) ?_;refine G0.val A2 (W0 _) rfl (v:=.bool true) (zi0 rfl rfl underlying1 ⟨_,_,_,rfl⟩) ?_;refine G0.nil A2 ?_;refine At.P4 A2 rfl ?_;refine At.exit A2 rfl ?_;refine At.region A2 ?_;refine G0.val A2 (W0 _) rfl (v:=.int .i64 2) (xy0 (r:=2) rfl rfl (by decide)) ?_;refine G0.val A2 (W0 _) rfl (v:=.int .i64 2) (I0 rfl) ?_;refine G0.nil A2 ?_;refine At.inLoop A2 ?_;refine U16 ?_;refine G0.val A2 (W0 _) rfl (v:=.bool false) (ao0 (r:=false) rfl rfl (by decide)) ?_;refine G0.nil A2 ?_;refine At.seq A2 ?_;refine At.Q5 A2 rfl ?_;refine At.exit A2 rfl ?_;refine At.region A2 ?_;refine G0.call A2 (W0 _) [.pointer (some ⟨bG,0,none⟩)] 84 rfl func70 Wj0 rfl rfl rfl (fun cs1 E5=>?_);obtain⟨a1,ha1,rfl⟩:=E5.rep;intro a2 ha2 _;exact MP.end (n:=1010) (Tq0 ⟨bG,0⟩ (Tu0 cs) ⟨a1,ha1.size,ha1.defers,rfl⟩ 1 (by decide) a2 ha2)
 ·obtain⟨a,ha1,ha2,rfl⟩:=hg;have hr:Rep 17 a (fun t=>a.tmps.getD t undef):=⟨ha1,ha2,fun _=>rfl⟩
  refine ZA.home (i:=0) (rest:=[]) rfl rfl hr ?_;have hZ3:Ctx.Zs prog (Fin prog Post (X2.gv0 w4 bx k) 0):=A4;refine ZA.Y2 hZ3 ?_;refine ZA.done hZ3 ?_;refine ZA.leaves (fn:=Tryz.f33) (f:=33) rfl func33 rfl (fun fr hfn hlv=>?_);have hx1:(dw0 w4 bx (js0 bw 5) k).heap.size=w4.heap.size+k:=iq0;refine hk _ _ fr ⟨Jh0,rfl,rfl,rfl,⟨fun i p hp=>?_,fun b o hb=>?_,fun b hb=>?_,fun G hG=>?_,fun b hb=>?_⟩,Jg0,Nat.succ_pos _,fun b hb=>?_⟩ ⟨by omega,?_,?_,?_,fun b hb n3=>?_,uo0 (by omega)⟩ hfn hlv
  ·have hp':p∈X.stay i:=by rw[<- yh0];exact hp
   have:=hU.stay i p hp';omega
  ·have L7:X.X3 b=some o:=by rw[<- Pc0];exact hb
   have:=hU.X3 b o L7;omega
  ·have L7:X.J7 b:=by rw[<- Pd0];exact hb
   have:=hU.J7 b L7;omega
  ·rcases Tw0 G hG with h|h <;> omega
  ·have L7:X2.low b\/b=bx\/(w4.heap.size <=b/\b<w4.heap.size+k):=hb;rw[Jf0]at L7;rcases L7 with(h|h)|h|h
   ·have:=hU.low b h;omega
   ·omega
   ·omega
   ·omega
  ·have L7:X2.low b\/b=bx\/(w4.heap.size <=b/\b<w4.heap.size+k):=hb;rw[Jf0]at L7;rcases L7 with(h|h)|h|h
   ·exact .inl h
   ·right;omega
   ·right;have:=hnb.2.2.1;omega
   ·right;omega
  ·show w4.os=w.os;rw[<- hw4];exact hg3.os.trans (F2.below.os.trans F1.below.os)
  ·show w4.output=w.output;rw[<- hw4];exact hg3.output.trans (F2.below.output.trans F1.below.output)
  ·show w4.tape=w.tape;rw[<- hw4];exact hg3.tape.trans (F2.below.tape.trans F1.below.tape)
  ·rw[gw0 (by omega) n3,is0 b (by omega),zm0 b (by omega)];exact F1.below.block b hb
end
def km0:List D3:=[⟨1,0,1,0⟩,⟨5,0,9,1⟩,⟨1,0,2,0⟩]
def Ji0:Nat->Int:=fun j=>if j=1 then 1 else 0
theorem Jj0 {p:o4} (hm:p.m=2) (hb:p.bo=fun i=>if i<2 then km0 else []):((E3 p).pn Ji0 6).evs=[(0,⟨1,1,0⟩),(0,⟨9,5,0⟩),(0,⟨2,1,0⟩),(1,⟨1,1,0⟩),(1,⟨9,5,0⟩),(1,⟨2,1,0⟩)]:=by
 obtain⟨m,bo,tb,wb,sb,mb,lgb,RO,wI,B,lb,pl⟩:=p;simp only at hm hb;subst hm hb;kernel_rfl
theorem Cy0 {w:World} {b10 b14:Nat} (h10:Q0 w b10 #[.int .i64 1,.int .i64 0,.int .i64 1,.int .i64 0,.int .i64 5,.int .i64 0,.int .i64 9,.int .i64 1,.int .i64 1,.int .i64 0,.int .i64 2,.int .i64 0] 52) (h14:Q0 w b14 #[.slice (some ⟨b10,0,none⟩) 3 3,.slice (some ⟨b10,0,none⟩) 3 3] 50) :
  V7 w (some ⟨b14,0,none⟩) 2 (fun i=>if i<2 then km0 else []) (fun _=>some ⟨b10,0,none⟩) (fun _=>3):=by
 refine⟨fun _=>rfl,fun i hi=>?_,fun i hi=>?_,fun i hi=>?_⟩
 ·match i,hi with
  |0,_=>exact h14.E0 0 rfl
  |1,_=>exact h14.E0 1 rfl
 ·simp only[if_pos hi];refine⟨fun _=>rfl,fun k o ho j v hv=>?_⟩;have hjl:j<4:=(List.getElem?_eq_some_iff.1 hv).1;have hkl:k<3:=(List.getElem?_eq_some_iff.1 ho).1;obtain rfl|rfl|rfl:k=0\/k=1\/k=2:=by omega
  all_goals cases ho
  all_goals obtain rfl|rfl|rfl|rfl:j=0\/j=1\/j=2\/j=3:=by omega
  all_goals cases hv
  ·exact h10.E0 0 rfl
  ·exact h10.E0 1 rfl
  ·exact h10.E0 2 rfl
  ·exact h10.E0 3 rfl
  ·exact h10.E0 4 rfl
  ·exact h10.E0 5 rfl
  ·exact h10.E0 6 rfl
  ·exact h10.E0 7 rfl
  ·exact h10.E0 8 rfl
  ·exact h10.E0 9 rfl
  ·exact h10.E0 10 rfl
  ·exact h10.E0 11 rfl
 ·simp only[if_pos hi];decide
theorem Na0 {w:World} {b:Nat} (h:Q0 w b #[.int .i64 0,.int .i64 1,.int .i64 0,.int .i64 0,.int .i64 0,.int .i64 0] 3):uh0 w (some ⟨b,0,none⟩) 6 6 Ji0:=by
 refine⟨fun _=>rfl,(fun h=>by cases h),by decide,fun j hj=>?_⟩
 match j,hj with
 |0,_=>exact h.E0 0 rfl
 |1,_=>exact h.E0 1 rfl
 |2,_=>exact h.E0 2 rfl
 |3,_=>exact h.E0 3 rfl
 |4,_=>exact h.E0 4 rfl
 |5,_=>exact h.E0 5 rfl
theorem Jk0:Mr0 2 (fun i=>if i<2 then km0 else []) 6:=by
 refine⟨by decide,by decide,fun i hi o ho=>?_,by decide⟩;simp only[if_pos hi,km0,List.mem_cons,List.not_mem_nil,or_false]at ho;rcases ho with rfl|rfl|rfl
 ·exact .inl ⟨rfl,.inl rfl⟩
 ·exact .inr (.inr (.inr (.inr ⟨rfl,.inr rfl⟩)))
 ·exact .inl ⟨rfl,.inr rfl⟩
theorem ZA.Nb0 {P:Program} [Ctx P] {Z:Goroutine->World->Prop} {b:Frame} {cs:List Frame} {n t:Nat} {e:Env} {w:World} {fn:Func} {f:FuncId} {v:Value} (hb:b=base f) (hf:P.funcs[f]? =some fn) (hr:fn.results=#[.tmp t]) (hv:e t=v) (h:∀fr,fr.fn=f->Leaves P fr w (.returned v)->Z (G fr cs) w):ZR Z n b cs e w:=by
 intro todo a ha;subst hb;refine h _ rfl ⟨rfl,ha.defers,rfl,fn,hf,O6 (fun w=>by rw[results_tmp hr];exact congrArg (fun x=>Result.ok x w) ((ha.get t).trans hv)) (fun w=>events_results_tmp hr _ _)⟩
section
variable [Ctx prog]
end
section
theorem Nc0 (x0:Int) (x1:Int):prog.built 107 [(0,.int .i64 x0),(1,.int .i64 x1)]=some #[.int .i64 x0,.int .i64 x1]:=by kernel_rfl
theorem Nd0 (x0:Int) (x1:Int) (x2:Option Addr) (x3:Int):prog.built 145 [(0,.agg #[.int .i64 x0,.int .i64 x1]),(1,.pointer x2),(2,.int .i64 x3)]=some #[.int .i64 x0,.int .i64 x1,.pointer x2,.int .i64 x3]:=by kernel_rfl
theorem Bg0 (x0:Int) (x1:Int):prog.built 52 [(0,.int .i64 x0),(2,.int .i64 x1)]=some #[.int .i64 x0,.int .i64 0,.int .i64 x1,.int .i64 0]:=by kernel_rfl
theorem Ne0 (x0:Int) (x1:Int) (x2:Int):prog.built 52 [(0,.int .i64 x0),(2,.int .i64 x1),(3,.int .i64 x2)]=some #[.int .i64 x0,.int .i64 0,.int .i64 x1,.int .i64 x2]:=by kernel_rfl
end
section
variable [Ctx prog]
theorem mq0 (wb:Nat) (w0:World) (hW:Q0 w0 wb #[.bool true] 105):C prog 44 #[.pointer (some ⟨wb,0,none⟩)] w0 fun v w=>v= .bool true/\w=w0:=by
 refine C.enter (n:=11) func44 rfl rfl ?_;refine U3 ?_;refine U76 ?_;refine U503 ?_;refine U102 ?_;refine U491 ?_;refine L.on rfl ?_;refine L.va (F0 rfl underlying4 rfl (hW.E0 0 (v:=.bool true) rfl)) ?_;refine L.va (K5 rfl) ?_;refine U34 ?_;exact⟨rfl,rfl⟩
theorem zn0 (bw:Nat) (obj num x:Int) (w0:World):C prog 41 #[.pointer (some ⟨bw,0,none⟩),.int .i64 obj,.int .i64 num,.int .i64 x] w0 fun v w=>∃bx,v= .pointer (some ⟨bx,0,none⟩)/\w0.heap.size <=bx/\Q0 w bx #[.int .i64 obj,.int .i64 num,.pointer (some ⟨bw,0,none⟩),.int .i64 x] 145/\Below w0.heap.size w0 w:=by
 refine C.enter (n:=16) func41 rfl rfl ?_;refine U42 ?_;intro hb;refine U89 ?_;refine L.va (L3 (parts:=[(0,.tmp 9),(1,.tmp 10)]) rfl (Nc0 obj num)) ?_;refine U43 ?_;refine L.va (L3 (parts:=[(0,.tmp 11),(1,.tmp 12),(2,.tmp 13)]) rfl (Nd0 obj num ((some (⟨bw,0,none⟩))) x)) ?_;refine L.box (cs:=#[.int .i64 obj,.int .i64 num,.p bw,.int .i64 x]) rfl rfl (fun w b15 F15=>?_);have Mp0:=F15.lq hb.size;have hb:=N0 hb F15.below;have zc0:=F15.blk;refine U51 ?_;exact⟨b15,rfl,Mp0,zc0,hb⟩
theorem Nf0 (bx bw:Nat) (obj num x:Int) (c:Option Addr) (w0:World) (hX:Q0 w0 bx #[.int .i64 obj,.int .i64 num,.pointer (some ⟨bw,0,none⟩),.int .i64 x] 145) (hW:Q0 w0 bw #[.bool true] 105):C prog 43 #[.pointer (some ⟨bx,0,none⟩),.pointer c] w0 fun v w=>v= .int .i64 x/\Below w0.heap.size w0 w:=by
 refine C.enter (n:=26) func43 rfl rfl ?_;refine U4 ?_;intro hb;refine L.box (cs:=#[.pointer (some ⟨bx,0,none⟩)]) rfl rfl (fun w b2 F2=>?_);refine U19 ?_;intro lt2 hb;have hX:=hX.A0 F2.below;have hW:=hW.A0 F2.below;have H7:=F2.blk;refine U64 ?_;refine L.alloc (cs:=#[.int .i64 0]) zr3 rfl (fun w b5 F5=>?_);refine U236 ?_;intro lt5 hb;have hX:=hX.A0 F5.below;have hW:=hW.A0 F5.below;have H7:=H7.A0 F5.below;refine U54 ?_;refine L.va (F0 rfl underlying86 rfl (H7.E0 0 (v:=.pointer (some ⟨bx,0,none⟩)) rfl)) ?_;refine L.va (k5 rfl rfl underlying86) ?_;refine U183 ?_;refine U390 ?_;refine L.va (K0 rfl underlying145 rfl Fm0 (by decide)) ?_;refine L.va (F0 rfl underlying56 rfl (hX.E0 2 (v:=.pointer (some ⟨bw,0,none⟩)) rfl)) ?_;refine L.call (W2 rfl func44 rfl ya0 rfl) (mq0 bw _ hW) ?_;rintro _ w1 ⟨rfl,hw⟩;refine U37 ?_;refine U31 ?_;refine U3 ?_;refine U390 ?_;refine L.va (K0 rfl underlying145 rfl sz3 (by decide)) ?_;refine L.va (F0 rfl underlying3 rfl (hX.E0 3 (v:=.int .i64 x) rfl)) ?_;refine U24 ?_;exact⟨rfl,hb⟩
end
structure NLe (n:Nat) (w:World):Prop where
 le:n <=w.heap.size
theorem NLe.A0 {n:Nat} {w w':World} (h:NLe n w) (hb:Below w.heap.size w w'):NLe n w':=⟨Nat.le_trans h.le hb.size⟩
set_option maxHeartbeats 2000000 in
set_option maxRecDepth 20000 in
theorem Jl0 {lb:Nat} {pl:Nat->w6} (w0:World):@C prog (l7 lb pl) 10 #[] w0 fun v w=>v= .bool true/\Below w0.heap.size w0 w:=by
 rintro Z ⟨Post,rfl⟩ cs hk;letI:Ctx prog:=l7 lb pl;have hZ:Ctx.Zs prog (wj0 lb pl Post):=⟨_,rfl⟩
 have hb:=W0 10;rw[enter_at _ func10 rfl];refine(?_:ZA (wj0 lb pl Post) 62 (base 10) cs (Vc.G7 #[]) [.code (Tryz.f10.body.getD .skip)] w0) _ (e6 _ _ rfl);have g6:Below w0.heap.size w0 w0:=Below.refl _ _;obtain⟨n0,hn0⟩:∃n0,n0=w0.heap.size:=⟨_,rfl⟩
 refine U2 ?_;refine U25 ?_;refine U2 ?_;refine L.va (L3 (parts:=[(0,.const (.int .i64 1)),(2,.const (.int .i64 1))]) rfl (Bg0 1 1)) ?_;refine L.va (L3 (parts:=[(0,.const (.int .i64 5)),(2,.const (.int .i64 9)),(3,.const (.int .i64 1))]) rfl (Ne0 5 9 1)) ?_;refine L.va (L3 (parts:=[(0,.const (.int .i64 1)),(2,.const (.int .i64 2))]) rfl (Bg0 1 2)) ?_;refine L.ug0 (vs:=[(0,.agg #[.int .i64 1,.int .i64 0,.int .i64 1,.int .i64 0]),(1,.agg #[.int .i64 5,.int .i64 0,.int .i64 9,.int .i64 1]),(2,.agg #[.int .i64 1,.int .i64 0,.int .i64 2,.int .i64 0])]) (cs:=#[.int .i64 1,.int .i64 0,.int .i64 1,.int .i64 0,.int .i64 5,.int .i64 0,.int .i64 9,.int .i64 1,.int .i64 1,.int .i64 0,.int .i64 2,.int .i64 0]) rfl underlying50 dk0 bh1 (by decide) (by kernel_rfl) (fun w b10 F10=>?_);have ia1:=F10.lq g6.size;have g6:=N0 g6 F10.below;have zo0:=F10.blk;refine L.va (bk0 rfl) ?_;refine U1 ?_;refine U48 ?_;refine L.va (j9 rfl) ?_;refine L.ug0 (vs:=[(0,.slice (some ⟨b10,0,none⟩) 3 3),(1,.slice (some ⟨b10,0,none⟩) 3 3)]) (cs:=#[.slice (some ⟨b10,0,none⟩) 3 3,.slice (some ⟨b10,0,none⟩) 3 3]) rfl underlying22 Kw0 Vl0 (by decide) (by kernel_rfl) (fun w b14 F14=>?_);have ib1:=F14.lq g6.size;have g6:=N0 g6 F14.below;have zo0:=zo0.A0 F14.below;have Jm0:=F14.blk;refine L.ug0 (vs:=[(0,.int .i64 0),(1,.int .i64 1),(2,.int .i64 0),(3,.int .i64 0),(4,.int .i64 0),(5,.int .i64 0)]) (cs:=#[.int .i64 0,.int .i64 1,.int .i64 0,.int .i64 0,.int .i64 0,.int .i64 0]) rfl underlying23 sz3 zr3 (by decide) (by kernel_rfl) (fun w b15 F15=>?_);have Mp0:=F15.lq g6.size;have g6:=N0 g6 F15.below;have zo0:=zo0.A0 F15.below;have Jm0:=Jm0.A0 F15.below;have zc0:=F15.blk;have zo0:Q0 w b10 _ _:=zo0;have Jm0:Q0 w b14 _ _:=Jm0;have zc0:Q0 w b15 _ _:=zc0;refine L.call (C4 rfl rfl func11 rfl Vv0 rfl) (Ip0 w (Cy0 zo0 Jm0) (fun i hi=>if_neg (by omega)) (Na0 zc0) Jk0) ?_;rintro _ w1 ⟨p,R,r1,rfl,⟨pm,pbo,pB⟩,hP,hY,Y1⟩;have g6:=N0 g6 Y1;clear Y1
 rename World=>w
 have hev:=hY.run.evs.trans (Jj0 pm pbo);refine U264 ?_;refine L.va (C9 rfl rfl) ?_;have dt0:=hY;have wz0:=g6;refine L.alloc (cs:=#[.slice none 0 0,.slice none 0 0,.slice none 0 0,.slice none 0 0,.bool false,.int .i64 0]) Fl0 rfl (fun w b2 F2=>?_);have lt2:=F2.lq g6.size;have H7:=F2.blk;refine L.pa [.slice R.ea R.evs.length R.ec,.slice R.na R.I2.length R.nc,.slice (some ⟨R.eb,0,none⟩) R.m R.m,.slice (some ⟨R.wb,0,none⟩) R.m R.m,.bool R.stuck,.int .i64 (R.used:Int)] ic0 H7 (fun w I1 hg D2=>?_);have W7:=P3 F2.below F2.below.size hg (by have:=F2.here;omega);have hY:=dt0.A0 W7;have g6:=N0 wz0 W7;have H7:=I1;clear I1 hg D2 W7 F2 dt0 wz0;refine L.va (bk0 rfl) ?_;refine L.va (vf0 rfl) ?_;refine U17 ?_;refine U2 ?_;refine U156 ?_;refine U240 ?_;refine U223 ?_;refine L.on rfl ?_;refine L.va (xs0 (m:=6) (by rw[hev];rfl) rfl underlying26 rfl) ?_;refine L.on rfl ?_;refine L.va (L2 (r:=false) (by decide) (df0 (m:=6) (k:=6) rfl rfl)) ?_;refine L.va (L5 rfl) ?_;refine U240 ?_;refine U223 ?_;refine L.on rfl ?_;refine L.va (k9 (i:=1) rfl rfl underlying26 Kv0 hY.run.mem.evs.sl (by rw[hev];decide)) ?_;refine U495 ?_;refine L.on rfl ?_;refine L.va (F0 (v:=.int .i64 0) rfl underlying3 rfl (by rw[hY.run.mem.evs.off];exact hY.run.mem.evs.cell (j:=4) (by rw[hev];rfl))) ?_;refine L.on rfl ?_;refine L.va (L2 (r:=false) (by decide) (df0 (m:=0) (k:=0) rfl rfl)) ?_;refine L.va (L5 rfl) ?_;refine U240 ?_;refine U223 ?_;refine L.on rfl ?_;refine L.va (k9 (i:=3) rfl rfl underlying26 Kv0 hY.run.mem.evs.sl (by rw[hev];decide)) ?_;refine U495 ?_;refine L.on rfl ?_;refine L.va (F0 (v:=.int .i64 1) rfl underlying3 rfl (by rw[hY.run.mem.evs.off];exact hY.run.mem.evs.cell (j:=12) (by rw[hev];rfl))) ?_;refine L.on rfl ?_;refine L.va (L2 (r:=false) (by decide) (df0 (m:=1) (k:=1) rfl rfl)) ?_;refine L.va (L5 rfl) ?_;refine U232 ?_;refine ZA.skip hZ ?_;refine U2 ?_;refine L.va (fv0 rfl) ?_;refine U17 ?_;refine fun a ha X hL h1 h2 h3=>(?_:ZA (Fin prog Post X 0) 62 (base 10) cs _ _ _) a ha;letI:Ctx prog:=L1 prog true;have hZ:Ctx.Zs prog (Fin prog Post X 0):=A4;obtain⟨wN,hwN⟩:∃wN,wN=w:=⟨_,rfl⟩
 have hN:Below wN.heap.size wN w:=by rw[hwN];exact Below.refl _ _
 have h0N:w0.heap.size <=wN.heap.size:=by rw[hwN];exact g6.size
 rw[<- hwN]at hL h1;clear hwN hY hev;refine U80 ?_;refine L.call (aj0  func17 rfl Vw0 rfl) (Ik0 _) ?_;rintro _ w ⟨bw,rfl,ltw,hRW,Y1⟩;have ltw:=Nat.le_trans hN.size ltw;have g6:=N0 g6 Y1;have hN:=N0 hN Y1;refine L.call (w8 rfl rfl rfl rfl func41 rfl ce1 rfl) (zn0 bw 1 1 0 _) ?_;rintro _ w ⟨bx,rfl,ltx,hX,Y1⟩;have ltx:=Nat.le_trans hN.size ltx;have g6:=N0 g6 Y1;have hN:=N0 hN Y1;have hRW:=hRW.A0 Y1;have Pf0:=hRW;have Zy0:=hX;have wz0:=g6;have Zz0:=hN;refine L.alloc (cs:=#[.pointer none]) bn1 rfl (fun w b6 F6=>?_);have lt6:=F6.lq g6.size;have nt6:=Nat.le_trans hN.size (Nat.le_of_eq F6.here.symm);have c7:=F6.blk;refine L.pa [.p bx] bm1 c7 (fun w I1 hg D2=>?_);have W7:=P3 F6.below F6.below.size hg (by have:=F6.here;omega);have hRW:=Pf0.A0 W7;have hX:=Zy0.A0 W7;have g6:=N0 wz0 W7;have hN:=N0 Zz0 W7;have c7:=I1;clear I1 hg D2 W7 F6 Pf0 Zy0 wz0 Zz0;refine U17 ?_;refine ZA.upto hZ hb 2 rfl rfl (R:=fun e' w'=>ZA _ _ _ _ e' _ w') ?_ (fun _ _ h=>h);show L _ _ _ _ _ _ _;refine L.va (Q3 (l:=[.tmp 6]) (vs:=[.pointer (some ⟨b6,0,none⟩)]) rfl) ?_;refine L.ug0 (vs:=[(0,.func (.func 45) #[] #[.pointer (some ⟨b6,0,none⟩)]),(1,.nilFunc)]) (cs:=#[.func (.func 45) #[] #[.pointer (some ⟨b6,0,none⟩)],.nilFunc]) rfl underlying60 sz1 zr1 (by decide) (by kernel_rfl) (fun w b47 F47=>?_);have ic1:=F47.lq g6.size;have ev1:=Nat.le_trans hN.size (Nat.le_of_eq F47.here.symm);have g6:=N0 g6 F47.below;have hN:=N0 hN F47.below;have hRW:=hRW.A0 F47.below;have hX:=hX.A0 F47.below;have c7:=c7.A0 F47.below;have aa1:=F47.blk;refine U1 ?_;refine ZA.call (i:=2) (rest:=[]) hZ hb (f:=33) (args:=#[.slice (some ⟨b47,0,none⟩) 2 2]) rfl rfl (W2 rfl func33 rfl ca1 rfl) (fun a ha=>?_);refine zl0 (n1:=wN.heap.size) (bs:=b47) (b6:=b6) (bx:=bx) (bw:=bw) ⟨aa1,c7,hX,hRW⟩ hL.C1 hL.cap hL.pend hL.dn hL.under hL.N4 ⟨ev1,nt6,ltx,ltw⟩ (fun X' w fr hF hO hfn hlv=>?_);letI:Ctx prog:=L1 prog true;have hZ:Ctx.Zs prog (Fin prog Post X' 0):=A4;refine ZA.back (av0 prog Post X' 0) (i:=2) rfl rfl ha hlv ?_;refine ZA.Y2 hZ ?_;have D2:=hO.size;have ab1:Below w0.heap.size w0 w:=⟨hO.os.trans g6.os,hO.tape.trans g6.tape,hO.output.trans g6.output,Nat.le_trans g6.size D2,fun q hq=>(hO.block q (Nat.lt_of_lt_of_le hq g6.size) (by have:=Nat.le_trans h0N ltx;omega)).trans (g6.block q hq)⟩
 have hNn:wN.heap.size <=w.heap.size:=Nat.le_trans hN.size D2;have ac1:Q0 w b6 #[.pointer (some ⟨bx,0,none⟩)] 86:=(hO.block b6 c7.lt (Q0.ne c7 hX (by decide))).trans c7;have ad1:Q0 w bw #[.bool true] 105:=(hO.block bw hRW.lt (Q0.ne hRW hX (by decide))).trans hRW;have hXn:Q0 w bx #[.int .i64 1,.int .i64 1,.pointer (some ⟨bw,0,none⟩),.int .i64 5] 145:=hO.cx;clear g6 hN c7 hRW hX aa1 hO;have g6:=ab1;have c7:=ac1;have hRW:=ad1;have hX:=hXn;clear ab1 ac1 ad1 hXn;have ae1:X'.Z8 w.heap.size:=hF.under;obtain⟨n9,hn9⟩:∃n9,n9=w.heap.size:=⟨_,rfl⟩
 rw[<- hn9]at ae1 hNn;have hM:Below n9 w w:=by rw[hn9];exact Below.refl _ _
 have hM9:n9 <=w.heap.size:=Nat.le_of_eq hn9;clear hn9 D2;have hM9:NLe n9 w:=⟨hM9⟩
 clear hM;refine U2 ?_;refine L.va (F0 rfl underlying86 rfl (c7.E0 0 (v:=.pointer (some ⟨bx,0,none⟩)) rfl)) ?_;refine L.call (C4 rfl rfl func43 rfl ch1 rfl) (Nf0 bx bw 1 1 5 _ _ hX hRW) ?_;rintro _ w ⟨rfl,Y1⟩;have g6:=N0 g6 Y1;have hM9:=hM9.A0 Y1;refine U164 ?_;refine U165 ?_;refine L.va (L2 (r:=true) (by decide) (O4 (m:=5) (k:=5) rfl rfl)) ?_;refine U129 ?_;refine L.call (aj0  func17 rfl Vw0 rfl) (Ik0 _) ?_;rintro _ w ⟨br,rfl,_,hR2,Y1⟩;have g6:=N0 g6 Y1;have hM9:=hM9.A0 Y1;refine L.on rfl ?_;refine L.call (W2 rfl func44 rfl ya0 rfl) (mq0 br _ hR2) ?_;rintro _ w1 ⟨rfl,hw⟩;refine U37 ?_;refine L.va (K5 rfl) ?_;refine U129 ?_;refine L.call (aj0  func36 rfl Vx0 rfl) (jo0 _) ?_;rintro _ w ⟨bs,rfl,_,hS2,Y1⟩;have g6:=N0 g6 Y1;have hM9:=hM9.A0 Y1;refine L.on rfl ?_;refine L.call (W2 rfl func44 rfl ya0 rfl) (go0 bs _ hS2) ?_;rintro _ w1 ⟨rfl,hw⟩;refine U37 ?_;refine L.on rfl ?_;refine L.va (lc0 rfl) ?_;refine L.va (K5 rfl) ?_;refine U25 ?_;refine ZA.ret hZ ?_;refine ZA.Nb0 (t:=0) (fn:=Tryz.f10) (f:=10) rfl func10 rfl rfl (fun fr hfn hlv=>?_);have K9:∀b,wN.heap.size <=b->X'.N4 b= .all:=fun b hb=>by rw[hF.N4];exact hL.N4 b hb
 have hm9:=hM9.le;exact hk (.returned (.bool true)) w fr ⟨rfl,g6⟩ hfn hlv X' ⟨hF.C1,hF.cap,hF.pend,hF.dn,ae1.mono hm9,fun b hb=>K9 b (by omega),hF.ii0⟩ (by omega) (fun b hb=>by rcases hF.low b hb with z|z;exact h2 b z;omega) (hF.N4.trans h3)
theorem Sys.ew1 {Y:Sys} (I:PR Y->Prop) (h0:I Y.p0) (hb:∀p,Y.Reach p->I p->p.ft.length<Y.m->I (Y.bgn p)) (ht:∀p i l,Y.Reach p->I p->p.ft.length=Y.m->p.ft[i]? =some (.inl l)->Y.rdy i l p.s=true->I (Y.A5 p i)):∀p,Y.Reach p->I p:=by
  have hB:∀n,n <=Y.m->I (Y.L4 n):=by
    intro n
    induction n with
    |zero=>exact fun _=>h0
    |succ n ih=>exact fun hn=>hb _ (.inl ⟨n,by omega,rfl⟩) (ih (by omega)) (by rw[Sys.B5];omega)
  have hP:∀(sc:Nat->Int) n,I (Y.pn sc n):=by
    intro sc n
    induction n with
    |zero=>exact hB Y.m (Nat.le_refl _)
    |succ n ih=>
      show I (Y.step (Y.pn sc n) (sc n));unfold Sys.step;split
      · rename_i i hi
        obtain⟨_,hr⟩:=Sys.ue0 hi;unfold Sys.dn0 at hr;cases hx:(Y.pn sc n).ft[i]? with
        |none=>rw[hx]at hr;cases hr
        |some f=>
          cases f with
          |inl l=>rw[hx]at hr;exact ht _ i l (.inr ⟨sc,n,rfl⟩) ih (Sys.Q8 sc n) hx hr
          |inr x=>rw[hx]at hr;cases hr
      · exact ih
  rintro p (⟨n,hn,rfl⟩|⟨sc,n,rfl⟩)
  · exact hB n hn
  · exact hP sc n
def stepOf (o:D3):Stp:=⟨o.call,o.c5,(Z0 o:Nat)⟩
structure Trs (p:o4) (q:PR (E3 p)) (st:Nat->PS):Prop where
  s0:st 0=ps0
  s1:st q.evs.length=q.s
  go:∀i,i<q.evs.length->∃c o,q.evs[i]? =some (c,stepOf o)/\c<p.m/\(p.bo c)[((st i).K3 c).length]? =some o/\gr0 o (st i)=true/\st (i+1)=aq0 c (G9 o (st i))
theorem Cz0 {p:o4}:∀q,(E3 p).Reach q->∃st,Trs p q st:=by
  refine Sys.ew1 (Y:=E3 p) (fun q=>∃st,Trs p q st) ⟨fun _=>ps0,rfl,rfl,fun i hi=>absurd hi (Nat.not_lt_zero _)⟩ (fun q hR hq _=>?_) (fun q i k hR hq hlen hf hr=>?_)
  · obtain⟨st,h⟩:=hq
    exact⟨st,h.s0,h.s1,h.go⟩
  · obtain⟨st,h⟩:=hq
    have him:i<p.m:=by have:=(List.getElem?_eq_some_iff.1 hf).1;have hlen:q.ft.length=p.m:=hlen;omega
    obtain⟨h1,h2⟩:=(uj0 q hR).T4 i k hf;obtain⟨o,ho⟩:∃o,(p.bo i)[k]? =some o:=⟨_,List.getElem?_eq_getElem h2⟩
    have ht:(E3 p).A5 q i={q with s:=(goP (p.bo i) i k q.s).s,ft:=q.ft.set i (goP (p.bo i) i k q.s).X7,evs:=q.evs ++ [(i,(E3 p).stp i k)],I2:=q.I2++tell i (q.evs.length+1) (goP (p.bo i) i k q.s).I2,outs:=q.outs ++ [goP (p.bo i) i k q.s],who:=q.who ++ [some i],used:=q.used+1}:=by
      unfold Sys.A5;rw[hf]
    have hs:(E3 p).stp i k=stepOf o:=by
      show(match(p.bo i)[k]? with|some o=>(⟨o.call,o.c5,(Z0 o:Nat)⟩:Stp)|none=>⟨0,0,0⟩)=_;rw[ho];rfl
    have hr':gr0 o q.s=true:=by
      have hr:(match(p.bo i)[k]? with|some o=>gr0 o q.s|none=>true)=true:=hr;rw[ho]at hr;exact hr
    rw[ht,yv0 ho,hs];refine⟨fun j=>if j <=q.evs.length then st j else aq0 i (G9 o q.s),?_,?_,fun j hj=>?_⟩
    · show(if 0 <=q.evs.length then st 0 else _)=_
      rw[if_pos (Nat.zero_le _)];exact h.s0
    · show(if(q.evs ++ [_]).length <=q.evs.length then _ else _)=_
      rw[List.length_append,List.length_singleton,if_neg (by omega)];rfl
    · have hj:j<(q.evs ++ [(i,stepOf o)]).length:=hj
      rw[List.length_append,List.length_singleton]at hj;show ∃c o',(q.evs ++ [(i,stepOf o)])[j]? =some (c,stepOf o')/\c<p.m/\(p.bo c)[((if j <=q.evs.length then st j else _).K3 c).length]? =some o'/\gr0 o' (if j <=q.evs.length then st j else _)=true/\(if j+1 <=q.evs.length then st (j+1) else _)=aq0 c (G9 o' (if j <=q.evs.length then st j else _));rw[if_pos (by omega)];by_cases hjl:j<q.evs.length
      · obtain⟨c,o',g1,g2,g3,g4,g5⟩:=h.go j hjl
        rw[List.getElem?_append_left hjl,if_pos (by omega)];exact⟨c,o',g1,g2,g3,g4,g5⟩
      · have e:j=q.evs.length:=by omega
        subst e;rw[List.getElem?_append_right (Nat.le_refl _),Nat.sub_self,if_neg (by omega),h.s1];exact⟨i,o,rfl,him,by rw[h1];exact ho,hr',rfl⟩
theorem Jn0 {p:o4} (sc:Nat->Int):∀n,((E3 p).pn sc n).evs.length <=n
  |0=>by
    show((E3 p).L4 p.m).evs.length <=0;have:∀k,((E3 p).L4 k).evs=[]:=fun k=>by
      induction k with
      |zero=>rfl
      |succ k ih=>exact ih
    rw[this];exact Nat.le_refl _
  |n+1=>by
    have ih:=Jn0 (p:=p) sc n;show((E3 p).step ((E3 p).pn sc n) (sc n)).evs.length <=n+1;unfold Sys.step;split
    · unfold Sys.A5
      split
      · show(_ ++ [_]).length <=n+1
        rw[List.length_append,List.length_singleton];omega
      · omega
    · omega
section
variable {p:o4}{q:PR (E3 p)}{st:Nat->PS}
theorem xa0 (o:D3) (s:PS):(G9 o s).1.I4=if o.call=3 then upN s.I4 (Z0 o) (IntKind.i64.wrap (s.I4 (Z0 o)+1)) else if o.call=4 then upN s.I4 (Z0 o) (max 0 (IntKind.i64.wrap (s.I4 (Z0 o)-1))) else s.I4:=by
  unfold G9;by_cases h1:o.call=1
  · rw[if_pos h1,if_neg (by omega),if_neg (by omega)]
  by_cases h2:o.call=2
  · rw[if_neg h1,if_pos h2,if_neg (by omega),if_neg (by omega)]
  by_cases h3:o.call=3
  · rw[if_neg h1,if_neg h2,if_pos h3,if_pos h3]
  by_cases h4:o.call=4
  · rw[if_neg h1,if_neg h2,if_neg h3,if_pos h4,if_neg h3,if_pos h4]
  rw[if_neg h1,if_neg h2,if_neg h3,if_neg h4,if_neg h3,if_neg h4];split
  · rfl
  split <;> rfl
theorem Jo0 (o:D3) (s:PS):(G9 o s).1.held=if o.call=1 then up2 s.held (pT o) (Z0 o) true else if o.call=2 then up2 s.held (pT o) (Z0 o) false else s.held:=by
  unfold G9;by_cases h1:o.call=1
  · rw[if_pos h1,if_pos h1]
  by_cases h2:o.call=2
  · rw[if_neg h1,if_pos h2,if_neg h1,if_pos h2]
  rw[if_neg h1,if_neg h2,if_neg h1,if_neg h2]
  repeat' split
  all_goals rfl
theorem kn0 {z:Int} (h:-9223372036854775808 <=z/\z <=9223372036854775807):IntKind.i64.wrap z=z:=by
  simp[IntKind.wrap,IntKind.signed,IntKind.bits];omega
theorem Trs.rd (h:Trs p q st) (hl:q.evs.length <=1000000):∀i,i <=q.evs.length->∀n,0 <=(st i).I4 n/\(st i).I4 n <=i
  |0,_,n=>by rw[h.s0];exact⟨Int.le_refl _,Int.le_refl _⟩
  |i+1,hi,n=>by
    have ih:=Trs.rd h hl i (by omega);obtain⟨c,o,_,_,_,_,e⟩:=h.go i (by omega);have er:(st (i+1)).I4=(G9 o (st i)).1.I4:=by rw[e];rfl
    rw[er,xa0];have h1:=ih n;have h2:=ih (Z0 o);split
    · by_cases hn:n=Z0 o
      · subst hn;rw[B4,kn0 (by omega)];omega
      · rw[S4 hn];omega
    split
    · by_cases hn:n=Z0 o
      · subst hn;rw[B4,kn0 (by omega)];omega
      · rw[S4 hn];omega
    · omega
theorem Trs.alone (h:Trs p q st) (hp:l5 p) (hl:q.evs.length <=1000000) {i:Nat} (hi:i<q.evs.length):∃c nu,nu<2 /\
    ((∃t,(t=1\/t=2)/\q.evs[i]? =some (c,⟨1,(t:Nat),(nu:Nat)⟩)/\(st i).held t nu=false/\(t=2->(st i).I4 nu=0)/\(st (i+1)).held=up2 (st i).held t nu true/\(st (i+1)).I4=(st i).I4) \/
     (∃t,(t=1\/t=2)/\q.evs[i]? =some (c,⟨2,(t:Nat),(nu:Nat)⟩)/\(st (i+1)).held=up2 (st i).held t nu false/\(st (i+1)).I4=(st i).I4) \/
     (q.evs[i]? =some (c,⟨3,2,(nu:Nat)⟩)/\(st i).held 2 nu=false/\(st (i+1)).held=(st i).held/\(st (i+1)).I4=upN (st i).I4 nu ((st i).I4 nu+1)) \/
     (q.evs[i]? =some (c,⟨4,2,(nu:Nat)⟩)/\0<(st i).I4 nu/\(st (i+1)).held=(st i).held/\(st (i+1)).I4=upN (st i).I4 nu ((st i).I4 nu-1)) \/
     (q.evs[i]? =some (c,⟨4,2,(nu:Nat)⟩)/\(st i).I4 nu=0/\(st (i+1)).held=(st i).held/\(st (i+1)).I4=(st i).I4) \/
     (∃k t:Int,q.evs[i]? =some (c,⟨k,t,(nu:Nat)⟩)/\3 <=t/\(st (i+1)).held=(st i).held/\(st (i+1)).I4=(st i).I4)):=by
  obtain⟨c,o,he,hc,ho,hr,e⟩:=h.go i hi;have eh:(st (i+1)).held=(G9 o (st i)).1.held:=by rw[e];rfl
  have er:(st (i+1)).I4=(G9 o (st i)).1.I4:=by rw[e];rfl
  rw[Jo0]at eh;rw[xa0]at er;have hk:=hp.ops c o (List.mem_of_getElem? ho);have hb:=h.rd hl i (by omega) (Z0 o);refine⟨c,Z0 o,Y0 o,?_⟩;have E2:∀a b:Int,o.call=a->o.c5=b->stepOf o=⟨a,b,(Z0 o:Nat)⟩:=fun a b h1 h2=>by unfold stepOf;rw[h1,h2]
  have hT:∀t:Nat,o.c5=(t:Int)->pT o=t:=fun t h1=>by unfold pT;rw[h1];rfl
  rcases hk with⟨k1,k2⟩|⟨k1,k2⟩|⟨k1,k2⟩|⟨k1,k2⟩|⟨k1,k2⟩
  · rcases k2 with k2|k2
    · rw[if_pos k2,hT 1 k1]at eh
      rw[if_neg (by omega),if_neg (by omega)]at er;unfold gr0 at hr;rw[if_pos k2,hT 1 k1]at hr;simp only[Bool.and_eq_true,Bool.not_eq_true']at hr;exact .inl ⟨1,.inl rfl,by rw[he,E2 1 1 k2 k1];rfl,hr.1,(fun z=>by cases z),eh,er⟩
    · rw[if_neg (by omega),if_pos k2,hT 1 k1]at eh
      rw[if_neg (by omega),if_neg (by omega)]at er;exact .inr (.inl ⟨1,.inl rfl,by rw[he,E2 2 1 k2 k1];rfl,eh,er⟩)
  · rcases k2 with k2|k2|k2|k2
    · rw[if_pos k2,hT 2 k1]at eh
      rw[if_neg (by omega),if_neg (by omega)]at er;unfold gr0 at hr;rw[if_pos k2,hT 2 k1]at hr;simp only[Bool.and_eq_true,Bool.not_eq_true',decide_eq_true_eq]at hr;exact .inl ⟨2,.inr rfl,by rw[he,E2 1 2 k2 k1];rfl,hr.1,fun _=>hr.2,eh,er⟩
    · rw[if_neg (by omega),if_pos k2,hT 2 k1]at eh
      rw[if_neg (by omega),if_neg (by omega)]at er;exact .inr (.inl ⟨2,.inr rfl,by rw[he,E2 2 2 k2 k1];rfl,eh,er⟩)
    · rw[if_neg (by omega),if_neg (by omega)]at eh
      rw[if_pos k2,kn0 (by omega)]at er;unfold gr0 at hr;rw[if_neg (by omega),if_pos k2]at hr;exact .inr (.inr (.inl ⟨by rw[he,E2 3 2 k2 k1],by simpa using hr,eh,er⟩))
    · rw[if_neg (by omega),if_neg (by omega)]at eh
      rw[if_neg (by omega),if_pos k2,kn0 (by omega)]at er;rcases Int.lt_or_eq_of_le hb.1 with z|z
      · exact .inr (.inr (.inr (.inl ⟨by rw[he,E2 4 2 k2 k1],z,eh,by rw[er,show max 0 ((st i).I4 (Z0 o)-1)=(st i).I4 (Z0 o)-1 by omega]⟩)))
      · refine .inr (.inr (.inr (.inr (.inl ⟨by rw[he,E2 4 2 k2 k1],z.symm,eh,?_⟩))))
        rw[er,<- z];funext n;by_cases hn:n=Z0 o
        · subst hn;rw[B4,<- z];rfl
        · rw[S4 hn]
  all_goals
    rw[if_neg (by omega),if_neg (by omega)]at eh;rw[if_neg (by omega),if_neg (by omega)]at er;exact .inr (.inr (.inr (.inr (.inr ⟨o.call,o.c5,he,by omega,eh,er⟩))))
end
def sw0 (h:Nat->Nat->Bool):Array Value:=arr 12 fun j=>.bool (h (j/2) (j%2))
def Y8 (r:Nat->Int):Array Value:=arr 2 fun j=>.int .i64 (r j)
theorem ei0 {h:Nat->Nat->Bool} {t n:Nat} (hn:n<2) (b:Bool):setRow (sw0 h) (0+t*2+n*1) [.bool b]=sw0 (up2 h t n b):=by
  unfold sw0;rw[dp0];refine ia0 fun j _=>?_;by_cases e:j=0+t*2+n*1
  · rw[if_pos e,show j/2=t by omega,show j%2=n by omega,in0]
  · rw[if_neg e,yu0 (by omega)]
theorem Bh0 {r:Nat->Int} {n:Nat} (v:Int):setRow (Y8 r) (0+n*1) [.int .i64 v]=Y8 (upN r n v):=by
  unfold Y8;rw[dp0];refine ia0 fun j _=>?_;by_cases e:j=0+n*1
  · rw[if_pos e,show j=n by omega,B4]
  · rw[if_neg e,S4 (by omega)]
theorem sx0 {w:World} {b:Nat} {T:TypeId} {h:Nat->Nat->Bool} {t n:Nat} (hB:Q0 w b (sw0 h) T) (ht:t<6) (hn:n<2) {v:Bool} (hv:h t n=v):w.cell? ⟨b,0+t*2+n*1,none⟩=some (.bool v):=by
  refine Q0.E0 hB _ ((ea0 (by omega)).trans ?_);rw[show(0+t*2+n*1)/2=t by omega,show(0+t*2+n*1)%2=n by omega,hv]
theorem uq0 {w:World} {b:Nat} {T:TypeId} {r:Nat->Int} {n:Nat} (hB:Q0 w b (Y8 r) T) (hn:n<2) {v:Int} (hv:r n=v):w.cell? ⟨b,0+n*1,none⟩=some (.int .i64 v):=by
  refine Q0.E0 hB _ ((ea0 (by omega)).trans ?_);rw[show 0+n*1=n by omega,hv]
theorem Ng0 {α:Type} (f:α->List Value) (k:Nat) (hf:∀x,(f x).length=k):∀(l:List α) (i:Nat) (x:α) (j:Nat) (v:Value),l[i]? =some x->(f x)[j]? =some v->(l.flatMap f)[i*k+j]? =some v:=by
 intro l
 induction l with
 |nil=>intro i x j v h;cases h
 |cons y l ih=>
  intro i x j v h hj;rw[List.flatMap_cons];cases i with
  |zero=>
   cases h;have hl:=(List.getElem?_eq_some_iff.1 hj).1;rw[Nat.zero_mul,Nat.zero_add,List.getElem?_append_left hl];exact hj
  |succ i=>
   rw[List.getElem?_append_right (by rw[hf,Nat.succ_mul];omega),hf,Nat.succ_mul,show i*k+k+j-k=i*k+j by omega];exact ih i x j v h hj
theorem af1 {w:World} {B n c:Nat} {E:TypeId} {a:Option Addr} {evs:List (Nat×Stp)} (hO:Own w B E 4 a n c (evs.flatMap evC)) {i:Nat} {e:Nat×Stp} (he:evs[i]? =some e) (j:Nat) (v:Value) (hj:(evC e)[j]? =some v):w.cell? ⟨ab a,ao a+i*4+j,none⟩=some v:=by
 rw[hO.off,Nat.zero_add];exact hO.cell (Ng0 evC 4 (fun _=>rfl) evs i e j v he hj)
theorem L8.fh0 {p:o4} {sc:Nat->Int} {sn B:Nat} {w:World} {R:Rn} {r:G5} (h:L8 p sc sn B w R r) {i:Nat} {e:Nat×Stp} (he:((E3 p).pn sc sn).evs[i]? =some e) (j:Nat) (v:Value) (hj:(evC e)[j]? =some v):w.cell? ⟨ab R.ea,ao R.ea+i*4+j,none⟩=some v :=
 af1 h.run.mem.evs (by rw[h.run.evs];exact he) j v hj
theorem L8.off {p:o4} {sc:Nat->Int} {sn B b:Nat} {w w':World} {R:Rn} {r:G5} {cs:Array Value} {T:TypeId} (h:L8 p sc sn B w R r) (hg:w.grownBy w' (some b)) (hB:Q0 w b cs T) (hT:T≠45/\T≠2) (hn:¬R.fp b):L8 p sc sn B w' R r :=
 ⟨h.lg.other hg (Q0.ne h.lg hB hT.1.symm),fun i hi=>(h.ans i hi).n5 hg (Own.Ox0 (h.ans i hi) (R3 hB) hT.2.symm),h.run.n5 hg hn⟩
set_option maxHeartbeats 4000000 in
theorem ak1 {lb:Nat} {pl:Nat->w6} {m bc sn scp:Nat} {bo:Nat->List D3} {sc:Nat->Int} {ba sa:Option Addr} {oa:Nat->Option Addr} {oc:Nat->Nat} (w0:World) (hm:m <=1000000000000) (hsn:sn <=9223372036854775807) (hBo:V7 w0 ba m bo oa oc) (hz:∀i,m <=i->bo i=[]) (hSc:uh0 w0 sa sn scp sc) :
  @C prog (l7 lb pl) 4 #[.slice ba m bc,.slice sa sn scp] w0 fun v w=>v= .bool true/\Below w0.heap.size w0 w:=by
 letI:Ctx prog:=l7 lb pl;refine C.enter (n:=123) func4 rfl rfl ?_;refine U4 ?_;intro hb;refine U7 ?_;refine U15 ?_;refine U248 ?_;refine L.call (C4 rfl rfl func9 rfl nm9 rfl) (Zh0 _ hm hsn hBo) ?_;rintro _ w ⟨bf,rfl,ex1,Y1⟩;have hb:=N0 hb Y1;clear Y1;refine L.va (lc0 rfl) ?_;refine U0 ?_;refine W.cond rfl (fun h15=>?_) (fun h15=>?_)
 ·refine W.seq ?_;refine W.region rfl ?_;refine L.call (aj0  func10 rfl Vu0 rfl) (Jl0 _) ?_;rintro _ w ⟨rfl,Y1⟩;have hb:=N0 hb Y1;exact U176
 ·refine W.skip ?_;show W _ _ _ _ _ _;refine U3 ?_;refine U248 ?_;have hF:=ex1 (by simpa using h15);refine L.call (C4 rfl rfl func11 rfl Vv0 rfl) (Ip0 w (hBo.A0 hb) hz (hSc.A0 hb) hF) ?_;rintro _ w1 ⟨p,R,r,rfl,⟨pm,pbo,pB⟩,hP,hY,Y1⟩;obtain⟨Bq,hBq⟩:∃Bq,Bq=w.heap.size:=⟨_,rfl⟩
  rw[<- hBq]at hY;clear hBq;have hb:=N0 hb Y1;clear Y1
  rename World=>w
  have hel:((E3 p).pn sc sn).evs.length <=1000000:=Nat.le_trans (Jn0 sc sn) (Nat.le_trans hF.sn1 (by decide));obtain⟨st,hTr⟩:=Cz0 ((E3 p).pn sc sn) (.inr ⟨sc,sn,rfl⟩);have hRl:R.evs.length=((E3 p).pn sc sn).evs.length:=by rw[hY.run.evs]
  refine U264 ?_;refine L.va (C9 rfl rfl) ?_;have dt0:=hY;have Z9:=hb;refine L.alloc (cs:=#[.slice none 0 0,.slice none 0 0,.slice none 0 0,.slice none 0 0,.bool false,.int .i64 0]) Fl0 rfl (fun w b5 F5=>?_);have lt5:=F5.lq hb.size;have C3:=F5.blk;refine L.pa [.slice R.ea R.evs.length R.ec,.slice R.na R.I2.length R.nc,.slice (some ⟨R.eb,0,none⟩) R.m R.m,.slice (some ⟨R.wb,0,none⟩) R.m R.m,.bool R.stuck,.int .i64 (R.used:Int)] ic0 C3 (fun w I1 hg D2=>?_);have W7:=P3 F5.below F5.below.size hg (by have:=F5.here;omega);have hY:=dt0.A0 W7;have hb:=N0 Z9 W7;have C3:=I1;clear I1 hg D2 W7 F5 dt0 Z9;refine L.va (bk0 rfl) ?_;refine U7 ?_;refine U15 ?_;refine U156 ?_;refine U163 ?_;refine L.alloc (cs:=#[.bool false,.bool false,.bool false,.bool false,.bool false,.bool false,.bool false,.bool false,.bool false,.bool false,.bool false,.bool false]) ba1 rfl (fun w b8 F8=>?_);have lt8:=F8.lq hb.size;have nf8:¬R.fp b8:=fun z=>by have h9:=hY.run.mem.lt z;have:=F8.here;omega
  have hb:=N0 hb F8.below;have hY:=hY.A0 F8.below;have C3:=C3.A0 F8.below;have hB8:=F8.blk;have hH:Q0 w b8 (sw0 (st 0).held) 35:=by rw[hTr.s0];exact hB8
  clear hB8;refine U9 ?_;refine L.alloc (cs:=#[.int .i64 0,.int .i64 0]) bb1 rfl (fun w b9 F9=>?_);have lt9:=F9.lq hb.size;have nf9:¬R.fp b9:=fun z=>by have h9:=hY.run.mem.lt z;have:=F9.here;omega
  have hb:=N0 hb F9.below;have hY:=hY.A0 F9.below;have C3:=C3.A0 F9.below;have hH:=hH.A0 F9.below;have hB9:=F9.blk;have hR:Q0 w b9 (Y8 (st 0).I4) 36:=by rw[hTr.s0];exact hB9
  clear hB9;refine U54 ?_;refine U69 ?_;refine W.loop (fun k e w=>∃(i:Nat),k=R.evs.length-i/\e 5= .pointer (some ⟨b5,0,none⟩)/\e 8= .p b8/\e 9= .p b9/\e 10= .int .i64 (i:Nat)/\i <=R.evs.length/\L8 p sc sn Bq w R r/\Q0 w b5 #[.slice R.ea R.evs.length R.ec,.slice R.na R.I2.length R.nc,.slice (some ⟨R.eb,0,none⟩) R.m R.m,.slice (some ⟨R.wb,0,none⟩) R.m R.m,.bool R.stuck,.int .i64 (R.used:Int)] 30/\Q0 w b8 (sw0 (st i).held) 35/\Q0 w b9 (Y8 (st i).I4) 36/\Below w0.heap.size w0 w) _ ⟨0,rfl,rfl,rfl,rfl,rfl,Nat.zero_le _,hY,C3,hH,hR,hb⟩ ?_;rintro k e w ⟨i,hk,s5,s8,s9,s10,hi,hY,C3,hH,hR,hb⟩;rw[K1 s5,K1 s8,K1 s9,K1 s10];clear s5 s8 s9 s10;refine U32 ?_;refine U283 ?_;refine L.va (M7 rfl underlying26 rfl) ?_;refine U67 ?_;refine W.cp0 rfl (fun h30=>?_) (fun h30=>?_)
  ·refine W.skip ?_;show W _ _ _ _ _ _;refine W.seq ?_;refine U172 ?_;have O8:=hTr.rd hel i (by omega);obtain⟨cl,nu,hnu,hca⟩:=hTr.alone hP hel (i:=i) (by omega);have O8:=O8 nu;rcases hca with⟨tt,rfl|rfl,he,hfr,hr0,eh,er⟩|⟨tt,rfl|rfl,he,eh,er⟩|⟨he,hfr,eh,er⟩|⟨he,h0r,eh,er⟩|⟨he,hr0,eh,er⟩|⟨ki,ob,he,hob,eh,er⟩
   ·refine W.region rfl ?_;refine U71 ?_;refine L.va (P1 (cs:=[.int .i64 1,.int .i64 1,.int .i64 (nu:Nat)]) rfl underlying47 rfl P8 rfl (fun q v hq=>by have h9:=(hY).fh0 he (1+q) v (by rw[Nat.add_comm];exact hq);rw[<- Nat.add_assoc]at h9;exact h9)) ?_;have dt0:=hY;have jt0:=C3;have xb0:=hH;have xc0:=hR;have Z9:=hb;refine U41 ?_;intro w b11 F11 pb0 G4;refine L.pa [.int .i64 1,.int .i64 1,.int .i64 (nu:Nat)] P8 G4 (fun w I1 hg D2=>?_);refine U36 ?_;intro W7 hY C3 hH hR hb;have G4:=I1;refine U159 ?_;refine U361 ?_;refine U171 ?_;refine L.va (L5 rfl) ?_;refine U246 ?_;refine U443 ?_;refine U103 ?_;refine U267 ?_;refine U206 ?_;refine U220 ?_;refine U210 ?_;refine U359 ?_;refine U271 ?_;refine D.va (fun w' N2=>(F0 rfl underlying3 rfl ((G4.A0 N2).E0 1 (v:=.int .i64 1) rfl))) ?_;refine D.on rfl ?_;refine D.va (fun w' N2=>(L2 (r:=false) (by decide) (O4 (m:=1) (k:=2) rfl rfl))) ?_;refine U527 ?_;refine D.off rfl ?_;refine D.off rfl ?_;refine D.off rfl ?_;refine D.off rfl ?_;refine D.off rfl ?_;refine D.on rfl ?_;refine D.va (fun w' N2=>(L5 rfl)) ?_;refine D.va (fun w' N2=>(L5 rfl)) ?_;refine U52 ?_;intro w Y1 hb hY C3 hH hR;have G4:=G4.A0 Y1;clear Y1;refine U270 ?_;refine U115 ?_;refine U220 ?_;refine U210 ?_;refine U52 ?_;intro w Y1 hb hY C3 hH hR;clear Y1;refine L.put (b:=b8) (o:=0+1*2+nu*1) (vs:=[.bool true]) _ rfl rfl rfl sz4 rfl rfl hH (by show _ <=(arr 12 _).size;rw[G6];omega) (ei0 hnu true) (fun w I1 hg D2=>?_);refine U142 ?_;intro hY C3;refine U152 ?_;intro hR hb;clear hH;exact U180
   ·have hr0:=hr0 rfl;refine W.region rfl ?_;refine U71 ?_;refine L.va (P1 (cs:=[.int .i64 1,.int .i64 2,.int .i64 (nu:Nat)]) rfl underlying47 rfl P8 rfl (fun q v hq=>by have h9:=(hY).fh0 he (1+q) v (by rw[Nat.add_comm];exact hq);rw[<- Nat.add_assoc]at h9;exact h9)) ?_;have dt0:=hY;have jt0:=C3;have xb0:=hH;have xc0:=hR;have Z9:=hb;refine U41 ?_;intro w b11 F11 pb0 G4;refine L.pa [.int .i64 1,.int .i64 2,.int .i64 (nu:Nat)] P8 G4 (fun w I1 hg D2=>?_);refine U36 ?_;intro W7 hY C3 hH hR hb;have G4:=I1;refine U98 ?_;refine U443 ?_;refine U103 ?_;refine U267 ?_;refine U206 ?_;refine U185 ?_;refine U359 ?_;refine U271 ?_;refine D.va (fun w' N2=>(F0 rfl underlying3 rfl ((G4.A0 N2).E0 1 (v:=.int .i64 2) rfl))) ?_;refine D.on rfl ?_;refine D.va (fun w' N2=>(L2 (r:=true) (by decide) (O4 (m:=2) (k:=2) rfl rfl))) ?_;refine U527 ?_;refine U271 ?_;refine D.va (fun w' N2=>(F0 rfl underlying3 rfl ((G4.A0 N2).E0 2 (v:=.int .i64 (nu:Nat)) rfl))) ?_;refine D.on rfl ?_;refine D.va (fun w' N2=>(Z1 (i:=nu) (n:=2) rfl rfl underlying36 sz3 hnu)) ?_;refine D.on rfl ?_;refine D.va (fun w' N2=>(F0 (v:=.int .i64 0) rfl underlying3 rfl (uq0 (hR.A0 N2) hnu hr0))) ?_;refine D.on rfl ?_;refine D.va (fun w' N2=>(L2 (r:=false) (by decide) (ja0 (m:=0) (k:=0) rfl rfl))) ?_;refine D.on rfl ?_;refine D.va (fun w' N2=>(K5 rfl)) ?_;refine D.va (fun w' N2=>(L5 rfl)) ?_;refine U52 ?_;intro w Y1 hb hY C3 hH hR;have G4:=G4.A0 Y1;clear Y1;refine U270 ?_;refine U115 ?_;refine U185 ?_;refine U52 ?_;intro w Y1 hb hY C3 hH hR;clear Y1;refine L.put (b:=b8) (o:=0+2*2+nu*1) (vs:=[.bool true]) _ rfl rfl rfl sz4 rfl rfl hH (by show _ <=(arr 12 _).size;rw[G6];omega) (ei0 hnu true) (fun w I1 hg D2=>?_);refine U142 ?_;intro hY C3;refine U152 ?_;intro hR hb;clear hH;exact U180
   ·refine W.region rfl ?_;refine U71 ?_;refine L.va (P1 (cs:=[.int .i64 2,.int .i64 1,.int .i64 (nu:Nat)]) rfl underlying47 rfl P8 rfl (fun q v hq=>by have h9:=(hY).fh0 he (1+q) v (by rw[Nat.add_comm];exact hq);rw[<- Nat.add_assoc]at h9;exact h9)) ?_;have dt0:=hY;have jt0:=C3;have xb0:=hH;have xc0:=hR;have Z9:=hb;refine U41 ?_;intro w b11 F11 pb0 G4;refine L.pa [.int .i64 2,.int .i64 1,.int .i64 (nu:Nat)] P8 G4 (fun w I1 hg D2=>?_);refine U36 ?_;intro W7 hY C3 hH hR hb;have G4:=I1;refine U159 ?_;refine U361 ?_;refine U171 ?_;refine L.va (L5 rfl) ?_;refine U246 ?_;refine U445 ?_;refine U53 ?_;refine U115 ?_;refine U220 ?_;refine U210 ?_;refine U52 ?_;intro w Y1 hb hY C3 hH hR;clear Y1;refine L.put (b:=b8) (o:=0+1*2+nu*1) (vs:=[.bool false]) _ rfl rfl rfl sz4 rfl rfl hH (by show _ <=(arr 12 _).size;rw[G6];omega) (ei0 hnu false) (fun w I1 hg D2=>?_);refine U142 ?_;intro hY C3;refine U152 ?_;intro hR hb;clear hH;exact U180
   ·refine W.region rfl ?_;refine U71 ?_;refine L.va (P1 (cs:=[.int .i64 2,.int .i64 2,.int .i64 (nu:Nat)]) rfl underlying47 rfl P8 rfl (fun q v hq=>by have h9:=(hY).fh0 he (1+q) v (by rw[Nat.add_comm];exact hq);rw[<- Nat.add_assoc]at h9;exact h9)) ?_;have dt0:=hY;have jt0:=C3;have xb0:=hH;have xc0:=hR;have Z9:=hb;refine U41 ?_;intro w b11 F11 pb0 G4;refine L.pa [.int .i64 2,.int .i64 2,.int .i64 (nu:Nat)] P8 G4 (fun w I1 hg D2=>?_);refine U36 ?_;intro W7 hY C3 hH hR hb;have G4:=I1;refine U98 ?_;refine U445 ?_;refine U53 ?_;refine U115 ?_;refine U185 ?_;refine U52 ?_;intro w Y1 hb hY C3 hH hR;clear Y1;refine L.put (b:=b8) (o:=0+2*2+nu*1) (vs:=[.bool false]) _ rfl rfl rfl sz4 rfl rfl hH (by show _ <=(arr 12 _).size;rw[G6];omega) (ei0 hnu false) (fun w I1 hg D2=>?_);refine U142 ?_;intro hY C3;refine U152 ?_;intro hR hb;clear hH;exact U180
   ·refine W.region rfl ?_;refine U71 ?_;refine L.va (P1 (cs:=[.int .i64 3,.int .i64 2,.int .i64 (nu:Nat)]) rfl underlying47 rfl P8 rfl (fun q v hq=>by have h9:=(hY).fh0 he (1+q) v (by rw[Nat.add_comm];exact hq);rw[<- Nat.add_assoc]at h9;exact h9)) ?_;have dt0:=hY;have jt0:=C3;have xb0:=hH;have xc0:=hR;have Z9:=hb;refine U41 ?_;intro w b11 F11 pb0 G4;refine L.pa [.int .i64 3,.int .i64 2,.int .i64 (nu:Nat)] P8 G4 (fun w I1 hg D2=>?_);refine U36 ?_;intro W7 hY C3 hH hR hb;have G4:=I1;refine U98 ?_;refine L.va (F0 rfl underlying3 rfl (G4.E0 0 (v:=.int .i64 3) rfl)) ?_;refine U0 ?_;refine U139 ?_;refine U5 ?_;refine U140 ?_;refine U141 ?_;refine U267 ?_;refine U206 ?_;refine U185 ?_;refine D.va (fun w' N2=>(F0 (v:=.bool false) rfl underlying4 rfl (sx0 (hH.A0 N2) (by decide) hnu hfr))) ?_;refine U52 ?_;intro w Y1 hb hY C3 hH hR;have G4:=G4.A0 Y1;clear Y1;refine U270 ?_;refine W.region rfl ?_;refine U499 ?_;refine L.va (hw0 rfl rfl (by omega)) ?_;refine L.va (Z1 (i:=nu) (n:=2) rfl rfl underlying36 sz3 hnu) ?_;refine L.put (b:=b9) (o:=0+nu*1) (vs:=[.int .i64 ((st i).I4 nu+1)]) _ rfl rfl rfl sz3 rfl rfl hR (by show _ <=(arr 2 _).size;rw[G6];omega) (Bh0 ((st i).I4 nu+1)) (fun w I1 hg D2=>?_);refine U528 ?_;intro hY C3;have hH:=Q0.other hH hg (Q0.ne hH hR (by decide));have hb:=P3 hb hb.size hg lt9;clear hR;have hR:=I1;exact U253
   ·refine W.region rfl ?_;refine U221 ?_;refine U313 ?_;have dt0:=hY;have jt0:=C3;have xb0:=hH;have xc0:=hR;have Z9:=hb;refine U41 ?_;intro w b11 F11 pb0 G4;refine L.pa [.int .i64 4,.int .i64 2,.int .i64 (nu:Nat)] P8 G4 (fun w I1 hg D2=>?_);refine U36 ?_;intro W7 hY C3 hH hR hb;have G4:=I1;refine U98 ?_;refine U444 ?_;refine U105 ?_;refine U113 ?_;refine U325 ?_;refine L.va (L2 (r:=true) (decide_eq_true h0r) (ja0 rfl rfl)) ?_;refine U33 ?_;refine U499 ?_;refine L.va (xn0 rfl rfl (by omega)) ?_;refine L.va (Z1 (i:=nu) (n:=2) rfl rfl underlying36 sz3 hnu) ?_;refine L.put (b:=b9) (o:=0+nu*1) (vs:=[.int .i64 ((st i).I4 nu-1)]) _ rfl rfl rfl sz3 rfl rfl hR (by show _ <=(arr 2 _).size;rw[G6];omega) (Bh0 ((st i).I4 nu-1)) (fun w I1 hg D2=>?_);refine U528 ?_;intro hY C3;have hH:=Q0.other hH hg (Q0.ne hH hR (by decide));have hb:=P3 hb hb.size hg lt9;clear hR;have hR:=I1;exact U253
   ·refine W.region rfl ?_;refine U221 ?_;refine U313 ?_;have dt0:=hY;have jt0:=C3;have xb0:=hH;have xc0:=hR;have Z9:=hb;refine U41 ?_;intro w b11 F11 pb0 G4;refine L.pa [.int .i64 4,.int .i64 2,.int .i64 (nu:Nat)] P8 G4 (fun w I1 hg D2=>?_);refine U36 ?_;intro W7 hY C3 hH hR hb;have G4:=I1;refine U98 ?_;refine U444 ?_;refine U105 ?_;refine U113 ?_;refine U295 ?_;refine L.va (F0 (v:=.int .i64 0) rfl underlying3 rfl (uq0 hR hnu hr0)) ?_;refine L.va (L2 (r:=false) (by decide) (ja0 (m:=0) (k:=0) rfl rfl)) ?_;refine U269 ?_;refine W.skip ?_;refine B.nrm ?_;exact U426
   ·refine W.region rfl ?_;refine U71 ?_;refine L.va (P1 (cs:=[.int .i64 ki,.int .i64 ob,.int .i64 (nu:Nat)]) rfl underlying47 rfl P8 rfl (fun q v hq=>by have h9:=(hY).fh0 he (1+q) v (by rw[Nat.add_comm];exact hq);rw[<- Nat.add_assoc]at h9;exact h9)) ?_;have dt0:=hY;have jt0:=C3;have xb0:=hH;have xc0:=hR;have Z9:=hb;refine U41 ?_;intro w b11 F11 pb0 G4;refine L.pa [.int .i64 ki,.int .i64 ob,.int .i64 (nu:Nat)] P8 G4 (fun w I1 hg D2=>?_);refine U36 ?_;intro W7 hY C3 hH hR hb;have G4:=I1;refine U159 ?_;refine L.va (F0 rfl underlying3 rfl (G4.E0 1 (v:=.int .i64 ob) rfl)) ?_;refine L.va (L2 (r:=true) (decide_eq_true (by omega)) (df0 rfl rfl)) ?_;refine U199 ?_;refine L.on rfl ?_;refine L.va (F0 rfl underlying3 rfl (G4.E0 1 (v:=.int .i64 ob) rfl)) ?_;refine L.on rfl ?_;refine L.va (L2 (r:=true) (decide_eq_true (by omega)) (df0 rfl rfl)) ?_;refine L.va (K5 rfl) ?_;refine U171 ?_;refine L.va (K5 rfl) ?_;refine U171 ?_;refine L.va (K5 rfl) ?_;refine U31 ?_;refine W.exit ?_;refine U380 ?_;refine W.region rfl ?_;refine U347 ?_;exact U286
  ·refine W.exit ?_;refine U73 ?_;refine L.call (aj0  func10 rfl Vu0 rfl) (Jl0 _) ?_;rintro _ w ⟨rfl,Y1⟩;have hb:=N0 hb Y1;exact U176
end Go.Vy.Sc
end
section
namespace Go.Vy
open Go Go.Conc
theorem Dc0 {H:Type} {enc:TypeId×Value->H} {a:Assume} {C:Checked} {os:Os} {f:FuncId} {fn:Func} {s:OpenSpec} {k:(H:Type)->List (DataW H)->Bool} (hk:s.cond=some k) {F:Stop.Interp} {conds:List PathCond} {apart fresh handsOn again:Bool}
  (own:ownKnob C.prog.godebug=none) (started:os.Started) (hfn:C.prog.funcs[f]? =some fn)
  (wit:∃(w:World) (tape:Tape) (i:Input),w.os=os/\(w.forCall tape i).Shaped C.prog/\i.vars=[]/\Input.okWide C.prog (w.forCall tape i) .any w.heap.size f i/\s.pre6 enc C.prog fn conds apart (w.forCall tape i).memory i.args/\a.holds C.prog (lone (Frame.enter C.prog f i.args .normal) [] (w.forCall tape i)))
  (runs:∀(W:World) (base:Nat) (args:Array Value) (ds gs:List (DataW H)) (before:List MemPlace),(∀(j:Nat) t v,fn.params[j]? =some t->args[j]? =some v->Value.okWide C.prog W .any base t v)->DataW.Whole enc C.prog fn.params.toList s.vars apart W args.toList ds gs before->k H (ds++gs)=true ->
   ∃M last o w' t',runNT C.prog (M+1) (solo (G (Frame.enter C.prog f args .normal) []) W) #[]=(.ended o w',t')/\runN C.prog M (solo (G (Frame.enter C.prog f args .normal) []) W)= .next last/\step C.prog last= .ended o w'/\Conc.Good C.prog (fun v W'=>(s.at F).post enc C.prog fn apart fresh handsOn again W args v W') last o w' t') :
  ReturnsInLeavingWide a C os f .any (s.pre6 enc C.prog fn conds apart) ((s.at F).post enc C.prog fn apart fresh handsOn again):=by
 refine returnsInLeavingWide_of_good own started wit fun w tape i _ _ _ hok ey1 _=>?_;obtain⟨_,_,_,fn',ag1,_,_,_,_,ez1⟩:=hok;rw[hfn]at ag1;obtain rfl:=Option.some.inj ag1;obtain⟨ds,gs,before,hw,_,hkk⟩:=(OpenSpec.pre_some hk conds apart _ _).1 ey1.1;obtain⟨M,last,o,w',t',h1,h2,h3,h4⟩:=runs (w.forCall tape i) w.heap.size i.args ds gs before ez1 (DataW.Whole.of_heap (w':=w.forCall tape i) (by rfl) hw) hkk;exact⟨M,last,o,w',t',h1,h2,h3,h4.mono fun v hp=>ChangeSpec.post_blind hp⟩
theorem zp0 {p:Pinned} {s:OpenSpec} {c:OpenClaim} (f:FuncId) (fn:Func) (hn:c.program=p.name) (hs:c.sum=p.sum) (hsp:c.spec=s.name) (hstart:c.start= .entering) (bx0:c.outside=[]) (hin:c.inits=[]) (hun:c.under=none)
  (hi4:c.initsInPlace=[]/\c.initsUnfollowed=false/\c.initsRecurse=false/\c.initsNamed=[]/\c.initsPassed=[]) (hnb:c.noBlocks=false) (hlv:c.leaving=true) (hfo:c.followed=none) (fa1:c.narrowed=s.cond.isSome) (Tx0:c.still=false)
  (hfn:p.checked.prog.funcNamed c.func=some f) (hf:p.checked.prog.funcs[f]? =some fn) (closed:joinedFacts p.checked.prog f fn s.bare c=true) (ah1:fn.isInstance p.checked.prog c.origin c.targs) (ai1:fn.isWrapper p.checked.prog c.wrapper c.mainSum)
  (h:∀os:Os,os.Started->∀(H:Type) (enc:TypeId×Value->H),(∀a b,enc a=enc b->a=b)->∀F:Stop.Interp,ReturnsInLeavingWide c.assume p.checked os f .any (c.pre enc p.checked.prog fn s) ((s.at F).post enc p.checked.prog fn c.apart c.fresh c.handsOn c.again)):c.holds p s:=by
 simp only[joinedFacts,Bool.and_eq_true,beq_iff_eq,Array.all_eq_true_iff_forall_mem,List.all_eq_true,decide_eq_true_eq]at closed;obtain⟨⟨⟨⟨⟨⟨⟨⟨⟨⟨⟨⟨⟨⟨⟨⟨⟨⟨⟨⟨⟨⟨⟨⟨⟨⟨⟨⟨⟨⟨⟨q1,q2⟩,q3⟩,q4⟩,q5⟩,q6⟩,q7⟩,q8⟩,q9⟩,q10⟩,q11⟩,q12⟩,q13⟩,q14⟩,q15⟩,q16⟩,q17⟩,fb1⟩,q18⟩,q19⟩,q20⟩,q21⟩,q22⟩,q23⟩,fc1⟩,q24⟩,fd1⟩,fe1⟩,q25⟩,q26⟩,q27⟩,q28⟩:=closed;have hq:∀os:Os,Stop.quiet p.checked.prog os:=fun os k hk=>by rw[q9]at hk;cases hk
 have hex:∃os:Os,c.world os/\Stop.quiet p.checked.prog os:=⟨_,by unfold OpenClaim.world;rw[bx0,hstart];exact WideRow.started_initial,hq _⟩
 refine⟨q1,hn,hs,hsp,q2,q3,?_,?_,f,fn,hfn,hf,⟨q4,q19⟩,(fun hb=>by rw[hnb]at hb;cases hb),?_,ah1,ai1,q6.trans q7.symm,⟨q8.trans q9.symm,?_,fc1⟩,q10,q11,q12,q13,q14,⟨q15,q27,q28⟩,⟨q16,q20⟩,⟨q17,q21,q25,q26⟩,⟨q22,fd1,fe1,fb1⟩,?_,fun n hn'=>varReadable_some (q18 n hn'),hex,[],?_,fun os st _ H enc inj=>?_⟩
 ·unfold OpenClaim.startFits;rw[hstart];exact q24
 ·unfold OpenClaim.startTold;rw[hstart];exact⟨hin,hun,hi4⟩
 ·unfold OpenClaim.namedList;rw[hfo];exact q5
 ·unfold Program.envWorded;rw[q9];rfl
 ·rw[bx0,fa1];cases hsh:c.shortTexts with
  |none=>simp
  |some _=>rw[hsh]at q23;cases q23
 ·unfold OpenClaim.lists;rw[hfo]
 ·have st':os.Started:=by unfold OpenClaim.world at st;rw[bx0,hstart]at st;exact st
  rw[OpenClaim.post_not_still Tx0];unfold OpenClaim.form;rw[hstart,q6];intro F;have e1:c.okInput=Input.okWide:=by unfold OpenClaim.okInput;rw[hnb]
  have e2:c.atReturn p.checked.prog=leavingAtReturn p.checked.prog:=by unfold OpenClaim.atReturn;rw[hlv]
  have e3:c.always p.checked.prog []=nothingAlways:=by unfold OpenClaim.always;rw[hfo]
  have e4:s.post enc p.checked.prog fn F c.outside c.apart c.fresh c.handsOn c.again=(s.at F).post enc p.checked.prog fn c.apart c.fresh c.handsOn c.again:=by rw[bx0];rfl
  rw[e1,e2,e3];show ReturnsInOpen _ _ _ _ _ _ _ _ (s.post enc p.checked.prog fn F c.outside c.apart c.fresh c.handsOn c.again) _ _;rw[e4];exact h os st' H enc inj F q24
end Go.Vy
end
section
namespace Go.Vy.Sc
open Go Go.Conc Go.Yc Go.RowKit Go.Proofs Go.Proofs.YtnifpkopeheodaaGreat Tryz
open Go.Vc Go.Wg Go.ChangeShapes Go.WideShapes Go.ChangeAt Go.Deep
theorem Jp0 {H:Type} (d:DataW H):1 <=Rows.uptoBulk d:=by
 cases d with
 |lit l=>cases l <;> simp[Rows.uptoBulk]
 |_=>simp[Rows.uptoBulk]
theorem sy0 {H:Type} {d:DataW H}:∀{l:List (DataW H)},d∈l->Rows.uptoBulk d <=Rows.uptoBulkAll l
 |x::r,h=>by
  simp only[Rows.uptoBulkAll];rcases List.mem_cons.1 h with rfl|h
  ·omega
  ·have:=sy0 h;omega
theorem xd0 {H:Type}:∀(l:List (DataW H)),l.length <=Rows.uptoBulkAll l
 | []=>Nat.zero_le _
 |x::r=>by
  have:=Jp0 x;have:=xd0 r;simp only[Rows.uptoBulkAll,List.length_cons];omega
theorem Ty0 {H:Type} {l:List (DataW H)} (h:Rows.uptoSmall H l=true):Rows.uptoBulkAll l <=1048576:=of_decide_eq_true h
section
variable {H:Type}{enc:TypeId×Value->H}{W:World}{base:Nat}{spare:Nat->Bool}{held:Bool}{P:Program}
theorem mr0 {t e:TypeId} {s:Nat} {a:Option Addr} {len cap fuel:Nat} {x:DataW H×List MemPlace} (ht:P.underlying t=some (.slice e)) (hs:P.cellsOf e=s) (h0:0<s) (h:DataW.trod enc P W base spare held fuel t [.slice a len cap]=some x) :
  SL a len/\(a=none->len=0/\cap=0)/\(len <=cap/\len <=Rows.uptoBulk x.1)/\∃n,∀i,i<len->∃cs y,Rows.uptoBulk y.1 <=Rows.uptoBulk x.1/\cs.length=s/\(∀(j:Nat) v,cs[j]? =some v->W.cell? ⟨ab a,ao a+i*s+j,none⟩=some v)/\DataW.trod enc P W base spare held n e cs=some y:=by
 rcases open_slice ht h with⟨hcs,_⟩|⟨ad,l,c,m,n,D,Pl,hcs,hb,hl,hm,hmm,hx,hi⟩
 ·simp at hcs;obtain⟨rfl,rfl,rfl⟩:=hcs;exact⟨SL.zero _,fun _=>⟨rfl,rfl⟩,⟨Nat.le_refl _,Nat.zero_le _⟩,0,fun i hi=>absurd hi (Nat.not_lt_zero _)⟩
 ·simp at hcs;obtain⟨rfl,rfl,rfl⟩:=hcs;have hlm:len <=m:=by rw[hmm];split <;> omega
  have hbk:Rows.uptoBulkAll ((List.range len).map D) <=Rows.uptoBulk x.1:=by
   rw[hx];simp only[Rows.uptoBulk];omega
  have hE:∀i,i<len->∃cs y,Rows.uptoBulk y.1 <=Rows.uptoBulk x.1/\cs.length=s/\(∀(j:Nat) v,cs[j]? =some v->W.cell? ((ad.add (i*s)).add j)=some v)/\DataW.trod enc P W base spare held n e cs=some y:=fun i n7=>by
   obtain⟨cs,h1,h2⟩:=hi i (by omega);rw[hs]at h1;obtain⟨_,h4,h3⟩:=World.cells?_some h1;refine⟨cs,_,Nat.le_trans (sy0 (List.mem_map.2 ⟨i,by simpa using n7,rfl⟩)) hbk,h4,fun j v hj=>?_,h2⟩;have:j<s:=by rw[<- h4];exact(List.getElem?_eq_some_iff.1 hj).1
   rw[h3 j this];exact hj
  have hsp:0<len->ad=⟨ad.block,ad.off,none⟩:=fun hl0=>by
   obtain⟨cs,y,_,h1,h2,_⟩:=hE 0 hl0;obtain⟨v,hv⟩:∃v,cs[0]? =some v:=⟨_,List.getElem?_eq_getElem (by omega)⟩
   have:=h2 0 v hv;rw[Nat.zero_mul]at this;have e1:(ad.add 0).add 0=ad:=by simp[Addr.add]
   rw[e1]at this;obtain⟨b,o,sp⟩:=ad;cases sp with
   |none=>rfl
   |some sp=>unfold World.cell? at this;simp at this;split at this <;> simp at this
  refine⟨fun hl0=>by rw[hsp hl0];rfl,(fun h=>by cases h),⟨hl,?_⟩,n,fun i n7=>?_⟩
  ·have:=xd0 ((List.range len).map D);rw[List.length_map,List.length_range]at this;omega
  ·obtain⟨cs,y,h5,h1,h2,h3⟩:=hE i n7;refine⟨cs,y,h5,h1,fun j v hj=>?_,h3⟩;have:=h2 j v hj;rw[hsp (by omega),Addr.add_lit,Addr.add_lit]at this;exact this
end
section
variable {H:Type}{enc:TypeId×Value->H}{W:World}{base:Nat}{spare:Nat->Bool}{held:Bool}
theorem xe0:prog.cellsOf 52=4:=by kernel_rfl
theorem Jq0:prog.cellsOf 2=1:=by kernel_rfl
theorem Da0:prog.cellsOf 50=1:=by kernel_rfl
theorem ff1 {α:Type}:∀{cs:List α},cs.length=4->∃a b c d,cs=[a,b,c,d]
 | [a,b,c,d],_=>⟨a,b,c,d,rfl⟩
instance:Inhabited D3:=⟨⟨0,0,0,0⟩⟩
set_option maxRecDepth 100000 in
theorem Db0 {n:Nat} {cs:List Value} {x:DataW H×List MemPlace} (h:DataW.trod enc prog W base spare held n 52 cs=some x):∃o:D3,cs=yt0 o:=by
 obtain⟨m,hl,hf⟩:=yn0 underlying52 h;rw[xe0]at hl;obtain⟨v0,v1,v2,v3,rfl⟩:=ff1 hl;obtain⟨y0,h0⟩:∃y,DataW.trod enc prog W base spare held m 3 (([v0,v1,v2,v3].drop 0).take (prog.cellsOf 3))=some y:=hf 0 _ rfl;obtain⟨y1,h1⟩:∃y,DataW.trod enc prog W base spare held m 3 (([v0,v1,v2,v3].drop 1).take (prog.cellsOf 3))=some y:=hf 1 _ rfl;obtain⟨y2,h2⟩:∃y,DataW.trod enc prog W base spare held m 3 (([v0,v1,v2,v3].drop 2).take (prog.cellsOf 3))=some y:=hf 2 _ rfl;obtain⟨y3,h3⟩:∃y,DataW.trod enc prog W base spare held m 2 (([v0,v1,v2,v3].drop 3).take (prog.cellsOf 2))=some y:=hf 3 _ rfl;rw[wm0]at h0 h1 h2;rw[Jq0]at h3;obtain⟨z0,g0,_⟩:=DataW.trod_int underlying3 h0;obtain⟨z1,g1,_⟩:=DataW.trod_int underlying3 h1;obtain⟨z2,g2,_⟩:=DataW.trod_int underlying3 h2;obtain⟨z3,g3,_⟩:=DataW.trod_int underlying2 h3;refine⟨⟨z0,z1,z2,z3⟩,?_⟩;simp at g0 g1 g2 g3;rw[g0,g1,g2,g3];rfl
theorem Nh0 {n len cap:Nat} {a:Option Addr} {x:DataW H×List MemPlace} (h:DataW.trod enc prog W base spare held n 50 [.slice a len cap]=some x) (hx:Rows.uptoBulk x.1 <=1048576):∃l:List D3,l.length=len/\SL a len/\len <=1048576/\(∀(k:Nat) (o:D3),l[k]? =some o->∀(j:Nat) (v:Value),(yt0 o)[j]? =some v->W.cell? ⟨ab a,ao a+k*4+j,none⟩=some v):=by
 obtain⟨h1,_,⟨_,h2⟩,m,h3⟩:=mr0 underlying50 xe0 (by decide) h;obtain⟨f,hf⟩:=mb0 (α:=D3) (n:=len) (p:=fun i o=>∀(j:Nat) (v:Value),(yt0 o)[j]? =some v->W.cell? ⟨ab a,ao a+i*4+j,none⟩=some v) fun i hi=>by
  obtain⟨cs,y,g0,_,g2,g3⟩:=h3 i hi;obtain⟨o,rfl⟩:=Db0 g3;exact⟨o,g2⟩
 refine⟨(List.range len).map f,by simp,h1,by omega,fun k o hk=>?_⟩;have hkl:k<len:=by
  have:=(List.getElem?_eq_some_iff.1 hk).1;simpa using this
 simp[hkl]at hk;rw[<- hk];exact hf k hkl
theorem Ni0 {a:Option Addr} {len cap:Nat} {d:DataW H} {p:List MemPlace} (h:DataW.Trod enc prog W base spare held 23 (.slice a len cap) d p) (hd:Rows.uptoBulk d <=1048576):∃sc,uh0 (dc0 W) a len cap sc/\len <=1048576:=by
 obtain⟨fuel,hf⟩:=h;obtain⟨h1,h2,h4,n,h3⟩:=mr0 underlying23 wm0 Nat.one_pos (show DataW.trod enc prog W base spare held fuel 23 [.slice a len cap]=_ from hf);have h4c:=h4.1;have h4:len <=Rows.uptoBulk d:=h4.2;obtain⟨sc,hsc⟩:=mb0 (α:=Int) (n:=len) (p:=fun i z=>W.cell? ⟨ab a,ao a+i*1,none⟩=some (.int .i64 z)) fun i hi=>by
  obtain⟨cs,y,_,_,g2,g3⟩:=h3 i hi;obtain⟨z,rfl,_⟩:=DataW.trod_int underlying3 g3;exact⟨z,g2 0 _ rfl⟩
 exact⟨sc,⟨h1,h2,h4c,fun j hj=>im0 (hsc j hj)⟩,by omega⟩
theorem Nj0 {a:Option Addr} {len cap:Nat} {d:DataW H} {p:List MemPlace} (h:DataW.Trod enc prog W base spare held 22 (.slice a len cap) d p) (hd:Rows.uptoBulk d <=1048576):∃bo oa oc,V7 (dc0 W) a len bo oa oc/\len <=1048576/\∀i,len <=i->bo i=[]:=by
 obtain⟨fuel,hf⟩:=h;obtain⟨h1,h2,h4,n,h3⟩:=mr0 underlying22 Da0 Nat.one_pos (show DataW.trod enc prog W base spare held fuel 22 [.slice a len cap]=_ from hf);have h4c:=h4.1;have h4:len <=Rows.uptoBulk d:=h4.2;obtain⟨F,hF⟩:=mb0 (α:=List D3×Option Addr×Nat) (n:=len) (p:=fun i z=>W.cell? ⟨ab a,ao a+i*1,none⟩=some (.slice z.2.1 z.1.length z.2.2)/\SL z.2.1 z.1.length/\z.1.length <=1048576/\∀(k:Nat) (o:D3),z.1[k]? =some o->∀(j:Nat) (v:Value),(yt0 o)[j]? =some v->W.cell? ⟨ab z.2.1,ao z.2.1+k*4+j,none⟩=some v) fun i hi=>by
  obtain⟨cs,y,g0,g1,g2,g3⟩:=h3 i hi;have g0:Rows.uptoBulk y.1 <=Rows.uptoBulk d:=g0;have hcs:∃a' Tz0 Nk0,cs=[.slice a' Tz0 Nk0]:=by
   rcases DataW.trod_slice underlying50 g3 with⟨h0,_⟩|⟨a',Tz0,Nk0,_,_,_,_,h0,_⟩
   ·exact⟨_,_,_,h0⟩
   ·exact⟨_,_,_,h0⟩
  obtain⟨a',Tz0,Nk0,rfl⟩:=hcs;obtain⟨l,rfl,q1,q2,q3⟩:=Nh0 g3 (by omega);exact⟨(l,a',Nk0),g2 0 _ rfl,q1,q2,q3⟩
 refine⟨fun i=>if i<len then(F i).1 else [],fun i=>(F i).2.1,fun i=>(F i).2.2,⟨h1,fun i hi=>?_,fun i hi=>?_,fun i hi=>?_⟩,by omega,fun i hi=>if_neg (by omega)⟩
 ·show(dc0 W).cell? _=some (.slice _ (if i<len then(F i).1 else []).length _);rw[if_pos hi];exact im0 (hF i hi).1
 ·show fg0 (dc0 W) _ (if i<len then(F i).1 else []);rw[if_pos hi];exact⟨(hF i hi).2.1,fun k o ho j v hv=>im0 ((hF i hi).2.2.2 k o ho j v hv)⟩
 ·show(if i<len then(F i).1 else []).length <=_;rw[if_pos hi];exact(hF i hi).2.2.1
end
end Go.Vy.Sc
end
