/- What the claim leans on, part 5. Laws. -/
import Derived.Test.YtnifpkopeheodaaGreatK4
set_option linter.unusedVariables false
section
namespace Go.Yc
open Go Go.Conc Go.Wg Go.Vy
open Go.ConcN (sumTo upd sumTo_upd upd_ne upd_same sumTo_congr)
section
attribute [local irreducible] KK
theorem ei0 {x:Nat} {fn:FuncId} {pos:String} {m:Mark}:MemOp.ofEvents x fn pos #[⟨.mark m,false,true⟩]=#[{g:=x,fn,pos,act:=.mark m}]:=by
 rw[ofEvents_eq];simp[MemAct.ofEvent]
theorem tq0 {pm:PM} {b k:Nat} {o:Obj} (h:BM (ix0 pm b o) k):BM pm k:=by
 obtain⟨x,hx⟩:=h;obtain⟨y,hy,e⟩:=List.mem_map.1 hx;by_cases e1:y.1=b
 ·rw[if_pos e1]at e;cases e;exact⟨y.2,by rw[<- e1];exact hy⟩
 ·rw[if_neg e1]at e;cases e;exact⟨_,hy⟩
theorem mem_set {pm:PM} {b:Nat} {o:Obj} {x:Nat×Obj} (h:x∈ix0 pm b o):(x=(b,o)/\BM pm b)\/(x∈pm/\x.1≠b):=by
 obtain⟨y,hy,e⟩:=List.mem_map.1 h;by_cases e1:y.1=b
 ·rw[if_pos e1]at e;exact .inl ⟨e.symm,y.2,by rw[<- e1];exact hy⟩
 ·rw[if_neg e1]at e;subst e;exact .inr ⟨hy,e1⟩
theorem heap_put {w:World} {b i:Nat} {cs:Array Value} {T:TypeId} {v:Value} (h:w.heap[b]? =some (.cells cs T (0,0))):(w.setCell ⟨b,i,none⟩ v).heap[b]? =some (.cells (cs.setIfInBounds i v) T (0,0)):=by
 rw[heap_setCell,h];simp
theorem tr0 {w:World} {b:Nat} {o:Obj} (h:w.heap[b]? =some o):b<w.heap.size:=(Array.getElem?_eq_some_iff.1 h).1
theorem heap_alloc {w:World} {b:Nat} {o x:Obj} (h:w.heap[b]? =some x):(w.alloc o).heap[b]? =some x:=by
 show(w.heap.push o)[b]? =_;rw[Array.getElem?_push,if_neg (by have:=tr0 h;omega)];exact h
theorem heap_alloc_new {w:World} {o:Obj}:(w.alloc o).heap[w.heap.size]? =some o:=by
 show(w.heap.push o)[w.heap.size]? =_;rw[Array.getElem?_push,if_pos rfl]
section
variable {P:Program}{X:Gh}{G:I4}{c bx n0:Nat}{w0:World}{L0 Lc:Q3}{A:Addr}{Fp:PM->Prop}{N:Nat}{σ:Bd}{r:Option Nat}{v7 R6:PM}{d:Nat}{T:Trace}{gs:Array Goroutine}{w:World}{q:Nat->Nat}
theorem StB.Cf0 (S:StB X G c bx w0 L0 Lc):G.blk<w0.heap.size/\G.blk≠bx:=⟨S.gb _ ⟨G,.inl S.L2,rfl⟩,fun e=>S.bx.2 ⟨G,.inl S.L2,e.symm⟩⟩
theorem StB.ng (S:StB X G c bx w0 L0 Lc) {b:Nat} (h:b=bx\/w0.heap.size <=b):b≠G.blk:=by
 have:=S.Cf0;rintro rfl;rcases h with e|e
 ·exact this.2 e
 ·omega
def ByB (P:Program) (X:Gh) (G:I4) (c bx n0:Nat) (w0:World) (L0 Lc:Q3) (A:Addr) (Fp:PM->Prop) (N:Nat) (σ:Bd) (v7:PM) (d:Nat) (T:Trace) (gs:Array Goroutine) (w:World) (q:Nat->Nat) (i:Nat) (sl:Option (Nat×Nat)):Prop :=
 ∃G4 ops q' w' σ' r' pmc',runT P (crowd gs w sl) i=(.next (crowd G4 w' sl),ops)/\G4.size=gs.size/\(∀g0,gs[0]? =some g0->G4[0]? =some g0\/G4[0]? =some (g0.again w'))/\Rb P X G c bx n0 w0 L0 Lc A Fp N σ' r' v7 pmc' d (T++ops) G4 w' q'/\sumTo G4.size q'<sumTo gs.size q/\frB σ'=frB σ /\
   (σ'= .done->σ= .done\/∀g0,gs[0]? =some g0->G4[0]? =some (g0.again w'))/\(σ= .out->σ'= .out)
theorem Rb.by (C:Rb P X G c bx n0 w0 L0 Lc A Fp N σ r v7 R6 d T gs w q) (S:StB X G c bx w0 L0 Lc) {i:Nat} {g:Goroutine} {sl:Option (Nat×Nat)} (hi:gs[i]? =some g) (r3:i≠0) (g4:g.status= .running):ByB P X G c bx n0 w0 L0 Lc A Fp N σ v7 d T gs w q i sl:=by
 have pack:∀{g':Goroutine} {w':World} {σ':Bd} {r':Option Nat} {pmc':PM},(∃G4 ops q',runT P (crowd gs w sl) i=(.next (crowd G4 w' sl),ops)/\G4.size=gs.size/\(∀g0,gs[0]? =some g0->G4[0]? =some (woken P g g' w' g0))/\Rb P X G c bx n0 w0 L0 Lc A Fp N σ' r' v7 pmc' d (T++ops) G4 w' q'/\sumTo G4.size q'<sumTo gs.size q) ->
   frB σ'=frB σ->((σ'= .done->σ= .done\/∀g0,woken P g g' w' g0=g0.again w')/\(σ= .out->σ'= .out))->ByB P X G c bx n0 w0 L0 Lc A Fp N σ v7 d T gs w q i sl:=by
  rintro g' w' σ' r' pmc' ⟨G4,ops,q',h1,h2,h3,h4,h5⟩ hf hd;refine⟨G4,ops,q',w',σ',r',pmc',h1,h2,fun g0 h0=>?_,h4,h5,hf,fun e=>(hd.1 e).imp id fun z g0 h0=>?_,hd.2⟩
  ·rw[h3 g0 h0];rcases ud0 P g g' w' g0 with e|e <;> rw[e]
   ·exact .inl rfl
   ·exact .inr rfl
  ·rw[h3 g0 h0,z g0]
 have quit:QuitsD P (q i) (Deaf T i) g->(i=c->(σ= .out\/σ= .done)/\r≠none)->ByB P X G c bx n0 w0 L0 Lc A Fp N σ v7 d T gs w q i sl:=fun hQ hc=>by
  cases hq:q i with
  |zero=>rw[hq]at hQ;rw[hQ.1]at g4;cases g4
  |succ k=>
   rw[hq]at hQ;rcases hQ with⟨hf,_⟩|⟨_,g',es,hm,y3,hQ⟩
   ·rw[hf]at g4;cases g4
   ·refine pack (C.move (sl:=sl) hi r3 (y3 w) hq (C.tb.L2 C.n0 S.L2 (fun e he=>uc0 (hm e he)) (.inl fun e he=>touch_mute (hm e he))) C.wf C.own C.apart C.x6 C.fin ⟨fun e=>?_,fun e=>⟨rfl,rfl,rfl,hQ⟩⟩) rfl ⟨fun e=>.inl e,id⟩;subst e;obtain⟨h1,h2⟩:=hc rfl;rcases h1 with rfl|rfl
    ·exact⟨h2,hQ⟩
    ·exact⟨h2,hQ⟩
 by_cases hic:i=c
 case neg=>exact quit (C.rest i g r3 hic hi) fun e=>absurd e hic
 subst hic;have X5:=C.child g hi;cases hq:q i with
 |zero=>
  rw[hq]at X5;cases σ with
  |up wt=>rcases X5 with⟨_,_,h⟩|⟨_,h⟩ <;> exact h.elim
  |last s=>exact X5.2.2.elim
  |out=>rw[X5.2.1]at g4;cases g4
  |done=>rw[X5.2.1]at g4;cases g4
 |succ k=>
 cases σ with
 |out=>exact quit X5.2 fun _=>⟨.inl rfl,X5.1⟩
 |done=>exact quit X5.2 fun _=>⟨.inr rfl,X5.1⟩
 |up wt=>
  rw[hq]at X5;rcases X5 with⟨hr,hd0,hM⟩|⟨hr,hL⟩
  ·subst hr;unfold MP at hM;rcases hM with⟨hr,hF,g',S2,hL⟩|⟨_,⟨g',es,hr',y9,S2,hM⟩|⟨g',b,cs,T1,o,v,es,hr',hm,y9,S2,hM⟩|⟨gf,cs,T1,hr',S2,hM⟩⟩
   ·
    refine pack (C.move (sl:=sl) (σ':=.up wt) (r':=some T.size) (pmc':=R6) hi r3 (S2 w) hq (by rw[ei0];exact C.tb.release C.n0 hd0) C.wf C.own C.apart C.x6 (fun _=>hF) ⟨fun _=>.inr ⟨by simp,?_⟩,fun e=>absurd rfl e⟩) rfl ⟨fun e=>(by cases e),fun e=>(by cases e)⟩;rw[hd0];exact hL
   ·have hd:deafBehind (Deaf T i) es=Deaf T i:=deafBehind_still (fun e he=>(y9 e he).on.2.2) _;refine pack (C.move (sl:=sl) (σ':=.up wt) (r':=none) (pmc':=R6) hi r3 (S2 w (C.Ic0 S)) hq (C.tb.own C.apart C.n0 r2 (fun op H5 bb hb=>?_) fun h=>absurd rfl h) C.wf C.own C.apart C.x6 C.fin ⟨fun _=>.inl ⟨rfl,hd.trans hd0,hM⟩,fun e=>absurd rfl e⟩) rfl ⟨fun e=>(by cases e),fun e=>(by cases e)⟩;obtain⟨e,he,rfl⟩:=Go.Conc.mem_ofEvents H5;have:=(y9 e he).on.1 bb hb;exact⟨S.onc C.Zs0 this,.inr ⟨rfl,this,rfl⟩⟩
   ·have hd:deafBehind (Deaf T i) es=Deaf T i:=deafBehind_still (fun e he=>(dh0 (L:=Lc) hm (y9 e he)).2.2) _;have hob:=(C.own _ (.inr hm))
    have hng:=S.ng hob.1;have u3:∀x,x∈v7\/x∈ix0 R6 b (.cells (cs.setIfInBounds o v) T1 (0,0))->(x.1=bx\/w0.heap.size <=x.1)/\(w.setCell ⟨b,o,none⟩ v).heap[x.1]? =some x.2:=fun x hx=>by
     rcases hx with hx|hx
     ·have h1:=C.own x (.inl hx);have:x.1≠b:=fun e=>C.apart.own x.1 ⟨x.2,hx⟩ ⟨_,by rw[e];exact hm⟩;exact⟨h1.1,by rw[D1 w v (a:=⟨b,o,none⟩) this];exact h1.2⟩
     ·rcases mem_set hx with⟨rfl,_⟩|⟨hx,hxb⟩
      ·exact⟨hob.1,heap_put hob.2⟩
      ·have h1:=C.own x (.inr hx);exact⟨h1.1,by rw[D1 w v (a:=⟨b,o,none⟩) hxb];exact h1.2⟩
    refine pack (C.move (sl:=sl) (σ':=.up wt) (r':=none) (pmc':=ix0 R6 b (.cells (cs.setIfInBounds o v) T1 (0,0))) hi r3 (S2 w (C.Ic0 S)) hq ?_ (C.wf.cell v hob.1 hng) u3 ⟨fun p hp h=>C.apart.l0 p hp (tq0 h),C.apart.lc,fun bb h h'=>C.apart.own bb h (tq0 h')⟩
     (C.x6.of_block (D1 w v (a:=⟨b,o,none⟩) (Ne.symm hng))) (fun h=>absurd rfl h) ⟨fun _=>.inl ⟨rfl,hd.trans hd0,hM⟩,fun e=>absurd rfl e⟩) rfl ⟨fun e=>(by cases e),fun e=>(by cases e)⟩
    refine(C.tb.own C.apart C.n0 r2 (fun op H5 bb hb=>?_) fun h=>absurd rfl h).grow (fun _ h=>h) fun k hk=>?_
    ·obtain⟨e,he,rfl⟩:=Go.Conc.mem_ofEvents H5;have:=(dh0 (L:=Lc) hm (y9 e he)).1 bb hb;exact⟨S.onc C.Zs0 this,.inr ⟨rfl,this,rfl⟩⟩
    ·obtain⟨x,hx⟩:=hk;by_cases e:k=b
     ·exact⟨.cells (cs.setIfInBounds o v) T1 (0,0),List.mem_map.2 ⟨(k,x),hx,by rw[if_pos e,e]⟩⟩
     ·exact⟨x,List.mem_map.2 ⟨(k,x),hx,by rw[if_neg e]⟩⟩
   ·have n2:=C.wf.size;have hd:deafBehind (Deaf T i) #[]=Deaf T i:=rfl;refine pack (C.move (sl:=sl) (σ':=.up wt) (r':=none) (pmc':=(w.heap.size,.cells cs T1 (0,0))::R6) hi r3 (S2 w) hq ?_ (C.wf.alloc _ S.Cf0.1) (fun x hx=>?_) ⟨fun p hp h=>?_,C.apart.lc,fun bb h h'=>?_⟩ (C.x6.of_block ?_) (fun h=>absurd rfl h) ⟨fun _=>.inl ⟨rfl,hd.trans hd0,hM w.heap.size⟩,fun e=>absurd rfl e⟩) rfl ⟨fun e=>(by cases e),fun e=>(by cases e)⟩
    ·refine(C.tb.mute C.n0 (fun op H5=>?_) fun h=>absurd rfl h).grow (fun _ h=>h) fun k ⟨x,hx⟩=>⟨x,List.mem_cons_of_mem _ hx⟩
     obtain⟨e,he,rfl⟩:=Go.Conc.mem_ofEvents H5;simp at he
    ·rcases hx with hx|hx
     ·have:=C.own x (.inl hx);exact⟨this.1,heap_alloc this.2⟩
     ·rcases List.mem_cons.1 hx with rfl|hx
      ·exact⟨.inr n2,heap_alloc_new⟩
      ·have:=C.own x (.inr hx);exact⟨this.1,heap_alloc this.2⟩
    ·obtain⟨x,hx⟩:=h;rcases List.mem_cons.1 hx with e|hx
     ·have:=(S.st p (.inl hp)).2.1;have e:=congrArg Prod.fst e;simp only at e;omega
     ·exact C.apart.l0 p hp ⟨x,hx⟩
    ·obtain⟨x,hx⟩:=h';rcases List.mem_cons.1 hx with e|hx
     ·obtain⟨y,hy⟩:=h;have:=tr0 (C.own _ (.inl hy)).2;cases e;simp at this
     ·exact C.apart.own bb h ⟨x,hx⟩
    ·show(w.heap.push _)[G.blk]? =_;rw[Array.getElem?_push,if_neg (by have:=S.Cf0.1;omega)]
  ·unfold Lt at hL;have hUs:UsB i (.up wt) i:=.inr ⟨rfl,trivial⟩;rcases hL with⟨g',es,⟨_,hsy,y3⟩,hL⟩|⟨_,hd0,ua0⟩
   ·exact pack (C.move (sl:=sl) (σ':=.up wt) (r':=r) (pmc':=R6) hi r3 (y3 w _ _ C.x6) hq (C.tb.L2 C.n0 S.L2 (fun e he=>cn0 (hsy e he)) (.inl fun e he=>X7 (hsy e he))) C.wf C.own C.apart C.x6 C.fin ⟨fun _=>.inr ⟨hr,hL⟩,fun e=>absurd rfl e⟩) rfl ⟨fun e=>(by cases e),fun e=>(by cases e)⟩
   ·have dv0:=C.x6;obtain⟨g',y3,ez0,Cv0⟩:=ua0 0 (if wt then 1 else 0) (by split <;> omega) (by omega);have S2:=y3 w dv0;have hdd:deafBehind (Deaf T i) #[rdA (stA G),wrA (stA G)]=Deaf T i:=deafBehind_still jm0 _;have htb:TB X.Sh (UsB i (.up wt)) i n0 L0 Lc (BM v7) (BM R6) A r (T++MemOp.ofEvents i g.frame.fn g.frame.place #[rdA (stA G),wrA (stA G)]):=C.tb.L2 C.n0 S.L2 C9 (.inr ⟨hUs,fun _ j _=>by rw[Y7 jm0];omega⟩);have q7:∀x,x∈v7\/x∈R6->(x.1=bx\/w0.heap.size <=x.1)/\(w.setCell (stA G) (.int .u64 ((0*KK+(if wt then 1 else 0):Nat):Int))).heap[x.1]? =some x.2:=fun x hx=>by
     have:=C.own x hx;exact⟨this.1,by rw[D1 w _ (a:=stA G) (S.ng this.1)];exact this.2⟩
    have hg2:=dv0.setSt ((0*KK+(if wt then 1 else 0):Nat):Int);cases wt with
    |false=>
     refine pack (C.move (sl:=sl) (σ':=.out) (r':=r) (pmc':=R6) hi r3 S2 hq (htb.leave fun x hx=>?_) (C.wf.Ia0 dv0 rfl rfl (Nat.le_refl _) _) q7 C.apart ?_ C.fin ⟨fun _=>⟨hr,by rw[hdd];exact ez0 (by simp)⟩,fun e=>absurd rfl e⟩) rfl ⟨fun e=>(by cases e),fun e=>(by cases e)⟩
     ·rcases hx with e|⟨_,h⟩
      ·exact .inl e
      ·exact h.elim
     ·have e1:((0*KK+(if false=true then 1 else 0):Nat):Int)=0:=by rw[Nat.zero_mul];rfl
      rw[e1]at hg2⊢;exact hg2
    |true=>
     refine pack (C.move (sl:=sl) (σ':=.last 2) (r':=r) (pmc':=R6) hi r3 S2 hq (htb.leave fun x hx=>?_) (C.wf.Ia0 dv0 rfl rfl (Nat.le_refl _) _) q7 C.apart ?_ C.fin ⟨fun _=>⟨hr,Nat.le_refl _,by rw[hdd];exact Cv0 ⟨rfl,rfl⟩⟩,fun e=>absurd rfl e⟩) rfl ⟨fun e=>(by cases e),fun e=>(by cases e)⟩
     ·rcases hx with e|⟨e,_⟩
      ·exact .inl e
      ·exact .inr ⟨e,trivial⟩
     ·have e1:((0*KK+(if true=true then 1 else 0):Nat):Int)=1:=by rw[Nat.zero_mul];rfl
      rw[e1]at hg2⊢;exact hg2
 |last s=>
  rw[hq]at X5;obtain⟨hr,hs2,hL⟩:=X5;unfold Lst at hL;obtain⟨hd0,hL⟩:=hL;have hUs:UsB i (.last s) i:=.inr ⟨rfl,trivial⟩;have q7:∀(a:Addr) (v:Value),a.block=G.blk->∀x,x∈v7\/x∈R6->(x.1=bx\/w0.heap.size <=x.1)/\(w.setCell a v).heap[x.1]? =some x.2:=fun a v ha x hx=>by
   have:=C.own x hx;exact⟨this.1,by rw[D1 w _ (by rw[ha];exact S.ng this.1)];exact this.2⟩
  rcases hL with⟨g',es,⟨_,hsy,y3⟩,hnm,hL⟩|⟨_,hL⟩
  ·exact pack (C.move (sl:=sl) (σ':=.last s) (r':=r) (pmc':=R6) hi r3 (y3 w _ _ C.x6) hq (C.tb.L2 C.n0 S.L2 (fun e he=>cn0 (hsy e he)) (.inl fun e he=>X7 (hsy e he))) C.wf C.own C.apart C.x6 C.fin ⟨fun _=>⟨hr,hs2,by rw[deafBehind_still hnm];exact hL⟩,fun e=>absurd rfl e⟩) rfl ⟨fun e=>(by cases e),fun e=>(by cases e)⟩
  ·rcases s with _|_|_|s
   ·simp only at hL;obtain⟨hwk,g',y3,hQ⟩:=hL;have S2:=y3 w C.x6;refine pack (C.move (sl:=sl) (σ':=.done) (r':=r) (pmc':=R6) hi r3 S2 hq ((C.tb.L2 C.n0 S.L2 jl0 (.inr ⟨hUs,fun _=>ig0 hd0⟩)).leave fun x hx=>?_) (C.wf.Ia0 C.x6 rfl rfl (Nat.le_succ _) _) (q7 (smA G) _ rfl) C.apart (C.x6.setSm _) C.fin ⟨fun _=>⟨hr,by rw[fb0];exact hQ⟩,fun e=>absurd rfl e⟩) rfl ⟨fun _=>.inr fun g0=>?_,fun e=>(by cases e)⟩
    ·rcases hx with e|⟨_,h⟩
     ·exact .inl e
     ·exact h.elim
    ·unfold woken;rw[if_pos];rw[hwk];rcases hQ.status with e|e <;> rw[e] <;> rfl
   ·simp only at hL;obtain⟨g',y3,hL⟩:=hL;have S2:=y3 w C.x6;exact pack (C.move (sl:=sl) (σ':=.last 0) (r':=r) (pmc':=R6) hi r3 S2 hq ((C.tb.L2 C.n0 S.L2 Cs0 (.inr ⟨hUs,fun _ j _=>by rw[Y7 fc0];omega⟩)).leave fun x hx=>hx) (C.wf.Ia0 C.x6 rfl rfl (Nat.le_refl _) _) (q7 (stA G) _ rfl) C.apart (C.x6.setSt _) C.fin ⟨fun _=>⟨hr,by omega,by rw[deafBehind_still fc0];exact hL⟩,fun e=>absurd rfl e⟩) rfl ⟨fun e=>(by cases e),fun e=>(by cases e)⟩
   ·simp only at hL;obtain⟨g',y3,hL⟩:=hL;have S2:=y3 w C.x6;exact pack (C.move (sl:=sl) (σ':=.last 1) (r':=r) (pmc':=R6) hi r3 S2 hq ((C.tb.L2 C.n0 S.L2 go0 (.inr ⟨hUs,fun _ j _=>by rw[Y7 y8];omega⟩)).leave fun x hx=>hx) C.wf C.own C.apart C.x6 C.fin ⟨fun _=>⟨hr,by omega,by rw[deafBehind_still y8];exact hL⟩,fun e=>absurd rfl e⟩) rfl ⟨fun e=>(by cases e),fun e=>(by cases e)⟩
   ·omega
end
end
section
attribute [local irreducible] KK
def di0 (u:World) (bx:Nat) (ox:Obj) (k:Nat):World:={u with heap:=u.heap.setIfInBounds bx ox++Array.replicate k nothing}
def Gh.gj0 (X:Gh) (u:World) (bx k:Nat):Gh:={X with n:=X.n+1,pend:=0,cap:=0,dn:=0,low:=fun b=>X.low b\/b=bx\/(u.heap.size <=b/\b<u.heap.size+k)}
theorem gk0 {u:World} {bx k:Nat} {ox:Obj} {b:Nat} (h:b<u.heap.size) (hb:b≠bx):(di0 u bx ox k).heap[b]? =u.heap[b]?:=by
 show(u.heap.setIfInBounds bx ox++_)[b]? =_;rw[Array.getElem?_append_left (by simpa using h),Array.getElem?_setIfInBounds_ne (Ne.symm hb)]
theorem ts0 {u:World} {bx k:Nat} {ox:Obj} (h:bx<u.heap.size):(di0 u bx ox k).heap[bx]? =some ox:=by
 show(u.heap.setIfInBounds bx ox++_)[bx]? =_;rw[Array.getElem?_append_left (by simpa using h),Array.getElem?_setIfInBounds_self_of_lt h]
theorem wd0 {u:World} {bx k:Nat} {ox:Obj} {b:Nat} (h:u.heap.size <=b):(di0 u bx ox k).heap[b]? =if b<u.heap.size+k then some nothing else none:=by
 show(u.heap.setIfInBounds bx ox++_)[b]? =_;rw[Array.getElem?_append_right (by simpa using h),Array.getElem?_replicate];simp only[Array.size_setIfInBounds];split <;> split <;> first|rfl|omega
theorem ia0 {u:World} {bx k:Nat} {ox:Obj}:(di0 u bx ox k).heap.size=u.heap.size+k:=by
 show(u.heap.setIfInBounds bx ox++_).size=_;simp
theorem Ie0 {u w0 w:World} {G:I4} {bx k:Nat} {ρ:Nat->j6} {st sm:Int} {cs:Array Value} {T:TypeId} {f:Nat×Nat} (hs:I5 ρ (j3 u w0.tape w0.drawn) w0) (hc:Cut u G) (G8:x7 G st sm w0) (hg:x7 G 0 0 w) (hw:WF G bx w0 w) (hgx:G.blk≠bx) (hbx:bx<u.heap.size) (hk:w.heap.size=u.heap.size+k) (ho:w.heap[bx]? =some (.cells cs T f)) :
  ∃ρ',I5 ρ' (j3 (di0 u bx (.cells cs T f) k) w.tape w.drawn) w/\(∀b,b<u.heap.size->b≠bx->b≠G.blk->ρ' b=ρ b)/\∀b,u.heap.size+k <=b->ρ' b= .all:=by
 have n2:w0.heap.size=u.heap.size:=hs.size;have gc1:G.blk<u.heap.size:=by
  obtain⟨c,T,f,hb,_⟩:=hc;exact(Array.getElem?_eq_some_iff.1 hb).1
 have hy:=hg.extract;obtain⟨y,hyG⟩:∃y,w.heap[G.blk]? =some y:=⟨_,hy⟩
 have hw1:({w0 with heap:=w0.heap.setIfInBounds G.blk y}:World).heap[G.blk]? =some y:=by
  show(w0.heap.setIfInBounds G.blk y)[G.blk]? =_;rw[Array.getElem?_setIfInBounds_self_of_lt (by omega)]
 obtain⟨ρ1,h1,h2⟩:=I5.L2 (w':={w0 with heap:=w0.heap.setIfInBounds G.blk y}) hs hc G8 0 0 (by
   rw[hw1,<- hyG,hy];exact congrArg (fun z:Array Value×TypeId=>some (Obj.cells (z.1 ++ #[.int .u64 0,.int .u32 0]) z.2 (0,0))) hw.pre) (fun b hb=>by
   show(w0.heap.setIfInBounds G.blk y)[b]? =_;rw[Array.getElem?_setIfInBounds_ne (Ne.symm hb)]) (by simp) rfl rfl
 refine⟨fun b=>if b=bx then .all else if u.heap.size <=b/\b<u.heap.size+k then .gone ((w.heap[b]?).getD nothing) else ρ1 b,⟨hw.os.trans h1.os,hw.output.trans h1.output,rfl,rfl,hk.trans ia0.symm,fun b x hx=>?_,fun b hb=>?_,fun b x hx=>?_⟩,fun b h3 h4 h5=>?_,fun b hb=>?_⟩
 ·have W3:(di0 u bx (.cells cs T f) k).heap[b]? =some x:=hx;by_cases e:b=bx
  ·subst e;rw[ts0 hbx]at W3;obtain rfl:=Option.some.inj W3;exact⟨_,ho,by rw[if_pos rfl];exact .same _⟩
  ·rw[if_neg e];rcases Nat.lt_or_ge b u.heap.size with hb|hb
   ·rw[gk0 hb e]at W3;rw[if_neg (by omega)];obtain⟨z,hz,hl⟩:=h1.obj b x W3;refine⟨z,?_,hl⟩;by_cases eG:b=G.blk
    ·subst eG;rw[hw1]at hz;rw[hyG,hz]
    ·have hz':(w0.heap.setIfInBounds G.blk y)[b]? =some z:=hz;rw[Array.getElem?_setIfInBounds_ne (Ne.symm eG)]at hz';rw[hw.old b (by omega) eG e];exact hz'
   ·rw[wd0 hb]at W3;split at W3
    ·rename_i T2;obtain rfl:=Option.some.inj W3;obtain⟨z,hz⟩:∃z,w.heap[b]? =some z:=⟨_,Array.getElem?_eq_getElem (by omega)⟩
     refine⟨z,hz,?_⟩;rw[if_pos ⟨hb,T2⟩,hz];exact .gone _ _ _
    ·cases W3
 ·have n7:(di0 u bx (.cells cs T f) k).heap.size <=b:=hb;rw[ia0]at n7;show(if b=bx then _ else if _ then _ else _)=_;exact U509
 ·have W3:(di0 u bx (.cells cs T f) k).heap[b]? =some x:=hx;by_cases e:b=bx
  ·subst e;rw[ts0 hbx]at W3;obtain rfl:=Option.some.inj W3;rfl
  ·rcases Nat.lt_or_ge b u.heap.size with hb|hb
   ·rw[gk0 hb e]at W3;exact h1.A6 b x W3
   ·rw[wd0 hb]at W3;split at W3
    ·obtain rfl:=Option.some.inj W3;rfl
    ·cases W3
 ·show(if b=bx then _ else if _ then _ else _)=_;rw[if_neg h4,if_neg (by omega)];exact h2 b h5
 ·show(if b=bx then _ else if _ then _ else _)=_;exact U509
section
variable {P:Program}{X:Gh}{G:I4}{c bx n0:Nat}{u w0:World}{L0 Lc:Q3}{A:Addr}{Fp:PM->Prop}{N:Nat}{r:Option Nat}{v7 R6:PM}{T T0:Trace}{gs gs0:Array Goroutine}{w:World}{q q0:Nat->Nat}{live:Nat->Bool}
theorem ring_end (C0:Ring P X 0 u live T0 gs0 w0 q0) (o7:∀i,X.G1 i=none) (hl:z9 X bx) (hbx:bx<u.heap.size) (S:StB X G c bx w0 L0 Lc) (hN:N=X.n+1) (C:Rb P X G c bx n0 w0 L0 Lc A Fp N .out r v7 R6 0 T gs w q) {cs:Array Value} {Ty:TypeId} {f:Nat×Nat} (ho:(bx,.cells cs Ty f)∈R6) {g g':Goroutine} (hg:gs[0]? =some g) :
  ∃k,Ring P (X.gj0 u bx k) 0 (di0 u bx (.cells cs Ty f) k) (fun _=>false) (T++MemOp.ofEvents 0 g.frame.fn g.frame.place #[⟨.mark (.acquire A),false,true⟩]) ((gs.map (woken P g g' w)).setIfInBounds 0 g') w q/\((gs.map (woken P g g' w)).setIfInBounds 0 g')[0]? =some g':=by
 obtain⟨ρ,hs,hlw⟩:=C0.T9;have gd1:w0.heap.size=u.heap.size:=hs.size;obtain⟨k,hk⟩:∃k,w.heap.size=u.heap.size+k:=⟨w.heap.size-u.heap.size,by have:=C.wf.size;omega⟩
 obtain⟨mk0,G8⟩:=C0.L2 G S.L2;have dv0:x7 G 0 0 w:=C.x6;obtain⟨ρ',hs',hold,B1⟩:=Ie0 (k:=k) hs mk0 G8 dv0 C.wf S.Cf0.2 hbx hk (C.own _ (.inr ho)).2;have If0:0<gs.size:=(Array.getElem?_eq_some_iff.1 hg).1;have X5:∃gc,gs[c]? =some gc:=⟨_,Array.getElem?_eq_getElem C.size.1⟩
 obtain⟨gc,hgc⟩:=X5;have hr:=(C.child gc hgc).1;obtain⟨r0,rfl⟩:∃r0,r=some r0:=Option.ne_none_iff_exists'.1 hr;obtain⟨p1,p2,p3⟩:=C.tb.acquire (fn:=g.frame.fn) (ps:=g.frame.place) C.n0 C.d0;have ez0:∀i y,i≠0->gs[i]? =some y->QuitsD P (q i) (Deaf T i) y:=fun i y hi hy=>by
  by_cases e:i=c
  ·subst e;exact(C.child y hy).2
  ·exact C.rest i y hi e hy
 have hD:∀i,Deaf (T ++ #[{g:=0,fn:=g.frame.fn,pos:=g.frame.place,act:=MemAct.mark (.acquire A)}]) i=Deaf T i:=fun i=>Deaf_quiet (fun op H5 d=>by simp at H5;subst H5;rfl);have S7:∀b,b<u.heap.size->b≠bx->(di0 u bx (.cells cs Ty f) k).heap[b]? =u.heap[b]?:=fun b h1 h2=>gk0 h1 h2;have Og0:∀G',(X.L2=some G'\/G'∈X.old)->Cut u G'->Cut (di0 u bx (.cells cs Ty f) k) G':=fun G' hG' ⟨c',T',f',w6,dq1⟩=>⟨c',T',f',by rw[S7 _ (Array.getElem?_eq_some_iff.1 w6).1 (hl.L2 G' hG')];exact w6,dq1⟩
 have Ig0:∀b,b≠bx->bt0 u b->bt0 (di0 u bx (.cells cs Ty f) k) b:=fun b hb ⟨T',f',w6⟩=>⟨T',f',by rw[S7 b (Array.getElem?_eq_some_iff.1 w6).1 hb];exact w6⟩
 have hwk:∀b,b≠bx->(X.I7 b\/X.X3 b≠none)->bt0 u b->w.heap[b]? =w0.heap[b]?:=fun b hb X5 hgn=>C.wf.old b (by
  obtain⟨T',f',w6⟩:=hgn;have:=(Array.getElem?_eq_some_iff.1 w6).1;omega) (fun e=>by
  subst e;have:=C0.L7.2 G (.inl S.L2);exact X5.elim this.1 fun z=>z this.2) hb
 rw[ei0];refine⟨k,⟨⟨ρ',hs',fun b hb=>?_⟩,fun i y hi hy=>?_,o7 0,by simpa using If0,(by simp only[Array.size_setIfInBounds,Array.size_map];rw[C.size.2,hN];rfl),fun i p hp=>?_,fun ch hc=>?_,fun i s e=>(by have e':X.G1 i=some s:=e;rw[o7 i]at e';cases e'),fun i j s s' e=>(by have e':X.G1 i=some s:=e;rw[o7 i]at e';cases e'),
  fun b o e=>?_,fun G' e=>.inl (C0.V9 G' e),⟨fun ch e=>.inl (C0.L7.1 ch e),C0.L7.2⟩,fun G' e=>⟨Og0 G' (.inl e) (C0.L2 G' e).1,?_⟩,fun G' e=>Og0 G' (.inr e) (C0.old G' e),fun j hj=>?_,?_,fun i h=>(by cases h),fun i hi h=>?_,(hD 0).trans C.d0,?_⟩,Array.getElem?_setIfInBounds_self_of_lt (by simpa using If0)⟩
 ·have V4:¬X.low b:=fun z=>hb (.inl z);have hb2:b≠bx:=fun z=>hb (.inr (.inl z));have hb3:¬(u.heap.size <=b/\b<u.heap.size+k):=fun z=>hb (.inr (.inr z));show ρ' b=X.D4 b;rcases Nat.lt_or_ge b u.heap.size with h|h
  ·rw[hold b h hb2 fun e=>V4 (e▸C0.V9 G S.L2)];exact hlw b V4
  ·rw[B1 b (by omega),<- hlw b V4];exact(hs.new b h).symm
 ·rw[Array.getElem?_setIfInBounds_ne (fun e=>hi e.symm),Array.getElem?_map]at hy;obtain⟨y₀,hy₀,rfl⟩:=Option.map_eq_some_iff.1 hy;have h1:=ez0 i y₀ hi hy₀;rw[woken_of_again (again_of_running h1.status w)];unfold Idle;rw[show(X.gj0 u bx k).G1 i=none from o7 i];exact⟨by omega,by rw[if_neg (by simp),hD];exact h1⟩
 ·have h1:=C0.stays i p hp;obtain⟨c',T',f',w6,_,_⟩:=C4 h1.1;have:=u5 (u:=u) (u':=di0 u bx (.cells cs Ty f) k) (a:=p.1) (S7 _ (Array.getElem?_eq_some_iff.1 w6).1 (hl.stay i p hp));rw[this.1,this.2];exact h1
 ·obtain⟨h1,h2,kk,h3⟩:=C0.chans ch hc;have r3:ch≠bx:=fun e=>hl.I7 (e▸hc);exact⟨Ig0 ch r3 h1,h2,kk,by rw[hwk ch r3 (.inl hc) h1];exact h3⟩
 ·obtain⟨h1,h2,p,y,h3,h4⟩:=C0.X3 b o e;have r3:b≠bx:=fun z=>by subst z;have e2:X.X3 b=some o:=e;rw[hl.X3]at e2;cases e2
  exact⟨Ig0 b r3 h1,h2,p,y,by rw[hwk b r3 (.inr (by have e':X.X3 b=some o:=e;rw[e'];simp)) h1];exact h3,h4⟩
 ·have e':X.L2=some G':=e;rw[S.L2]at e';obtain rfl:=Option.some.inj e';have hz:count (fun _=>false) ((gs.map (woken P g g' w)).setIfInBounds 0 g').size=0:=by
   unfold count;generalize ((gs.map (woken P g g' w)).setIfInBounds 0 g').size=m
   induction m with
   |zero=>rfl
   |succ m ih=>show sumTo m _+_=0;rw[ih];rfl
  have hz':(((count (fun _=>false) ((gs.map (woken P g g' w)).setIfInBounds 0 g').size+(X.gj0 u bx k).pend)*KK:Nat):Int)=0:=by
   rw[hz];show(((0+0)*KK:Nat):Int)=0;rw[Nat.zero_add,Nat.zero_mul];rfl
  rw[hz'];exact dv0
 ·simp only[Array.size_setIfInBounds,Array.size_map]at hj;have h2:=C0.above j (by have:=C0.num;have:=C.size.2;omega);exact⟨(hD j).trans (C.above j hj),o7 j,rfl,h2.2.2.2⟩
 ·refine⟨?_,by show(0:Nat) <=65536;omega⟩;have hz:count (fun _=>false) ((gs.map (woken P g g' w)).setIfInBounds 0 g').size=0:=by
   unfold count;generalize ((gs.map (woken P g g' w)).setIfInBounds 0 g').size=m
   induction m with
   |zero=>rfl
   |succ m ih=>show sumTo m _+_=0;rw[ih];rfl
  rw[hz];exact Nat.le_refl _
 ·rcases h with h|h
  ·exact absurd (o7 i) h
  ·exact absurd h hi
 ·have hM:∀x,(X.gj0 u bx k).Mem 0 x->x=0:=fun x hx=>by
   rcases hx with⟨e,_⟩|h
   ·exact e
   ·exact absurd (o7 x) h
  refine⟨p1,fun i a ha hm hns=>.inl (p2 i a ha hm hns),fun i a ha _ x hx hS=>?_,fun x hx=>?_,fun i a x ha hsh hx=>?_⟩
  ·obtain rfl:=hM x hx;obtain⟨h1,h2⟩:=C0.base.Co0 (l:=a.loc) (i:=0) hS;exact p2 i a ha h1 h2
  ·obtain rfl:=hM x hx;rw[hD];exact C.d0
  ·refine(p3 i a x ha hsh hx).imp (fun z x' W3=>?_) id;rcases W3 with e|e
   ·exact z x' (.inl e)
   ·cases e
end
end
section
attribute [local irreducible] KK
section
variable (P:Program)(G:I4)(A:Addr)(K:Goroutine->Prop)
def WA:Nat->Nat->Goroutine->Prop
 |0,_,_=>False
 |n+1,d,g=>g.status= .running/\((∃g' es,(∀e∈es,GEv G 0 e)/\(∀w,x7 G 0 0 w->stepG P true g w= .go g' w es)/\WA n (deafBehind d es) g')\/(d=0/\∃g',(∀w,stepG P true g w= .go g' w #[⟨.mark (.acquire A),false,true⟩])/\WE P G K n 0 g'))
theorem WA.mono:∀{n m d:Nat} {g:Goroutine},WA P G A K n d g->n <=m->WA P G A K m d g
 |0,_,_,_,h,_=>h.elim
 |n+1,0,_,_,_,hm=>absurd hm (by omega)
 |n+1,m+1,_,_,⟨hr,h⟩,hm=>⟨hr,h.imp (fun⟨g',es,h1,h2,h3⟩=>⟨g',es,h1,h2,WA.mono h3 (by omega)⟩) fun⟨hd,g',h1,h2⟩=>⟨hd,g',h1,WE.mono h2 (by omega)⟩⟩
def Lx0 (n:Nat) (_:PM) (g:Goroutine):Prop:=WH P G (WA P G A K) n none 1 0 g
end
theorem WH.running {P:Program} {G:I4} {E:Nat->Nat->Goroutine->Prop} {n:Nat} {o:Option Nat} {V d:Nat} {g:Goroutine} (h:WH P G E n o V d g):g.status= .running:=by
 cases n with
 |zero=>exact h.elim
 |succ n=>
  unfold WH at h;rcases h with⟨_,_,hh,_⟩|hh
  ·exact hh.1
  ·exact hh.1
theorem WS.running {P:Program} {G:I4} {E:Nat->Nat->Goroutine->Prop} {n d:Nat} {g:Goroutine} (h:WS P G E n d g):g.status= .running:=by
 cases n with
 |zero=>exact h.elim
 |succ n=>
  rcases h with⟨_,_,hh,_⟩|⟨_,hh⟩
  ·exact hh.1
  ·exact hh.1
def ib0:Bd->Nat
 | .up _=>1
 |_=>0
theorem Ih0 {σ:Bd} (h:frB σ=true):bst σ=(((ib0 σ*KK:Nat):Int),0):=by
 cases σ with
 |up wt=>
  cases wt with
  |false=>show((((0+1)*KK+0:Nat):Int),(0:Int))=_;rw[Nat.add_zero,Nat.zero_add];rfl
  |true=>cases h
 |out=>show((0:Int),(0:Int))=(((0*KK:Nat):Int),0);rw[Nat.zero_mul];rfl
 |last s=>cases h
 |done=>cases h
structure tt0 (P:Program) (Post:Value->World->Prop) (X:Gh) (G:I4) (c bx:Nat) (u w0:World) (L0 Lc:Q3) (A:Addr) (ox:Obj) (N:Nat) (K:Goroutine->Prop):Prop where
 ring:∃live T0 gs0 q0,Ring P X 0 u live T0 gs0 w0 q0
 no:∀i,X.G1 i=none
 A9:z9 X bx
 blt:bx<u.heap.size
 st:StB X G c bx w0 L0 Lc
 num:N=X.n+1
 isx:∃cs T f,ox= .cells cs T f
 k:∀k g,K g->Fin P Post (X.gj0 u bx k) 0 g (di0 u bx ox k)
section
variable {P:Program}{Post:Value->World->Prop}{X:Gh}{G:I4}{c bx n0:Nat}{u w0:World}{L0 Lc:Q3}{A:Addr}{ox:Obj}{N:Nat}{K:Goroutine->Prop}{σ σ':Bd}{r:Option Nat}{v7 pm0' R6:PM}{d:Nat}{T:Trace}{gs:Array Goroutine}{w w':World}{q:Nat->Nat}
theorem Rb.awake {Fp:PM->Prop} (C:Rb P X G c bx n0 w0 L0 Lc A Fp N σ r v7 R6 d T gs w q) {a:Goroutine} (ha:gs[0]? =some a) (hs:a.status= .running\/a.status= .blocked):∀g∈gs,awake g:=by
 intro g hg;obtain⟨i,hi,rfl⟩:=Array.mem_iff_getElem.1 hg;by_cases e:i=0
 ·subst e;have:gs[0]=a:=by simpa [Array.getElem?_eq_getElem hi]using ha
  rw[this];exact awake_of (hs.elim .inl fun x=>.inr (.inl x))
 ·exact awake_of ((C.status e (Array.getElem?_eq_getElem hi)).elim .inl fun x=>.inr (.inr x))
theorem Rb.main {Fp:PM->Prop} (C:Rb P X G c bx n0 w0 L0 Lc A Fp N σ r v7 R6 d T gs w q) (hc0:c≠0) {g g':Goroutine} {es:Array Event} (tb':TB X.Sh (UsB c σ') c n0 L0 Lc (BM pm0') (BM R6) A r (T++MemOp.ofEvents 0 g.frame.fn g.frame.place es)) (wf':WF G bx w0 w') (Bi0:∀x,x∈pm0'\/x∈R6->(x.1=bx\/w0.heap.size <=x.1)/\w'.heap[x.1]? =some x.2) (yj0:Apart L0 Lc (BM pm0') (BM R6)) (Id0:x7 G (bst σ').1 (bst σ').2 w')
  (X5:∀d n y,dg0 P G Lc A Fp σ r R6 d n y->dg0 P G Lc A Fp σ' r R6 d n y):Rb P X G c bx n0 w0 L0 Lc A Fp N σ' r pm0' R6 (deafBehind d es) (T++MemOp.ofEvents 0 g.frame.fn g.frame.place es) ((gs.map (woken P g g' w')).setIfInBounds 0 g') w' q/\((gs.map (woken P g g' w')).setIfInBounds 0 g')[0]? =some g':=by
 have n2:((gs.map (woken P g g' w')).setIfInBounds 0 g').size=gs.size:=by simp
 have hs0:0<gs.size:=by have:=C.size.1;omega
 have hdo:∀x,x≠0->Deaf (T++MemOp.ofEvents 0 g.frame.fn g.frame.place es) x=Deaf T x:=fun x hx=>Deaf_other T (Ne.symm hx) _ r2;have vq0:∀x y,x≠0->((gs.map (woken P g g' w')).setIfInBounds 0 g')[x]? =some y->gs[x]? =some y:=fun x y hx hy=>by
  rw[Array.getElem?_setIfInBounds_ne (fun z=>hx z.symm),Array.getElem?_map]at hy;obtain⟨y₀,hy₀,rfl⟩:=Option.map_eq_some_iff.1 hy;rw[woken_of_again (again_of_running (C.status hx hy₀) w')];exact hy₀
 refine⟨⟨wf',tb',by rw[Array.size_append];have:=C.n0;omega,by rw[Deaf_own,C.d0],Bi0,yj0,fun y hy=>?_,fun x y hx hxc hy=>?_,Id0,by rw[n2];exact C.size,fun j hj=>?_,C.fin⟩,Array.getElem?_setIfInBounds_self_of_lt (by simpa using hs0)⟩
 ·rw[hdo c hc0];exact X5 _ _ _ (C.child y (vq0 c y hc0 hy))
 ·rw[hdo x hx];exact C.rest x y hx hxc (vq0 x y hx hy)
 ·rw[n2]at hj;rw[hdo j (by omega)];exact C.above j hj
theorem Rb.ly0 {Fp:PM->Prop} (C:Rb P X G c bx n0 w0 L0 Lc A Fp N σ r v7 R6 d T gs w q) (S:StB X G c bx w0 L0 Lc) {g g':Goroutine} {es:Array Event} (y9:∀e∈es,GEv G 0 e) (hU:∀x,UsB c σ' x->UsB c σ x) (hw:w'=w\/∃a v,a.block=G.blk/\a.spot=none/\G.off <=a.off/\w'=w.setCell a v) (Id0:x7 G (bst σ').1 (bst σ').2 w')
  (X5:∀d n y,dg0 P G Lc A Fp σ r R6 d n y->dg0 P G Lc A Fp σ' r R6 d n y):Rb P X G c bx n0 w0 L0 Lc A Fp N σ' r v7 R6 (deafBehind d es) (T++MemOp.ofEvents 0 g.frame.fn g.frame.place es) ((gs.map (woken P g g' w')).setIfInBounds 0 g') w' q/\((gs.map (woken P g g' w')).setIfInBounds 0 g')[0]? =some g':=by
 refine C.main S.c0 ((C.tb.L2 C.n0 S.L2 y9 (.inr ⟨.inl rfl,fun h=>absurd rfl h⟩)).leave hU) ?_ ?_ C.apart Id0 X5
 ·rcases hw with rfl|⟨a,v,h1,h2,h3,rfl⟩
  ·exact C.wf
  ·exact C.wf.Ia0 C.x6 h1 h2 h3 v
 ·intro x hx;have:=C.own x hx;refine⟨this.1,?_⟩;rcases hw with rfl|⟨a,v,h1,h2,h3,rfl⟩
  ·exact this.2
  ·rw[D1 w _ (by rw[h1];exact S.ng this.1)];exact this.2
theorem tt0.wa (B:tt0 P Post X G c bx u w0 L0 Lc A ox N K):∀(μ n d:Nat) (g:Goroutine) r v7 R6 T gs w sl q,μ=n+sumTo gs.size q->Rb P X G c bx n0 w0 L0 Lc A (fun pm=>(bx,ox)∈pm) N .out r v7 R6 d T gs w q->gs[0]? =some g->WA P G A K n d g->Ends P Post (crowd gs w sl) T:=by
 intro μ
 induction μ using Nat.strongRecOn with
 |_ μ ih=>
  intro n d g r v7 R6 T gs w sl q hμ C h0 hW;cases n with
  |zero=>exact hW.elim
  |succ n=>
   obtain⟨hr,hW'⟩:=hW;obtain⟨i,gi,dd,Y4,hi,hgi,S2⟩:=crowd_pick (P:=P) (w:=w) (sl:=sl) (C.awake h0 (.inl hr)) ⟨0,g,h0,hr⟩;have Cd:=C.at dd;by_cases e:i=0
   ·subst e;rcases hW' with⟨g',es,y9,y3,hW'⟩|⟨rfl,g',y3,hE⟩
    ·obtain⟨C',G2⟩:=Cd.ly0 B.st (g:=g) (g':=g') (σ':=.out) (w':=w.at dd) y9 (fun _ h=>h) (.inl rfl) Cd.x6 (fun _ _ _ h=>h);exact Ends.step (S2.trans (runT_crowd_go (sl:=Y4) (i:=0) h0 (y3 _ Cd.x6))) (ih _ (by simp only[Array.size_setIfInBounds,Array.size_map];omega) n _ g' _ _ _ _ _ _ Y4 q rfl C' G2 hW')
    ·obtain⟨live,T0,gs0,q0,R0⟩:=B.ring;obtain⟨cs,Ty,f,rfl⟩:=B.isx;have X5:∃gc,gs[c]? =some gc:=⟨_,Array.getElem?_eq_getElem C.size.1⟩
     obtain⟨gc,hgc⟩:=X5;obtain⟨k,R,G2⟩:=ring_end R0 B.no B.A9 B.blt B.st B.num Cd (C.fin (C.child gc hgc).1) (g':=g') h0;exact Ends.step (S2.trans (runT_crowd_go (sl:=Y4) (i:=0) h0 (y3 _))) (Fin.we (X:=X.gj0 u bx k) B.st.L2 (fun g hg=>B.k k g hg) n 0 g' hE _ _ _ _ _ _ G2 R)
   ·obtain⟨G4,ops,q',w',σ',r',pmc',hrt,n2,h0',C',T2,_,_,et0⟩:=Cd.by (sl:=Y4) B.st hi e hgi
    have hσ:=et0 rfl;subst hσ;refine Ends.step (S2.trans hrt) (ih _ (by omega) (n+1) d g r' v7 pmc' _ G4 w' Y4 q' rfl C' ?_ ⟨hr,hW'⟩);rcases h0' g h0 with z|z
    ·exact z
    ·rw[again_of_running (.inl hr)]at z;exact z
theorem tt0.sem (B:tt0 P Post X G c bx u w0 L0 Lc A ox N K):∀(μ n d:Nat) (g:Goroutine) (b:Bool) σ r v7 R6 T gs w sl q,μ=3*sumTo gs.size q+3*n+(if b then 1 else 0)->Rb P X G c bx n0 w0 L0 Lc A (fun pm=>(bx,ox)∈pm) N σ r v7 R6 d T gs w q->frB σ=false ->
  (if b then gs[0]? =some g/\WS P G (WA P G A K) n d g else σ≠.done/\gs[0]? =some {g with status:=.blocked}/\∃k,n=k+1/\0<d/\Cr0 P G (WA P G A K) k d g)->Ends P Post (crowd gs w sl) T:=by
 intro μ
 induction μ using Nat.strongRecOn with
 |_ μ ih=>
  intro n d g b σ r v7 R6 T gs w sl q hμ C hmf hb;have X5:∃gc,gs[c]? =some gc:=⟨_,Array.getElem?_eq_getElem C.size.1⟩
  obtain⟨gc,hgc⟩:=X5;have ue0:(∃(i:Nat) (g:Goroutine),gs[i]? =some g/\g.status= .running)/\∀g∈gs,awake g:=by
   cases b with
   |true=>obtain⟨h0,hW⟩:=hb;exact⟨⟨0,g,h0,hW.running⟩,C.awake h0 (.inl hW.running)⟩
   |false=>
    obtain⟨hmd,h0,k,_,_,_⟩:=hb;refine⟨⟨c,gc,hgc,?_⟩,C.awake h0 (.inr rfl)⟩;have hI:=C.child gc hgc;cases σ with
    |up wt=>rcases hI with⟨_,_,h⟩|⟨_,h⟩;exact h.running fun _ _ _ z=>z.1;exact h.running
    |last s=>exact hI.2.2.running
    |out=>cases hmf
    |done=>exact absurd rfl hmd
  obtain⟨i,gi,dd,Y4,hi,hgi,S2⟩:=crowd_pick (P:=P) (w:=w) (sl:=sl) ue0.2 ue0.1;have Cd:=C.at dd;by_cases e:i=0
  ·subst e;cases b with
   |false=>obtain⟨_,h0,_⟩:=hb;rw[h0]at hi;obtain rfl:=Option.some.inj hi;cases hgi
   |true=>
    obtain⟨h0,hW⟩:=hb;rw[h0]at hi;obtain rfl:=Option.some.inj hi;cases n with
    |zero=>exact hW.elim
    |succ n=>
     rcases hW with⟨g',es,⟨_,_,y9,y3⟩,hW⟩|⟨hd0,hr,ho,sg0,g',Cw0,hE⟩
     ·obtain⟨C',G2⟩:=Cd.ly0 B.st (g:=g) (g':=g') (σ':=σ) (w':=w.at dd) y9 (fun _ h=>h) (.inl rfl) Cd.x6 (fun _ _ _ h=>h);exact Ends.step (S2.trans (runT_crowd_go (sl:=Y4) (i:=0) h0 (y3 _ _ _ Cd.x6))) (ih _ (by simp only[Array.size_setIfInBounds,Array.size_map];rw[hμ];simp only[if_true];omega) n _ g' true σ _ _ _ _ _ _ Y4 q rfl C' hmf ⟨G2,hW⟩)
     ·have blk:σ≠.done->(∃st,x7 G st 0 (w.at dd))->Ends P Post (crowd gs w sl) T:=fun hmd ⟨st,hat⟩=>by
       have hgo:=sg0 _ _ hat;have hrt:=runT_crowd_go (P:=P) (sl:=Y4) (i:=0) h0 hgo;rw[show(MemOp.ofEvents 0 g.frame.fn g.frame.place #[]:Array MemOp)=#[] from rfl]at hrt;obtain⟨C',G2⟩:=Cd.ly0 B.st (g:=g) (g':={g with status:=.blocked}) (es:=#[]) (σ':=σ) (w':=w.at dd) (fun e he=>by simp at he) (fun _ h=>h) (.inl rfl) Cd.x6 (fun _ _ _ h=>h);rw[show(MemOp.ofEvents 0 g.frame.fn g.frame.place #[]:Array MemOp)=#[] from rfl]at C';exact Ends.step (S2.trans hrt) (ih _ (by simp only[Array.size_setIfInBounds,Array.size_map];rw[hμ];simp) (n+1) d g false σ _ _ _ _ _ _ Y4 q rfl C' hmf ⟨hmd,G2,n,rfl,hd0,hr,ho,sg0,g',Cw0,hE⟩)
      cases σ with
      |out=>cases hmf
      |up wt=>exact blk (fun e=>by cases e) ⟨_,Cd.x6⟩
      |last s=>exact blk (fun e=>by cases e) (by
        have:=Cd.x6;cases s with
        |zero=>exact⟨_,this⟩
        |succ s=>exact⟨_,this⟩)
      |done=>
       obtain⟨C',G2⟩:=Cd.ly0 B.st (g:=g) (g':=g') (es:=semEvents (smA G)) (σ':=.out) (w':=(w.at dd).setCell (smA G) (.int .u32 0)) jl0 (fun _ h=>h) (.inr ⟨_,_,rfl,rfl,Nat.le_succ _,rfl⟩) (Cd.x6.setSm 0) (fun _ _ _ h=>h);rw[fb0]at C';exact Ends.step (S2.trans (runT_crowd_go (sl:=Y4) (i:=0) h0 (Cw0 _ Cd.x6))) (B.wa _ n d g' _ _ _ _ _ _ Y4 q rfl C' G2 hE)
  ·obtain⟨G4,ops,q',w',σ',r',pmc',hrt,n2,h0',C',T2,hfr,Cy0,_⟩:=Cd.by (sl:=Y4) B.st hi e hgi
   rw[hmf]at hfr;refine Ends.step (S2.trans hrt) ?_;cases b with
   |true=>
    obtain⟨h0,hW⟩:=hb;refine ih _ (by rw[hμ];simp only[if_true];omega) n d g true σ' r' v7 pmc' _ G4 w' Y4 q' rfl C' hfr ⟨?_,hW⟩;rcases h0' g h0 with z|z
    ·exact z
    ·rw[again_of_running (.inl hW.running)]at z;exact z
   |false=>
    obtain⟨hmd,h0,k,hk,hd0,sh0⟩:=hb;have hA:G4[0]? =some (({g with status:=.blocked}:Goroutine).again w')->Ends P Post (crowd G4 w' Y4) (T++ops):=fun z=>by
     rw[again_blocked sh0.1 sh0.2.1]at z;exact ih _ (by rw[hμ];simp only[if_true];simp;omega) n d g true σ' r' v7 pmc' _ G4 w' Y4 q' rfl C' hfr ⟨z,by rw[hk];exact .inr ⟨hd0,sh0⟩⟩
    by_cases J8:σ'= .done
    ·exact hA ((Cy0 J8).resolve_left hmd _ h0)
    ·rcases h0' _ h0 with z|z
     ·exact ih _ (by rw[hμ];simp;omega) n d g false σ' r' v7 pmc' _ G4 w' Y4 q' rfl C' hfr ⟨J8,z,k,hk,hd0,sh0⟩
     ·exact hA z
theorem tt0.head (B:tt0 P Post X G c bx u w0 L0 Lc A ox N K):∀(μ n:Nat) (o:Option Nat) (V d:Nat) (g:Goroutine) σ r v7 R6 T gs w sl q,μ=n+sumTo gs.size q->Rb P X G c bx n0 w0 L0 Lc A (fun pm=>(bx,ox)∈pm) N σ r v7 R6 d T gs w q->frB σ=true->gs[0]? =some g->WH P G (WA P G A K) n o V d g ->
  (match o with|none=>ib0 σ <=V|some vs=>0<vs/\ib0 σ <=vs)->Ends P Post (crowd gs w sl) T:=by
 intro μ
 induction μ using Nat.strongRecOn with
 |_ μ ih=>
  intro n o V d g σ r v7 R6 T gs w sl q hμ C hfr h0 hW hV;have hr:=hW.running;cases n with
  |zero=>exact hW.elim
  |succ n=>
   obtain⟨i,gi,dd,Y4,hi,hgi,S2⟩:=crowd_pick (P:=P) (w:=w) (sl:=sl) (C.awake h0 (.inl hr)) ⟨0,g,h0,hr⟩;have Cd:=C.at dd;by_cases e:i=0
   ·subst e;rw[h0]at hi;obtain rfl:=Option.some.inj hi;have hat:x7 G ((ib0 σ*KK:Nat):Int) 0 (w.at dd):=by have:=Cd.x6;rw[Ih0 hfr]at this;exact this
    unfold WH at hW;rcases hW with⟨g',es,⟨_,_,y9,y3⟩,hW⟩|⟨_,hW⟩
    ·obtain⟨C',G2⟩:=Cd.ly0 B.st (g:=g) (g':=g') (σ':=σ) (w':=w.at dd) y9 (fun _ h=>h) (.inl rfl) Cd.x6 (fun _ _ _ h=>h);exact Ends.step (S2.trans (runT_crowd_go (sl:=Y4) (i:=0) h0 (y3 _ _ _ hat))) (ih _ (by simp only[Array.size_setIfInBounds,Array.size_map];omega) n o V _ g' σ _ _ _ _ _ _ Y4 q rfl C' hfr G2 hW hV)
    ·have kf0:∀g',stepG P true g (w.at dd)= .go g' (w.at dd) #[rdA (stA G)]->(∀T' G4,Rb P X G c bx n0 w0 L0 Lc A (fun pm=>(bx,ox)∈pm) N σ r v7 R6 d T' G4 (w.at dd) q->G4.size=gs.size->G4[0]? =some g'->Ends P Post (crowd G4 (w.at dd) Y4) T')->Ends P Post (crowd gs w sl) T:=fun g' hgo hk=>by
      obtain⟨C',G2⟩:=Cd.ly0 B.st (g:=g) (g':=g') (es:=#[rdA (stA G)]) (σ':=σ) (w':=w.at dd) go0 (fun _ h=>h) (.inl rfl) Cd.x6 (fun _ _ _ h=>h);rw[deafBehind_still y8]at C';exact Ends.step (S2.trans (runT_crowd_go (sl:=Y4) (i:=0) h0 hgo)) (hk _ _ C' (by simp) G2)
     cases o with
     |none=>
      have hV':ib0 σ <=V:=hV;obtain⟨g',y3,hz,hnz⟩:=hW (ib0 σ) hV';refine kf0 g' (y3 _ hat) fun T' G4 C' n2 G2=>?_;by_cases hc:ib0 σ=0
      ·have hσ:σ= .out:=by
        cases σ with
        |out=>rfl
        |up wt=>cases hc
        |last s=>cases hfr
        |done=>cases hfr
       subst hσ;exact B.wa _ n d g' _ _ _ _ _ _ Y4 q rfl C' G2 (hz hc)
      ·exact ih _ (by rw[n2];omega) n (some (ib0 σ)) V d g' σ _ _ _ T' G4 _ Y4 q rfl C' hfr G2 (hnz hc) ⟨by omega,Nat.le_refl _⟩
     |some vs=>
      obtain⟨hvs,hle⟩:=hV;obtain⟨⟨g1,si0,hS⟩,Cz0⟩:=hW;by_cases hc:ib0 σ=vs
      ·have hσ:σ= .up false:=by
        cases σ with
        |out=>have h2:0=vs:=hc;omega
        |up wt=>cases wt with
         |false=>rfl
         |true=>cases hfr
        |last s=>cases hfr
        |done=>cases hfr
       subst hσ;have dr1:vs=1:=hc.symm;subst dr1;have e1:(((1*KK+1:Nat)):Int)=(bst (.up true)).1:=by show _=((((0+1)*KK+(if true=true then 1 else 0):Nat)):Int);rw[Nat.zero_add];rfl
       obtain⟨C',G2⟩:=Cd.ly0 B.st (g:=g) (g':=g1) (es:=#[rdA (stA G),wrA (stA G)]) (σ':=.up true) (w':=(w.at dd).setCell (stA G) (.int .u64 ((1*KK+1:Nat):Int))) C9 (fun _ h=>h) (.inr ⟨_,_,rfl,rfl,Nat.le_refl _,rfl⟩) (by
        have:=Cd.x6.setSt ((1*KK+1:Nat):Int);rw[<- e1];exact this) (fun _ _ _ h=>h)
       rw[gn0]at C';exact Ends.step (S2.trans (runT_crowd_go (sl:=Y4) (i:=0) h0 (si0 _ hat))) (B.sem _ n d g1 true (.up true) _ _ _ _ _ _ Y4 q rfl C' rfl ⟨G2,hS⟩)
      ·obtain⟨g',y3,hH⟩:=Cz0 (ib0 σ) (by omega);refine kf0 g' (y3 _ hat) fun T' G4 C' n2 G2=>?_;exact ih _ (by rw[n2];omega) n none (ib0 σ) d g' σ _ _ _ T' G4 _ Y4 q rfl C' hfr G2 hH (Nat.le_refl _)
   ·obtain⟨G4,ops,q',w',σ',r',pmc',hrt,n2,h0',C',T2,vr0,_,et0⟩:=Cd.by (sl:=Y4) B.st hi e hgi
    rw[hfr]at vr0;have n6:ib0 σ' <=ib0 σ:=by
     cases σ with
     |out=>rw[et0 rfl];exact Nat.le_refl _
     |up wt=>cases σ' <;> first|exact Nat.le_refl _|exact Nat.zero_le _
     |last s=>cases hfr
     |done=>cases hfr
    refine Ends.step (S2.trans hrt) (ih _ (by omega) (n+1) o V d g σ' r' v7 pmc' _ G4 w' Y4 q' rfl C' vr0 ?_ hW ?_)
    ·rcases h0' g h0 with z|z
     ·exact z
     ·rw[again_of_running (.inl hr)]at z;exact z
    ·cases o with
     |none=>exact Nat.le_trans n6 hV
     |some vs=>exact⟨hV.1,Nat.le_trans n6 hV.2⟩
theorem tt0.path (B:tt0 P Post X G c bx u w0 L0 Lc A ox N K):∀(μ n:Nat) (g:Goroutine) σ r v7 R6 T gs w sl q,μ=n+sumTo gs.size q->Rb P X G c bx n0 w0 L0 Lc A (fun pm=>(bx,ox)∈pm) N σ r v7 R6 0 T gs w q->frB σ=true->gs[0]? =some g->MP P true G L0 (Lx0 P G A K) n v7 g->Ends P Post (crowd gs w sl) T:=by
 intro μ
 induction μ using Nat.strongRecOn with
 |_ μ ih=>
  intro n g σ r v7 R6 T gs w sl q hμ C hfr h0 hW;have hr:g.status= .running:=hW.running fun n pm g z=>WH.running (show WH P G (WA P G A K) n none 1 0 g from z);cases n with
  |zero=>exact hW.elim
  |succ n=>
   unfold MP at hW;rcases hW with hE|⟨_,hW⟩
   ·exact B.head _ n none 1 0 g σ r v7 R6 T gs w sl q rfl C hfr h0 hE (by cases σ <;> first|exact Nat.le_refl _|exact Nat.zero_le _)
   obtain⟨i,gi,dd,Y4,hi,hgi,S2⟩:=crowd_pick (P:=P) (w:=w) (sl:=sl) (C.awake h0 (.inl hr)) ⟨0,g,h0,hr⟩;have Cd:=C.at dd;by_cases e:i=0
   ·subst e;rw[h0]at hi;obtain rfl:=Option.some.inj hi;rcases hW with⟨g',es,hr',y9,y3,hM⟩|⟨g',b,cs,T1,o,v,es,hr',hm,y9,y3,hM⟩|⟨gf,cs,T1,hr',y3,hM⟩
    ·have hd:deafBehind 0 es=0:=deafBehind_still (fun e he=>(y9 e he).on.2.2) _;obtain⟨C',G2⟩:=Cd.main B.st.c0 (g:=g) (g':=g') (es:=es) (σ':=σ) (pm0':=v7) (w':=w.at dd) (Cd.tb.own Cd.apart Cd.n0 r2 (fun op H5 bb hb=>by
      obtain⟨e,he,rfl⟩:=Go.Conc.mem_ofEvents H5;have:=(y9 e he).on.1 bb hb;exact⟨B.st.on0 Cd.Zr0 this,.inl ⟨rfl,this⟩⟩) fun _=>norel_of fun e he=>(y9 e he).on.2.1) Cd.wf Cd.own Cd.apart Cd.x6 (fun _ _ _ h=>h)
     rw[hd]at C';exact Ends.step (S2.trans (runT_crowd_go (sl:=Y4) (i:=0) h0 (y3 _ (Cd.Ib0 B.st)))) (ih _ (by simp only[Array.size_setIfInBounds,Array.size_map];omega) n g' σ _ _ _ _ _ _ Y4 q rfl C' hfr G2 hM)
    ·have hd:deafBehind 0 es=0:=deafBehind_still (fun e he=>(dh0 (L:=L0) hm (y9 e he)).2.2) _;have hob:=(Cd.own _ (.inl hm))
     have hng:=B.st.ng hob.1;obtain⟨C',G2⟩:=Cd.main B.st.c0 (g:=g) (g':=g') (es:=es) (σ':=σ) (pm0':=ix0 v7 b (.cells (cs.setIfInBounds o v) T1 (0,0))) (w':=(w.at dd).setCell ⟨b,o,none⟩ v) ((Cd.tb.own Cd.apart Cd.n0 r2 (fun op H5 bb hb=>by
      obtain⟨e,he,rfl⟩:=Go.Conc.mem_ofEvents H5;have:=(dh0 (L:=L0) hm (y9 e he)).1 bb hb;exact⟨B.st.on0 Cd.Zr0 this,.inl ⟨rfl,this⟩⟩) fun _=>norel_of fun e he=>(dh0 (L:=L0) hm (y9 e he)).2.1).grow (fun k hk=>by
       obtain⟨x,hx⟩:=hk;by_cases e:k=b
       ·exact⟨.cells (cs.setIfInBounds o v) T1 (0,0),List.mem_map.2 ⟨(k,x),hx,by rw[if_pos e,e]⟩⟩
       ·exact⟨x,List.mem_map.2 ⟨(k,x),hx,by rw[if_neg e]⟩⟩) fun _ h=>h) (Cd.wf.cell v hob.1 hng) (fun x hx=>by
       rcases hx with hx|hx
       ·rcases mem_set hx with⟨rfl,_⟩|⟨hx,hxb⟩
        ·exact⟨hob.1,heap_put hob.2⟩
        ·have h1:=Cd.own x (.inl hx);exact⟨h1.1,by rw[D1 _ v (a:=⟨b,o,none⟩) hxb];exact h1.2⟩
       ·have h1:=Cd.own x (.inr hx);have:x.1≠b:=fun e=>Cd.apart.own x.1 ⟨_,by rw[e];exact hm⟩ ⟨x.2,hx⟩;exact⟨h1.1,by rw[D1 _ v (a:=⟨b,o,none⟩) this];exact h1.2⟩)
      ⟨Cd.apart.l0,fun p hp h=>Cd.apart.lc p hp (tq0 h),fun bb h h'=>Cd.apart.own bb (tq0 h) h'⟩ (Cd.x6.of_block (D1 _ v (a:=⟨b,o,none⟩) (Ne.symm hng))) (fun _ _ _ h=>h)
     rw[hd]at C';exact Ends.step (S2.trans (runT_crowd_go (sl:=Y4) (i:=0) h0 (y3 _ (Cd.Ib0 B.st)))) (ih _ (by simp only[Array.size_setIfInBounds,Array.size_map];omega) n g' σ _ _ _ _ _ _ Y4 q rfl C' hfr G2 hM)
    ·have n2:=Cd.wf.size;have ds1:w0.heap.size <=w.heap.size:=n2;obtain⟨C',G2⟩:=Cd.main B.st.c0 (g:=g) (g':=gf w.heap.size) (es:=#[]) (σ':=σ) (pm0':=(w.heap.size,.cells cs T1 (0,0))::v7) (w':=(w.at dd).alloc (.cells cs T1 (0,0))) ((Cd.tb.mute Cd.n0 (fun op H5=>by
      obtain⟨e,he,rfl⟩:=Go.Conc.mem_ofEvents H5;simp at he) fun _=>norel_of fun e he=>by simp at he).grow (fun k ⟨x,hx⟩=>⟨x,List.mem_cons_of_mem _ hx⟩) fun _ h=>h) (Cd.wf.alloc _ B.st.Cf0.1) (fun x hx=>by
       rcases hx with hx|hx
       ·rcases List.mem_cons.1 hx with rfl|hx
        ·exact⟨.inr ds1,heap_alloc_new (w:=w.at dd)⟩
        ·have:=Cd.own x (.inl hx);exact⟨this.1,heap_alloc this.2⟩
       ·have:=Cd.own x (.inr hx);exact⟨this.1,heap_alloc this.2⟩)
      ⟨Cd.apart.l0,fun p hp h=>by
       obtain⟨x,hx⟩:=h;rcases List.mem_cons.1 hx with e|hx
       ·have:=(B.st.st p (.inr hp)).2.1;have e:=congrArg Prod.fst e;simp only at e;omega
       ·exact Cd.apart.lc p hp ⟨x,hx⟩,fun bb h h'=>by
       obtain⟨x,hx⟩:=h;rcases List.mem_cons.1 hx with e|hx
       ·obtain⟨y,hy⟩:=h';have h1:bb<w.heap.size:=tr0 (Cd.own _ (.inr hy)).2;have e:=congrArg Prod.fst e;simp only at e;omega
       ·exact Cd.apart.own bb ⟨x,hx⟩ h'⟩ (Cd.x6.of_block (by
       show(w.heap.push _)[G.blk]? =w.heap[G.blk]?;rw[Array.getElem?_push,if_neg (by have:=B.st.Cf0.1;omega)])) (fun _ _ _ h=>h)
     exact Ends.step (S2.trans (runT_crowd_go (sl:=Y4) (i:=0) h0 (y3 _))) (ih _ (by simp only[Array.size_setIfInBounds,Array.size_map];omega) n (gf w.heap.size) σ _ _ _ _ _ _ Y4 q rfl C' hfr G2 (hM w.heap.size))
   ·obtain⟨G4,ops,q',w',σ',r',pmc',hrt,n2,h0',C',T2,vr0,_,_⟩:=Cd.by (sl:=Y4) B.st hi e hgi
    rw[hfr]at vr0;refine Ends.step (S2.trans hrt) (ih _ (by omega) (n+1) g σ' r' v7 pmc' _ G4 w' Y4 q' rfl C' vr0 ?_ (by unfold MP;exact .inr ⟨hr,hW⟩));rcases h0' g h0 with z|z
    ·exact z
    ·rw[again_of_running (.inl hr)]at z;exact z
end
end
section
attribute [local irreducible] KK
theorem Fin.beside {P:Program} {Post:Value->World->Prop} {X:Gh} {u:World} {g g1 child:Goroutine} {G:I4} {bx nc np:Nat} {ox0 ox:Obj} {L0 Lc:Q3} {A:Addr} {K:Goroutine->Prop} (g4:g.status= .running) (J8:X.dn=0) (if0:X.pend=1) (cm0:X.cap=1) (hG:X.L2=some G) (o7:∀i,X.G1 i=none)
  (hgo:∀w,stepG P true g w= .spawn g1 child w #[]) (hl:z9 X bx) (hw:¬X.low bx) (B9:X.D4 bx= .all) (hb:u.heap[bx]? =some ox0) (S2:∀p,p∈L0\/p∈Lc->u.cell? p.1=some p.2/\p.1.block≠bx/\¬GB X p.1.block)
  (Td0:MP P true G L0 (Lx0 P G A K) np [] g1) (X5:MP P false G Lc (yi0 P G A (fun pm=>(bx,ox)∈pm)) nc [(bx,ox0)] child) (hox:∃cs T f,ox= .cells cs T f) (hK:∀k g,K g->Fin P Post (X.gj0 u bx k) 0 g (di0 u bx ox k)):Fin P Post X 0 g u:=by
 refine Fin.Y8 g4 fun live T gs w sl d Y4 q hg y3 C=>?_;have hrt:=runT_crowd_spawn (P:=P) (sl:=Y4) (i:=0) hg (hgo (w.at d));have Cn0:(((MemOp.ofEvents 0 g.frame.fn g.frame.place #[]:Array MemOp).push {g:=0,fn:=g.frame.fn,pos:=g.frame.place,act:=.go gs.size}).push {g:=gs.size,fn:=child.frame.fn,pos:=g.frame.place,act:=.start})=
   #[{g:=0,fn:=g.frame.fn,pos:=g.frame.place,act:=.go gs.size},{g:=gs.size,fn:=child.frame.fn,pos:=g.frame.place,act:=.start}]:=rfl
 rw[Cn0]at hrt;refine Ends.step (y3.trans hrt) ?_;have h0:=C.size;have se0:=C.above gs.size (Nat.le_refl _);have hc0:gs.size≠0:=by omega
 obtain⟨ρ,hs,hlw⟩:=C.T9;have n2:(w.at d).heap.size=u.heap.size:=hs.size;have hz:count live gs.size=0:=by have:=C.few;omega
 have kb0:∀i,live i=false:=fun i=>by
  rcases Nat.lt_or_ge i gs.size with hi|hi
  ·cases e:live i with
   |false=>rfl
   |true=>have:=count_le hi e;omega
  ·exact(C.above i hi).2.2.1
 have mk0:∀G',(X.L2=some G'\/G'∈X.old)->Cut u G':=fun G' hG'=>hG'.elim (fun e=>(C.L2 G' e).1) (C.old G');have S:StB X G gs.size bx (w.at d) L0 Lc:=by
  refine⟨hG,hc0,fun p hp=>?_,⟨by rw[n2];exact(Array.getElem?_eq_some_iff.1 hb).1,fun⟨G',hG',e⟩=>hl.L2 G' hG' e.symm⟩,fun b ⟨G',hG',e⟩=>?_⟩
  ·obtain⟨h1,h2,h3⟩:=S2 p hp;obtain⟨c',T',f',w6,_,_⟩:=C4 h1;exact⟨hs.cell (u:=j3 u (w.at d).tape (w.at d).drawn) h1,by rw[n2];exact(Array.getElem?_eq_some_iff.1 w6).1,h2,h3⟩
  ·obtain⟨c',T',f',w6,_⟩:=mk0 G' hG';rw[n2,e];exact(Array.getElem?_eq_some_iff.1 w6).1
 have B:tt0 P Post X G gs.size bx u (w.at d) L0 Lc A ox (X.n+1) K:=⟨⟨live,T,gs,q,C⟩,o7,hl,(Array.getElem?_eq_some_iff.1 hb).1,S,rfl,hox,hK⟩
 generalize hu:(#[{g:=0,fn:=g.frame.fn,pos:=g.frame.place,act:=.go gs.size},{g:=gs.size,fn:=child.frame.fn,pos:=g.frame.place,act:=.start}]:Trace)=U;have hn:∀op∈U,op.act.touch? =none:=by
  intro op H5;subst hu;simp only[List.mem_toArray,List.mem_cons,List.not_mem_nil,or_false]at H5;rcases H5 with rfl|rfl <;> rfl
 have hD:∀x,Deaf (T++U) x=Deaf T x:=fun x=>Deaf_quiet (fun op H5 d=>by
  subst hu;simp only[List.mem_toArray,List.mem_cons,List.not_mem_nil,or_false]at H5;rcases H5 with rfl|rfl <;> rfl)
 have p:=PastH.born (c:=gs.size) C.past (.inl ⟨rfl,J8⟩) se0.1 (fun l ⟨p,hp,_⟩=>by rw[se0.2.2.2]at hp;cases hp) (.inl rfl) g.frame.fn g.frame.place child.frame.fn;rw[hu]at p;have hlo:∀x,¬X.Lo 0 x:=fun x hx=>hx.2 (o7 x);have Bq0:((gs.setIfInBounds 0 g1).push child).size=gs.size+1:=by simp
 have vq0:∀i y,i≠0->i≠gs.size->((gs.setIfInBounds 0 g1).push child)[i]? =some y->gs[i]? =some y:=fun i y hi hic hy=>by
  rw[Array.getElem?_push,if_neg (by simpa using hic),Array.getElem?_setIfInBounds_ne (Ne.symm hi)]at hy;exact hy
 obtain⟨y,hy,hlk⟩:=hs.obj bx ox0 (show(j3 u (w.at d).tape (w.at d).drawn).heap[bx]? =some ox0 from hb);have hyo:(w.at d).heap[bx]? =some ox0:=by
  rw[hlw bx hw,B9]at hlk;cases hlk;exact hy
 refine B.path (n0:=(T++U).size) _ np g1 (.up false) none [] [(bx,ox0)] (T++U) _ (w.at d) Y4 (upd q gs.size nc) rfl ⟨WF.refl,⟨p.clean,fun i a _ ha hm hs'=>⟨?_,?_⟩,fun i a x hi ha _ _=>?_,fun i a x ha hsh hx=>?_,fun r0 e=>(by cases e)⟩,Nat.le_refl _,by rw[hD,C.dfn,J8],fun x hx=>?_,⟨fun p hp=>?_,fun p hp h=>?_,fun b h=>?_⟩,
  fun y hy=>?_,fun i y hi hic hy=>?_,?_,⟨by rw[Bq0];omega,by rw[Bq0,C.num]⟩,fun j hj=>?_,fun e=>absurd rfl e⟩ rfl ?_ Td0
 ·obtain⟨x,hx,x5⟩:=touch_of ha;rcases getElem?_append_cases hx with⟨T2,W3⟩|⟨_,L8⟩
  ·rcases C.past.known i a (by rw[touchAt_of W3];exact x5) hm hs' with h|⟨_,x,_,h,_⟩
   ·exact h.app U
   ·exact absurd h (hlo x)
  ·rw[hn x L8]at x5;cases x5
 ·rcases p.known i a ha hm hs' with h|⟨_,x,_,h,_⟩
  ·exact h
  ·exact absurd h (hlo x)
 ·obtain⟨z,hz',hza⟩:=touch_of ha;have:=lt_size_of_getElem? hz';omega
 ·refine(p.cj0 i a x ha hsh hx).imp (fun z g' z6=>z g' ?_) id;rcases z6 with e|⟨e,_⟩
  ·exact .inl (.inl e)
  ·exact .inr e
 ·rcases hx with hx|hx
  ·cases hx
  ·rcases List.mem_cons.1 hx with rfl|hx
   ·exact⟨.inl rfl,hyo⟩
   ·cases hx
 ·rintro⟨o,ho⟩;rcases List.mem_cons.1 ho with e|ho
  ·exact(S.st p (.inl hp)).2.2.1 (congrArg Prod.fst e)
  ·cases ho
 ·obtain⟨o,ho⟩:=h;cases ho
 ·obtain⟨o,ho⟩:=h;cases ho
 ·rw[Array.getElem?_push,if_pos (by simp)]at hy;obtain rfl:=Option.some.inj hy;rw[upd_same];exact .inl ⟨rfl,(hD _).trans se0.1,X5⟩
 ·rw[upd_ne q nc hic,hD];have:=C.idle i y hi (vq0 i y hi hic hy);unfold Idle at this;rw[o7 i]at this;simp only[kb0,Bool.false_eq_true,if_false]at this;exact this.2
 ·have:=(C.L2 G hG).2;rw[hz,if0]at this;exact this
 ·rw[Bq0]at hj;rw[hD];exact(C.above j (by omega)).1
 ·rw[Array.getElem?_push,if_neg (by simp;omega),Array.getElem?_setIfInBounds_self_of_lt h0]
end
end Go.Yc
end
section
namespace Go.Vy
open Go Go.Conc Go.Yc Go.RowKit
open Go.Vc Go.Wg
section
attribute [local irreducible] KK
structure rx0 (n:Nat) (b:Frame) (cs:List Frame) (ds:List Deferred) (e:Env) (todo:List Item) (c:Frame):Prop where
 rep:∃a,cx0 n a e ds/\c={b.at a todo with mode:=.returning}
theorem rx0.mode {n:Nat} {b c:Frame} {cs:List Frame} {ds:List Deferred} {e:Env} {todo:List Item} (h:rx0 n b cs ds e todo c):c.mode= .returning:=by
 obtain⟨a,_,rfl⟩:=h.rep;rfl
theorem rx0.go {n:Nat} {b c:Frame} {cs:List Frame} {ds:List Deferred} {e:Env} {todo:List Item} (h:rx0 n b cs ds e todo c) {Y:Nat->Nat->Goroutine->Prop} {ft d:Nat} (hA:AtR Y ft n b cs ds d e todo):Y ft d (G c cs):=by
 obtain⟨a,ha,rfl⟩:=h.rep;exact hA a ha
section
variable {P:Program}{main:Bool}{ok:Event->Prop}{Y:Nat->Nat->Goroutine->Prop}{ft n:Nat}{b:Frame}{cs:List Frame}{ds:List Deferred}{d:Nat}{e:Env}{k todo:List Item}{ops:Array Oper}{i:Nat}{l:List Oper}{dst:Option Nat}{ty:TypeId}{ps:String}{af:Array Edge}{f:FuncId}{fn:Func}{c:Code}
theorem I0.Te0 (hY:HF P main ok Y) (hk:b.kind≠.early) {o:Oper} {args:Array Value} (m:Nat) (hg:o.guard=none) (hd:Y3 n o.dst=true) (hf:P.funcs[f]? =some fn) (hb:fn.body=some c) (hr:∀w,(execOp (ev e) o).run P w= .ok (.enter f args) w) (hv:∀w,(execOp (ev e) o).events P w #[]=#[])
  (hm:args.size+(fn.ntmps-args.size)=m) (h:∀O5,Ee0 n b cs ds e ops i o.dst l k O5->At Y ft m (base f) O5 [] d (Wg.Q6 args) [.code c]):I0 Y (ft+1) n b cs ds d e ops i (o::l) k:=by
 intro hl a ha;obtain⟨ho,n5⟩:=E3 hl;refine hY.c rfl rfl (fun w=>?_) (h _ ⟨⟨a,ha,rfl⟩,by rw[ho];rfl,hd,n5⟩ {tmps:=args++Array.replicate (fn.ntmps-args.size) undef,defers:=[]} (C7 args _ hm));show stepG P main (G (b.at a (.inRegion ops (i::List.range' (i+1) l.length)::k)) cs) w=_;rw[stepG_enter ho (by obtain⟨d,op,ty,ps,af,g⟩:=o;cases hg;rfl) hk (by rw[ha.eval];exact hr w),enter_at _ hf hb];have h1:listed P b.fn a o w=#[]:=by unfold listed;rw[ha.eval,hv w];exact seen_none P _
 rw[h1]
theorem I0.Zt0 (hY:HF P main ok Y) (hk:b.kind≠.early) {x:Operand} {caps:Array Value} (m:Nat) (hd:Y3 n dst=true) (hx:ev e x= .func (.func f) #[] caps) (hf:P.funcs[f]? =some fn) (P2:(fn.name== "runtime.NumGoroutine")=false) (hb:fn.body=some c)
  (hm:caps.size+(fn.ntmps-caps.size)=m) (h:∀O5,Ee0 n b cs ds e ops i dst l k O5->At Y ft m (base f) O5 [] d (Wg.Q6 caps) [.code c]):I0 Y (ft+1) n b cs ds d e ops i (⟨dst,.call {callee:=.value x,args:=#[],argTypes:=#[]},ty,ps,af,none⟩::l) k:=by
 have h1:¬fn.name= "runtime.NumGoroutine":=by simpa using P2
 refine I0.Te0 hY hk (args:=caps) m rfl hd hf hb (fun w=>?_) (fun w=>?_) hm h
 ·simp[execOp,resolve,Deferred.ofValue,invoke,callFunc,hx,hf,h1,hb]
 ·simp[execOp,resolve,Deferred.ofValue,invoke,callFunc,hx,hf,h1,hb]
theorem I0.gz0 (hY:HF P main ok Y) {cf:Frame} (hd:Y3 n dst=true) (hk:b.kind= .deferred) (hr:b.roundOf=none) (hc:cf.mode= .returning) (h:I0 Y ft n b (cf::cs) ds d (Y2 e dst .nilIface) ops (i+1) l k):I0 Y (ft+1) n b (cf::cs) ds d e ops i (⟨dst,.call {callee:=.builtin .recover,args:=#[],argTypes:=#[]},ty,ps,af,none⟩::l) k:=by
 intro hl a ha;obtain⟨ho,n5⟩:=E3 hl;exact hY.c rfl rfl (fun w=>ce0 ho hk hr hc) (h n5 _ (ha.put hd _))
theorem AtR.Ii0 (hY:HF P main ok Y) {args caps:Array Value} (m:Nat) (hf:P.funcs[f]? =some fn) (P2:(fn.name== "runtime.NumGoroutine")=false) (hb:fn.body=some c) (hm:(args++caps).size+(fn.ntmps-(args++caps).size)=m)
  (h:∀cf,rx0 n b cs ds e todo cf->At Y ft m (baseD f) (cf::cs) [] d (Wg.Q6 (args++caps)) [.code c]):AtR Y (ft+1) n b cs ({target:=.fn (.func f) caps,args} :: ds) d e todo:=by
 intro a ha;refine hY.c rfl rfl (fun w=>cz0 (a:=a) (by simp) ha.defers hf P2 hb) ?_;exact h _ ⟨⟨a.tmps,ds⟩,⟨ha.size,rfl,ha.get⟩,rfl⟩ _ (C7 (args++caps) _ hm)
end
section
variable {P:Program}{gr:I4}{A:Addr}{Fp:PM->Prop}{pm:PM}{L:Q3}{K:Goroutine->Prop}{ft n:Nat}{b:Frame}{cs:List Frame}{ds:List Deferred}{d:Nat}{e:Env}{k:List Item}{ops:Array Oper}{i:Nat}{l:List Oper}{dst:Option Nat}{ty:TypeId}{ps:String}{af:Array Edge}{f:FuncId}{fn:Func}{asx:Array Operand}{ats:Array TypeId}
theorem I0.dt1 (hk:b.kind≠.early) (hd:Y3 n dst=true) (hf:P.funcs[f]? =some fn) (P2:(fn.name== "runtime.NumGoroutine")=false) (hb:fn.body.isNone=true) (hn:Extern.findNext fn=none) (he:Extern.find fn=some (Extern.Race.marked .releaseMerge)) (hx:(asx.toList.map (ev e))[0]? =some (.pointer (some A))) (hF:Fp pm)
  (h:I0 (YLt P gr) ft n b cs ds 0 (Y2 e dst (.tuple #[])) ops (i+1) l k):I0 (YM P false gr L (yi0 P gr A Fp) pm) (ft+1) n b cs ds 0 e ops i (⟨dst,.call {callee:=.value (.func f),args:=asx,argTypes:=ats},ty,ps,af,none⟩::l) k:=by
 intro hl a ha _;obtain⟨ho,n5⟩:=E3 hl;refine .inl ⟨rfl,hF,_,fun w=>stepG_markAt (P:=P) .releaseMerge (by simp) ho (by rw[ha.yielded];rfl) hk rfl hf P2 hb hn he (by rw[ha.eval,X6 rfl];simpa using hx),h n5 _ (ha.put hd _)⟩
abbrev YWA (P:Program) (gr:I4) (A:Addr) (K:Goroutine->Prop):Nat->Nat->Goroutine->Prop:=fun m d g=>WA P gr A K m d g
theorem o4:HF P true (okM gr) (YWA P gr A K):=⟨fun _m _d _g g' es h1 _ h3 h4 h5=>⟨h1,.inl ⟨g',es,fun e he=>sw0 (h3 e he),fun w _=>h4 w,h5⟩⟩⟩
theorem Zu0:StG P true gr (YWA P gr A K):=fun m d g g' h1 _ h3 h4=>⟨h1,.inl ⟨g',#[],fun e he=>by simp at he,fun w hw=>h3 w _ _ hw,h4⟩⟩
theorem I0.Tf0 {x:Operand} (hk:b.kind≠.early) (hd:Y3 n dst=true) (hf:P.funcs[f]? =some fn) (P2:(fn.name== "runtime.NumGoroutine")=false) (hb:fn.body.isNone=true) (hn:Extern.findNext fn=none) (he:Extern.find fn=some (Extern.Atomic.loadT (.int .u64))) (hx:ev e x= .pointer (some ⟨gr.blk,gr.off,none⟩))
  (h:I0 (YWA P gr A K) ft n b cs ds d (Y2 e dst (.int .u64 0)) ops (i+1) l k) :
  I0 (YWA P gr A K) (ft+1) n b cs ds d e ops i (⟨dst,.call {callee:=.value (.func f),args:=#[x],argTypes:=ats},ty,ps,af,none⟩::l) k:=by
 intro hl a ha;obtain⟨ho,n5⟩:=E3 hl;refine⟨rfl,.inl ⟨G (b.at (a.put dst (.int .u64 0)) (.inRegion ops (List.range' (i+1) l.length)::k)) cs,#[rdA (stA gr)],go0,fun w hw=>?_,?_⟩⟩
 ·exact stepG_load_atomic ho (by rw[ha.yielded];rfl) hk rfl hf P2 hb hn .u64 he (ad:=stA gr) (by rw[ha.eval];exact hx) hw.cells.1
 ·rw[deafBehind_still y8];exact h n5 _ (ha.put hd _)
theorem I0.Zv0 (hk:b.kind≠.early) (hd:Y3 n dst=true) (hf:P.funcs[f]? =some fn) (P2:(fn.name== "runtime.NumGoroutine")=false) (hb:fn.body.isNone=true) (hn:Extern.findNext fn=none) (he:Extern.find fn=some (Extern.Race.marked .acquire)) (hx:(asx.toList.map (ev e))[0]? =some (.pointer (some A)))
  (h:I0 (YWE P gr K) ft n b cs ds 0 (Y2 e dst (.tuple #[])) ops (i+1) l k):I0 (YWA P gr A K) (ft+1) n b cs ds 0 e ops i (⟨dst,.call {callee:=.value (.func f),args:=asx,argTypes:=ats},ty,ps,af,none⟩::l) k:=by
 intro hl a ha;obtain⟨ho,n5⟩:=E3 hl;exact⟨rfl,.inr ⟨rfl,_,fun w=>stepG_markAt (P:=P) .acquire (by simp) ho (by rw[ha.yielded];rfl) hk rfl hf P2 hb hn he (by rw[ha.eval,X6 rfl];simpa using hx),h n5 _ (ha.put hd _)⟩⟩
end
end
end Go.Vy
end
section
namespace Go.Proofs.YtnifpkopeheodaaGreat
open Go Go.Conc Go.Yc Go.Vy Go.Wg
open Go.Vc (Env upd Y2 ev Y3 H2)
section
attribute [local irreducible] KK
set_option maxRecDepth 20000 in
theorem Tg0 (gr:I4) {L:Q3} {Fp:PM->Prop} {pm:PM} (hF:Fp pm) {c:Frame} {cs:List Frame} (hcm:c.mode= .returning) {N:Nat} (hT:QuitsD Tryz.prog N 0 (Conc.G c cs)):At (YM Tryz.prog false gr L (yi0 Tryz.prog gr (stA gr) Fp) pm) (N+500) 4 (baseD 68) (c::cs) [] 0 (Wg.Q6 #[.pointer (some ⟨gr.blk,gr.off,none⟩)]) [.code (Tryz.f68.body.getD .skip)]:=by
 refine At.region I2 ?_;refine I0.val I2 (bkd _) rfl (v:=.pointer (some ⟨gr.blk,gr.off,none⟩)) (J0 rfl) ?_;refine I0.call I2 (bkd _) [.pointer (some ⟨gr.blk,gr.off,none⟩),.int .i64 (-1)] 117 rfl Tryz.func66 Jz0 rfl rfl rfl (fun cs1 V4=>?_);refine At.seq I2 ?_;refine At.J4 I2 rfl ?_;refine At.seq I2 ?_;refine U26 ?_;refine I0.val I2 (Z0 _) rfl (v:=.int .i64 (-1)) (J0 rfl) ?_;refine U459 ?_;refine At.J4 I2 rfl ?_;refine At.region I2 ?_;refine I0.val I2 (Z0 _) rfl (v:=.pointer (some ⟨gr.blk,gr.off,none⟩)) (J0 rfl) ?_;refine I0.toUnsafe do1 (Z0 _) rfl rfl (.inl rfl) Tryz.underlying165 Tryz.underlying128 zu0 ?_;refine I0.dt1 (Z0 _) rfl Tryz.func87 Wm0 rfl rfl Xa0 rfl hF ?_;refine U476 ?_;simp only[cy0];refine I0.nil (C3 _ gr) ?_;refine U538 ?_;refine U191 ?_;refine U480 ?_;refine U304 ?_;refine U442 ?_;refine U569 ?_;refine U105 ?_;refine U387 ?_;refine I0.val (C3 _ gr) (Z0 _) rfl (v:=.int .i64 (-1)) (J0 rfl) ?_;refine U341 ?_;refine U439 ?_;intro cs2 hb2;refine U520 ?_;refine U228 ?_;refine U349 ?_;refine I0.Na0 (Z0 _) rfl Tryz.func109 Eu0 rfl rfl Ew0 rfl rfl (fun v wt hwt hv r3=>?_) ?_
 ·by_cases hv0:0<v
  ·have hwc:wt=0\/wt=1:=by omega
   rcases hwc with rfl|rfl
   ·refine I0.val (j0 _) (Z0 _) rfl (v:=.int .u64 (((v*4294967296+0:Nat):Int))) (S0 rfl) ?_;refine I0.nil (j0 _) ?_;refine At.ret (j0 _) (fun _=>?_);refine U364 ?_;refine U41 ?_;refine U358 ?_;refine U88 ?_;refine U158 ?_;refine U401 ?_;refine I0.nil (j0 _) ?_;refine U158 ?_;refine U430 ?_;refine U41 ?_;refine U154 ?_;refine U215 ?_;refine U218 ?_;refine U277 ?_;refine U216 ?_;refine At.ret (j0 _) (fun _=>?_);refine AtR.mark (j0 _) .enable (by simp) rfl Tryz.func89 jg0 rfl rfl jh0 ?_;simp only[q6];refine U47 ?_;refine At.done (j0 _) (fun _=>?_);exact U46
   ·refine I0.val (j0 _) (Z0 _) rfl (v:=.int .u64 (((v*4294967296+1:Nat):Int))) (S0 rfl) ?_;refine I0.nil (j0 _) ?_;refine At.ret (j0 _) (fun _=>?_);refine U365 ?_;refine U41 ?_;refine U359 ?_;refine U88 ?_;refine U159 ?_;refine U400 ?_;refine I0.nil (j0 _) ?_;refine U159 ?_;refine U352 ?_;refine U504 ?_;refine U154 ?_;refine U215 ?_;refine U45 ?_;refine U392 ?_;refine U154 ?_;refine U287 ?_;refine U216 ?_;refine At.ret (j0 _) (fun _=>?_);refine AtR.mark (j0 _) .enable (by simp) rfl Tryz.func89 jg0 rfl rfl jh0 ?_;simp only[q6];refine U47 ?_;refine At.done (j0 _) (fun _=>?_);exact U46
  ·obtain rfl:v=0:=by omega
   obtain rfl:wt=0:=by omega
   refine U233 ?_;refine At.ret (j0 _) (fun _=>?_);refine U445 ?_;refine U45 ?_;refine U360 ?_;refine U88 ?_;refine U160 ?_;refine U340 ?_;refine U440 ?_;refine U160 ?_;refine U431 ?_;refine U41 ?_;refine U154 ?_;refine U225 ?_;refine U221 ?_;refine U453 ?_;refine U218 ?_;refine U221 ?_;refine U393 ?_;refine U384 ?_;refine U466 ?_;refine At.J4 (j0 _) rfl ?_;refine At.ret (j0 _) (fun _=>?_);refine AtR.mark (j0 _) .enable (by simp) rfl Tryz.func89 jg0 rfl rfl jh0 ?_;simp only[q6];refine U47 ?_;refine At.done (j0 _) (fun _=>?_);exact U46
 ·refine I0.val (Q0 _ gr 2) (Z0 _) rfl (v:=.int .u64 (((0*4294967296+1:Nat):Int))) (S0 rfl) ?_;refine I0.nil (Q0 _ gr 2) ?_;refine At.ret (Q0 _ gr 2) (fun _=>?_);refine U362 ?_;refine U565 ?_;refine U75 ?_;refine U361 ?_;refine U76 ?_;refine U51 ?_;refine U75 ?_;refine U338 ?_;refine U434 ?_;refine U75 ?_;refine U350 ?_;refine U456 ?_;refine U60 ?_;refine U399 ?_;refine U150 ?_;refine U76 ?_;refine U104 ?_;refine U51 ?_;refine U162 ?_;refine U421 ?_;refine U229 ?_;refine U60 ?_;refine U388 ?_;refine U399 ?_;refine U150 ?_;refine U76 ?_;refine U104 ?_;refine U51 ?_;refine U162 ?_;refine U386 ?_;refine U383 ?_;refine U51 ?_;refine U60 ?_;refine U148 ?_;refine U351 ?_;intro cs3 hb3;refine U70 ?_;refine U457 ?_;refine U70 ?_;refine U148 ?_;refine U354 ?_;refine U458 ?_;refine At.ret (Q0 _ gr 1) (fun _=>?_);refine U507 ?_;refine U558 ?_;refine U566 ?_;refine U197 ?_;refine U347 ?_;intro cs4 hb4;refine U197 ?_;refine U353 ?_;refine U470 ?_;refine At.done (Q0 _ gr 0) (fun _=>?_);refine U491 ?_;refine U198 ?_;refine U467 ?_;refine U559 ?_;refine U562 ?_;refine U198 ?_;refine U389 ?_;refine U560 ?_;refine At.skip (Q0 _ gr 0) ?_;refine U564 ?_;refine U418 ?_;refine U345 ?_;refine U486 ?_;refine At.inBlock (j0 _) ?_;refine U477 ?_;refine U394 ?_;refine U570 ?_;refine U235 ?_;refine U460 ?_;refine At.exit (j0 _) rfl ?_;refine At.done (j0 _) (fun _=>?_);refine AtR.mark (j0 _) .enable (by simp) rfl Tryz.func89 jg0 rfl rfl jh0 ?_;simp only[q6];refine U47 ?_;refine At.done (j0 _) (fun _=>?_);exact U46
set_option maxRecDepth 20000 in
theorem yk0 (gr:I4) (K:Goroutine->Prop) {c:Frame} {cs:List Frame} (hK:K (Conc.G (c.finish (.tuple #[])) cs)):∀(V:Nat),V<2147483648->∀(e:Env),At (XWH Tryz.prog gr (WA Tryz.prog gr (stA gr) K) none V) (500*V+500) 84 (base 70) (c::cs) [] 1 (upd e 0 (.pointer (some ⟨gr.blk,gr.off,none⟩))) [.code zv0,.inLoop zv0,.inBlock 0]:=by
 intro V
 induction V using Nat.strongRecOn with
 |_ V ih=>
 intro hV e;refine At.block B2 ?_;refine U13 ?_;refine U153 ?_;refine U522 ?_;intro cs1 V4;refine U505 ?_;refine U13 ?_;refine U152 ?_;refine I0.Eo0 (Z0 _) rfl Tryz.func110 vc0 rfl rfl vd0 rfl ?_ (fun v hv hv0=>?_)
 ·refine I0.val o4 (Z0 _) rfl (v:=.int .u64 0) (S0 rfl) ?_;refine I0.nil o4 ?_;refine At.ret o4 (fun _=>?_);refine AtR.leave1 o4 V4 rfl Tryz.func96 rfl (.int .u64 0) rfl ?_;refine U262 ?_;refine U544 ?_;refine I0.val o4 (Z0 _) rfl (v:=.int .u64 0) (by0 (r:=0) rfl rfl (by decide) (by decide)) ?_;refine I0.val o4 (Z0 _) rfl (v:=.int .i32 0) (q3 (r:=0) rfl Tryz.underlying136 Tryz.underlying21 (by decide)) ?_;refine I0.val o4 (Z0 _) rfl (v:=.int .i32 0) (S0 rfl) ?_;refine I0.nil o4 ?_;refine U544 ?_;refine I0.val o4 (Z0 _) rfl (v:=.int .u64 0) (H6 (r:=0) rfl rfl (by decide)) ?_;refine I0.val o4 (Z0 _) rfl (v:=.int .u32 0) (q3 (r:=0) rfl Tryz.underlying136 Tryz.underlying139 (by decide)) ?_;refine I0.val o4 (Z0 _) rfl (v:=.int .u32 0) (S0 rfl) ?_;refine U291 ?_;refine U185 ?_;refine I0.val o4 (Z0 _) rfl (v:=.int .i32 0) (J0 rfl) ?_;refine I0.val o4 (Z0 _) rfl (v:=.bool true) (j9 (r:=true) rfl rfl (by decide)) ?_;refine I0.nil o4 ?_;refine At.J4 o4 rfl ?_;refine At.seq o4 ?_;refine At.J4 o4 rfl ?_;refine U474 ?_;simp only[q6];refine I0.nil o4 ?_;refine U239 ?_;refine U395 ?_;refine U80 ?_;refine U40 ?_;refine U404 ?_;refine U422 ?_;refine U381 ?_;refine U420 ?_;refine I0.off K2 rfl rfl ?_;refine U482 ?_;refine U202 ?_;refine At.ret K2 (fun _=>?_);exact U189
 ·refine I0.val B2 (Z0 _) rfl (v:=.int .u64 (((v*4294967296+0:Nat):Int))) (S0 rfl) ?_;refine I0.nil B2 ?_;refine At.ret B2 (fun _=>?_);refine U372 ?_;refine I0.nil B2 ?_;refine U161 ?_;refine U342 ?_;refine U478 ?_;refine U161 ?_;refine U355 ?_;refine U497 ?_;refine At.seq B2 ?_;refine U13 ?_;refine U382 ?_;refine U288 ?_;refine U13 ?_;refine U153 ?_;refine U379 ?_;refine U339 ?_;intro cs2 hb2;refine U13 ?_;refine U498 ?_;refine U13 ?_;refine U152 ?_;refine U380 ?_;refine I0.Nb0 (vs:=v) (Z0 _) rfl Tryz.func112 Ni0 rfl rfl Nq0 rfl rfl rfl ?_ (fun v2 hv2=>?_)
  ·refine I0.val r4 (Z0 _) rfl (v:=.bool true) (S0 rfl) ?_;refine I0.nil r4 ?_;refine At.ret r4 (fun _=>?_);refine U527 ?_;refine U537 ?_;refine U523 ?_;refine U272 ?_;refine U220 ?_;refine U366 ?_;rw[m8 _ rfl];refine I0.nil r4 ?_;refine U255 ?_;refine U492 ?_;refine U289 ?_;refine U367 ?_;refine U398 ?_;refine U479 ?_;refine U582 ?_;refine At.skip r4 ?_;refine At.seq r4 ?_;refine U220 ?_;refine U423 ?_;refine U291 ?_;refine U455 ?_;refine I0.val o4 (Z0 _) rfl (v:=.pointer (some ⟨gr.blk,gr.off,none⟩)) (B3 (s:=1) gr.off gr.off rfl Tryz.underlying141 rfl lc0 (by decide) rfl) ?_;refine I0.call o4 (Z0 _) [.pointer (some ⟨gr.blk,gr.off,none⟩)] 7 rfl Tryz.func96 Ka0 rfl rfl rfl (fun cs3 hb3=>?_);refine U185 ?_;refine U262 ?_;refine At.seq o4 ?_;refine U455 ?_;refine I0.val o4 (Z0 _) rfl (v:=.pointer (some ⟨gr.blk,gr.off,none⟩)) (B3 (s:=1) gr.off gr.off rfl Tryz.underlying138 rfl lb0 (by decide) rfl) ?_;refine I0.Tf0 (Z0 _) rfl Tryz.func110 vc0 rfl rfl vd0 rfl ?_;refine U262 ?_;refine At.ret o4 (fun _=>?_);refine AtR.leave1 o4 hb3 rfl Tryz.func96 rfl (.int .u64 0) rfl ?_;refine I0.val o4 (Z0 _) rfl (v:=.bool false) (l7 (r:=false) rfl rfl (by decide)) ?_;refine I0.val o4 (Z0 _) rfl (v:=.bool false) (S0 rfl) ?_;refine U291 ?_;refine At.J4 o4 rfl ?_;refine U474 ?_;simp only[q6];refine I0.nil o4 ?_;refine U239 ?_;refine U395 ?_;refine U80 ?_;refine U533 ?_;refine U202 ?_;refine At.ret K2 (fun _=>?_);exact U189
  ·refine I0.val B2 (Z0 _) rfl (v:=.bool false) (S0 rfl) ?_;refine I0.nil B2 ?_;refine At.ret B2 (fun _=>?_);refine U526 ?_;refine U583 ?_;exact At.Ek0 (E:=WA Tryz.prog gr (stA gr) K) (fun _ _ _ _=>WA.mono _ _ _ _) (At.jt0 (fun e=>ih v2 (by omega) (by omega) e) rfl) (by omega)
set_option maxRecDepth 20000 in
theorem Th0 (gr:I4) (K:Goroutine->Prop) {c:Frame} {cs:List Frame} (hK:K (Conc.G (c.finish (.tuple #[])) cs)) (V:Nat) (hV:V<2147483648):At (XWH Tryz.prog gr (WA Tryz.prog gr (stA gr) K) none V) (500*V+510) 84 (base 70) (c::cs) [] 0 (Wg.Q6 #[.pointer (some ⟨gr.blk,gr.off,none⟩)]) [.code (Tryz.f70.body.getD .skip)]:=by
 refine At.seq B2 ?_;refine At.J4 B2 rfl ?_;refine U443 ?_;simp only[cy0];refine I0.nil B2 ?_;refine At.block B2 ?_;refine At.loop B2 ?_;exact At.Ek0 (E:=WA Tryz.prog gr (stA gr) K) (fun _ _ _ _=>WA.mono _ _ _ _) (At.jt0 (fun e=>yk0 gr K hK V hV e) rfl) (by omega)
end
end Go.Proofs.YtnifpkopeheodaaGreat
end
section
namespace Go.Vy
open Go Go.Conc Go.Yc Go.RowKit
open Go.Vc Go.Wg
section
attribute [local irreducible] KK
theorem dj0 {pm:PM} {b:Nat} {o o':Obj} (h:(b,o)∈pm):(b,o')∈ix0 pm b o':=List.mem_map.2 ⟨(b,o),h,by simp⟩
section
variable {P:Program}{ρ:Operand->Value}{d:Option Nat}{ty:TypeId}{ps:String}{af:Array Edge}{g:Option (Nat×Bool)}{x y:Operand}{T T':TypeId}
theorem lz0:Op.maxDepth=9999+1:=rfl
theorem Ti0 {p:Addr} {u:TypeId} (hx:ρ x= .pointer (some p)) (hy:ρ y= .pointer none) (hT:P.underlying T=some (.pointer u)):Pu P (execOp ρ ⟨d,.binOp .eql T x y T',ty,ps,af,g⟩) (.bool false):=by
 refine⟨fun w=>Go.Vc.L3 hx hy hT,fun w=>?_⟩;have h2:(Op.equalIn Op.maxDepth T (.pointer (some p)) (.pointer none)).events P w #[]=#[]:=by rw[lz0,Op.equalIn];simp[run_underlying hT,go_sem]
 simp[execOp,hx,hy,go_sem,eqGuard,binOp,Op.equal,h2]
theorem Tj0 {p:Addr} {u:TypeId} (hx:ρ x= .pointer (some p)) (hy:ρ y= .pointer none) (hT:P.underlying T=some (.pointer u)):Pu P (execOp ρ ⟨d,.binOp .neq T x y T',ty,ps,af,g⟩) (.bool true):=by
 refine⟨fun w=>Go.Vc.A7 hx hy hT,fun w=>?_⟩;have h2:(Op.equalIn Op.maxDepth T (.pointer (some p)) (.pointer none)).events P w #[]=#[]:=by rw[lz0,Op.equalIn];simp[run_underlying hT,go_sem]
 simp[execOp,hx,hy,go_sem,eqGuard,binOp,Op.equal,h2]
theorem yl0 {u:TypeDesc} (hx:ρ x= .nilFunc) (hy:ρ y= .nilFunc) (hT:P.underlying T=some u) (hu:∃a b c,u= .func a b c):Pu P (execOp ρ ⟨d,.binOp .eql T x y T',ty,ps,af,g⟩) (.bool true):=by
 refine⟨fun w=>Go.Vc.B7 hx (.inl ⟨rfl,rfl⟩) hy hT hu,fun w=>?_⟩;obtain⟨a,b,c,rfl⟩:=hu;have h2:(Op.equalIn Op.maxDepth T .nilFunc .nilFunc).events P w #[]=#[]:=by rw[lz0,Op.equalIn];simp[run_underlying hT,go_sem]
 simp[execOp,hx,hy,go_sem,eqGuard,binOp,Op.equal,h2]
theorem Ij0 {b o n c s:Nat} {E:TypeId} {i:Nat} (r:Nat) (hx:ρ x= .slice (some ⟨b,o,none⟩) n c) (hy:ρ y= .int .i64 (i:Int)) (hT:P.underlying T=some (.slice E)) (hs:(P.info? E).map (·.size)=some s) (h:i<n) (hr:o+i*s=r):Pu P (execOp ρ ⟨d,.indexAddr T x y,ty,ps,af,g⟩) (.pointer (some ⟨b,r,none⟩)):=by
 subst hr;refine⟨fun w=>Go.Vc.c9 hx hy hT hs h,fun w=>?_⟩;have h1:=Go.Vc.c9 (d:=d) (ty:=ty) (ps:=ps) (af:=af) (g:=g) (w:=w) hx hy hT hs h;obtain⟨inf,hi,hs'⟩:=Option.map_eq_some_iff.1 hs;simp[execOp,hx,hy,Instr.indexAt,go_sem,run_underlying hT,sizeOf,typeInfo,hi];intro hh;omega
end
section
variable {P:Program}{main:Bool}{b c:Frame}{a:Act}{k todo:List Item}{cs:List Frame}{w:World}{ops:Array Oper}{i:Nat}{rest:List Nat}{f:FuncId}{fn:Func}{args caps:Array Value}
theorem Cg0 {x:Operand} {dst:Option Nat} {ty:TypeId} {ps:String} {af:Array Edge} (hk:b.kind≠.early) (ho:ops[i]? =some ⟨dst,.go {callee:=.value x,args:=#[],argTypes:=#[]},ty,ps,af,none⟩) (hx:a.eval x= .func (.func f) #[] caps) (w:World) :
  stepG P main (G (b.at a (.inRegion ops (i::rest)::k)) cs) w= .spawn (G (b.at (a.put dst undef) (.inRegion ops rest::k)) cs) (born P {target:=.fn (.func f) caps,args:=#[]}) w #[]:=by
 have hr:(execOp a.eval ⟨dst,.go {callee:=.value x,args:=#[],argTypes:=#[]},ty,ps,af,none⟩).run P w= .ok (.spawn {target:=.fn (.func f) caps,args:=#[]}) w:=by
  unfold execOp;simp[resolve,Deferred.ofValue,hx]
 have he:(execOp a.eval ⟨dst,.go {callee:=.value x,args:=#[],argTypes:=#[]},ty,ps,af,none⟩).events P w #[]=#[]:=by
  unfold execOp;simp[resolve,Deferred.ofValue,hx]
 rw[stepG_spawn ho rfl hk hr rfl,listed,he,seen_none]
theorem ym0 {body:Code} (hf:P.funcs[f]? =some fn) (P2:(fn.name== "runtime.NumGoroutine")=false) (hb:fn.body=some body) :
  stepG P main (born P {target:=.fn (.func f) caps,args}) w= .go (G ((baseD f).at {tmps:=(args++caps)++Array.replicate (fn.ntmps-(args++caps).size) undef,defers:=[]} [.code body]) [Z5 P]) w #[]:=by
 have h1:¬fn.name= "runtime.NumGoroutine":=by simpa using P2
 rw[<- enter_atD (args++caps) hf hb];simp[born,G,stepG,unwind,callDeferred,invoke,callFunc,hf,h1,hb,GStep.after,seen_none,Z5];exact⟨rfl,rfl,rfl,rfl⟩
theorem Ik0 {ok:Event->Prop} {Y:Nat->Nat->Goroutine->Prop} {ft d:Nat} {c:Code} (hY:HF P main ok Y) (m:Nat) (hf:P.funcs[f]? =some fn) (P2:(fn.name== "runtime.NumGoroutine")=false) (hb:fn.body=some c) (hm:(args++caps).size+(fn.ntmps-(args++caps).size)=m) (h:At Y ft m (baseD f) [Z5 P] [] d (Wg.Q6 (args++caps)) [.code c]):Y (ft+1) d (born P {target:=.fn (.func f) caps,args}) :=
 hY.c rfl rfl (fun _w=>ym0 hf P2 hb) (h _ (C7 (args++caps) _ hm))
theorem yn0 {n:Nat} {e:Env} (hc:rx0 n b [Z5 P] [] e todo c) (hn:b.kind= .deferred) (hf:P.funcs[b.fn]? =some fn) (hr:fn.results=#[]):QuitsD P 2 0 (G c [Z5 P]):=by
 obtain⟨a,ha,rfl⟩:=hc.rep;refine .inr ⟨rfl,_,#[],fun e he=>by simp at he,fun w=>qg0 (fn:=fn) hn ha.defers hf (results_none hr _ _ w) (events_results_none hr _ _),?_⟩;exact .inr ⟨rfl,_,#[],fun e he=>by simp at he,fun w=>qh0,rfl,rfl⟩
end
section
theorem MP.end {P:Program} {main:Bool} {gr:I4} {L:Q3} {E:Nat->PM->Goroutine->Prop} {n:Nat} {pm:PM} {g:Goroutine} (h:E n pm g):MP P main gr L E (n+1) pm g:=by unfold MP;exact .inl h
variable {P:Program}{Post:Value->World->Prop}{X:Gh}{n:Nat}{b:Frame}{cs:List Frame}{e:Env}{k:List Item}{ops:Array Oper}{i:Nat}{rest:List Nat}{ty:TypeId}{ps:String}{af:Array Edge}{x:Operand}{w:World}
theorem ZA.beside {f:FuncId} {caps:Array Value} {gr:I4} {A:Addr} {bx np:Nat} {ox0 ox:Obj} {L0 Lc:Q3} {K:Goroutine->Prop} (hb:b.kind≠.early) (ho:ops[i]? =some ⟨none,.go {callee:=.value x,args:=#[],argTypes:=#[]},ty,ps,af,none⟩) (hx:ev e x= .func (.func f) #[] caps)
  (J8:X.dn=0) (if0:X.pend=1) (cm0:X.cap=1) (hG:X.L2=some gr) (o7:∀i,X.G1 i=none) (hl:z9 X bx) (hw:¬X.low bx) (B9:X.D4 bx= .all) (hB:w.heap[bx]? =some ox0) (S2:∀p,p∈L0\/p∈Lc->w.cell? p.1=some p.2/\p.1.block≠bx/\¬GB X p.1.block)
  (Td0:At (YM P true gr L0 (Lx0 P gr A K) []) np n b cs [] 0 e (.inRegion ops rest::k)) (X5:∃nc,MP P false gr Lc (yi0 P gr A (fun pm=>(bx,ox)∈pm)) nc [(bx,ox0)] (born P {target:=.fn (.func f) caps,args:=#[]})) (hox:∃cs T f,ox= .cells cs T f) (hK:∀k g,K g->Fin P Post (X.gj0 w bx k) 0 g (di0 w bx ox k)) :
  ZA (Fin P Post X 0) n b cs e (.inRegion ops (i::rest)::k) w:=by
 intro a ha;obtain⟨nc,X5⟩:=X5;exact Fin.beside (g1:=G (b.at (a.put none undef) (.inRegion ops rest::k)) cs) rfl J8 if0 cm0 hG o7 (fun w=>Cg0 hb ho (by rw[ha.eval];exact hx) w) hl hw B9 hB S2 (Td0 a (fx0 ha) rfl) X5 hox hK
end
end
end Go.Vy
end
section
namespace Go.Proofs.YtnifpkopeheodaaGreat
open Go Go.Conc Go.Yc Go.Vy Go.Wg
open Go.Vc (Env upd Y2 ev Y3 H2)
section
attribute [local irreducible] KK
abbrev iz0 (bw:Nat) (v:Int):Obj:=.cells #[.int .i64 1,.int .i64 1,.pointer (some ⟨bw,0,none⟩),.int .i64 v] 145 (0,0)
abbrev stC (bb b6 bx bw:Nat):Q3:=[(⟨bb,0,none⟩,.func (.func 45) #[] #[.pointer (some ⟨b6,0,none⟩)]),(⟨b6,0,none⟩,.pointer (some ⟨bx,0,none⟩)),(⟨bw,0,none⟩,.bool true)]
abbrev fpC (bx bw:Nat) (pm:PM):Prop:=(bx,iz0 bw 5)∈pm
set_option maxRecDepth 20000 in
theorem Ly0 (gr:I4) (bb b6 bx bw:Nat):∃n,MP Tryz.prog false gr (stC bb b6 bx bw) (yi0 Tryz.prog gr (stA gr) (fpC bx bw)) n [(bx,iz0 bw 0)] (born Tryz.prog {target:=.fn (.func 67) #[.pointer (some ⟨gr.blk,gr.off,none⟩),.pointer (some ⟨bb,0,none⟩)],args:=#[]}):=by
 refine⟨580,(?_:YM Tryz.prog false gr (stC bb b6 bx bw) (yi0 Tryz.prog gr (stA gr) (fpC bx bw)) [(bx,iz0 bw 0)] 580 0 _) rfl⟩;refine Ik0 I2 4 Tryz.func67 bn1 rfl rfl ?_;refine U26 ?_;refine I0.defer I2 (bkd _) [.pointer (some ⟨gr.blk,gr.off,none⟩)] rfl ?_;refine I0.nil I2 ?_;refine U26 ?_;refine I0.defer I2 (bkd _) [] rfl ?_;refine I0.nil I2 ?_;refine At.region I2 ?_;refine I0.iy0 (bkd _) rfl (v:=.func (.func 45) #[] #[.pointer (some ⟨b6,0,none⟩)]) rfl Tryz.underlying1 rfl (.inl (.head _)) ?_;refine I0.Zt0 I2 (bkd _) (caps:=#[.pointer (some ⟨b6,0,none⟩)]) 3 rfl rfl Tryz.func45 bh1 rfl rfl (fun cs1 V4=>?_);refine At.region I2 ?_;refine I0.iy0 (Z0 _) rfl (v:=.pointer (some ⟨bx,0,none⟩)) rfl Tryz.underlying86 rfl (.inl (.tail _ (.head _))) ?_;refine I0.call I2 (Z0 _) [.pointer (some ⟨bx,0,none⟩),.pointer none,.int .i64 5] 26 rfl Tryz.func42 Vw0 rfl rfl rfl (fun cs2 hb2=>?_);refine U26 ?_;refine I0.Zq0 (v:=.pointer (some ⟨bx,0,none⟩)) (cs0:=[.pointer (some ⟨bx,0,none⟩)]) (Z0 _) rfl rfl rfl (fun q1=>?_);refine I0.Zq0 (v:=.int .i64 5) (cs0:=[.int .i64 5]) (Z0 _) rfl rfl rfl (fun q2=>?_);refine I0.nil I2 ?_;refine At.block I2 ?_;refine U412 ?_;refine I0.val I2 (Z0 _) rfl (v:=.bool false) (Ti0 rfl rfl Tryz.underlying86) ?_;refine U510 ?_;refine At.v5 I2 rfl ?_;refine U412 ?_;refine I0.val I2 (Z0 _) rfl (v:=.pointer (some ⟨bx,0,none⟩)) (I3 rfl) ?_;refine I0.val I2 (Z0 _) rfl (v:=.pointer (some ⟨bx,2,none⟩)) (B3 (s:=1) 0 2 rfl Tryz.underlying145 rfl Ep0 (by decide) rfl) ?_;refine I0.iy0 (Z0 _) rfl (v:=.pointer (some ⟨bw,0,none⟩)) rfl Tryz.underlying56 rfl (.inr ⟨_,_,(.tail _ (.tail _ (.head _))),rfl,rfl⟩) ?_;refine I0.call I2 (Z0 _) [.pointer (some ⟨bw,0,none⟩)] 11 rfl Tryz.func44 tb0 rfl rfl rfl (fun cs3 hb3=>?_);refine U26 ?_;refine U510 ?_;refine U26 ?_;refine I0.val I2 (Z0 _) rfl (v:=.pointer (some ⟨bw,0,none⟩)) (J0 rfl) ?_;refine I0.val I2 (Z0 _) rfl (v:=.bool true) (Tj0 rfl rfl Tryz.underlying56) ?_;refine I0.val I2 (Z0 _) rfl (v:=.bool true) (J0 rfl) ?_;refine I0.E8 I2 (Z0 _) rfl rfl (v:=.pointer (some ⟨bw,0,none⟩)) (J0 rfl) ?_;refine I0.E8 I2 (Z0 _) rfl rfl (v:=.pointer (some ⟨bw,0,none⟩)) (I3 rfl) ?_;refine I0.E8 I2 (Z0 _) rfl rfl (v:=.pointer (some ⟨bw,0,none⟩)) (B3 (s:=1) 0 0 rfl Tryz.underlying105 rfl sz4 (by decide) rfl) ?_;refine I0.Tb0 (Z0 _) rfl rfl (v:=.bool true) rfl Tryz.underlying4 rfl (.inl (.tail _ (.tail _ (.head _)))) ?_;refine I0.val I2 (Z0 _) rfl (v:=.bool true) (R7 rfl rfl) ?_;refine U512 ?_;refine At.ret I2 (fun _=>?_);refine AtR.leave1 I2 hb3 rfl Tryz.func44 rfl (.bool true) rfl ?_;refine U512 ?_;refine At.J4 I2 rfl ?_;refine At.region I2 ?_;refine I0.iy0 (Z0 _) rfl (v:=.pointer (some ⟨bx,0,none⟩)) rfl Tryz.underlying86 rfl (.inr ⟨_,_,(.tail _ (.head _)),rfl,rfl⟩) ?_;refine I0.iy0 (Z0 _) rfl (v:=.int .i64 5) rfl Tryz.underlying3 rfl (.inr ⟨_,_,(.head _),rfl,rfl⟩) ?_;refine I0.val I2 (Z0 _) rfl (v:=.pointer (some ⟨bx,0,none⟩)) (I3 rfl) ?_;refine I0.val I2 (Z0 _) rfl (v:=.pointer (some ⟨bx,3,none⟩)) (B3 (s:=1) 0 3 rfl Tryz.underlying145 rfl sz3 (by decide) rfl) ?_;refine I0.Hz0 (v:=.int .i64 5) (Z0 _) rfl rfl sz3 rfl (.tail _ (.tail _ (.head _))) rfl ?_;refine I0.nil I2 ?_;refine At.inBlock I2 ?_;refine At.done I2 (fun _=>?_);refine AtR.leave0 I2 hb2 rfl Tryz.func42 rfl ?_;refine I0.nil I2 ?_;refine At.done I2 (fun _=>?_);refine AtR.leave0 I2 V4 rfl Tryz.func45 rfl ?_;refine I0.nil I2 ?_;refine At.done I2 (fun _=>?_);refine AtR.Ii0 I2 1 Tryz.func69 bo1 rfl rfl (fun cf1 p8=>?_);refine At.region I2 ?_;refine I0.gz0 I2 rfl rfl rfl p8.mode ?_;refine I0.nil I2 ?_;refine At.done I2 (fun _=>?_);refine AtR.leaveD I2 rfl Tryz.func69 rfl p8.mode ?_;refine p8.go ?_;refine AtR.Ii0 I2 4 Tryz.func68 Wi0 rfl rfl (fun cf2 hc2=>?_);exact Tg0 gr (dj0 (.tail _ (.tail _ (.head _)))) hc2.mode (yn0 hc2 rfl Tryz.func67 rfl)
end
end Go.Proofs.YtnifpkopeheodaaGreat
end
section
namespace Go.Vy.Sc
open Go Go.Conc Go.Yc Go.RowKit Go.Proofs Go.Proofs.YtnifpkopeheodaaGreat Try
open Go.Vc Go.Wg
section
attribute [local irreducible] KK
structure we0 (w:World) (bs b6 bx bw:Nat):Prop where
 sl:V0 w bs #[.func (.func 45) #[] #[.pointer (some ⟨b6,0,none⟩)],.nilFunc] 1
 p6:V0 w b6 #[.pointer (some ⟨bx,0,none⟩)] 86
 cx:w.heap[bx]? =some (iz0 bw 0)
 cw:V0 w bw #[.bool true] 105
theorem we0.E0 {w w':World} {bs b6 bx bw:Nat} (h:we0 w bs b6 bx bw) (hk:∀b,b<w.heap.size->w'.heap[b]? =w.heap[b]?):we0 w' bs b6 bx bw :=
 ⟨(hk bs h.sl.lt).trans h.sl,(hk b6 h.p6.lt).trans h.p6,(hk bx (Array.getElem?_eq_some_iff.1 h.cx).1).trans h.cx,(hk bw h.cw.lt).trans h.cw⟩
structure Tk0 (w w':World) (bx bw:Nat):Prop where
 size:w.heap.size <=w'.heap.size
 os:w'.os=w.os
 output:w'.output=w.output
 tape:w'.tape=w.tape
 block:∀b,b<w.heap.size->b≠bx->w'.heap[b]? =w.heap[b]?
 cx:w'.heap[bx]? =some (iz0 bw 5)
structure Zw0 (X X':Gh) (n1:Nat) (w':World):Prop where
 G1:∀i,X'.G1 i=none
 cap:X'.cap=0
 pend:X'.pend=0
 dn:X'.dn=0
 under:X'.W8 w'.heap.size
 D4:X'.D4=X.D4
 fz0:0<X'.n
 low:∀b,X'.low b->X.low b\/n1 <=b
def Tl0 (cs:List Frame) (g:Goroutine):Prop:=∃a,a.tmps.size=17/\a.defers=[]/\g=G (((base 33).at a (.inRegion (match Tryz.f33.body with|some (.seq _ (.seq _ (.region _ o _)))=>o|_=>#[]) [0] :: [])).finish (.tuple #[])) cs
set_option maxRecDepth 20000 in
theorem yo0 {X:Gh} {Post:Value->World->Prop} {cs:List Frame} {w:World} {bs b6 bx bw n1:Nat} (hin:we0 w bs b6 bx bw) (h0:∀i,X.G1 i=none) (cm0:X.cap=0) (hp:X.pend=0) (J8:X.dn=0) (hU:X.W8 n1) (B9:∀b,n1 <=b->X.D4 b= .all) (hnb:n1 <=bs/\n1 <=b6/\n1 <=bx/\n1 <=bw)
  (hk:∀X' w' fr,Zw0 X X' n1 w'->Tk0 w w' bx bw->fr.fn=33->Leaves Tryz.prog fr w' (.returned (.tuple #[]))->Fin Tryz.prog Post X' 0 (G fr cs) w'):Fin Tryz.prog Post X 0 (G (Frame.enter Tryz.prog 33 #[.slice (some ⟨bs,0,none⟩) 2 2] .normal) cs) w:=by
 letI:Ctx Tryz.prog:=V1 Tryz.prog true;have hZ:Ctx.Zs Tryz.prog (Fin Tryz.prog Post X 0):=V3;have hb:=Z0 33;rw[enter_at _ Tryz.func33 rfl];refine(?_:ZA (Fin Tryz.prog Post X 0) 17 (base 33) cs (Vc.Q6 #[.slice (some ⟨bs,0,none⟩) 2 2]) [.code (Tryz.f33.body.getD .skip)] w) _ (L5 _ _ rfl);have hUw:∀b,n1 <=b->z9 X b:=fun b hb=>hU.A9 hb;have hlw:∀b,n1 <=b->¬X.low b:=fun b hb hl=>by have:=hU.low b hl;omega
 refine U6 ?_;refine L.alloc (cs:=#[.int .u64 0,.int .u32 0]) Ne0 rfl (fun w1 bG F1=>?_);refine U2 ?_;have Zx0:=hin.E0 (fun b hb=>F1.below.block b hb);refine ZA.seq hZ ?_;refine U577 ?_;refine U135 ?_;refine U65 ?_;refine ZA.J4 hZ rfl ?_;refine U163 ?_;refine U205 ?_;refine L.va (c9 (i:=0) rfl rfl Tryz.underlying60 sz1 (by decide)) ?_;refine L.va (F0 (v:=.func (.func 45) #[] #[.pointer (some ⟨b6,0,none⟩)]) rfl Tryz.underlying1 rfl (Zx0.sl.cell rfl)) ?_;refine L.alloc (cs:=#[.nilFunc]) zr1 rfl (fun w2 bb F2=>?_);refine L.put #[.func (.func 45) #[] #[.pointer (some ⟨b6,0,none⟩)]] rfl rfl rfl sz1 rfl rfl F2.blk (by decide) rfl (fun w3 S9 hg3 hs3=>?_);refine U2 ?_;have hbG:bG=w.heap.size:=F1.here;have hbb:bb=w1.heap.size:=F2.here;have hz1:=F1.size;have hz2:=F2.size;have hGb:V0 w1 bG #[.int .u64 0,.int .u32 0] 141:=F1.blk;have yp0:∀b,b<w1.heap.size->w3.heap[b]? =w1.heap[b]?:=fun b hb=>by
  rw[hg3.block b (by omega) (fun e=>by cases e;omega)];exact F2.below.block b hb
 have Lz0:=Zx0.E0 yp0;have hG3:w3.heap[bG]? =some (.cells (#[] ++ #[.int .u64 0,.int .u32 0]) 141 (0,0)):=by
  rw[yp0 bG (by omega)];exact hGb
 refine ZA.seq hZ ?_;refine U6 ?_;refine L.va (F0 (v:=.func (.func 45) #[] #[.pointer (some ⟨b6,0,none⟩)]) rfl Tryz.underlying1 rfl (S9.cell rfl)) ?_;refine L.va (B7 (b:=false) rfl (.inr ⟨_,_,_,rfl,rfl⟩) rfl Tryz.underlying1 ⟨_,_,_,rfl⟩) ?_;refine U125 ?_;have Tm0:n1 <=bG:=by have:=hin.sl.lt;omega
 intro a ha;refine Fin.wm0 (f':=(0,0)) (b:=bG) (c:=#[]) cm0 (hUw bG Tm0) (hlw bG Tm0) (B9 bG Tm0) hG3 (Nat.zero_le _) ?_;revert ha;revert a;generalize hw4:O2 w3 bG (.cells #[] 141 (0,0))=w4;have dk0:∀b,b≠bG->w4.heap[b]? =w3.heap[b]?:=fun b hb=>by rw[<- hw4];exact c5 _ _ (Ne.symm hb)
 have du1:w4.heap.size=w.heap.size+2:=by rw[<- hw4];show(w3.heap.setIfInBounds _ _).size=_;rw[Array.size_setIfInBounds];omega
 have T2:=fun(b:Nat) (cs:Array Value) (T:TypeId) (h:V0 w b cs T)=>h.lt;have Il0:we0 w4 bs b6 bx bw:=by
  have h1:=hin.sl.lt;have h2:=hin.p6.lt;have h3:=(Array.getElem?_eq_some_iff.1 hin.cx).1;have h4:=hin.cw.lt;exact⟨(dk0 bs (by omega)).trans Lz0.sl,(dk0 b6 (by omega)).trans Lz0.p6,(dk0 bx (by omega)).trans Lz0.cx,(dk0 bw (by omega)).trans Lz0.cw⟩
 have L1:V0 w4 bb #[.func (.func 45) #[] #[.pointer (some ⟨b6,0,none⟩)]] 1:=(dk0 bb (by omega)).trans S9;generalize hX1:({X.lower bG with L2:=some ⟨bG,0⟩,old:=X.L2.toList++X.old}:Gh)=X1;have T7:X1=({X.lower bG with L2:=some ⟨bG,0⟩,old:=X.L2.toList++X.old}:Gh):=hX1.symm;refine U552 ?_;intro hZ1;refine ZA.region hZ1 ?_;refine ZA.call (i:=0) (rest:=[]) hZ1 hb (f:=66) (args:=#[.pointer (some ⟨bG,0,none⟩),.int .i64 1]) rfl rfl (n3 rfl rfl Tryz.func66 rfl Jz0 rfl) (fun a ha=>?_);have hXe:X1={X1 with dn:=0}:=by rw[T7];show _=_;cases X;simp only[Gh.lower]at J8⊢;subst J8;rfl
 rw[hXe];refine Fin.Cq0 (G:=⟨bG,0⟩) (X:=X1) (K:=fun g'=>g'=_) (by rw[T7]) (by rw[T7];exact hp) (by rw[T7];show X.cap<65536;omega) (fun g' z6=>?_) _ _ _ (Ns0 ⟨bG,0⟩ (fun g'=>g'=_) rfl);subst z6;refine ZA.home (i:=0) rfl rfl ha ?_;have dz1:X1.cap=0:=by rw[T7];exact cm0
 generalize hX2:({X1 with pend:=1,cap:=X1.cap+1,dn:=0}:Gh)=X2;have jk0:X2=({X1 with pend:=1,cap:=X1.cap+1,dn:=0}:Gh):=hX2.symm;have hZ2:Ctx.Zs Tryz.prog (Fin Tryz.prog Post X2 0):=V3;refine ZA.k3 hZ2 ?_;refine ZA.upto hZ2 hb 1 rfl rfl (R:=fun e' w'=>ZA _ _ _ _ e' _ w') ?_ (fun _ _ h=>h);show L _ _ _ _ _ _ _;refine L.va (S3 rfl) ?_;refine U2 ?_;have xl0:X2.stay=X.stay:=by rw[jk0,T7];rfl
 have Oh0:X2.X3=X.X3:=by rw[jk0,T7];rfl
 have Oi0:X2.I7=X.I7:=by rw[jk0,T7];rfl
 have Im0:X2.low=fun k=>X.low k\/k=bG:=by rw[jk0,T7];rfl
 have Oj0:X2.L2=some ⟨bG,0⟩:=by rw[jk0,T7]
 have Zy0:X2.old=X.L2.toList++X.old:=by rw[jk0,T7]
 have In0:X2.D4=X.D4:=by rw[jk0,T7];rfl
 have Io0:∀i,X2.G1 i=none:=fun i=>by rw[jk0,T7];exact h0 i
 have hn2:X2.n=X.n:=by rw[jk0,T7];rfl
 have Tn0:∀G,(X2.L2=some G\/G∈X2.old)->G.blk=bG\/G.blk<n1:=fun G hG=>by
  rw[Oj0,Zy0]at hG;rcases hG with hG|hG
  ·cases hG;exact .inl rfl
  ·rcases List.mem_append.1 hG with hG|hG
   ·exact .inr (hU.L2 G (.inl (by simpa using hG)))
   ·exact .inr (hU.L2 G (.inr hG))
 have dv1:∀b,n1 <=b->b≠bG->¬GB X2 b:=fun b hb r3 ⟨G,hG,e⟩=>by
  rcases Tn0 G hG with h|h
  ·exact r3 (e.trans h)
  ·omega
 have hl1:=hin.sl.lt;have hl2:=hin.p6.lt;have hl3:=(Array.getElem?_eq_some_iff.1 hin.cx).1;have hl4:=hin.cw.lt;have hnx:∀(b:Nat) (cs:Array Value) (T:TypeId),V0 w4 b cs T->cs.size≠4->b≠bx:=fun b cs T h hs e=>by
  subst e;unfold V0 at h;rw[Il0.cx]at h;have:=(Obj.cells.inj (Option.some.inj h)).1;exact hs (by rw[<- this];rfl)
 refine ZA.beside (i:=1) (rest:=[]) (f:=67) (caps:=#[.pointer (some ⟨bG,0,none⟩),.pointer (some ⟨bb,0,none⟩)]) (gr:=⟨bG,0⟩) (A:=⟨bG,0,none⟩) (bx:=bx) (np:=1056) (ox0:=iz0 bw 0) (ox:=iz0 bw 5) (L0:=[(⟨bs,1,none⟩,.nilFunc)]) (Lc:=stC bb b6 bx bw) (K:=Tl0 cs) hb rfl rfl
  (by rw[jk0]) (by rw[jk0]) (by rw[jk0];show X1.cap+1=1;omega) Oj0 Io0 ⟨fun i p hp=>?_,?_,?_,fun G hG e=>?_⟩ ?_ ?_ Il0.cx (fun p hp=>?_) ?_ (Ly0 ⟨bG,0⟩ bb b6 bx bw) ⟨_,_,_,rfl⟩ (fun k g hg=>?_)
 ·rw[xl0]at hp;exact(hUw bx hnb.2.2.1).stay i p hp
 ·rw[Oh0];exact(hUw bx hnb.2.2.1).X3
 ·rw[Oi0];exact(hUw bx hnb.2.2.1).I7
 ·rcases Tn0 G hG with h|h <;> omega
 ·rw[Im0];rintro(h|h)
  ·exact hlw bx hnb.2.2.1 h
  ·omega
 ·rw[In0];exact B9 bx hnb.2.2.1
 ·have key:∀b cs T i v,V0 w4 b cs T->cs[i]? =some v->cs.size≠4->n1 <=b->b≠bG->w4.cell? ⟨b,i,none⟩=some v/\b≠bx/\¬GB X2 b:=fun b cs T i v h hv hs hn r3=>⟨h.cell hv,hnx b cs T h hs,dv1 b hn r3⟩
  rcases hp with hp|hp
  ·simp only[List.mem_cons,List.not_mem_nil,or_false]at hp;subst hp;exact key bs _ _ 1 _ Il0.sl rfl (by simp) hnb.1 (by omega)
  ·simp only[stC,List.mem_cons,List.not_mem_nil,or_false]at hp;rcases hp with rfl|rfl|rfl
   ·exact key bb _ _ 0 _ L1 rfl (by simp) (by omega) (by omega)
   ·exact key b6 _ _ 0 _ Il0.p6 rfl (by simp) hnb.2.1 (by omega)
   ·exact key bw _ _ 0 _ Il0.cw rfl (by simp) hnb.2.2.2 (by omega)
 ·refine(?_:At (YM Tryz.prog true ⟨bG,0⟩ [(⟨bs,1,none⟩,.nilFunc)] (Lx0 Tryz.prog ⟨bG,0⟩ ⟨bG,0,none⟩ (Tl0 cs)) []) 1056 17 (base 33) cs [] 0 _ _);refine At.k3 I2 ?_;refine At.inBlock I2 ?_;refine At.region I2 ?_;refine I0.val I2 (Z0 _) rfl (v:=.int .i64 1) (xc0 (r:=1) rfl rfl (by decide)) ?_;refine I0.val I2 (Z0 _) rfl (v:=.int .i64 1) (J0 rfl) ?_;refine I0.nil I2 ?_;refine At.inLoop I2 ?_;refine U26 ?_;refine U459 ?_;refine At.seq I2 ?_;refine At.J4 I2 rfl ?_;refine At.skip I2 ?_;refine At.seq I2 ?_;refine At.block I2 ?_;refine U26 ?_;refine I0.val I2 (Z0 _) rfl (v:=.pointer (some ⟨bs,1,none⟩)) (Ij0 (i:=1) 1 rfl rfl Tryz.underlying60 sz1 (by decide) rfl) ?_;refine I0.iy0 (Z0 _) rfl (v:=.nilFunc) rfl Tryz.underlying1 rfl (.inl (.head _)) ?_;refine I0.Tc0 (v:=.nilFunc) (cs0:=[.nilFunc]) (Z0 _) rfl zr1 rfl (fun q1=>?_);refine I0.Hz0 (v:=.nilFunc) (Z0 _) rfl rfl sz1 rfl (.head _) rfl ?_;refine I0.nil I2 ?_;refine At.seq I2 ?_;refine U26 ?_;refine I0.iy0 (Z0 _) rfl (v:=.nilFunc) rfl Tryz.underlying1 rfl (.inr ⟨_,_,(dj0 (.head _)),rfl,rfl⟩) ?_;refine I0.val I2 (Z0 _) rfl (v:=.bool true) (yl0 rfl rfl Tryz.underlying1 ⟨_,_,_,rfl⟩) ?_;refine I0.nil I2 ?_;refine At.J4 I2 rfl ?_;refine At.exit I2 rfl ?_;refine At.region I2 ?_;refine I0.val I2 (Z0 _) rfl (v:=.int .i64 2) (xc0 (r:=2) rfl rfl (by decide)) ?_;refine I0.val I2 (Z0 _) rfl (v:=.int .i64 2) (J0 rfl) ?_;refine I0.nil I2 ?_;refine At.inLoop I2 ?_;refine U26 ?_;refine I0.val I2 (Z0 _) rfl (v:=.bool false) (ah0 (r:=false) rfl rfl (by decide)) ?_;refine I0.nil I2 ?_;refine At.seq I2 ?_;refine At.v5 I2 rfl ?_;refine At.exit I2 rfl ?_;refine At.region I2 ?_;refine I0.call I2 (Z0 _) [.pointer (some ⟨bG,0,none⟩)] 84 rfl Tryz.func70 Qf0 rfl rfl rfl (fun cs1 V4=>?_);obtain⟨a1,ha1,rfl⟩:=V4.rep;intro a2 ha2 _;exact MP.end (n:=1010) (Th0 ⟨bG,0⟩ (Tl0 cs) ⟨a1,ha1.size,ha1.defers,rfl⟩ 1 (by decide) a2 ha2)
 ·obtain⟨a,ha1,ha2,rfl⟩:=hg;have hr:G9 17 a (fun t=>a.tmps.getD t undef):=⟨ha1,ha2,fun _=>rfl⟩
  refine ZA.home (i:=0) (rest:=[]) rfl rfl hr ?_;have hZ3:Ctx.Zs Tryz.prog (Fin Tryz.prog Post (X2.gj0 w4 bx k) 0):=V3;refine ZA.k3 hZ3 ?_;refine ZA.done hZ3 ?_;refine ZA.leaves (fn:=Tryz.f33) (f:=33) rfl Tryz.func33 rfl (fun fr hfn hlv=>?_);have ge1:(di0 w4 bx (iz0 bw 5) k).heap.size=w4.heap.size+k:=ia0;refine hk _ _ fr ⟨Io0,rfl,rfl,rfl,⟨fun i p hp=>?_,fun b o hb=>?_,fun b hb=>?_,fun G hG=>?_,fun b hb=>?_⟩,In0,Nat.succ_pos _,fun b hb=>?_⟩ ⟨by omega,?_,?_,?_,fun b hb r3=>?_,ts0 (by omega)⟩ hfn hlv
  ·have hp':p∈X.stay i:=by rw[<- xl0];exact hp
   have:=hU.stay i p hp';omega
  ·have n7:X.X3 b=some o:=by rw[<- Oh0];exact hb
   have:=hU.X3 b o n7;omega
  ·have n7:X.I7 b:=by rw[<- Oi0];exact hb
   have:=hU.I7 b n7;omega
  ·rcases Tn0 G hG with h|h <;> omega
  ·have n7:X2.low b\/b=bx\/(w4.heap.size <=b/\b<w4.heap.size+k):=hb;rw[Im0]at n7;rcases n7 with(h|h)|h|h
   ·have:=hU.low b h;omega
   ·omega
   ·omega
   ·omega
  ·have n7:X2.low b\/b=bx\/(w4.heap.size <=b/\b<w4.heap.size+k):=hb;rw[Im0]at n7;rcases n7 with(h|h)|h|h
   ·exact .inl h
   ·right;omega
   ·right;have:=hnb.2.2.1;omega
   ·right;omega
  ·show w4.os=w.os;rw[<- hw4];exact hg3.os.trans (F2.below.os.trans F1.below.os)
  ·show w4.output=w.output;rw[<- hw4];exact hg3.output.trans (F2.below.output.trans F1.below.output)
  ·show w4.tape=w.tape;rw[<- hw4];exact hg3.tape.trans (F2.below.tape.trans F1.below.tape)
  ·rw[gk0 (by omega) r3,dk0 b (by omega),yp0 b (by omega)];exact F1.below.block b hb
end
def jx0:List N2:=[⟨1,0,1,0⟩,⟨5,0,9,1⟩,⟨1,0,2,0⟩]
def Ip0:Nat->Int:=fun j=>if j=1 then 1 else 0
theorem Iq0 {p:M4} (hm:p.m=2) (hb:p.bo=fun i=>if i<2 then jx0 else []):((E4 p).pn Ip0 6).evs=[(0,⟨1,1,0⟩),(0,⟨9,5,0⟩),(0,⟨2,1,0⟩),(1,⟨1,1,0⟩),(1,⟨9,5,0⟩),(1,⟨2,1,0⟩)]:=by
 obtain⟨m,bo,tb,wb,sb,mb,lgb,RO,wI,B,lb,pl⟩:=p;simp only at hm hb;subst hm hb;kernel_rfl
theorem Ch0 {w:World} {b10 b14:Nat} (h10:V0 w b10 #[.int .i64 1,.int .i64 0,.int .i64 1,.int .i64 0,.int .i64 5,.int .i64 0,.int .i64 9,.int .i64 1,.int .i64 1,.int .i64 0,.int .i64 2,.int .i64 0] 52) (h14:V0 w b14 #[.slice (some ⟨b10,0,none⟩) 3 3,.slice (some ⟨b10,0,none⟩) 3 3] 50) :
  dt0 w (some ⟨b14,0,none⟩) 2 (fun i=>if i<2 then jx0 else []) (fun _=>some ⟨b10,0,none⟩) (fun _=>3):=by
 refine⟨fun _=>rfl,fun i hi=>?_,fun i hi=>?_,fun i hi=>?_⟩
 ·match i,hi with
  |0,_=>exact h14.A0 0 rfl
  |1,_=>exact h14.A0 1 rfl
 ·simp only[if_pos hi];refine⟨fun _=>rfl,fun k o ho j v hv=>?_⟩;have hjl:j<4:=(List.getElem?_eq_some_iff.1 hv).1;have hkl:k<3:=(List.getElem?_eq_some_iff.1 ho).1;obtain rfl|rfl|rfl:k=0\/k=1\/k=2:=by omega
  all_goals cases ho
  all_goals obtain rfl|rfl|rfl|rfl:j=0\/j=1\/j=2\/j=3:=by omega
  all_goals cases hv
  ·exact h10.A0 0 rfl
  ·exact h10.A0 1 rfl
  ·exact h10.A0 2 rfl
  ·exact h10.A0 3 rfl
  ·exact h10.A0 4 rfl
  ·exact h10.A0 5 rfl
  ·exact h10.A0 6 rfl
  ·exact h10.A0 7 rfl
  ·exact h10.A0 8 rfl
  ·exact h10.A0 9 rfl
  ·exact h10.A0 10 rfl
  ·exact h10.A0 11 rfl
 ·simp only[if_pos hi];decide
theorem Ma0 {w:World} {b:Nat} (h:V0 w b #[.int .i64 0,.int .i64 1,.int .i64 0,.int .i64 0,.int .i64 0,.int .i64 0] 3):xq0 w (some ⟨b,0,none⟩) 6 6 Ip0:=by
 refine⟨fun _=>rfl,(fun h=>by cases h),by decide,fun j hj=>?_⟩
 match j,hj with
 |0,_=>exact h.A0 0 rfl
 |1,_=>exact h.A0 1 rfl
 |2,_=>exact h.A0 2 rfl
 |3,_=>exact h.A0 3 rfl
 |4,_=>exact h.A0 4 rfl
 |5,_=>exact h.A0 5 rfl
theorem Ir0:Su0 2 (fun i=>if i<2 then jx0 else []) 6:=by
 refine⟨by decide,by decide,fun i hi o ho=>?_,by decide⟩;simp only[if_pos hi,jx0,List.mem_cons,List.not_mem_nil,or_false]at ho;rcases ho with rfl|rfl|rfl
 ·exact .inl ⟨rfl,.inl rfl⟩
 ·exact .inr (.inr (.inr (.inr ⟨rfl,.inr rfl⟩)))
 ·exact .inl ⟨rfl,.inr rfl⟩
theorem ZA.Mb0 {P:Program} [Ctx P] {Z:Goroutine->World->Prop} {b:Frame} {cs:List Frame} {n t:Nat} {e:Env} {w:World} {fn:Func} {f:FuncId} {v:Value} (hb:b=base f) (hf:P.funcs[f]? =some fn) (hr:fn.results=#[.tmp t]) (hv:e t=v) (h:∀fr,fr.fn=f->Leaves P fr w (.returned v)->Z (G fr cs) w):ZR Z n b cs e w:=by
 intro todo a ha;subst hb;refine h _ rfl ⟨rfl,ha.defers,rfl,fn,hf,O6 (fun w=>by rw[results_tmp hr];exact congrArg (fun x=>Result.ok x w) ((ha.get t).trans hv)) (fun w=>events_results_tmp hr _ _)⟩
section
variable [Ctx Tryz.prog]
end
section
theorem Mc0 (x0:Int) (x1:Int):Tryz.prog.built 107 [(0,.int .i64 x0),(1,.int .i64 x1)]=some #[.int .i64 x0,.int .i64 x1]:=by kernel_rfl
theorem Md0 (x0:Int) (x1:Int) (x2:Option Addr) (x3:Int):Tryz.prog.built 145 [(0,.agg #[.int .i64 x0,.int .i64 x1]),(1,.pointer x2),(2,.int .i64 x3)]=some #[.int .i64 x0,.int .i64 x1,.pointer x2,.int .i64 x3]:=by kernel_rfl
theorem At0 (x0:Int) (x1:Int):Tryz.prog.built 52 [(0,.int .i64 x0),(2,.int .i64 x1)]=some #[.int .i64 x0,.int .i64 0,.int .i64 x1,.int .i64 0]:=by kernel_rfl
theorem Me0 (x0:Int) (x1:Int) (x2:Int):Tryz.prog.built 52 [(0,.int .i64 x0),(2,.int .i64 x1),(3,.int .i64 x2)]=some #[.int .i64 x0,.int .i64 0,.int .i64 x1,.int .i64 x2]:=by kernel_rfl
end
section
variable [Ctx Tryz.prog]
theorem ma0 (wb:Nat) (w0:World) (hW:V0 w0 wb #[.bool true] 105):C Tryz.prog 44 #[.pointer (some ⟨wb,0,none⟩)] w0 fun v w=>v= .bool true/\w=w0:=by
 refine U281 ?_;refine U66 ?_;refine U268 ?_;refine U124 ?_;refine U521 ?_;refine L.va (F0 rfl Tryz.underlying4 rfl (hW.A0 0 (v:=.bool true) rfl)) ?_;refine U307 ?_;exact⟨rfl,rfl⟩
theorem yq0 (bw:Nat) (obj num x:Int) (w0:World):C Tryz.prog 41 #[.pointer (some ⟨bw,0,none⟩),.int .i64 obj,.int .i64 num,.int .i64 x] w0 fun v w=>∃bx,v= .pointer (some ⟨bx,0,none⟩)/\w0.heap.size <=bx/\V0 w bx #[.int .i64 obj,.int .i64 num,.pointer (some ⟨bw,0,none⟩),.int .i64 x] 145/\Below w0.heap.size w0 w:=by
 refine C.enter (n:=16) Tryz.func41 rfl rfl ?_;refine U4 ?_;intro hb;refine U39 ?_;refine U69 ?_;refine L.va (W0 (parts:=[(0,.tmp 9),(1,.tmp 10)]) rfl (Mc0 obj num)) ?_;refine U44 ?_;refine L.va (W0 (parts:=[(0,.tmp 11),(1,.tmp 12),(2,.tmp 13)]) rfl (Md0 obj num ((some (⟨bw,0,none⟩))) x)) ?_;refine L.box (cs:=#[.int .i64 obj,.int .i64 num,.p bw,.int .i64 x]) rfl rfl (fun w b15 F15=>?_);have Lr0:=F15.lq hb.size;have hb:=N0 hb F15.below;have yf0:=F15.blk;exact U297
theorem Mf0 (bx bw:Nat) (obj num x:Int) (c:Option Addr) (w0:World) (hX:V0 w0 bx #[.int .i64 obj,.int .i64 num,.pointer (some ⟨bw,0,none⟩),.int .i64 x] 145) (hW:V0 w0 bw #[.bool true] 105):C Tryz.prog 43 #[.pointer (some ⟨bx,0,none⟩),.pointer c] w0 fun v w=>v= .int .i64 x/\Below w0.heap.size w0 w:=by
 refine C.enter (n:=26) Tryz.func43 rfl rfl ?_;refine U4 ?_;intro hb;refine L.box (cs:=#[.pointer (some ⟨bx,0,none⟩)]) rfl rfl (fun w b2 F2=>?_);refine U11 ?_;intro lt2 hb;have hX:=hX.E0 F2.below;have hW:=hW.E0 F2.below;have u6:=F2.blk;refine U48 ?_;refine L.alloc (cs:=#[.int .i64 0]) zr3 rfl (fun w b5 F5=>?_);refine U12 ?_;intro O8 hb;have hX:=hX.E0 F5.below;have hW:=hW.E0 F5.below;have u6:=u6.E0 F5.below;refine U33 ?_;refine L.va (F0 rfl Tryz.underlying86 rfl (u6.A0 0 (v:=.pointer (some ⟨bx,0,none⟩)) rfl)) ?_;refine U572 ?_;refine U452 ?_;refine U259 ?_;refine L.va (F0 rfl Tryz.underlying56 rfl (hX.A0 2 (v:=.pointer (some ⟨bw,0,none⟩)) rfl)) ?_;refine L.call (M0 rfl Tryz.func44 rfl tb0 rfl) (ma0 bw _ hW) ?_;rintro _ w1 ⟨rfl,hw⟩;refine U28 ?_;refine U36 ?_;refine U452 ?_;refine U260 ?_;refine L.va (F0 rfl Tryz.underlying3 rfl (hX.A0 3 (v:=.int .i64 x) rfl)) ?_;exact U14
end
structure NLe (n:Nat) (w:World):Prop where
 le:n <=w.heap.size
theorem NLe.E0 {n:Nat} {w w':World} (h:NLe n w) (hb:Below w.heap.size w w'):NLe n w':=⟨Nat.le_trans h.le hb.size⟩
set_option maxHeartbeats 2000000 in
set_option maxRecDepth 20000 in
theorem To0 {lb:Nat} {pl:Nat->j6} (w0:World):@C Tryz.prog (P6 lb pl) 10 #[] w0 fun v w=>v= .bool true/\Below w0.heap.size w0 w:=by
 rintro Z ⟨Post,rfl⟩ cs hk;letI:Ctx Tryz.prog:=P6 lb pl;have hZ:Ctx.Zs Tryz.prog (vp0 lb pl Post):=⟨_,rfl⟩
 have hb:=Z0 10;rw[enter_at _ Tryz.func10 rfl];refine(?_:ZA (vp0 lb pl Post) 62 (base 10) cs (Vc.Q6 #[]) [.code (Tryz.f10.body.getD .skip)] w0) _ (L5 _ _ rfl);have Q5:Below w0.heap.size w0 w0:=Below.refl _ _;obtain⟨n0,hn0⟩:∃n0,n0=w0.heap.size:=⟨_,rfl⟩
 refine U6 ?_;refine U306 ?_;refine L.va (W0 (parts:=[(0,.const (.int .i64 1)),(2,.const (.int .i64 1))]) rfl (At0 1 1)) ?_;refine L.va (W0 (parts:=[(0,.const (.int .i64 5)),(2,.const (.int .i64 9)),(3,.const (.int .i64 1))]) rfl (Me0 5 9 1)) ?_;refine L.va (W0 (parts:=[(0,.const (.int .i64 1)),(2,.const (.int .i64 2))]) rfl (At0 1 2)) ?_;refine L.tm0 (vs:=[(0,.agg #[.int .i64 1,.int .i64 0,.int .i64 1,.int .i64 0]),(1,.agg #[.int .i64 5,.int .i64 0,.int .i64 9,.int .i64 1]),(2,.agg #[.int .i64 1,.int .i64 0,.int .i64 2,.int .i64 0])]) (cs:=#[.int .i64 1,.int .i64 0,.int .i64 1,.int .i64 0,.int .i64 5,.int .i64 0,.int .i64 9,.int .i64 1,.int .i64 1,.int .i64 0,.int .i64 2,.int .i64 0]) rfl Tryz.underlying50 M1 Uy0 (by decide) (by kernel_rfl) (fun w b10 F10=>?_);have gf1:=F10.lq Q5.size;have Q5:=N0 Q5 F10.below;have yr0:=F10.blk;refine L.va (cc0 rfl) ?_;refine U2 ?_;refine U108 ?_;refine L.va (az0 rfl) ?_;refine L.tm0 (vs:=[(0,.slice (some ⟨b10,0,none⟩) 3 3),(1,.slice (some ⟨b10,0,none⟩) 3 3)]) (cs:=#[.slice (some ⟨b10,0,none⟩) 3 3,.slice (some ⟨b10,0,none⟩) 3 3]) rfl Tryz.underlying22 Qa0 Ux0 (by decide) (by kernel_rfl) (fun w b14 F14=>?_);have gg1:=F14.lq Q5.size;have Q5:=N0 Q5 F14.below;have yr0:=yr0.E0 F14.below;have Is0:=F14.blk;refine L.tm0 (vs:=[(0,.int .i64 0),(1,.int .i64 1),(2,.int .i64 0),(3,.int .i64 0),(4,.int .i64 0),(5,.int .i64 0)]) (cs:=#[.int .i64 0,.int .i64 1,.int .i64 0,.int .i64 0,.int .i64 0,.int .i64 0]) rfl Tryz.underlying23 sz3 zr3 (by decide) (by kernel_rfl) (fun w b15 F15=>?_);have Lr0:=F15.lq Q5.size;have Q5:=N0 Q5 F15.below;have yr0:=yr0.E0 F15.below;have Is0:=Is0.E0 F15.below;have yf0:=F15.blk;have yr0:V0 w b10 _ _:=yr0;have Is0:V0 w b14 _ _:=Is0;have yf0:V0 w b15 _ _:=yf0;refine L.call (n3 rfl rfl Tryz.func11 rfl bf1 rfl) (Ta0 w (Ch0 yr0 Is0) (fun i hi=>if_neg (by omega)) (Ma0 yf0) Ir0) ?_;rintro _ w1 ⟨p,R,r1,rfl,⟨pm,pbo,pB⟩,hP,hY,I1⟩;have Q5:=N0 Q5 I1;clear I1
 rename World=>w
 have hev:=hY.run.evs.trans (Iq0 pm pbo);refine L.va (zm0 rfl) ?_;refine U563 ?_;refine L.va (bb0 rfl rfl) ?_;have Hx0:=hY;have wf0:=Q5;refine L.alloc (cs:=#[.slice none 0 0,.slice none 0 0,.slice none 0 0,.slice none 0 0,.bool false,.int .i64 0]) Jy0 rfl (fun w b2 F2=>?_);have lt2:=F2.lq Q5.size;have u6:=F2.blk;refine L.pa [.slice R.ea R.evs.length R.ec,.slice R.na R.W2.length R.nc,.slice (some ⟨R.eb,0,none⟩) R.m R.m,.slice (some ⟨R.wb,0,none⟩) R.m R.m,.bool R.stuck,.int .i64 (R.used:Int)] je0 u6 (fun w B1 hg n2=>?_);have hbA:=K4 F2.below F2.below.size hg (by have:=F2.here;omega);have hY:=Hx0.E0 hbA;have Q5:=N0 wf0 hbA;have u6:=B1;clear B1 hg n2 hbA F2 Hx0 wf0;refine L.va (cc0 rfl) ?_;refine L.va (fi0 rfl) ?_;refine U17 ?_;refine U6 ?_;refine U282 ?_;refine U271 ?_;refine U249 ?_;refine L.on rfl ?_;refine L.va (ww0 (m:=6) (by rw[hev];rfl) rfl Tryz.underlying26 rfl) ?_;refine L.on rfl ?_;refine L.va (A2 (r:=false) (by decide) (kn0 (m:=6) (k:=6) rfl rfl)) ?_;refine L.va (b9 rfl) ?_;refine U271 ?_;refine U249 ?_;refine L.on rfl ?_;refine L.va (bc0 (i:=1) rfl rfl Tryz.underlying26 Pz0 hY.run.mem.evs.sl (by rw[hev];decide)) ?_;refine U525 ?_;refine L.on rfl ?_;refine L.va (F0 (v:=.int .i64 0) rfl Tryz.underlying3 rfl (by rw[hY.run.mem.evs.off];exact hY.run.mem.evs.cell (j:=4) (by rw[hev];rfl))) ?_;refine L.on rfl ?_;refine L.va (A2 (r:=false) (by decide) (kn0 (m:=0) (k:=0) rfl rfl)) ?_;refine L.va (b9 rfl) ?_;refine U271 ?_;refine U249 ?_;refine L.on rfl ?_;refine L.va (bc0 (i:=3) rfl rfl Tryz.underlying26 Pz0 hY.run.mem.evs.sl (by rw[hev];decide)) ?_;refine U525 ?_;refine L.on rfl ?_;refine L.va (F0 (v:=.int .i64 1) rfl Tryz.underlying3 rfl (by rw[hY.run.mem.evs.off];exact hY.run.mem.evs.cell (j:=12) (by rw[hev];rfl))) ?_;refine L.on rfl ?_;refine L.va (A2 (r:=false) (by decide) (kn0 (m:=1) (k:=1) rfl rfl)) ?_;refine L.va (b9 rfl) ?_;refine U186 ?_;refine ZA.skip hZ ?_;refine U6 ?_;refine L.va (cb0 rfl) ?_;refine U17 ?_;refine fun a ha X hL h1 h2 h3=>(?_:ZA (Fin Tryz.prog Post X 0) 62 (base 10) cs _ _ _) a ha;letI:Ctx Tryz.prog:=V1 Tryz.prog true;have hZ:Ctx.Zs Tryz.prog (Fin Tryz.prog Post X 0):=V3;obtain⟨wN,hwN⟩:∃wN,wN=w:=⟨_,rfl⟩
 have hN:Below wN.heap.size wN w:=by rw[hwN];exact Below.refl _ _
 have h0N:w0.heap.size <=wN.heap.size:=by rw[hwN];exact Q5.size
 rw[<- hwN]at hL h1;clear hwN hY hev;refine U100 ?_;refine L.call (bv0  Tryz.func17 rfl Vg0 rfl) (Hs0 _) ?_;rintro _ w ⟨bw,rfl,ltw,hRW,I1⟩;have ltw:=Nat.le_trans hN.size ltw;have Q5:=N0 Q5 I1;have hN:=N0 hN I1;refine L.call (j7 rfl rfl rfl rfl Tryz.func41 rfl Vv0 rfl) (yq0 bw 1 1 0 _) ?_;rintro _ w ⟨bx,rfl,ltx,hX,I1⟩;have ltx:=Nat.le_trans hN.size ltx;have Q5:=N0 Q5 I1;have hN:=N0 hN I1;have hRW:=hRW.E0 I1;have Ol0:=hRW;have Zz0:=hX;have wf0:=Q5;have aa1:=hN;refine L.alloc (cs:=#[.pointer none]) bd1 rfl (fun w b6 F6=>?_);have lt6:=F6.lq Q5.size;have nt6:=Nat.le_trans hN.size (Nat.le_of_eq F6.here.symm);have c7:=F6.blk;refine L.pa [.p bx] bc1 c7 (fun w B1 hg n2=>?_);have hbA:=K4 F6.below F6.below.size hg (by have:=F6.here;omega);have hRW:=Ol0.E0 hbA;have hX:=Zz0.E0 hbA;have Q5:=N0 wf0 hbA;have hN:=N0 aa1 hbA;have c7:=B1;clear B1 hg n2 hbA F6 Ol0 Zz0 wf0 aa1;refine U17 ?_;refine ZA.upto hZ hb 2 rfl rfl (R:=fun e' w'=>ZA _ _ _ _ e' _ w') ?_ (fun _ _ h=>h);show L _ _ _ _ _ _ _;refine L.va (S3 (l:=[.tmp 6]) (vs:=[.pointer (some ⟨b6,0,none⟩)]) rfl) ?_;refine L.tm0 (vs:=[(0,.func (.func 45) #[] #[.pointer (some ⟨b6,0,none⟩)]),(1,.nilFunc)]) (cs:=#[.func (.func 45) #[] #[.pointer (some ⟨b6,0,none⟩)],.nilFunc]) rfl Tryz.underlying60 sz1 zr1 (by decide) (by kernel_rfl) (fun w b47 F47=>?_);have gh1:=F47.lq Q5.size;have dw1:=Nat.le_trans hN.size (Nat.le_of_eq F47.here.symm);have Q5:=N0 Q5 F47.below;have hN:=N0 hN F47.below;have hRW:=hRW.E0 F47.below;have hX:=hX.E0 F47.below;have c7:=c7.E0 F47.below;have ab1:=F47.blk;refine U2 ?_;refine ZA.call (i:=2) (rest:=[]) hZ hb (f:=33) (args:=#[.slice (some ⟨b47,0,none⟩) 2 2]) rfl rfl (M0 rfl Tryz.func33 rfl Vs0 rfl) (fun a ha=>?_);refine yo0 (n1:=wN.heap.size) (bs:=b47) (b6:=b6) (bx:=bx) (bw:=bw) ⟨ab1,c7,hX,hRW⟩ hL.G1 hL.cap hL.pend hL.dn hL.under hL.D4 ⟨dw1,nt6,ltx,ltw⟩ (fun X' w fr hF hO hfn hlv=>?_);letI:Ctx Tryz.prog:=V1 Tryz.prog true;have hZ:Ctx.Zs Tryz.prog (Fin Tryz.prog Post X' 0):=V3;refine ZA.back (am0 Tryz.prog Post X' 0) (i:=2) rfl rfl ha hlv ?_;refine ZA.k3 hZ ?_;have n2:=hO.size;have ac1:Below w0.heap.size w0 w:=⟨hO.os.trans Q5.os,hO.tape.trans Q5.tape,hO.output.trans Q5.output,Nat.le_trans Q5.size n2,fun q hq=>(hO.block q (Nat.lt_of_lt_of_le hq Q5.size) (by have:=Nat.le_trans h0N ltx;omega)).trans (Q5.block q hq)⟩
 have hNn:wN.heap.size <=w.heap.size:=Nat.le_trans hN.size n2;have ad1:V0 w b6 #[.pointer (some ⟨bx,0,none⟩)] 86:=(hO.block b6 c7.lt (V0.ne c7 hX (by decide))).trans c7;have ae1:V0 w bw #[.bool true] 105:=(hO.block bw hRW.lt (V0.ne hRW hX (by decide))).trans hRW;have hXn:V0 w bx #[.int .i64 1,.int .i64 1,.pointer (some ⟨bw,0,none⟩),.int .i64 5] 145:=hO.cx;clear Q5 hN c7 hRW hX ab1 hO;have Q5:=ac1;have c7:=ad1;have hRW:=ae1;have hX:=hXn;clear ac1 ad1 ae1 hXn;have af1:X'.W8 w.heap.size:=hF.under;obtain⟨n9,hn9⟩:∃n9,n9=w.heap.size:=⟨_,rfl⟩
 rw[<- hn9]at af1 hNn;have hM:Below n9 w w:=by rw[hn9];exact Below.refl _ _
 have hM9:n9 <=w.heap.size:=Nat.le_of_eq hn9;clear hn9 n2;have hM9:NLe n9 w:=⟨hM9⟩
 clear hM;refine U6 ?_;refine L.va (F0 rfl Tryz.underlying86 rfl (c7.A0 0 (v:=.pointer (some ⟨bx,0,none⟩)) rfl)) ?_;refine L.call (n3 rfl rfl Tryz.func43 rfl Vx0 rfl) (Mf0 bx bw 1 1 5 _ _ hX hRW) ?_;rintro _ w ⟨rfl,I1⟩;have Q5:=N0 Q5 I1;have hM9:=hM9.E0 I1;refine L.va (cb0 rfl) ?_;refine U49 ?_;refine L.va (C5 rfl) ?_;refine L.va (A2 (r:=true) (by decide) (N4 (m:=5) (k:=5) rfl rfl)) ?_;refine U103 ?_;refine L.call (bv0  Tryz.func17 rfl Vg0 rfl) (Hs0 _) ?_;rintro _ w ⟨br,rfl,_,hR2,I1⟩;have Q5:=N0 Q5 I1;have hM9:=hM9.E0 I1;refine L.on rfl ?_;refine L.call (M0 rfl Tryz.func44 rfl tb0 rfl) (ma0 br _ hR2) ?_;rintro _ w1 ⟨rfl,hw⟩;refine U28 ?_;refine L.va (g7 rfl) ?_;refine U103 ?_;refine L.call (bv0  Tryz.func36 rfl Vu0 rfl) (iv0 _) ?_;rintro _ w ⟨bs,rfl,_,hS2,I1⟩;have Q5:=N0 Q5 I1;have hM9:=hM9.E0 I1;refine L.on rfl ?_;refine L.call (M0 rfl Tryz.func44 rfl tb0 rfl) (gd0 bs _ hS2) ?_;rintro _ w1 ⟨rfl,hw⟩;refine U28 ?_;refine L.on rfl ?_;refine L.va (pd0 rfl) ?_;refine L.va (g7 rfl) ?_;refine L.va (fi0 rfl) ?_;refine U2 ?_;refine ZA.ret hZ ?_;refine ZA.Mb0 (t:=0) (fn:=Tryz.f10) (f:=10) rfl Tryz.func10 rfl rfl (fun fr hfn hlv=>?_);have B9:∀b,wN.heap.size <=b->X'.D4 b= .all:=fun b hb=>by rw[hF.D4];exact hL.D4 b hb
 have hm9:=hM9.le;exact hk (.returned (.bool true)) w fr ⟨rfl,Q5⟩ hfn hlv X' ⟨hF.G1,hF.cap,hF.pend,hF.dn,af1.mono hm9,fun b hb=>B9 b (by omega),hF.fz0⟩ (by omega) (fun b hb=>by rcases hF.low b hb with z|z;exact h2 b z;omega) (hF.D4.trans h3)
set_option maxRecDepth 20000 in
theorem wg0 {lb:Nat} {pl:Nat->j6} (w0:World):@C Tryz.prog (P6 lb pl) 33 #[.slice none 0 0] w0 fun v w=>v= .tuple #[]/\Below w0.heap.size w0 w:=by
 rintro Z ⟨Post,rfl⟩ cs hk X hL h1 h2 h3;letI:Ctx Tryz.prog:=V1 Tryz.prog true;have hZ:Ctx.Zs Tryz.prog (Fin Tryz.prog Post X 0):=V3;have hb:=Z0 33;rw[enter_at _ Tryz.func33 rfl];refine(?_:ZA (Fin Tryz.prog Post X 0) 17 (base 33) cs (Vc.Q6 #[.slice none 0 0]) [.code (Tryz.f33.body.getD .skip)] w0) _ (L5 _ _ rfl);refine U6 ?_;refine L.alloc (cs:=#[.int .u64 0,.int .u32 0]) Ne0 rfl (fun w1 bG F1=>?_);refine U17 ?_;refine U577 ?_;refine U135 ?_;refine U65 ?_;refine ZA.v5 hZ rfl ?_;refine ZA.exit hZ rfl ?_;have hbG:bG=w0.heap.size:=F1.here;have hz1:=F1.size;have hl:=hL.under.A9 (Nat.le_of_eq hbG.symm);have hnl:¬X.low bG:=fun h=>by have:=hL.under.low _ h;omega
 have hGb:w1.heap[bG]? =some (.cells (#[] ++ #[.int .u64 0,.int .u32 0]) 141 (0,0)):=F1.blk;intro a ha;refine Fin.wm0 (f':=(0,0)) (b:=bG) (c:=#[]) hL.cap hl hnl (hL.D4 bG (Nat.le_of_eq hbG.symm)) hGb (Nat.zero_le _) ?_;revert ha;revert a;generalize hw4:O2 w1 bG (.cells #[] 141 (0,0))=w4;have dk0:∀b,b≠bG->w4.heap[b]? =w1.heap[b]?:=fun b hb=>by rw[<- hw4];exact c5 _ _ (Ne.symm hb)
 have du1:w4.heap.size=w0.heap.size+1:=by rw[<- hw4];show(w1.heap.setIfInBounds _ _).size=_;rw[Array.size_setIfInBounds];omega
 generalize hX1:({X.lower bG with L2:=some ⟨bG,0⟩,old:=X.L2.toList++X.old}:Gh)=X1;have T7:X1=({X.lower bG with L2:=some ⟨bG,0⟩,old:=X.L2.toList++X.old}:Gh):=hX1.symm;refine U552 ?_;intro hZ1;have o3:X1.L2=some ⟨bG,0⟩:=by rw[T7]
 have o7:∀i,X1.G1 i=none:=by rw[T7];exact hL.G1
 have hp:X1.pend=0:=by rw[T7];exact hL.pend
 have J8:X1.dn=0:=by rw[T7];exact hL.dn
 have cm0:X1.cap<2147483648:=by rw[T7];show X.cap<_;rw[hL.cap];decide
 refine ZA.region hZ1 ?_;refine ZA.call (i:=0) (rest:=[]) hZ1 hb (f:=70) (args:=#[.pointer (some ⟨bG,0,none⟩)]) rfl rfl (M0 rfl Tryz.func70 rfl Qf0 rfl) (fun a ha=>?_);refine Fin.wait (G:=⟨bG,0⟩) (K:=fun g'=>g'=_) o3 o7 hp J8 (Ex0 ⟨bG,0⟩ (fun g'=>g'=_) rfl X1.cap cm0) (fun g' z6=>?_);subst z6;refine ZA.home (i:=0) rfl rfl ha ?_;have hZ2:Ctx.Zs Tryz.prog (Fin Tryz.prog Post {X1 with pend:=0,cap:=0,dn:=0} 0):=V3;refine ZA.k3 hZ2 ?_;refine ZA.done hZ2 ?_;refine ZA.leaves (fn:=Tryz.f33) (f:=33) rfl Tryz.func33 rfl (fun fr hfn hlv=>?_);refine hk (.returned (.tuple #[])) w4 fr ⟨rfl,?_⟩ hfn hlv {X1 with pend:=0,cap:=0,dn:=0} ⟨o7,rfl,rfl,rfl,⟨fun i p hp=>?_,fun b o hb=>?_,fun b hb=>?_,fun G hG=>?_,fun b hb=>?_⟩,fun b hb=>?_,?_⟩ (by omega) (fun b hb=>?_) ?_
 ·refine⟨?_,?_,?_,by omega,fun b hb=>(dk0 b (by omega)).trans (F1.below.block b hb)⟩
  ·rw[<- hw4];exact F1.below.os
  ·rw[<- hw4];exact F1.below.tape
  ·rw[<- hw4];exact F1.below.output
 ·have hp':p∈X.stay i:=by rw[T7]at hp;exact hp
  have:=hL.under.stay i p hp';omega
 ·have n7:X.X3 b=some o:=by rw[T7]at hb;exact hb
  have:=hL.under.X3 b o n7;omega
 ·have n7:X.I7 b:=by rw[T7]at hb;exact hb
  have:=hL.under.I7 b n7;omega
 ·rw[T7]at hG;rcases hG with hG|hG
  ·have hG:some (⟨bG,0⟩:I4)=some G:=hG;obtain rfl:=Option.some.inj hG;show bG<_;omega
  ·have hG:G∈X.L2.toList++X.old:=hG;rcases List.mem_append.1 hG with h|h
   ·have:=hL.under.L2 G (.inl (by simpa using h));omega
   ·have:=hL.under.L2 G (.inr h);omega
 ·rw[T7]at hb;have hb:X.low b\/b=bG:=hb;rcases hb with h|h
  ·have:=hL.under.low b h;omega
  ·omega
 ·rw[T7];exact hL.D4 b (by omega)
 ·rw[T7];exact hL.fz0
 ·rw[T7]at hb;have hb:X.low b\/b=bG:=hb;rcases hb with h|h
  ·exact h2 b h
  ·omega
 ·rw[T7];exact h3
section
variable [Ctx Tryz.prog]
theorem Z1 (o:N2) (b:Bool) (h:b=true↔P8 o) (w0:World):C Tryz.prog 37 #[.agg #[.int .i64 o.D5,.int .i64 o.gg0,.int .i64 o.call,.int .i64 o.val]] w0 fun v w=>v= .bool b/\Below w0.heap.size w0 w :=
 C.mono (Lt0 o w0) fun v w hh=>by
  obtain⟨b',rfl,hb,hw⟩:=hh;have:b'=b:=Bool.eq_iff_iff.2 (hb.trans h.symm);exact⟨by rw[this],hw⟩
end
section
theorem Mg0 (x0:Int) (x1:Int):Tryz.prog.built 107 [(0,.int .i64 x0),(1,.int .i64 x1)]=some #[.int .i64 x0,.int .i64 x1]:=by kernel_rfl
theorem Mh0 (x0:Int) (x1:Int) (x2:Option Addr) (x3:Int):Tryz.prog.built 145 [(0,.agg #[.int .i64 x0,.int .i64 x1]),(1,.pointer x2),(2,.int .i64 x3)]=some #[.int .i64 x0,.int .i64 x1,.pointer x2,.int .i64 x3]:=by kernel_rfl
theorem Mi0:Tryz.prog.built 72 []=some #[.pointer none,.pointer none,.pointer none,.pointer none,.pointer none,.pointer none,.pointer none,.pointer none,.pointer none,.pointer none]:=by kernel_rfl
theorem j2 (x0:Int) (x1:Int) (x2:Int):Tryz.prog.built 52 [(0,.int .i64 x0),(2,.int .i64 x1),(3,.int .i64 x2)]=some #[.int .i64 x0,.int .i64 0,.int .i64 x1,.int .i64 x2]:=by kernel_rfl
end
section
variable [Ctx Tryz.prog]
theorem Au0 (w0:World):C Tryz.prog 44 #[.pointer none] w0 fun v w=>v= .bool false/\w=w0:=by
 refine U281 ?_;refine U66 ?_;refine U268 ?_;refine U232 ?_;refine U63 ?_;exact⟨rfl,rfl⟩
theorem ag1 (obj num x:Int) (w0:World):C Tryz.prog 41 #[.pointer none,.int .i64 obj,.int .i64 num,.int .i64 x] w0 fun v w=>∃cb,v= .pointer (some ⟨cb,0,none⟩)/\w0.heap.size <=cb/\V0 w cb #[.int .i64 obj,.int .i64 num,.pointer none,.int .i64 x] 145/\Below w0.heap.size w0 w:=by
 refine C.enter (n:=16) Tryz.func41 rfl rfl ?_;refine U4 ?_;intro hb;refine U39 ?_;refine U69 ?_;refine L.va (W0 (parts:=[(0,.tmp 9),(1,.tmp 10)]) rfl (Mg0 obj num)) ?_;refine U44 ?_;refine L.va (W0 (parts:=[(0,.tmp 11),(1,.tmp 12),(2,.tmp 13)]) rfl (Mh0 obj num none x)) ?_;refine L.box (cs:=#[.int .i64 obj,.int .i64 num,.pointer none,.int .i64 x]) rfl rfl (fun w b15 F15=>?_);have Lr0:=F15.lq hb.size;have hb:=N0 hb F15.below;have yf0:=F15.blk;exact U297
theorem Tp0 (b0 b1 cb:Nat) (obj num x x2:Int) (w0:World) (Q5:V0 w0 b0 #[.pointer (some ⟨cb,0,none⟩)] 86) (hB1:V0 w0 b1 #[.int .i64 x2] 3) (hC:V0 w0 cb #[.int .i64 obj,.int .i64 num,.pointer none,.int .i64 x] 145) :
  C Tryz.prog 75 #[.pointer (some ⟨b0,0,none⟩),.pointer (some ⟨b1,0,none⟩)] w0 fun v w=>v= .tuple #[]/\V0 w b1 #[.int .i64 x] 3/\w0.grownBy w (some b1):=by
 refine C.enter (n:=6) Tryz.func75 rfl rfl ?_;refine W.region rfl ?_;refine L.va (F0 rfl Tryz.underlying86 rfl (Q5.A0 0 (v:=.pointer (some ⟨cb,0,none⟩)) rfl)) ?_;refine U260 ?_;refine L.va (F0 rfl Tryz.underlying3 rfl (hC.A0 3 (v:=.int .i64 x) rfl)) ?_;refine L.pu 0 [.int .i64 x] #[.int .i64 x] sz3 hB1 (fun w B1 hg n2=>?_);exact U219
theorem Tq0 (b0 b1 cb:Nat) (obj num x x2:Int) (w0:World) (Q5:V0 w0 b0 #[.int .i64 x] 3) (hB1:V0 w0 b1 #[.pointer (some ⟨cb,0,none⟩)] 86) (hC:V0 w0 cb #[.int .i64 obj,.int .i64 num,.pointer none,.int .i64 x2] 145) :
  C Tryz.prog 74 #[.pointer (some ⟨b0,0,none⟩),.pointer (some ⟨b1,0,none⟩)] w0 fun v w=>v= .tuple #[]/\V0 w cb #[.int .i64 obj,.int .i64 num,.pointer none,.int .i64 x] 145/\w0.grownBy w (some cb):=by
 refine C.enter (n:=6) Tryz.func74 rfl rfl ?_;refine W.region rfl ?_;refine L.va (F0 rfl Tryz.underlying86 rfl (hB1.A0 0 (v:=.pointer (some ⟨cb,0,none⟩)) rfl)) ?_;refine L.va (F0 rfl Tryz.underlying3 rfl (Q5.A0 0 (v:=.int .i64 x) rfl)) ?_;refine U260 ?_;refine L.pu 3 [.int .i64 x] #[.int .i64 obj,.int .i64 num,.pointer none,.int .i64 x] sz3 hC (fun w B1 hg n2=>?_);have G5:=e8.el0 hC hg;have hC:=B1;exact U313
theorem ah1 (cb:Nat) (obj num x:Int) (w0:World) (hC:V0 w0 cb #[.int .i64 obj,.int .i64 num,.pointer none,.int .i64 x] 145) :
  C Tryz.prog 43 #[.pointer (some ⟨cb,0,none⟩),.pointer none] w0 fun v w=>v= .int .i64 x/\Below w0.heap.size w0 w:=by
 refine C.enter (n:=26) Tryz.func43 rfl rfl ?_;refine U280 ?_;intro hb w b2 F2;refine U11 ?_;intro lt2 hb;refine U55 ?_;intro hC u6;refine U48 ?_;refine L.alloc (cs:=#[.int .i64 0]) zr3 rfl (fun w b5 F5=>?_);refine U12 ?_;intro O8 hb;have hC:=hC.E0 F5.below;refine U95 ?_;intro u6 D3;refine U33 ?_;refine L.va (F0 rfl Tryz.underlying86 rfl (u6.A0 0 (v:=.pointer (some ⟨cb,0,none⟩)) rfl)) ?_;refine U572 ?_;refine U3 ?_;refine L.va (F0 rfl Tryz.underlying86 rfl (u6.A0 0 (v:=.pointer (some ⟨cb,0,none⟩)) rfl)) ?_;refine U259 ?_;refine U410 ?_;rintro _ w1 ⟨rfl,hw⟩;refine U136 ?_;refine L.va (F0 rfl Tryz.underlying86 rfl (u6.A0 0 (v:=.pointer (some ⟨cb,0,none⟩)) rfl)) ?_;refine U485 ?_;refine U247 ?_;refine L.call (o6 rfl rfl rfl rfl rfl Tryz.func56 rfl jf0 rfl) (qv0 (ys:=#[.pointer (some ⟨b2,0,none⟩),.pointer (some ⟨b5,0,none⟩)]) Tryz.func75 rfl bq1 obj num 8 _ w (fun w'=>V0 w' b5 #[.int .i64 x] 3/\w.grownBy w' (some b5)) (fun w1 V4=>(Tp0 b2 b5 cb obj num x _ w1 (u6.E0 V4) (D3.E0 V4) (hC.E0 V4)).mono fun _ w' h=>⟨h.2.1,kr0 (fj0 (ad0 _ _) V4) h.2.2⟩)) ?_;rintro _ w ⟨B1,hg⟩;have G5:=e8.el0 D3 hg;have hb:=K4 hb hb.size hg O8;have D3:=B1;refine U58 ?_;refine L.va (F0 rfl Tryz.underlying3 rfl (D3.A0 0 (v:=.int .i64 x) rfl)) ?_;exact U14
theorem ai1 (cb:Nat) (obj num x x2:Int) (w0:World) (hC:V0 w0 cb #[.int .i64 obj,.int .i64 num,.pointer none,.int .i64 x2] 145) :
  C Tryz.prog 42 #[.pointer (some ⟨cb,0,none⟩),.pointer none,.int .i64 x] w0 fun _ w=>V0 w cb #[.int .i64 obj,.int .i64 num,.pointer none,.int .i64 x] 145/\w0.grownBy w (some cb):=by
 refine C.enter (n:=26) Tryz.func42 rfl rfl ?_;have o3:=ad0 w0 (some cb);refine U3 ?_;refine L.box (cs:=#[.pointer (some ⟨cb,0,none⟩)]) rfl rfl (fun w b3 F3=>?_);have lt3:=F3.lq o3.size;have o3:=fj0 o3 F3.below;have hC:=hC.E0 F3.below;refine U112 ?_;intro S9 w b5 F5;have O8:=F5.lq o3.size;have o3:=fj0 o3 F5.below;have hC:=hC.E0 F5.below;have S9:=S9.E0 F5.below;have D3:=F5.blk;refine U89 ?_;refine L.va (F0 rfl Tryz.underlying86 rfl (S9.A0 0 (v:=.pointer (some ⟨cb,0,none⟩)) rfl)) ?_;refine L.va (L3 rfl rfl Tryz.underlying86) ?_;refine U8 ?_;refine L.va (F0 rfl Tryz.underlying86 rfl (S9.A0 0 (v:=.pointer (some ⟨cb,0,none⟩)) rfl)) ?_;refine U259 ?_;refine U410 ?_;rintro _ w1 ⟨rfl,hw⟩;refine U28 ?_;refine U311 ?_;refine L.va (F0 rfl Tryz.underlying86 rfl (S9.A0 0 (v:=.pointer (some ⟨cb,0,none⟩)) rfl)) ?_;refine U485 ?_;refine U428 ?_;refine L.call (o6 rfl rfl rfl rfl rfl Tryz.func56 rfl jf0 rfl) (qv0 (ys:=#[.pointer (some ⟨b5,0,none⟩),.pointer (some ⟨b3,0,none⟩)]) Tryz.func74 rfl bp1 obj num 9 _ w (fun w'=>V0 w' cb #[.int .i64 obj,.int .i64 num,.pointer none,.int .i64 x] 145/\w.grownBy w' (some cb)) (fun w1 V4=>(Tq0 b5 b3 cb obj num x x2 w1 (D3.E0 V4) (S9.E0 V4) (hC.E0 V4)).mono fun _ w' h=>⟨h.2.1,kr0 (fj0 (ad0 _ _) V4) h.2.2⟩)) ?_;rintro _ w ⟨B1,hg⟩;refine U123 ?_;intro G5 o3;have hC:=B1;clear G5;refine U182 ?_;refine U67 ?_;exact⟨hC,o3⟩
theorem It0 (w0:World):C Tryz.prog 20 #[.pointer none,.pointer none] w0 fun v w=>v= .tuple #[]/\Below w0.heap.size w0 w:=by
 refine C.enter (n:=12) Tryz.func20 rfl rfl ?_;refine U4 ?_;intro hb;refine U179 ?_;exact U302
theorem ys0 (w0:World):C Tryz.prog 23 #[.pointer none,.pointer none] w0 fun v w=>v= .tuple #[]/\Below w0.heap.size w0 w:=by
 refine C.enter (n:=12) Tryz.func23 rfl rfl ?_;refine U4 ?_;intro hb;refine U179 ?_;exact U302
theorem Iu0 (w0:World):C Tryz.prog 25 #[.pointer none,.pointer none] w0 fun v w=>v= .tuple #[]/\Below w0.heap.size w0 w:=by
 refine C.enter (n:=12) Tryz.func25 rfl rfl ?_;exact U208
theorem yt0 (w0:World):C Tryz.prog 27 #[.pointer none,.pointer none] w0 fun v w=>v= .tuple #[]/\Below w0.heap.size w0 w:=by
 refine C.enter (n:=12) Tryz.func27 rfl rfl ?_;exact U208
theorem Ci0 (w0:World):C Tryz.prog 28 #[.pointer none,.pointer none] w0 fun v w=>v= .tuple #[]/\Below w0.heap.size w0 w:=by
 refine C.enter (n:=12) Tryz.func28 rfl rfl ?_;exact U208
theorem wh0 (w0:World):C Tryz.prog 30 #[.pointer none,.pointer none] w0 fun v w=>v= .tuple #[]/\Below w0.heap.size w0 w:=by
 refine C.enter (n:=12) Tryz.func30 rfl rfl ?_;exact U208
theorem Mj0 (w0:World):C Tryz.prog 34 #[.pointer none,.pointer none] w0 fun v w=>v= .int .i64 0/\Below w0.heap.size w0 w:=by
 refine C.enter (n:=25) Tryz.func34 rfl rfl ?_;refine U293 ?_;intro hb w b2 F2;refine U11 ?_;intro lt2 hb;have u6:=F2.blk;refine U131 ?_;refine L.va (F0 rfl Tryz.underlying65 rfl (u6.A0 0 (v:=.pointer none) rfl)) ?_;refine U571 ?_;exact U14
theorem Mk0 (x:Int) (w0:World):C Tryz.prog 24 #[.pointer none,.pointer none,.int .i64 x] w0 fun v w=>v= .int .i64 0/\Below w0.heap.size w0 w:=by
 refine C.enter (n:=28) Tryz.func24 rfl rfl ?_;refine U294 ?_;intro hb w b3 F3;refine U86 ?_;intro lt3 hb;refine U112 ?_;intro S9 w b5 F5;refine U12 ?_;intro O8 hb;have S9:=S9.E0 F5.below;refine U131 ?_;refine L.va (F0 rfl Tryz.underlying65 rfl (S9.A0 0 (v:=.pointer none) rfl)) ?_;refine U571 ?_;exact U14
theorem Ml0 (w0:World):C Tryz.prog 29 #[.pointer none,.pointer none] w0 fun v w=>v= .int .i64 0/\Below w0.heap.size w0 w:=by
 refine C.enter (n:=28) Tryz.func29 rfl rfl ?_;refine U293 ?_;intro hb w b2 F2;refine U11 ?_;intro lt2 hb;have u6:=F2.blk;refine U48 ?_;refine U194 ?_;intro w b5 F5 O8 hb;refine U95 ?_;intro u6 D3;refine U33 ?_;refine L.va (F0 rfl Tryz.underlying67 rfl (u6.A0 0 (v:=.pointer none) rfl)) ?_;refine L.va (L3 rfl rfl Tryz.underlying67) ?_;refine U64 ?_;exact U496
theorem Mm0 (x:Int) (w0:World):C Tryz.prog 26 #[.pointer none,.pointer none,.int .i64 x] w0 fun v w=>v= .tuple #[]/\Below w0.heap.size w0 w:=by
 refine C.enter (n:=26) Tryz.func26 rfl rfl ?_;refine U294 ?_;intro hb w b3 F3;refine U86 ?_;intro lt3 hb;refine U112 ?_;intro S9 w b5 F5;refine U12 ?_;intro O8 hb;have S9:=S9.E0 F5.below;refine U89 ?_;refine L.va (F0 rfl Tryz.underlying67 rfl (S9.A0 0 (v:=.pointer none) rfl)) ?_;refine L.va (L3 rfl rfl Tryz.underlying67) ?_;refine U56 ?_;refine W.skip ?_;refine B.nrm ?_;exact U270
theorem Mn0 (w0:World):C Tryz.prog 22 #[.pointer none,.pointer none] w0 fun v w=>v= .int .i64 0/\Below w0.heap.size w0 w:=by
 refine C.enter (n:=26) Tryz.func22 rfl rfl ?_;refine U293 ?_;intro hb w b2 F2;refine U11 ?_;intro lt2 hb;have u6:=F2.blk;refine U48 ?_;refine U194 ?_;intro w b5 F5 O8 hb;refine U95 ?_;intro u6 D3;refine U33 ?_;refine L.va (F0 rfl Tryz.underlying69 rfl (u6.A0 0 (v:=.pointer none) rfl)) ?_;refine L.va (L3 rfl rfl Tryz.underlying69) ?_;refine U64 ?_;exact U496
theorem Mo0 (x:Int) (w0:World):C Tryz.prog 21 #[.pointer none,.pointer none,.int .i64 x] w0 fun v w=>v= .tuple #[]/\Below w0.heap.size w0 w:=by
 refine C.enter (n:=26) Tryz.func21 rfl rfl ?_;refine U294 ?_;intro hb w b3 F3;refine U86 ?_;intro lt3 hb;refine U112 ?_;intro S9 w b5 F5;refine U12 ?_;intro O8 hb;have S9:=S9.E0 F5.below;refine U89 ?_;refine L.va (F0 rfl Tryz.underlying69 rfl (S9.A0 0 (v:=.pointer none) rfl)) ?_;refine L.va (L3 rfl rfl Tryz.underlying69) ?_;refine U56 ?_;refine W.skip ?_;refine B.nrm ?_;exact U270
abbrev ic0:Array Value:=#[.pointer none,.pointer none,.pointer none,.pointer none,.pointer none,.pointer none,.pointer none,.pointer none,.pointer none,.pointer none]
set_option maxHeartbeats 1000000 in
theorem yu0 (tb:Nat) (w0:World) (hT:V0 w0 tb ic0 72):C Tryz.prog 39 #[.pointer (some ⟨tb,0,none⟩),.pointer none,.agg #[.int .i64 1,.int .i64 0,.int .i64 1,.int .i64 7]] w0 fun v w=>v= .int .i64 0/\Below w0.heap.size w0 w:=by
 refine U16 ?_;intro hb;refine L.box (cs:=#[.int .i64 1,.int .i64 0,.int .i64 1,.int .i64 7]) rfl rfl (fun w b5 F5=>?_);refine U23 ?_;intro O8 hb hT D3;refine L.va (G0 (cs:=[.int .i64 1,.int .i64 0,.int .i64 1,.int .i64 7]) rfl Tryz.underlying52 rfl M1 rfl (D3.J1 rfl)) ?_;refine L.call (M0 rfl Tryz.func15 rfl k9 rfl) (X4 (⟨1,0,1,7⟩:N2) w) ?_;rintro _ w ⟨rfl,I1⟩;refine U19 ?_;intro hb hT D3;refine U169 ?_;refine U91 ?_;refine U166 ?_;refine U518 ?_;refine U61 ?_;refine U164 ?_;refine U397 ?_;refine L.va (m3 rfl) ?_;refine L.call (n3 rfl rfl Tryz.func20 rfl Vh0 rfl) (It0 _) ?_;rintro _ w ⟨rfl,I1⟩;have hb:=N0 hb I1;refine U114 ?_;exact U14
set_option maxHeartbeats 1000000 in
theorem yv0 (tb:Nat) (w0:World) (hT:V0 w0 tb ic0 72):C Tryz.prog 39 #[.pointer (some ⟨tb,0,none⟩),.pointer none,.agg #[.int .i64 1,.int .i64 0,.int .i64 2,.int .i64 7]] w0 fun v w=>v= .int .i64 0/\Below w0.heap.size w0 w:=by
 refine U16 ?_;intro hb;refine L.box (cs:=#[.int .i64 1,.int .i64 0,.int .i64 2,.int .i64 7]) rfl rfl (fun w b5 F5=>?_);refine U23 ?_;intro O8 hb hT D3;refine L.va (G0 (cs:=[.int .i64 1,.int .i64 0,.int .i64 2,.int .i64 7]) rfl Tryz.underlying52 rfl M1 rfl (D3.J1 rfl)) ?_;refine L.call (M0 rfl Tryz.func15 rfl k9 rfl) (X4 (⟨1,0,2,7⟩:N2) w) ?_;rintro _ w ⟨rfl,I1⟩;refine U19 ?_;intro hb hT D3;refine U169 ?_;refine U91 ?_;refine U165 ?_;refine U514 ?_;refine W.v5 rfl ?_;refine U61 ?_;refine U164 ?_;refine U397 ?_;refine L.va (m3 rfl) ?_;refine L.call (n3 rfl rfl Tryz.func23 rfl Vk0 rfl) (ys0 _) ?_;rintro _ w ⟨rfl,I1⟩;have hb:=N0 hb I1;refine U114 ?_;exact U14
set_option maxHeartbeats 1000000 in
theorem yw0 (tb:Nat) (w0:World) (hT:V0 w0 tb ic0 72):C Tryz.prog 39 #[.pointer (some ⟨tb,0,none⟩),.pointer none,.agg #[.int .i64 2,.int .i64 0,.int .i64 1,.int .i64 7]] w0 fun v w=>v= .int .i64 0/\Below w0.heap.size w0 w:=by
 refine U16 ?_;intro hb;refine L.box (cs:=#[.int .i64 2,.int .i64 0,.int .i64 1,.int .i64 7]) rfl rfl (fun w b5 F5=>?_);refine U23 ?_;intro O8 hb hT D3;refine L.va (G0 (cs:=[.int .i64 2,.int .i64 0,.int .i64 1,.int .i64 7]) rfl Tryz.underlying52 rfl M1 rfl (D3.J1 rfl)) ?_;refine L.call (M0 rfl Tryz.func15 rfl k9 rfl) (X4 (⟨2,0,1,7⟩:N2) w) ?_;rintro _ w ⟨rfl,I1⟩;refine U19 ?_;intro hb hT D3;refine U54 ?_;refine U166 ?_;refine U9 ?_;refine U91 ?_;refine U53 ?_;refine U201 ?_;refine L.call (n3 rfl rfl Tryz.func25 rfl Vm0 rfl) (Iu0 _) ?_;rintro _ w ⟨rfl,I1⟩;have hb:=N0 hb I1;refine U116 ?_;exact U14
set_option maxHeartbeats 1000000 in
theorem yx0 (tb:Nat) (w0:World) (hT:V0 w0 tb ic0 72):C Tryz.prog 39 #[.pointer (some ⟨tb,0,none⟩),.pointer none,.agg #[.int .i64 2,.int .i64 0,.int .i64 2,.int .i64 7]] w0 fun v w=>v= .int .i64 0/\Below w0.heap.size w0 w:=by
 refine U16 ?_;intro hb;refine L.box (cs:=#[.int .i64 2,.int .i64 0,.int .i64 2,.int .i64 7]) rfl rfl (fun w b5 F5=>?_);refine U23 ?_;intro O8 hb hT D3;refine L.va (G0 (cs:=[.int .i64 2,.int .i64 0,.int .i64 2,.int .i64 7]) rfl Tryz.underlying52 rfl M1 rfl (D3.J1 rfl)) ?_;refine L.call (M0 rfl Tryz.func15 rfl k9 rfl) (X4 (⟨2,0,2,7⟩:N2) w) ?_;rintro _ w ⟨rfl,I1⟩;refine U19 ?_;intro hb hT D3;refine U54 ?_;refine U165 ?_;refine U9 ?_;refine U275 ?_;refine U53 ?_;refine U201 ?_;refine L.call (n3 rfl rfl Tryz.func27 rfl Vo0 rfl) (yt0 _) ?_;rintro _ w ⟨rfl,I1⟩;have hb:=N0 hb I1;refine U116 ?_;exact U14
set_option maxHeartbeats 1000000 in
theorem yy0 (tb:Nat) (w0:World) (hT:V0 w0 tb ic0 72):C Tryz.prog 39 #[.pointer (some ⟨tb,0,none⟩),.pointer none,.agg #[.int .i64 2,.int .i64 0,.int .i64 3,.int .i64 7]] w0 fun v w=>v= .int .i64 0/\Below w0.heap.size w0 w:=by
 refine U16 ?_;intro hb;refine L.box (cs:=#[.int .i64 2,.int .i64 0,.int .i64 3,.int .i64 7]) rfl rfl (fun w b5 F5=>?_);refine U23 ?_;intro O8 hb hT D3;refine L.va (G0 (cs:=[.int .i64 2,.int .i64 0,.int .i64 3,.int .i64 7]) rfl Tryz.underlying52 rfl M1 rfl (D3.J1 rfl)) ?_;refine L.call (M0 rfl Tryz.func15 rfl k9 rfl) (X4 (⟨2,0,3,7⟩:N2) w) ?_;rintro _ w ⟨rfl,I1⟩;refine U19 ?_;intro hb hT D3;refine U54 ?_;refine U495 ?_;refine U9 ?_;refine U92 ?_;refine U53 ?_;refine U201 ?_;refine L.call (n3 rfl rfl Tryz.func28 rfl Vp0 rfl) (Ci0 _) ?_;rintro _ w ⟨rfl,I1⟩;have hb:=N0 hb I1;refine U116 ?_;exact U14
set_option maxHeartbeats 1000000 in
theorem yz0 (tb:Nat) (w0:World) (hT:V0 w0 tb ic0 72):C Tryz.prog 39 #[.pointer (some ⟨tb,0,none⟩),.pointer none,.agg #[.int .i64 2,.int .i64 0,.int .i64 4,.int .i64 7]] w0 fun v w=>v= .int .i64 0/\Below w0.heap.size w0 w:=by
 refine U16 ?_;intro hb;refine L.box (cs:=#[.int .i64 2,.int .i64 0,.int .i64 4,.int .i64 7]) rfl rfl (fun w b5 F5=>?_);refine U23 ?_;intro O8 hb hT D3;refine L.va (G0 (cs:=[.int .i64 2,.int .i64 0,.int .i64 4,.int .i64 7]) rfl Tryz.underlying52 rfl M1 rfl (D3.J1 rfl)) ?_;refine L.call (M0 rfl Tryz.func15 rfl k9 rfl) (X4 (⟨2,0,4,7⟩:N2) w) ?_;rintro _ w ⟨rfl,I1⟩;refine U19 ?_;intro hb hT D3;refine U54 ?_;refine U494 ?_;refine U9 ?_;refine U93 ?_;refine U53 ?_;refine U201 ?_;refine L.call (n3 rfl rfl Tryz.func30 rfl Vr0 rfl) (wh0 _) ?_;rintro _ w ⟨rfl,I1⟩;have hb:=N0 hb I1;refine U116 ?_;exact U14
set_option maxHeartbeats 1000000 in
theorem za0 (tb:Nat) (w0:World) (hT:V0 w0 tb ic0 72):C Tryz.prog 39 #[.pointer (some ⟨tb,0,none⟩),.pointer none,.agg #[.int .i64 3,.int .i64 0,.int .i64 5,.int .i64 7]] w0 fun v w=>v= .int .i64 0/\Below w0.heap.size w0 w:=by
 refine U16 ?_;intro hb;refine L.box (cs:=#[.int .i64 3,.int .i64 0,.int .i64 5,.int .i64 7]) rfl rfl (fun w b5 F5=>?_);refine U23 ?_;intro O8 hb hT D3;refine L.va (G0 (cs:=[.int .i64 3,.int .i64 0,.int .i64 5,.int .i64 7]) rfl Tryz.underlying52 rfl M1 rfl (D3.J1 rfl)) ?_;refine L.call (M0 rfl Tryz.func15 rfl k9 rfl) (X4 (⟨3,0,5,7⟩:N2) w) ?_;rintro _ w ⟨rfl,I1⟩;refine U19 ?_;intro hb hT D3;refine U167 ?_;refine U92 ?_;refine U515 ?_;refine U199 ?_;refine U548 ?_;refine L.va (C2 (i:=0) (n:=2) rfl rfl Tryz.underlying66 uz0 (by decide)) ?_;refine L.va (F0 rfl Tryz.underlying65 rfl (hT.A0 4 (v:=.pointer none) rfl)) ?_;refine L.va (m3 rfl) ?_;refine L.call (n3 rfl rfl Tryz.func34 rfl Vt0 rfl) (Mj0 _) ?_;rintro _ w ⟨rfl,I1⟩;exact U204
set_option maxHeartbeats 1000000 in
theorem zb0 (tb:Nat) (w0:World) (hT:V0 w0 tb ic0 72):C Tryz.prog 39 #[.pointer (some ⟨tb,0,none⟩),.pointer none,.agg #[.int .i64 3,.int .i64 0,.int .i64 7,.int .i64 7]] w0 fun v w=>v= .int .i64 0/\Below w0.heap.size w0 w:=by
 refine U16 ?_;intro hb;refine L.box (cs:=#[.int .i64 3,.int .i64 0,.int .i64 7,.int .i64 7]) rfl rfl (fun w b5 F5=>?_);refine U23 ?_;intro O8 hb hT D3;refine L.va (G0 (cs:=[.int .i64 3,.int .i64 0,.int .i64 7,.int .i64 7]) rfl Tryz.underlying52 rfl M1 rfl (D3.J1 rfl)) ?_;refine L.call (M0 rfl Tryz.func15 rfl k9 rfl) (X4 (⟨3,0,7,7⟩:N2) w) ?_;rintro _ w ⟨rfl,I1⟩;refine U19 ?_;intro hb hT D3;refine U167 ?_;refine U92 ?_;refine U25 ?_;refine U405 ?_;refine U36 ?_;refine W.seq ?_;refine U72 ?_;refine U503 ?_;refine D.va (fun w' u3=>(C2 (i:=0) (n:=2) rfl rfl Tryz.underlying66 uz0 (by decide))) ?_;refine D.va (fun w' u3=>(F0 rfl Tryz.underlying65 rfl ((hT.E0 u3).A0 4 (v:=.pointer none) rfl))) ?_;refine U251 ?_;refine D.nil (fun w I1=>?_);have hb:=N0 hb I1;clear I1;refine L.call (K3 rfl rfl rfl Tryz.func24 rfl Vl0 rfl) (Mk0 7 _) ?_;rintro _ w ⟨rfl,I1⟩;exact U204
set_option maxHeartbeats 1000000 in
theorem zc0 (tb:Nat) (w0:World) (hT:V0 w0 tb ic0 72):C Tryz.prog 39 #[.pointer (some ⟨tb,0,none⟩),.pointer none,.agg #[.int .i64 4,.int .i64 0,.int .i64 5,.int .i64 7]] w0 fun v w=>v= .int .i64 0/\Below w0.heap.size w0 w:=by
 refine U16 ?_;intro hb;refine L.box (cs:=#[.int .i64 4,.int .i64 0,.int .i64 5,.int .i64 7]) rfl rfl (fun w b5 F5=>?_);refine U23 ?_;intro O8 hb hT D3;refine L.va (G0 (cs:=[.int .i64 4,.int .i64 0,.int .i64 5,.int .i64 7]) rfl Tryz.underlying52 rfl M1 rfl (D3.J1 rfl)) ?_;refine L.call (M0 rfl Tryz.func15 rfl k9 rfl) (X4 (⟨4,0,5,7⟩:N2) w) ?_;rintro _ w ⟨rfl,I1⟩;refine U19 ?_;intro hb hT D3;refine U170 ?_;refine U93 ?_;refine U519 ?_;refine U64 ?_;refine U547 ?_;refine L.va (C2 (i:=0) (n:=2) rfl rfl Tryz.underlying68 va0 (by decide)) ?_;refine L.va (F0 rfl Tryz.underlying67 rfl (hT.A0 6 (v:=.pointer none) rfl)) ?_;refine L.va (m3 rfl) ?_;refine L.call (n3 rfl rfl Tryz.func29 rfl Vq0 rfl) (Ml0 _) ?_;rintro _ w ⟨rfl,I1⟩;exact U204
set_option maxHeartbeats 1000000 in
theorem zd0 (tb:Nat) (w0:World) (hT:V0 w0 tb ic0 72):C Tryz.prog 39 #[.pointer (some ⟨tb,0,none⟩),.pointer none,.agg #[.int .i64 4,.int .i64 0,.int .i64 6,.int .i64 7]] w0 fun v w=>v= .int .i64 0/\Below w0.heap.size w0 w:=by
 refine U16 ?_;intro hb;refine L.box (cs:=#[.int .i64 4,.int .i64 0,.int .i64 6,.int .i64 7]) rfl rfl (fun w b5 F5=>?_);refine U23 ?_;intro O8 hb hT D3;refine L.va (G0 (cs:=[.int .i64 4,.int .i64 0,.int .i64 6,.int .i64 7]) rfl Tryz.underlying52 rfl M1 rfl (D3.J1 rfl)) ?_;refine L.call (M0 rfl Tryz.func15 rfl k9 rfl) (X4 (⟨4,0,6,7⟩:N2) w) ?_;rintro _ w ⟨rfl,I1⟩;refine U19 ?_;intro hb hT D3;refine U170 ?_;refine U93 ?_;refine U25 ?_;refine U402 ?_;refine U117 ?_;refine U72 ?_;refine U501 ?_;refine D.va (fun w' u3=>(C2 (i:=0) (n:=2) rfl rfl Tryz.underlying68 va0 (by decide))) ?_;refine D.va (fun w' u3=>(F0 rfl Tryz.underlying67 rfl ((hT.E0 u3).A0 6 (v:=.pointer none) rfl))) ?_;refine U251 ?_;refine D.nil (fun w I1=>?_);have hb:=N0 hb I1;clear I1;refine L.call (K3 rfl rfl rfl Tryz.func26 rfl Vn0 rfl) (Mm0 7 _) ?_;rintro _ w ⟨rfl,I1⟩;have hb:=N0 hb I1;refine U114 ?_;exact U14
set_option maxHeartbeats 1000000 in
theorem ze0 (tb:Nat) (w0:World) (hT:V0 w0 tb ic0 72):C Tryz.prog 39 #[.pointer (some ⟨tb,0,none⟩),.pointer none,.agg #[.int .i64 5,.int .i64 0,.int .i64 8,.int .i64 7]] w0 fun v w=>v= .int .i64 0/\Below w0.heap.size w0 w:=by
 refine U16 ?_;intro hb;refine L.box (cs:=#[.int .i64 5,.int .i64 0,.int .i64 8,.int .i64 7]) rfl rfl (fun w b5 F5=>?_);refine U23 ?_;intro O8 hb hT D3;refine L.va (G0 (cs:=[.int .i64 5,.int .i64 0,.int .i64 8,.int .i64 7]) rfl Tryz.underlying52 rfl M1 rfl (D3.J1 rfl)) ?_;refine L.call (M0 rfl Tryz.func15 rfl k9 rfl) (X4 (⟨5,0,8,7⟩:N2) w) ?_;rintro _ w ⟨rfl,I1⟩;refine U19 ?_;intro hb hT D3;refine U168 ?_;refine U172 ?_;refine U8 ?_;refine U173 ?_;refine U174 ?_;refine U175 ?_;refine U176 ?_;refine U25 ?_;refine U406 ?_;refine U64 ?_;refine U549 ?_;refine L.va (C2 (i:=0) (n:=2) rfl rfl Tryz.underlying70 vb0 (by decide)) ?_;refine L.va (F0 rfl Tryz.underlying69 rfl (hT.A0 8 (v:=.pointer none) rfl)) ?_;refine L.va (m3 rfl) ?_;refine L.call (n3 rfl rfl Tryz.func22 rfl Vj0 rfl) (Mn0 _) ?_;rintro _ w ⟨rfl,I1⟩;exact U204
set_option maxHeartbeats 1000000 in
theorem zf0 (tb:Nat) (w0:World) (hT:V0 w0 tb ic0 72):C Tryz.prog 39 #[.pointer (some ⟨tb,0,none⟩),.pointer none,.agg #[.int .i64 5,.int .i64 0,.int .i64 9,.int .i64 7]] w0 fun v w=>v= .int .i64 0/\Below w0.heap.size w0 w:=by
 refine U16 ?_;intro hb;refine L.box (cs:=#[.int .i64 5,.int .i64 0,.int .i64 9,.int .i64 7]) rfl rfl (fun w b5 F5=>?_);refine U23 ?_;intro O8 hb hT D3;refine L.va (G0 (cs:=[.int .i64 5,.int .i64 0,.int .i64 9,.int .i64 7]) rfl Tryz.underlying52 rfl M1 rfl (D3.J1 rfl)) ?_;refine L.call (M0 rfl Tryz.func15 rfl k9 rfl) (X4 (⟨5,0,9,7⟩:N2) w) ?_;rintro _ w ⟨rfl,I1⟩;refine U19 ?_;intro hb hT D3;refine U168 ?_;refine U172 ?_;refine U8 ?_;refine U173 ?_;refine U174 ?_;refine U175 ?_;refine U176 ?_;refine U25 ?_;refine U403 ?_;refine U117 ?_;refine U72 ?_;refine U502 ?_;refine D.va (fun w' u3=>(C2 (i:=0) (n:=2) rfl rfl Tryz.underlying70 vb0 (by decide))) ?_;refine D.va (fun w' u3=>(F0 rfl Tryz.underlying69 rfl ((hT.E0 u3).A0 8 (v:=.pointer none) rfl))) ?_;refine U251 ?_;refine D.nil (fun w I1=>?_);have hb:=N0 hb I1;clear I1;refine L.call (K3 rfl rfl rfl Tryz.func21 rfl Vi0 rfl) (Mo0 7 _) ?_;rintro _ w ⟨rfl,I1⟩;have hb:=N0 hb I1;refine U114 ?_;exact U14
end
set_option maxHeartbeats 8000000 in
set_option maxRecDepth 40000 in
theorem ea1 {lb:Nat} {pl:Nat->j6} (w0:World):@C Tryz.prog (P6 lb pl) 8 #[] w0 fun v w=>v= .bool true/\Below w0.heap.size w0 w:=by
 letI:Ctx Tryz.prog:=P6 lb pl;refine C.enter (n:=44) Tryz.func8 rfl rfl ?_;refine U4 ?_;intro hb;refine U66 ?_;refine L.va (W0 (parts:=[]) rfl Mi0) ?_;refine L.box (cs:=#[.pointer none,.pointer none,.pointer none,.pointer none,.pointer none,.pointer none,.pointer none,.pointer none,.pointer none,.pointer none]) rfl rfl (fun w b8 F8=>?_);have lt8:=F8.lq hb.size;have hb:=N0 hb F8.below;have hB8:=F8.blk;have hT:V0 w b8 ic0 72:=hB8;clear hB8;refine U39 ?_;refine U78 ?_;refine U192 ?_;refine W.rounds 6 ?_;refine U146 ?_;refine L.va (A2 (r:=true) (by decide) (N7 (m:=1) (k:=5) rfl rfl)) ?_;refine U138 ?_;refine L.va (W0 (parts:=[(0,.tmp 17),(2,.tmp 18),(3,.const (.int .i64 7))]) rfl (j2 1 1 7)) ?_;refine U0 ?_;intro w b4 F4 N8 hb hT L1;refine L.pu 0 [.int .i64 1,.int .i64 0,.int .i64 1,.int .i64 7] #[.int .i64 1,.int .i64 0,.int .i64 1,.int .i64 7] M1 L1 (fun w B1 hg n2=>?_);refine U1 ?_;intro hb hT L1;refine L.va (G0 (cs:=[.int .i64 1,.int .i64 0,.int .i64 1,.int .i64 7]) rfl Tryz.underlying52 rfl M1 rfl (L1.J1 rfl)) ?_;refine L.call (M0 rfl Tryz.func37 rfl j5 rfl) (Z1 (⟨1,0,1,7⟩:N2) true (by simp[P8]) _) ?_;rintro _ w ⟨rfl,I1⟩;refine U21 ?_;intro hb hT L1;refine L.va (G0 (cs:=[.int .i64 1,.int .i64 0,.int .i64 1,.int .i64 7]) rfl Tryz.underlying52 rfl M1 rfl (L1.J1 rfl)) ?_;refine L.on rfl ?_;refine L.call (K3 rfl rfl rfl Tryz.func39 rfl gv0 rfl) (yu0 b8 _ hT) ?_;rintro _ w ⟨rfl,I1⟩;refine U29 ?_;intro hb hT;refine U126 ?_;refine L.va (W0 (parts:=[(0,.tmp 17),(2,.tmp 18),(3,.const (.int .i64 7))]) rfl (j2 1 2 7)) ?_;refine U0 ?_;intro w b4 F4 N8 hb hT L1;refine L.pu 0 [.int .i64 1,.int .i64 0,.int .i64 2,.int .i64 7] #[.int .i64 1,.int .i64 0,.int .i64 2,.int .i64 7] M1 L1 (fun w B1 hg n2=>?_);refine U1 ?_;intro hb hT L1;refine L.va (G0 (cs:=[.int .i64 1,.int .i64 0,.int .i64 2,.int .i64 7]) rfl Tryz.underlying52 rfl M1 rfl (L1.J1 rfl)) ?_;refine L.call (M0 rfl Tryz.func37 rfl j5 rfl) (Z1 (⟨1,0,2,7⟩:N2) true (by simp[P8]) _) ?_;rintro _ w ⟨rfl,I1⟩;refine U21 ?_;intro hb hT L1;refine L.va (G0 (cs:=[.int .i64 1,.int .i64 0,.int .i64 2,.int .i64 7]) rfl Tryz.underlying52 rfl M1 rfl (L1.J1 rfl)) ?_;refine L.on rfl ?_;refine L.call (K3 rfl rfl rfl Tryz.func39 rfl gv0 rfl) (yv0 b8 _ hT) ?_;rintro _ w ⟨rfl,I1⟩;refine U29 ?_;intro hb hT;refine U128 ?_;refine L.va (W0 (parts:=[(0,.tmp 17),(2,.tmp 18),(3,.const (.int .i64 7))]) rfl (j2 1 3 7)) ?_;refine U0 ?_;intro w b4 F4 N8 hb hT L1;refine L.pu 0 [.int .i64 1,.int .i64 0,.int .i64 3,.int .i64 7] #[.int .i64 1,.int .i64 0,.int .i64 3,.int .i64 7] M1 L1 (fun w B1 hg n2=>?_);refine U1 ?_;intro hb hT L1;refine L.va (G0 (cs:=[.int .i64 1,.int .i64 0,.int .i64 3,.int .i64 7]) rfl Tryz.underlying52 rfl M1 rfl (L1.J1 rfl)) ?_;refine L.call (M0 rfl Tryz.func37 rfl j5 rfl) (Z1 (⟨1,0,3,7⟩:N2) false (by simp[P8]) _) ?_;rintro _ w ⟨rfl,I1⟩;refine U5 ?_;intro hb hT;refine U130 ?_;refine L.va (W0 (parts:=[(0,.tmp 17),(2,.tmp 18),(3,.const (.int .i64 7))]) rfl (j2 1 4 7)) ?_;refine U0 ?_;intro w b4 F4 N8 hb hT L1;refine L.pu 0 [.int .i64 1,.int .i64 0,.int .i64 4,.int .i64 7] #[.int .i64 1,.int .i64 0,.int .i64 4,.int .i64 7] M1 L1 (fun w B1 hg n2=>?_);refine U1 ?_;intro hb hT L1;refine L.va (G0 (cs:=[.int .i64 1,.int .i64 0,.int .i64 4,.int .i64 7]) rfl Tryz.underlying52 rfl M1 rfl (L1.J1 rfl)) ?_;refine L.call (M0 rfl Tryz.func37 rfl j5 rfl) (Z1 (⟨1,0,4,7⟩:N2) false (by simp[P8]) _) ?_;rintro _ w ⟨rfl,I1⟩;refine U5 ?_;intro hb hT;refine U129 ?_;refine L.va (W0 (parts:=[(0,.tmp 17),(2,.tmp 18),(3,.const (.int .i64 7))]) rfl (j2 1 5 7)) ?_;refine U0 ?_;intro w b4 F4 N8 hb hT L1;refine L.pu 0 [.int .i64 1,.int .i64 0,.int .i64 5,.int .i64 7] #[.int .i64 1,.int .i64 0,.int .i64 5,.int .i64 7] M1 L1 (fun w B1 hg n2=>?_);refine U1 ?_;intro hb hT L1;refine L.va (G0 (cs:=[.int .i64 1,.int .i64 0,.int .i64 5,.int .i64 7]) rfl Tryz.underlying52 rfl M1 rfl (L1.J1 rfl)) ?_;refine L.call (M0 rfl Tryz.func37 rfl j5 rfl) (Z1 (⟨1,0,5,7⟩:N2) false (by simp[P8]) _) ?_;rintro _ w ⟨rfl,I1⟩;refine U5 ?_;intro hb hT;refine U127 ?_;refine L.va (W0 (parts:=[(0,.tmp 17),(2,.tmp 18),(3,.const (.int .i64 7))]) rfl (j2 1 6 7)) ?_;refine U0 ?_;intro w b4 F4 N8 hb hT L1;refine L.pu 0 [.int .i64 1,.int .i64 0,.int .i64 6,.int .i64 7] #[.int .i64 1,.int .i64 0,.int .i64 6,.int .i64 7] M1 L1 (fun w B1 hg n2=>?_);refine U1 ?_;intro hb hT L1;refine L.va (G0 (cs:=[.int .i64 1,.int .i64 0,.int .i64 6,.int .i64 7]) rfl Tryz.underlying52 rfl M1 rfl (L1.J1 rfl)) ?_;refine L.call (M0 rfl Tryz.func37 rfl j5 rfl) (Z1 (⟨1,0,6,7⟩:N2) false (by simp[P8]) _) ?_;rintro _ w ⟨rfl,I1⟩;refine U5 ?_;intro hb hT;refine U132 ?_;refine L.va (W0 (parts:=[(0,.tmp 17),(2,.tmp 18),(3,.const (.int .i64 7))]) rfl (j2 1 7 7)) ?_;refine U0 ?_;intro w b4 F4 N8 hb hT L1;refine L.pu 0 [.int .i64 1,.int .i64 0,.int .i64 7,.int .i64 7] #[.int .i64 1,.int .i64 0,.int .i64 7,.int .i64 7] M1 L1 (fun w B1 hg n2=>?_);refine U1 ?_;intro hb hT L1;refine L.va (G0 (cs:=[.int .i64 1,.int .i64 0,.int .i64 7,.int .i64 7]) rfl Tryz.underlying52 rfl M1 rfl (L1.J1 rfl)) ?_;refine L.call (M0 rfl Tryz.func37 rfl j5 rfl) (Z1 (⟨1,0,7,7⟩:N2) false (by simp[P8]) _) ?_;rintro _ w ⟨rfl,I1⟩;refine U5 ?_;intro hb hT;refine U133 ?_;refine L.va (W0 (parts:=[(0,.tmp 17),(2,.tmp 18),(3,.const (.int .i64 7))]) rfl (j2 1 8 7)) ?_;refine U0 ?_;intro w b4 F4 N8 hb hT L1;refine L.pu 0 [.int .i64 1,.int .i64 0,.int .i64 8,.int .i64 7] #[.int .i64 1,.int .i64 0,.int .i64 8,.int .i64 7] M1 L1 (fun w B1 hg n2=>?_);refine U1 ?_;intro hb hT L1;refine L.va (G0 (cs:=[.int .i64 1,.int .i64 0,.int .i64 8,.int .i64 7]) rfl Tryz.underlying52 rfl M1 rfl (L1.J1 rfl)) ?_;refine L.call (M0 rfl Tryz.func37 rfl j5 rfl) (Z1 (⟨1,0,8,7⟩:N2) false (by simp[P8]) _) ?_;rintro _ w ⟨rfl,I1⟩;refine U5 ?_;intro hb hT;refine U134 ?_;refine L.va (W0 (parts:=[(0,.tmp 17),(2,.tmp 18),(3,.const (.int .i64 7))]) rfl (j2 1 9 7)) ?_;refine U0 ?_;intro w b4 F4 N8 hb hT L1;refine L.pu 0 [.int .i64 1,.int .i64 0,.int .i64 9,.int .i64 7] #[.int .i64 1,.int .i64 0,.int .i64 9,.int .i64 7] M1 L1 (fun w B1 hg n2=>?_);refine U1 ?_;intro hb hT L1;refine L.va (G0 (cs:=[.int .i64 1,.int .i64 0,.int .i64 9,.int .i64 7]) rfl Tryz.underlying52 rfl M1 rfl (L1.J1 rfl)) ?_;refine L.call (M0 rfl Tryz.func37 rfl j5 rfl) (Z1 (⟨1,0,9,7⟩:N2) false (by simp[P8]) _) ?_;rintro _ w ⟨rfl,I1⟩;refine U5 ?_;intro hb hT;refine U137 ?_;refine U236 ?_;refine L.va (A2 (r:=true) (by decide) (N7 (m:=2) (k:=5) rfl rfl)) ?_;refine U138 ?_;refine L.va (W0 (parts:=[(0,.tmp 17),(2,.tmp 18),(3,.const (.int .i64 7))]) rfl (j2 2 1 7)) ?_;refine U0 ?_;intro w b4 F4 N8 hb hT L1;refine L.pu 0 [.int .i64 2,.int .i64 0,.int .i64 1,.int .i64 7] #[.int .i64 2,.int .i64 0,.int .i64 1,.int .i64 7] M1 L1 (fun w B1 hg n2=>?_);refine U1 ?_;intro hb hT L1;refine L.va (G0 (cs:=[.int .i64 2,.int .i64 0,.int .i64 1,.int .i64 7]) rfl Tryz.underlying52 rfl M1 rfl (L1.J1 rfl)) ?_;refine L.call (M0 rfl Tryz.func37 rfl j5 rfl) (Z1 (⟨2,0,1,7⟩:N2) true (by simp[P8]) _) ?_;rintro _ w ⟨rfl,I1⟩;refine U21 ?_;intro hb hT L1;refine L.va (G0 (cs:=[.int .i64 2,.int .i64 0,.int .i64 1,.int .i64 7]) rfl Tryz.underlying52 rfl M1 rfl (L1.J1 rfl)) ?_;refine L.on rfl ?_;refine L.call (K3 rfl rfl rfl Tryz.func39 rfl gv0 rfl) (yw0 b8 _ hT) ?_;rintro _ w ⟨rfl,I1⟩;refine U29 ?_;intro hb hT;refine U126 ?_;refine L.va (W0 (parts:=[(0,.tmp 17),(2,.tmp 18),(3,.const (.int .i64 7))]) rfl (j2 2 2 7)) ?_;refine U0 ?_;intro w b4 F4 N8 hb hT L1;refine L.pu 0 [.int .i64 2,.int .i64 0,.int .i64 2,.int .i64 7] #[.int .i64 2,.int .i64 0,.int .i64 2,.int .i64 7] M1 L1 (fun w B1 hg n2=>?_);refine U1 ?_;intro hb hT L1;refine L.va (G0 (cs:=[.int .i64 2,.int .i64 0,.int .i64 2,.int .i64 7]) rfl Tryz.underlying52 rfl M1 rfl (L1.J1 rfl)) ?_;refine L.call (M0 rfl Tryz.func37 rfl j5 rfl) (Z1 (⟨2,0,2,7⟩:N2) true (by simp[P8]) _) ?_;rintro _ w ⟨rfl,I1⟩;refine U21 ?_;intro hb hT L1;refine L.va (G0 (cs:=[.int .i64 2,.int .i64 0,.int .i64 2,.int .i64 7]) rfl Tryz.underlying52 rfl M1 rfl (L1.J1 rfl)) ?_;refine L.on rfl ?_;refine L.call (K3 rfl rfl rfl Tryz.func39 rfl gv0 rfl) (yx0 b8 _ hT) ?_;rintro _ w ⟨rfl,I1⟩;refine U29 ?_;intro hb hT;refine U128 ?_;refine L.va (W0 (parts:=[(0,.tmp 17),(2,.tmp 18),(3,.const (.int .i64 7))]) rfl (j2 2 3 7)) ?_;refine U0 ?_;intro w b4 F4 N8 hb hT L1;refine L.pu 0 [.int .i64 2,.int .i64 0,.int .i64 3,.int .i64 7] #[.int .i64 2,.int .i64 0,.int .i64 3,.int .i64 7] M1 L1 (fun w B1 hg n2=>?_);refine U1 ?_;intro hb hT L1;refine L.va (G0 (cs:=[.int .i64 2,.int .i64 0,.int .i64 3,.int .i64 7]) rfl Tryz.underlying52 rfl M1 rfl (L1.J1 rfl)) ?_;refine L.call (M0 rfl Tryz.func37 rfl j5 rfl) (Z1 (⟨2,0,3,7⟩:N2) true (by simp[P8]) _) ?_;rintro _ w ⟨rfl,I1⟩;refine U21 ?_;intro hb hT L1;refine L.va (G0 (cs:=[.int .i64 2,.int .i64 0,.int .i64 3,.int .i64 7]) rfl Tryz.underlying52 rfl M1 rfl (L1.J1 rfl)) ?_;refine L.on rfl ?_;refine L.call (K3 rfl rfl rfl Tryz.func39 rfl gv0 rfl) (yy0 b8 _ hT) ?_;rintro _ w ⟨rfl,I1⟩;refine U29 ?_;intro hb hT;refine U130 ?_;refine L.va (W0 (parts:=[(0,.tmp 17),(2,.tmp 18),(3,.const (.int .i64 7))]) rfl (j2 2 4 7)) ?_;refine U0 ?_;intro w b4 F4 N8 hb hT L1;refine L.pu 0 [.int .i64 2,.int .i64 0,.int .i64 4,.int .i64 7] #[.int .i64 2,.int .i64 0,.int .i64 4,.int .i64 7] M1 L1 (fun w B1 hg n2=>?_);refine U1 ?_;intro hb hT L1;refine L.va (G0 (cs:=[.int .i64 2,.int .i64 0,.int .i64 4,.int .i64 7]) rfl Tryz.underlying52 rfl M1 rfl (L1.J1 rfl)) ?_;refine L.call (M0 rfl Tryz.func37 rfl j5 rfl) (Z1 (⟨2,0,4,7⟩:N2) true (by simp[P8]) _) ?_;rintro _ w ⟨rfl,I1⟩;refine U21 ?_;intro hb hT L1;refine L.va (G0 (cs:=[.int .i64 2,.int .i64 0,.int .i64 4,.int .i64 7]) rfl Tryz.underlying52 rfl M1 rfl (L1.J1 rfl)) ?_;refine L.on rfl ?_;refine L.call (K3 rfl rfl rfl Tryz.func39 rfl gv0 rfl) (yz0 b8 _ hT) ?_;rintro _ w ⟨rfl,I1⟩;refine U29 ?_;intro hb hT;refine U129 ?_;refine L.va (W0 (parts:=[(0,.tmp 17),(2,.tmp 18),(3,.const (.int .i64 7))]) rfl (j2 2 5 7)) ?_;refine U0 ?_;intro w b4 F4 N8 hb hT L1;refine L.pu 0 [.int .i64 2,.int .i64 0,.int .i64 5,.int .i64 7] #[.int .i64 2,.int .i64 0,.int .i64 5,.int .i64 7] M1 L1 (fun w B1 hg n2=>?_);refine U1 ?_;intro hb hT L1;refine L.va (G0 (cs:=[.int .i64 2,.int .i64 0,.int .i64 5,.int .i64 7]) rfl Tryz.underlying52 rfl M1 rfl (L1.J1 rfl)) ?_;refine L.call (M0 rfl Tryz.func37 rfl j5 rfl) (Z1 (⟨2,0,5,7⟩:N2) false (by simp[P8]) _) ?_;rintro _ w ⟨rfl,I1⟩;refine U5 ?_;intro hb hT;refine U127 ?_;refine L.va (W0 (parts:=[(0,.tmp 17),(2,.tmp 18),(3,.const (.int .i64 7))]) rfl (j2 2 6 7)) ?_;refine U0 ?_;intro w b4 F4 N8 hb hT L1;refine L.pu 0 [.int .i64 2,.int .i64 0,.int .i64 6,.int .i64 7] #[.int .i64 2,.int .i64 0,.int .i64 6,.int .i64 7] M1 L1 (fun w B1 hg n2=>?_);refine U1 ?_;intro hb hT L1;refine L.va (G0 (cs:=[.int .i64 2,.int .i64 0,.int .i64 6,.int .i64 7]) rfl Tryz.underlying52 rfl M1 rfl (L1.J1 rfl)) ?_;refine L.call (M0 rfl Tryz.func37 rfl j5 rfl) (Z1 (⟨2,0,6,7⟩:N2) false (by simp[P8]) _) ?_;rintro _ w ⟨rfl,I1⟩;refine U5 ?_;intro hb hT;refine U132 ?_;refine L.va (W0 (parts:=[(0,.tmp 17),(2,.tmp 18),(3,.const (.int .i64 7))]) rfl (j2 2 7 7)) ?_;refine U0 ?_;intro w b4 F4 N8 hb hT L1;refine L.pu 0 [.int .i64 2,.int .i64 0,.int .i64 7,.int .i64 7] #[.int .i64 2,.int .i64 0,.int .i64 7,.int .i64 7] M1 L1 (fun w B1 hg n2=>?_);refine U1 ?_;intro hb hT L1;refine L.va (G0 (cs:=[.int .i64 2,.int .i64 0,.int .i64 7,.int .i64 7]) rfl Tryz.underlying52 rfl M1 rfl (L1.J1 rfl)) ?_;refine L.call (M0 rfl Tryz.func37 rfl j5 rfl) (Z1 (⟨2,0,7,7⟩:N2) false (by simp[P8]) _) ?_;rintro _ w ⟨rfl,I1⟩;refine U5 ?_;intro hb hT;refine U133 ?_;refine L.va (W0 (parts:=[(0,.tmp 17),(2,.tmp 18),(3,.const (.int .i64 7))]) rfl (j2 2 8 7)) ?_;refine U0 ?_;intro w b4 F4 N8 hb hT L1;refine L.pu 0 [.int .i64 2,.int .i64 0,.int .i64 8,.int .i64 7] #[.int .i64 2,.int .i64 0,.int .i64 8,.int .i64 7] M1 L1 (fun w B1 hg n2=>?_);refine U1 ?_;intro hb hT L1;refine L.va (G0 (cs:=[.int .i64 2,.int .i64 0,.int .i64 8,.int .i64 7]) rfl Tryz.underlying52 rfl M1 rfl (L1.J1 rfl)) ?_;refine L.call (M0 rfl Tryz.func37 rfl j5 rfl) (Z1 (⟨2,0,8,7⟩:N2) false (by simp[P8]) _) ?_;rintro _ w ⟨rfl,I1⟩;refine U5 ?_;intro hb hT;refine U134 ?_;refine L.va (W0 (parts:=[(0,.tmp 17),(2,.tmp 18),(3,.const (.int .i64 7))]) rfl (j2 2 9 7)) ?_;refine U0 ?_;intro w b4 F4 N8 hb hT L1;refine L.pu 0 [.int .i64 2,.int .i64 0,.int .i64 9,.int .i64 7] #[.int .i64 2,.int .i64 0,.int .i64 9,.int .i64 7] M1 L1 (fun w B1 hg n2=>?_);refine U1 ?_;intro hb hT L1;refine L.va (G0 (cs:=[.int .i64 2,.int .i64 0,.int .i64 9,.int .i64 7]) rfl Tryz.underlying52 rfl M1 rfl (L1.J1 rfl)) ?_;refine L.call (M0 rfl Tryz.func37 rfl j5 rfl) (Z1 (⟨2,0,9,7⟩:N2) false (by simp[P8]) _) ?_;rintro _ w ⟨rfl,I1⟩;refine U5 ?_;intro hb hT;refine U137 ?_;refine U334 ?_;refine L.va (A2 (r:=true) (by decide) (N7 (m:=3) (k:=5) rfl rfl)) ?_;refine U138 ?_;refine L.va (W0 (parts:=[(0,.tmp 17),(2,.tmp 18),(3,.const (.int .i64 7))]) rfl (j2 3 1 7)) ?_;refine U0 ?_;intro w b4 F4 N8 hb hT L1;refine L.pu 0 [.int .i64 3,.int .i64 0,.int .i64 1,.int .i64 7] #[.int .i64 3,.int .i64 0,.int .i64 1,.int .i64 7] M1 L1 (fun w B1 hg n2=>?_);refine U1 ?_;intro hb hT L1;refine L.va (G0 (cs:=[.int .i64 3,.int .i64 0,.int .i64 1,.int .i64 7]) rfl Tryz.underlying52 rfl M1 rfl (L1.J1 rfl)) ?_;refine L.call (M0 rfl Tryz.func37 rfl j5 rfl) (Z1 (⟨3,0,1,7⟩:N2) false (by simp[P8]) _) ?_;rintro _ w ⟨rfl,I1⟩;refine U5 ?_;intro hb hT;refine U126 ?_;refine L.va (W0 (parts:=[(0,.tmp 17),(2,.tmp 18),(3,.const (.int .i64 7))]) rfl (j2 3 2 7)) ?_;refine U0 ?_;intro w b4 F4 N8 hb hT L1;refine L.pu 0 [.int .i64 3,.int .i64 0,.int .i64 2,.int .i64 7] #[.int .i64 3,.int .i64 0,.int .i64 2,.int .i64 7] M1 L1 (fun w B1 hg n2=>?_);refine U1 ?_;intro hb hT L1;refine L.va (G0 (cs:=[.int .i64 3,.int .i64 0,.int .i64 2,.int .i64 7]) rfl Tryz.underlying52 rfl M1 rfl (L1.J1 rfl)) ?_;refine L.call (M0 rfl Tryz.func37 rfl j5 rfl) (Z1 (⟨3,0,2,7⟩:N2) false (by simp[P8]) _) ?_;rintro _ w ⟨rfl,I1⟩;refine U5 ?_;intro hb hT;refine U128 ?_;refine L.va (W0 (parts:=[(0,.tmp 17),(2,.tmp 18),(3,.const (.int .i64 7))]) rfl (j2 3 3 7)) ?_;refine U0 ?_;intro w b4 F4 N8 hb hT L1;refine L.pu 0 [.int .i64 3,.int .i64 0,.int .i64 3,.int .i64 7] #[.int .i64 3,.int .i64 0,.int .i64 3,.int .i64 7] M1 L1 (fun w B1 hg n2=>?_);refine U1 ?_;intro hb hT L1;refine L.va (G0 (cs:=[.int .i64 3,.int .i64 0,.int .i64 3,.int .i64 7]) rfl Tryz.underlying52 rfl M1 rfl (L1.J1 rfl)) ?_;refine L.call (M0 rfl Tryz.func37 rfl j5 rfl) (Z1 (⟨3,0,3,7⟩:N2) false (by simp[P8]) _) ?_;rintro _ w ⟨rfl,I1⟩;refine U5 ?_;intro hb hT;refine U130 ?_;refine L.va (W0 (parts:=[(0,.tmp 17),(2,.tmp 18),(3,.const (.int .i64 7))]) rfl (j2 3 4 7)) ?_;refine U0 ?_;intro w b4 F4 N8 hb hT L1;refine L.pu 0 [.int .i64 3,.int .i64 0,.int .i64 4,.int .i64 7] #[.int .i64 3,.int .i64 0,.int .i64 4,.int .i64 7] M1 L1 (fun w B1 hg n2=>?_);refine U1 ?_;intro hb hT L1;refine L.va (G0 (cs:=[.int .i64 3,.int .i64 0,.int .i64 4,.int .i64 7]) rfl Tryz.underlying52 rfl M1 rfl (L1.J1 rfl)) ?_;refine L.call (M0 rfl Tryz.func37 rfl j5 rfl) (Z1 (⟨3,0,4,7⟩:N2) false (by simp[P8]) _) ?_;rintro _ w ⟨rfl,I1⟩;refine U5 ?_;intro hb hT;refine U129 ?_;refine L.va (W0 (parts:=[(0,.tmp 17),(2,.tmp 18),(3,.const (.int .i64 7))]) rfl (j2 3 5 7)) ?_;refine U0 ?_;intro w b4 F4 N8 hb hT L1;refine L.pu 0 [.int .i64 3,.int .i64 0,.int .i64 5,.int .i64 7] #[.int .i64 3,.int .i64 0,.int .i64 5,.int .i64 7] M1 L1 (fun w B1 hg n2=>?_);refine U1 ?_;intro hb hT L1;refine L.va (G0 (cs:=[.int .i64 3,.int .i64 0,.int .i64 5,.int .i64 7]) rfl Tryz.underlying52 rfl M1 rfl (L1.J1 rfl)) ?_;refine L.call (M0 rfl Tryz.func37 rfl j5 rfl) (Z1 (⟨3,0,5,7⟩:N2) true (by simp[P8]) _) ?_;rintro _ w ⟨rfl,I1⟩;refine U21 ?_;intro hb hT L1;refine L.va (G0 (cs:=[.int .i64 3,.int .i64 0,.int .i64 5,.int .i64 7]) rfl Tryz.underlying52 rfl M1 rfl (L1.J1 rfl)) ?_;refine L.on rfl ?_;refine L.call (K3 rfl rfl rfl Tryz.func39 rfl gv0 rfl) (za0 b8 _ hT) ?_;rintro _ w ⟨rfl,I1⟩;refine U29 ?_;intro hb hT;refine U127 ?_;refine L.va (W0 (parts:=[(0,.tmp 17),(2,.tmp 18),(3,.const (.int .i64 7))]) rfl (j2 3 6 7)) ?_;refine U0 ?_;intro w b4 F4 N8 hb hT L1;refine L.pu 0 [.int .i64 3,.int .i64 0,.int .i64 6,.int .i64 7] #[.int .i64 3,.int .i64 0,.int .i64 6,.int .i64 7] M1 L1 (fun w B1 hg n2=>?_);refine U1 ?_;intro hb hT L1;refine L.va (G0 (cs:=[.int .i64 3,.int .i64 0,.int .i64 6,.int .i64 7]) rfl Tryz.underlying52 rfl M1 rfl (L1.J1 rfl)) ?_;refine L.call (M0 rfl Tryz.func37 rfl j5 rfl) (Z1 (⟨3,0,6,7⟩:N2) false (by simp[P8]) _) ?_;rintro _ w ⟨rfl,I1⟩;refine U5 ?_;intro hb hT;refine U132 ?_;refine L.va (W0 (parts:=[(0,.tmp 17),(2,.tmp 18),(3,.const (.int .i64 7))]) rfl (j2 3 7 7)) ?_;refine U0 ?_;intro w b4 F4 N8 hb hT L1;refine L.pu 0 [.int .i64 3,.int .i64 0,.int .i64 7,.int .i64 7] #[.int .i64 3,.int .i64 0,.int .i64 7,.int .i64 7] M1 L1 (fun w B1 hg n2=>?_);refine U1 ?_;intro hb hT L1;refine L.va (G0 (cs:=[.int .i64 3,.int .i64 0,.int .i64 7,.int .i64 7]) rfl Tryz.underlying52 rfl M1 rfl (L1.J1 rfl)) ?_;refine L.call (M0 rfl Tryz.func37 rfl j5 rfl) (Z1 (⟨3,0,7,7⟩:N2) true (by simp[P8]) _) ?_;rintro _ w ⟨rfl,I1⟩;refine U21 ?_;intro hb hT L1;refine L.va (G0 (cs:=[.int .i64 3,.int .i64 0,.int .i64 7,.int .i64 7]) rfl Tryz.underlying52 rfl M1 rfl (L1.J1 rfl)) ?_;refine L.on rfl ?_;refine L.call (K3 rfl rfl rfl Tryz.func39 rfl gv0 rfl) (zb0 b8 _ hT) ?_;rintro _ w ⟨rfl,I1⟩;refine U29 ?_;intro hb hT;refine U133 ?_;refine L.va (W0 (parts:=[(0,.tmp 17),(2,.tmp 18),(3,.const (.int .i64 7))]) rfl (j2 3 8 7)) ?_;refine U0 ?_;intro w b4 F4 N8 hb hT L1;refine L.pu 0 [.int .i64 3,.int .i64 0,.int .i64 8,.int .i64 7] #[.int .i64 3,.int .i64 0,.int .i64 8,.int .i64 7] M1 L1 (fun w B1 hg n2=>?_);refine U1 ?_;intro hb hT L1;refine L.va (G0 (cs:=[.int .i64 3,.int .i64 0,.int .i64 8,.int .i64 7]) rfl Tryz.underlying52 rfl M1 rfl (L1.J1 rfl)) ?_;refine L.call (M0 rfl Tryz.func37 rfl j5 rfl) (Z1 (⟨3,0,8,7⟩:N2) false (by simp[P8]) _) ?_;rintro _ w ⟨rfl,I1⟩;refine U5 ?_;intro hb hT;refine U134 ?_;refine L.va (W0 (parts:=[(0,.tmp 17),(2,.tmp 18),(3,.const (.int .i64 7))]) rfl (j2 3 9 7)) ?_;refine U0 ?_;intro w b4 F4 N8 hb hT L1;refine L.pu 0 [.int .i64 3,.int .i64 0,.int .i64 9,.int .i64 7] #[.int .i64 3,.int .i64 0,.int .i64 9,.int .i64 7] M1 L1 (fun w B1 hg n2=>?_);refine U1 ?_;intro hb hT L1;refine L.va (G0 (cs:=[.int .i64 3,.int .i64 0,.int .i64 9,.int .i64 7]) rfl Tryz.underlying52 rfl M1 rfl (L1.J1 rfl)) ?_;refine L.call (M0 rfl Tryz.func37 rfl j5 rfl) (Z1 (⟨3,0,9,7⟩:N2) false (by simp[P8]) _) ?_;rintro _ w ⟨rfl,I1⟩;refine U5 ?_;intro hb hT;refine U137 ?_;refine U336 ?_;refine L.va (A2 (r:=true) (by decide) (N7 (m:=4) (k:=5) rfl rfl)) ?_;refine U138 ?_;refine L.va (W0 (parts:=[(0,.tmp 17),(2,.tmp 18),(3,.const (.int .i64 7))]) rfl (j2 4 1 7)) ?_;refine U0 ?_;intro w b4 F4 N8 hb hT L1;refine L.pu 0 [.int .i64 4,.int .i64 0,.int .i64 1,.int .i64 7] #[.int .i64 4,.int .i64 0,.int .i64 1,.int .i64 7] M1 L1 (fun w B1 hg n2=>?_);refine U1 ?_;intro hb hT L1;refine L.va (G0 (cs:=[.int .i64 4,.int .i64 0,.int .i64 1,.int .i64 7]) rfl Tryz.underlying52 rfl M1 rfl (L1.J1 rfl)) ?_;refine L.call (M0 rfl Tryz.func37 rfl j5 rfl) (Z1 (⟨4,0,1,7⟩:N2) false (by simp[P8]) _) ?_;rintro _ w ⟨rfl,I1⟩;refine U5 ?_;intro hb hT;refine U126 ?_;refine L.va (W0 (parts:=[(0,.tmp 17),(2,.tmp 18),(3,.const (.int .i64 7))]) rfl (j2 4 2 7)) ?_;refine U0 ?_;intro w b4 F4 N8 hb hT L1;refine L.pu 0 [.int .i64 4,.int .i64 0,.int .i64 2,.int .i64 7] #[.int .i64 4,.int .i64 0,.int .i64 2,.int .i64 7] M1 L1 (fun w B1 hg n2=>?_);refine U1 ?_;intro hb hT L1;refine L.va (G0 (cs:=[.int .i64 4,.int .i64 0,.int .i64 2,.int .i64 7]) rfl Tryz.underlying52 rfl M1 rfl (L1.J1 rfl)) ?_;refine L.call (M0 rfl Tryz.func37 rfl j5 rfl) (Z1 (⟨4,0,2,7⟩:N2) false (by simp[P8]) _) ?_;rintro _ w ⟨rfl,I1⟩;refine U5 ?_;intro hb hT;refine U128 ?_;refine L.va (W0 (parts:=[(0,.tmp 17),(2,.tmp 18),(3,.const (.int .i64 7))]) rfl (j2 4 3 7)) ?_;refine U0 ?_;intro w b4 F4 N8 hb hT L1;refine L.pu 0 [.int .i64 4,.int .i64 0,.int .i64 3,.int .i64 7] #[.int .i64 4,.int .i64 0,.int .i64 3,.int .i64 7] M1 L1 (fun w B1 hg n2=>?_);refine U1 ?_;intro hb hT L1;refine L.va (G0 (cs:=[.int .i64 4,.int .i64 0,.int .i64 3,.int .i64 7]) rfl Tryz.underlying52 rfl M1 rfl (L1.J1 rfl)) ?_;refine L.call (M0 rfl Tryz.func37 rfl j5 rfl) (Z1 (⟨4,0,3,7⟩:N2) false (by simp[P8]) _) ?_;rintro _ w ⟨rfl,I1⟩;refine U5 ?_;intro hb hT;refine U130 ?_;refine L.va (W0 (parts:=[(0,.tmp 17),(2,.tmp 18),(3,.const (.int .i64 7))]) rfl (j2 4 4 7)) ?_;refine U0 ?_;intro w b4 F4 N8 hb hT L1;refine L.pu 0 [.int .i64 4,.int .i64 0,.int .i64 4,.int .i64 7] #[.int .i64 4,.int .i64 0,.int .i64 4,.int .i64 7] M1 L1 (fun w B1 hg n2=>?_);refine U1 ?_;intro hb hT L1;refine L.va (G0 (cs:=[.int .i64 4,.int .i64 0,.int .i64 4,.int .i64 7]) rfl Tryz.underlying52 rfl M1 rfl (L1.J1 rfl)) ?_;refine L.call (M0 rfl Tryz.func37 rfl j5 rfl) (Z1 (⟨4,0,4,7⟩:N2) false (by simp[P8]) _) ?_;rintro _ w ⟨rfl,I1⟩;refine U5 ?_;intro hb hT;refine U129 ?_;refine L.va (W0 (parts:=[(0,.tmp 17),(2,.tmp 18),(3,.const (.int .i64 7))]) rfl (j2 4 5 7)) ?_;refine U0 ?_;intro w b4 F4 N8 hb hT L1;refine L.pu 0 [.int .i64 4,.int .i64 0,.int .i64 5,.int .i64 7] #[.int .i64 4,.int .i64 0,.int .i64 5,.int .i64 7] M1 L1 (fun w B1 hg n2=>?_);refine U1 ?_;intro hb hT L1;refine L.va (G0 (cs:=[.int .i64 4,.int .i64 0,.int .i64 5,.int .i64 7]) rfl Tryz.underlying52 rfl M1 rfl (L1.J1 rfl)) ?_;refine L.call (M0 rfl Tryz.func37 rfl j5 rfl) (Z1 (⟨4,0,5,7⟩:N2) true (by simp[P8]) _) ?_;rintro _ w ⟨rfl,I1⟩;refine U21 ?_;intro hb hT L1;refine L.va (G0 (cs:=[.int .i64 4,.int .i64 0,.int .i64 5,.int .i64 7]) rfl Tryz.underlying52 rfl M1 rfl (L1.J1 rfl)) ?_;refine L.on rfl ?_;refine L.call (K3 rfl rfl rfl Tryz.func39 rfl gv0 rfl) (zc0 b8 _ hT) ?_;rintro _ w ⟨rfl,I1⟩;refine U29 ?_;intro hb hT;refine U127 ?_;refine L.va (W0 (parts:=[(0,.tmp 17),(2,.tmp 18),(3,.const (.int .i64 7))]) rfl (j2 4 6 7)) ?_;refine U0 ?_;intro w b4 F4 N8 hb hT L1;refine L.pu 0 [.int .i64 4,.int .i64 0,.int .i64 6,.int .i64 7] #[.int .i64 4,.int .i64 0,.int .i64 6,.int .i64 7] M1 L1 (fun w B1 hg n2=>?_);refine U1 ?_;intro hb hT L1;refine L.va (G0 (cs:=[.int .i64 4,.int .i64 0,.int .i64 6,.int .i64 7]) rfl Tryz.underlying52 rfl M1 rfl (L1.J1 rfl)) ?_;refine L.call (M0 rfl Tryz.func37 rfl j5 rfl) (Z1 (⟨4,0,6,7⟩:N2) true (by simp[P8]) _) ?_;rintro _ w ⟨rfl,I1⟩;refine U21 ?_;intro hb hT L1;refine L.va (G0 (cs:=[.int .i64 4,.int .i64 0,.int .i64 6,.int .i64 7]) rfl Tryz.underlying52 rfl M1 rfl (L1.J1 rfl)) ?_;refine L.on rfl ?_;refine L.call (K3 rfl rfl rfl Tryz.func39 rfl gv0 rfl) (zd0 b8 _ hT) ?_;rintro _ w ⟨rfl,I1⟩;refine U29 ?_;intro hb hT;refine U132 ?_;refine L.va (W0 (parts:=[(0,.tmp 17),(2,.tmp 18),(3,.const (.int .i64 7))]) rfl (j2 4 7 7)) ?_;refine U0 ?_;intro w b4 F4 N8 hb hT L1;refine L.pu 0 [.int .i64 4,.int .i64 0,.int .i64 7,.int .i64 7] #[.int .i64 4,.int .i64 0,.int .i64 7,.int .i64 7] M1 L1 (fun w B1 hg n2=>?_);refine U1 ?_;intro hb hT L1;refine L.va (G0 (cs:=[.int .i64 4,.int .i64 0,.int .i64 7,.int .i64 7]) rfl Tryz.underlying52 rfl M1 rfl (L1.J1 rfl)) ?_;refine L.call (M0 rfl Tryz.func37 rfl j5 rfl) (Z1 (⟨4,0,7,7⟩:N2) false (by simp[P8]) _) ?_;rintro _ w ⟨rfl,I1⟩;refine U5 ?_;intro hb hT;refine U133 ?_;refine L.va (W0 (parts:=[(0,.tmp 17),(2,.tmp 18),(3,.const (.int .i64 7))]) rfl (j2 4 8 7)) ?_;refine U0 ?_;intro w b4 F4 N8 hb hT L1;refine L.pu 0 [.int .i64 4,.int .i64 0,.int .i64 8,.int .i64 7] #[.int .i64 4,.int .i64 0,.int .i64 8,.int .i64 7] M1 L1 (fun w B1 hg n2=>?_);refine U1 ?_;intro hb hT L1;refine L.va (G0 (cs:=[.int .i64 4,.int .i64 0,.int .i64 8,.int .i64 7]) rfl Tryz.underlying52 rfl M1 rfl (L1.J1 rfl)) ?_;refine L.call (M0 rfl Tryz.func37 rfl j5 rfl) (Z1 (⟨4,0,8,7⟩:N2) false (by simp[P8]) _) ?_;rintro _ w ⟨rfl,I1⟩;refine U5 ?_;intro hb hT;refine U134 ?_;refine L.va (W0 (parts:=[(0,.tmp 17),(2,.tmp 18),(3,.const (.int .i64 7))]) rfl (j2 4 9 7)) ?_;refine U0 ?_;intro w b4 F4 N8 hb hT L1;refine L.pu 0 [.int .i64 4,.int .i64 0,.int .i64 9,.int .i64 7] #[.int .i64 4,.int .i64 0,.int .i64 9,.int .i64 7] M1 L1 (fun w B1 hg n2=>?_);refine U1 ?_;intro hb hT L1;refine L.va (G0 (cs:=[.int .i64 4,.int .i64 0,.int .i64 9,.int .i64 7]) rfl Tryz.underlying52 rfl M1 rfl (L1.J1 rfl)) ?_;refine L.call (M0 rfl Tryz.func37 rfl j5 rfl) (Z1 (⟨4,0,9,7⟩:N2) false (by simp[P8]) _) ?_;rintro _ w ⟨rfl,I1⟩;refine U5 ?_;intro hb hT;refine U137 ?_;refine U337 ?_;refine L.va (A2 (r:=true) (by decide) (N7 (m:=5) (k:=5) rfl rfl)) ?_;refine U138 ?_;refine L.va (W0 (parts:=[(0,.tmp 17),(2,.tmp 18),(3,.const (.int .i64 7))]) rfl (j2 5 1 7)) ?_;refine U0 ?_;intro w b4 F4 N8 hb hT L1;refine L.pu 0 [.int .i64 5,.int .i64 0,.int .i64 1,.int .i64 7] #[.int .i64 5,.int .i64 0,.int .i64 1,.int .i64 7] M1 L1 (fun w B1 hg n2=>?_);refine U1 ?_;intro hb hT L1;refine L.va (G0 (cs:=[.int .i64 5,.int .i64 0,.int .i64 1,.int .i64 7]) rfl Tryz.underlying52 rfl M1 rfl (L1.J1 rfl)) ?_;refine L.call (M0 rfl Tryz.func37 rfl j5 rfl) (Z1 (⟨5,0,1,7⟩:N2) false (by simp[P8]) _) ?_;rintro _ w ⟨rfl,I1⟩;refine U5 ?_;intro hb hT;refine U126 ?_;refine L.va (W0 (parts:=[(0,.tmp 17),(2,.tmp 18),(3,.const (.int .i64 7))]) rfl (j2 5 2 7)) ?_;refine U0 ?_;intro w b4 F4 N8 hb hT L1;refine L.pu 0 [.int .i64 5,.int .i64 0,.int .i64 2,.int .i64 7] #[.int .i64 5,.int .i64 0,.int .i64 2,.int .i64 7] M1 L1 (fun w B1 hg n2=>?_);refine U1 ?_;intro hb hT L1;refine L.va (G0 (cs:=[.int .i64 5,.int .i64 0,.int .i64 2,.int .i64 7]) rfl Tryz.underlying52 rfl M1 rfl (L1.J1 rfl)) ?_;refine L.call (M0 rfl Tryz.func37 rfl j5 rfl) (Z1 (⟨5,0,2,7⟩:N2) false (by simp[P8]) _) ?_;rintro _ w ⟨rfl,I1⟩;refine U5 ?_;intro hb hT;refine U128 ?_;refine L.va (W0 (parts:=[(0,.tmp 17),(2,.tmp 18),(3,.const (.int .i64 7))]) rfl (j2 5 3 7)) ?_;refine U0 ?_;intro w b4 F4 N8 hb hT L1;refine L.pu 0 [.int .i64 5,.int .i64 0,.int .i64 3,.int .i64 7] #[.int .i64 5,.int .i64 0,.int .i64 3,.int .i64 7] M1 L1 (fun w B1 hg n2=>?_);refine U1 ?_;intro hb hT L1;refine L.va (G0 (cs:=[.int .i64 5,.int .i64 0,.int .i64 3,.int .i64 7]) rfl Tryz.underlying52 rfl M1 rfl (L1.J1 rfl)) ?_;refine L.call (M0 rfl Tryz.func37 rfl j5 rfl) (Z1 (⟨5,0,3,7⟩:N2) false (by simp[P8]) _) ?_;rintro _ w ⟨rfl,I1⟩;refine U5 ?_;intro hb hT;refine U130 ?_;refine L.va (W0 (parts:=[(0,.tmp 17),(2,.tmp 18),(3,.const (.int .i64 7))]) rfl (j2 5 4 7)) ?_;refine U0 ?_;intro w b4 F4 N8 hb hT L1;refine L.pu 0 [.int .i64 5,.int .i64 0,.int .i64 4,.int .i64 7] #[.int .i64 5,.int .i64 0,.int .i64 4,.int .i64 7] M1 L1 (fun w B1 hg n2=>?_);refine U1 ?_;intro hb hT L1;refine L.va (G0 (cs:=[.int .i64 5,.int .i64 0,.int .i64 4,.int .i64 7]) rfl Tryz.underlying52 rfl M1 rfl (L1.J1 rfl)) ?_;refine L.call (M0 rfl Tryz.func37 rfl j5 rfl) (Z1 (⟨5,0,4,7⟩:N2) false (by simp[P8]) _) ?_;rintro _ w ⟨rfl,I1⟩;refine U5 ?_;intro hb hT;refine U129 ?_;refine L.va (W0 (parts:=[(0,.tmp 17),(2,.tmp 18),(3,.const (.int .i64 7))]) rfl (j2 5 5 7)) ?_;refine U0 ?_;intro w b4 F4 N8 hb hT L1;refine L.pu 0 [.int .i64 5,.int .i64 0,.int .i64 5,.int .i64 7] #[.int .i64 5,.int .i64 0,.int .i64 5,.int .i64 7] M1 L1 (fun w B1 hg n2=>?_);refine U1 ?_;intro hb hT L1;refine L.va (G0 (cs:=[.int .i64 5,.int .i64 0,.int .i64 5,.int .i64 7]) rfl Tryz.underlying52 rfl M1 rfl (L1.J1 rfl)) ?_;refine L.call (M0 rfl Tryz.func37 rfl j5 rfl) (Z1 (⟨5,0,5,7⟩:N2) false (by simp[P8]) _) ?_;rintro _ w ⟨rfl,I1⟩;refine U5 ?_;intro hb hT;refine U127 ?_;refine L.va (W0 (parts:=[(0,.tmp 17),(2,.tmp 18),(3,.const (.int .i64 7))]) rfl (j2 5 6 7)) ?_;refine U0 ?_;intro w b4 F4 N8 hb hT L1;refine L.pu 0 [.int .i64 5,.int .i64 0,.int .i64 6,.int .i64 7] #[.int .i64 5,.int .i64 0,.int .i64 6,.int .i64 7] M1 L1 (fun w B1 hg n2=>?_);refine U1 ?_;intro hb hT L1;refine L.va (G0 (cs:=[.int .i64 5,.int .i64 0,.int .i64 6,.int .i64 7]) rfl Tryz.underlying52 rfl M1 rfl (L1.J1 rfl)) ?_;refine L.call (M0 rfl Tryz.func37 rfl j5 rfl) (Z1 (⟨5,0,6,7⟩:N2) false (by simp[P8]) _) ?_;rintro _ w ⟨rfl,I1⟩;refine U5 ?_;intro hb hT;refine U132 ?_;refine L.va (W0 (parts:=[(0,.tmp 17),(2,.tmp 18),(3,.const (.int .i64 7))]) rfl (j2 5 7 7)) ?_;refine U0 ?_;intro w b4 F4 N8 hb hT L1;refine L.pu 0 [.int .i64 5,.int .i64 0,.int .i64 7,.int .i64 7] #[.int .i64 5,.int .i64 0,.int .i64 7,.int .i64 7] M1 L1 (fun w B1 hg n2=>?_);refine U1 ?_;intro hb hT L1;refine L.va (G0 (cs:=[.int .i64 5,.int .i64 0,.int .i64 7,.int .i64 7]) rfl Tryz.underlying52 rfl M1 rfl (L1.J1 rfl)) ?_;refine L.call (M0 rfl Tryz.func37 rfl j5 rfl) (Z1 (⟨5,0,7,7⟩:N2) false (by simp[P8]) _) ?_;rintro _ w ⟨rfl,I1⟩;refine U5 ?_;intro hb hT;refine U133 ?_;refine L.va (W0 (parts:=[(0,.tmp 17),(2,.tmp 18),(3,.const (.int .i64 7))]) rfl (j2 5 8 7)) ?_;refine U0 ?_;intro w b4 F4 N8 hb hT L1;refine L.pu 0 [.int .i64 5,.int .i64 0,.int .i64 8,.int .i64 7] #[.int .i64 5,.int .i64 0,.int .i64 8,.int .i64 7] M1 L1 (fun w B1 hg n2=>?_);refine U1 ?_;intro hb hT L1;refine L.va (G0 (cs:=[.int .i64 5,.int .i64 0,.int .i64 8,.int .i64 7]) rfl Tryz.underlying52 rfl M1 rfl (L1.J1 rfl)) ?_;refine L.call (M0 rfl Tryz.func37 rfl j5 rfl) (Z1 (⟨5,0,8,7⟩:N2) true (by simp[P8]) _) ?_;rintro _ w ⟨rfl,I1⟩;refine U21 ?_;intro hb hT L1;refine L.va (G0 (cs:=[.int .i64 5,.int .i64 0,.int .i64 8,.int .i64 7]) rfl Tryz.underlying52 rfl M1 rfl (L1.J1 rfl)) ?_;refine L.on rfl ?_;refine L.call (K3 rfl rfl rfl Tryz.func39 rfl gv0 rfl) (ze0 b8 _ hT) ?_;rintro _ w ⟨rfl,I1⟩;refine U29 ?_;intro hb hT;refine U134 ?_;refine L.va (W0 (parts:=[(0,.tmp 17),(2,.tmp 18),(3,.const (.int .i64 7))]) rfl (j2 5 9 7)) ?_;refine U0 ?_;intro w b4 F4 N8 hb hT L1;refine L.pu 0 [.int .i64 5,.int .i64 0,.int .i64 9,.int .i64 7] #[.int .i64 5,.int .i64 0,.int .i64 9,.int .i64 7] M1 L1 (fun w B1 hg n2=>?_);refine U1 ?_;intro hb hT L1;refine L.va (G0 (cs:=[.int .i64 5,.int .i64 0,.int .i64 9,.int .i64 7]) rfl Tryz.underlying52 rfl M1 rfl (L1.J1 rfl)) ?_;refine L.call (M0 rfl Tryz.func37 rfl j5 rfl) (Z1 (⟨5,0,9,7⟩:N2) true (by simp[P8]) _) ?_;rintro _ w ⟨rfl,I1⟩;refine U21 ?_;intro hb hT L1;refine L.va (G0 (cs:=[.int .i64 5,.int .i64 0,.int .i64 9,.int .i64 7]) rfl Tryz.underlying52 rfl M1 rfl (L1.J1 rfl)) ?_;refine L.on rfl ?_;refine L.call (K3 rfl rfl rfl Tryz.func39 rfl gv0 rfl) (zf0 b8 _ hT) ?_;rintro _ w ⟨rfl,I1⟩;have hb:=N0 hb I1;refine U411 ?_;refine U137 ?_;refine U335 ?_;refine L.va (A2 (r:=false) (by decide) (N7 (m:=6) (k:=5) rfl rfl)) ?_;refine U7 ?_;refine U290 ?_;refine U79 ?_;refine U27 ?_;refine L.va (m3 rfl) ?_;refine L.call (j7 rfl rfl rfl rfl Tryz.func41 rfl Vv0 rfl) (ag1 1 1 5 _) ?_;rintro _ w ⟨cb,rfl,lc,hC,I1⟩;have lc:=Nat.le_trans hb.size lc;have hb:=N0 hb I1;refine U27 ?_;refine L.va (m3 rfl) ?_;refine L.call (K3 rfl rfl rfl Tryz.func42 rfl Vw0 rfl) (ai1 cb 1 1 6 5 _ hC) ?_;rintro _ w ⟨B1,hg⟩;have G5:=e8.el0 hC hg;have hb:=K4 hb hb.size hg lc;have hC:=B1;refine U58 ?_;refine L.call (M0 rfl Tryz.func33 rfl Vs0 rfl) (wg0 _) ?_;rintro _ w ⟨rfl,I1⟩;have hb:=N0 hb I1;have hC:=hC.E0 I1;refine U37 ?_;refine L.va (m3 rfl) ?_;refine L.call (n3 rfl rfl Tryz.func43 rfl Vx0 rfl) (ah1 cb 1 1 6 _ hC) ?_;rintro _ w ⟨rfl,I1⟩;have hb:=N0 hb I1;refine L.va (A2 (r:=true) (by decide) (N4 (m:=6) (k:=6) rfl rfl)) ?_;refine U171 ?_;refine L.call (M0 rfl Tryz.func44 rfl tb0 rfl) (Au0 _) ?_;rintro _ w1 ⟨rfl,hw⟩;refine U28 ?_;refine L.on rfl ?_;refine L.va (pd0 rfl) ?_;refine L.va (g7 rfl) ?_;refine U103 ?_;refine L.call (bv0  Tryz.func10 rfl be1 rfl) (To0 _) ?_;rintro _ w ⟨rfl,I1⟩;have hb:=N0 hb I1;refine U307 ?_;exact⟨rfl,hb⟩
end Go.Vy.Sc
end
