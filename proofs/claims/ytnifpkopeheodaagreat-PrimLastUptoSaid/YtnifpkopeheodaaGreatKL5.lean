/- What the claim leans on, part 5. Laws. -/
import Derived.Test.YtnifpkopeheodaaGreatKL4
import Derived.Conc.LeavingOf
import Derived.JoinedCond
import Derived.Deep.CondSized
set_option linter.unusedVariables false
section
namespace Go.Yc
open Go Go.Conc Go.Wg Go.Vy
open Go.ConcN (sumTo upd sumTo_upd upd_ne upd_same sumTo_congr)
section
attribute [local irreducible] KK
theorem ex0 {x:Nat} {fn:FuncId} {pos:String} {m:Mark}:MemOp.ofEvents x fn pos #[⟨.mark m,false,true⟩]=#[{g:=x,fn,pos,act:=.mark m}]:=by
 rw[ofEvents_eq];simp[MemAct.ofEvent]
theorem um0 {pm:PM} {b k:Nat} {o:Obj} (h:BM (jq0 pm b o) k):BM pm k:=by
 obtain⟨x,hx⟩:=h;obtain⟨y,hy,e⟩:=List.mem_map.1 hx;by_cases e1:y.1=b
 ·rw[if_pos e1]at e;cases e;exact⟨y.2,by rw[<- e1];exact hy⟩
 ·rw[if_neg e1]at e;cases e;exact⟨_,hy⟩
theorem mem_set {pm:PM} {b:Nat} {o:Obj} {x:Nat×Obj} (h:x∈jq0 pm b o):(x=(b,o)/\BM pm b)\/(x∈pm/\x.1≠b):=by
 obtain⟨y,hy,e⟩:=List.mem_map.1 h;by_cases e1:y.1=b
 ·rw[if_pos e1]at e;exact .inl ⟨e.symm,y.2,by rw[<- e1];exact hy⟩
 ·rw[if_neg e1]at e;subst e;exact .inr ⟨hy,e1⟩
theorem heap_put {w:World} {b i:Nat} {cs:Array Value} {T:TypeId} {v:Value} (h:w.heap[b]? =some (.cells cs T (0,0))):(w.setCell ⟨b,i,none⟩ v).heap[b]? =some (.cells (cs.setIfInBounds i v) T (0,0)):=by
 rw[heap_setCell,h];simp
theorem un0 {w:World} {b:Nat} {o:Obj} (h:w.heap[b]? =some o):b<w.heap.size:=(Array.getElem?_eq_some_iff.1 h).1
theorem heap_alloc {w:World} {b:Nat} {o x:Obj} (h:w.heap[b]? =some x):(w.alloc o).heap[b]? =some x:=by
 show(w.heap.push o)[b]? =_;rw[Array.getElem?_push,if_neg (by have:=un0 h;omega)];exact h
theorem heap_alloc_new {w:World} {o:Obj}:(w.alloc o).heap[w.heap.size]? =some o:=by
 show(w.heap.push o)[w.heap.size]? =_;rw[Array.getElem?_push,if_pos rfl]
section
variable {P:Program}{X:Gh}{G:N4}{c bx n0:Nat}{w0:World}{L0 Lc:P3}{A:Addr}{Fp:PM->Prop}{N:Nat}{σ:Bd}{r:Option Nat}{y7 S6:PM}{d:Nat}{T:Trace}{gs:Array Goroutine}{w:World}{q:Nat->Nat}
theorem StB.Cy0 (S:StB X G c bx w0 L0 Lc):G.blk<w0.heap.size/\G.blk≠bx:=⟨S.gb _ ⟨G,.inl S.O2,rfl⟩,fun e=>S.bx.2 ⟨G,.inl S.O2,e.symm⟩⟩
theorem StB.ng (S:StB X G c bx w0 L0 Lc) {b:Nat} (h:b=bx\/w0.heap.size <=b):b≠G.blk:=by
 have:=S.Cy0;rintro rfl;rcases h with e|e
 ·exact this.2 e
 ·omega
def ByB (P:Program) (X:Gh) (G:N4) (c bx n0:Nat) (w0:World) (L0 Lc:P3) (A:Addr) (Fp:PM->Prop) (N:Nat) (σ:Bd) (y7:PM) (d:Nat) (T:Trace) (gs:Array Goroutine) (w:World) (q:Nat->Nat) (i:Nat) (sl:Option (Nat×Nat)):Prop :=
 ∃K4 ops q' w' σ' r' pmc',runT P (crowd gs w sl) i=(.next (crowd K4 w' sl),ops)/\K4.size=gs.size/\(∀g0,gs[0]? =some g0->K4[0]? =some g0\/K4[0]? =some (g0.again w'))/\Rb P X G c bx n0 w0 L0 Lc A Fp N σ' r' y7 pmc' d (T++ops) K4 w' q'/\sumTo K4.size q'<sumTo gs.size q/\frB σ'=frB σ /\
   (σ'= .done->σ= .done\/∀g0,gs[0]? =some g0->K4[0]? =some (g0.again w'))/\(σ= .out->σ'= .out)
theorem Rb.by (C:Rb P X G c bx n0 w0 L0 Lc A Fp N σ r y7 S6 d T gs w q) (S:StB X G c bx w0 L0 Lc) {i:Nat} {g:Goroutine} {sl:Option (Nat×Nat)} (hi:gs[i]? =some g) (B3:i≠0) (k4:g.status= .running):ByB P X G c bx n0 w0 L0 Lc A Fp N σ y7 d T gs w q i sl:=by
 have pack:∀{g':Goroutine} {w':World} {σ':Bd} {r':Option Nat} {pmc':PM},(∃K4 ops q',runT P (crowd gs w sl) i=(.next (crowd K4 w' sl),ops)/\K4.size=gs.size/\(∀g0,gs[0]? =some g0->K4[0]? =some (woken P g g' w' g0))/\Rb P X G c bx n0 w0 L0 Lc A Fp N σ' r' y7 pmc' d (T++ops) K4 w' q'/\sumTo K4.size q'<sumTo gs.size q) ->
   frB σ'=frB σ->((σ'= .done->σ= .done\/∀g0,woken P g g' w' g0=g0.again w')/\(σ= .out->σ'= .out))->ByB P X G c bx n0 w0 L0 Lc A Fp N σ y7 d T gs w q i sl:=by
  rintro g' w' σ' r' pmc' ⟨K4,ops,q',h1,h2,h3,h4,h5⟩ hf hd;refine⟨K4,ops,q',w',σ',r',pmc',h1,h2,fun g0 h0=>?_,h4,h5,hf,fun e=>(hd.1 e).imp id fun z g0 h0=>?_,hd.2⟩
  ·rw[h3 g0 h0];rcases uz0 P g g' w' g0 with e|e <;> rw[e]
   ·exact .inl rfl
   ·exact .inr rfl
  ·rw[h3 g0 h0,z g0]
 have quit:QuitsD P (q i) (Deaf T i) g->(i=c->(σ= .out\/σ= .done)/\r≠none)->ByB P X G c bx n0 w0 L0 Lc A Fp N σ y7 d T gs w q i sl:=fun hQ hc=>by
  cases hq:q i with
  |zero=>rw[hq]at hQ;rw[hQ.1]at k4;cases k4
  |succ k=>
   rw[hq]at hQ;rcases hQ with⟨hf,_⟩|⟨_,g',es,hm,o3,hQ⟩
   ·rw[hf]at k4;cases k4
   ·refine pack (C.move (sl:=sl) hi B3 (o3 w) hq (C.tb.O2 C.n0 S.O2 (fun e he=>uy0 (hm e he)) (.inl fun e he=>touch_mute (hm e he))) C.wf C.own C.apart C.z6 C.fin ⟨fun e=>?_,fun e=>⟨rfl,rfl,rfl,hQ⟩⟩) rfl ⟨fun e=>.inl e,id⟩;subst e;obtain⟨h1,h2⟩:=hc rfl;rcases h1 with rfl|rfl
    ·exact⟨h2,hQ⟩
    ·exact⟨h2,hQ⟩
 by_cases hic:i=c
 case neg=>exact quit (C.rest i g B3 hic hi) fun e=>absurd e hic
 subst hic;have Z5:=C.child g hi;cases hq:q i with
 |zero=>
  rw[hq]at Z5;cases σ with
  |up wt=>rcases Z5 with⟨_,_,h⟩|⟨_,h⟩ <;> exact h.elim
  |last s=>exact Z5.2.2.elim
  |out=>rw[Z5.2.1]at k4;cases k4
  |done=>rw[Z5.2.1]at k4;cases k4
 |succ k=>
 cases σ with
 |out=>exact quit Z5.2 fun _=>⟨.inl rfl,Z5.1⟩
 |done=>exact quit Z5.2 fun _=>⟨.inr rfl,Z5.1⟩
 |up wt=>
  rw[hq]at Z5;rcases Z5 with⟨hr,hd0,hM⟩|⟨hr,hL⟩
  ·subst hr;unfold MP at hM;rcases hM with⟨hr,hF,g',R2,hL⟩|⟨_,⟨g',es,hr',I9,R2,hM⟩|⟨g',b,cs,T1,o,v,es,hr',hm,I9,R2,hM⟩|⟨gf,cs,T1,hr',R2,hM⟩⟩
   ·
    refine pack (C.move (sl:=sl) (σ':=.up wt) (r':=some T.size) (pmc':=S6) hi B3 (R2 w) hq (by rw[ex0];exact C.tb.release C.n0 hd0) C.wf C.own C.apart C.z6 (fun _=>hF) ⟨fun _=>.inr ⟨by simp,?_⟩,fun e=>absurd rfl e⟩) rfl ⟨fun e=>(by cases e),fun e=>(by cases e)⟩;rw[hd0];exact hL
   ·have hd:deafBehind (Deaf T i) es=Deaf T i:=deafBehind_still (fun e he=>(I9 e he).on.2.2) _;refine pack (C.move (sl:=sl) (σ':=.up wt) (r':=none) (pmc':=S6) hi B3 (R2 w (C.Jb0 S)) hq (C.tb.own C.apart C.n0 Z1 (fun op J5 bb hb=>?_) fun h=>absurd rfl h) C.wf C.own C.apart C.z6 C.fin ⟨fun _=>.inl ⟨rfl,hd.trans hd0,hM⟩,fun e=>absurd rfl e⟩) rfl ⟨fun e=>(by cases e),fun e=>(by cases e)⟩;obtain⟨e,he,rfl⟩:=Go.Conc.mem_ofEvents J5;have:=(I9 e he).on.1 bb hb;exact⟨S.onc C.Zu0 this,.inr ⟨rfl,this,rfl⟩⟩
   ·have hd:deafBehind (Deaf T i) es=Deaf T i:=deafBehind_still (fun e he=>(dy0 (L:=Lc) hm (I9 e he)).2.2) _;have hob:=(C.own _ (.inr hm))
    have hng:=S.ng hob.1;have V1:∀x,x∈y7\/x∈jq0 S6 b (.cells (cs.setIfInBounds o v) T1 (0,0))->(x.1=bx\/w0.heap.size <=x.1)/\(w.setCell ⟨b,o,none⟩ v).heap[x.1]? =some x.2:=fun x hx=>by
     rcases hx with hx|hx
     ·have h1:=C.own x (.inl hx);have:x.1≠b:=fun e=>C.apart.own x.1 ⟨x.2,hx⟩ ⟨_,by rw[e];exact hm⟩;exact⟨h1.1,by rw[A1 w v (a:=⟨b,o,none⟩) this];exact h1.2⟩
     ·rcases mem_set hx with⟨rfl,_⟩|⟨hx,hxb⟩
      ·exact⟨hob.1,heap_put hob.2⟩
      ·have h1:=C.own x (.inr hx);exact⟨h1.1,by rw[A1 w v (a:=⟨b,o,none⟩) hxb];exact h1.2⟩
    refine pack (C.move (sl:=sl) (σ':=.up wt) (r':=none) (pmc':=jq0 S6 b (.cells (cs.setIfInBounds o v) T1 (0,0))) hi B3 (R2 w (C.Jb0 S)) hq ?_ (C.wf.cell v hob.1 hng) V1 ⟨fun p hp h=>C.apart.l0 p hp (um0 h),C.apart.lc,fun bb h h'=>C.apart.own bb h (um0 h')⟩
     (C.z6.of_block (A1 w v (a:=⟨b,o,none⟩) (Ne.symm hng))) (fun h=>absurd rfl h) ⟨fun _=>.inl ⟨rfl,hd.trans hd0,hM⟩,fun e=>absurd rfl e⟩) rfl ⟨fun e=>(by cases e),fun e=>(by cases e)⟩
    refine(C.tb.own C.apart C.n0 Z1 (fun op J5 bb hb=>?_) fun h=>absurd rfl h).grow (fun _ h=>h) fun k hk=>?_
    ·obtain⟨e,he,rfl⟩:=Go.Conc.mem_ofEvents J5;have:=(dy0 (L:=Lc) hm (I9 e he)).1 bb hb;exact⟨S.onc C.Zu0 this,.inr ⟨rfl,this,rfl⟩⟩
    ·obtain⟨x,hx⟩:=hk;by_cases e:k=b
     ·exact⟨.cells (cs.setIfInBounds o v) T1 (0,0),List.mem_map.2 ⟨(k,x),hx,by rw[if_pos e,e]⟩⟩
     ·exact⟨x,List.mem_map.2 ⟨(k,x),hx,by rw[if_neg e]⟩⟩
   ·have B2:=C.wf.size;have hd:deafBehind (Deaf T i) #[]=Deaf T i:=rfl;refine pack (C.move (sl:=sl) (σ':=.up wt) (r':=none) (pmc':=(w.heap.size,.cells cs T1 (0,0))::S6) hi B3 (R2 w) hq ?_ (C.wf.alloc _ S.Cy0.1) (fun x hx=>?_) ⟨fun p hp h=>?_,C.apart.lc,fun bb h h'=>?_⟩ (C.z6.of_block ?_) (fun h=>absurd rfl h) ⟨fun _=>.inl ⟨rfl,hd.trans hd0,hM w.heap.size⟩,fun e=>absurd rfl e⟩) rfl ⟨fun e=>(by cases e),fun e=>(by cases e)⟩
    ·refine(C.tb.mute C.n0 (fun op J5=>?_) fun h=>absurd rfl h).grow (fun _ h=>h) fun k ⟨x,hx⟩=>⟨x,List.mem_cons_of_mem _ hx⟩
     obtain⟨e,he,rfl⟩:=Go.Conc.mem_ofEvents J5;simp at he
    ·rcases hx with hx|hx
     ·have:=C.own x (.inl hx);exact⟨this.1,heap_alloc this.2⟩
     ·rcases List.mem_cons.1 hx with rfl|hx
      ·exact⟨.inr B2,heap_alloc_new⟩
      ·have:=C.own x (.inr hx);exact⟨this.1,heap_alloc this.2⟩
    ·obtain⟨x,hx⟩:=h;rcases List.mem_cons.1 hx with e|hx
     ·have:=(S.st p (.inl hp)).2.1;have e:=congrArg Prod.fst e;simp only at e;omega
     ·exact C.apart.l0 p hp ⟨x,hx⟩
    ·obtain⟨x,hx⟩:=h';rcases List.mem_cons.1 hx with e|hx
     ·obtain⟨y,hy⟩:=h;have:=un0 (C.own _ (.inl hy)).2;cases e;simp at this
     ·exact C.apart.own bb h ⟨x,hx⟩
    ·show(w.heap.push _)[G.blk]? =_;rw[Array.getElem?_push,if_neg (by have:=S.Cy0.1;omega)]
  ·unfold Lt at hL;have hUs:UsB i (.up wt) i:=.inr ⟨rfl,trivial⟩;rcases hL with⟨g',es,⟨_,hsy,o3⟩,hL⟩|⟨_,hd0,uw0⟩
   ·exact pack (C.move (sl:=sl) (σ':=.up wt) (r':=r) (pmc':=S6) hi B3 (o3 w _ _ C.z6) hq (C.tb.O2 C.n0 S.O2 (fun e he=>de0 (hsy e he)) (.inl fun e he=>m8 (hsy e he))) C.wf C.own C.apart C.z6 C.fin ⟨fun _=>.inr ⟨hr,hL⟩,fun e=>absurd rfl e⟩) rfl ⟨fun e=>(by cases e),fun e=>(by cases e)⟩
   ·have el0:=C.z6;obtain⟨g',o3,fo0,Du0⟩:=uw0 0 (if wt then 1 else 0) (by split <;> omega) (by omega);have R2:=o3 w el0;have hdd:deafBehind (Deaf T i) #[rdA (stA G),wrA (stA G)]=Deaf T i:=deafBehind_still kb0 _;have htb:TB X.Sh (UsB i (.up wt)) i n0 L0 Lc (BM y7) (BM S6) A r (T++MemOp.ofEvents i g.frame.fn g.frame.place #[rdA (stA G),wrA (stA G)]):=C.tb.O2 C.n0 S.O2 L9 (.inr ⟨hUs,fun _ j _=>by rw[n8 kb0];omega⟩);have v7:∀x,x∈y7\/x∈S6->(x.1=bx\/w0.heap.size <=x.1)/\(w.setCell (stA G) (.int .u64 ((0*KK+(if wt then 1 else 0):Nat):Int))).heap[x.1]? =some x.2:=fun x hx=>by
     have:=C.own x hx;exact⟨this.1,by rw[A1 w _ (a:=stA G) (S.ng this.1)];exact this.2⟩
    have hg2:=el0.setSt ((0*KK+(if wt then 1 else 0):Nat):Int);cases wt with
    |false=>
     refine pack (C.move (sl:=sl) (σ':=.out) (r':=r) (pmc':=S6) hi B3 R2 hq (htb.leave fun x hx=>?_) (C.wf.Iz0 el0 rfl rfl (Nat.le_refl _) _) v7 C.apart ?_ C.fin ⟨fun _=>⟨hr,by rw[hdd];exact fo0 (by simp)⟩,fun e=>absurd rfl e⟩) rfl ⟨fun e=>(by cases e),fun e=>(by cases e)⟩
     ·rcases hx with e|⟨_,h⟩
      ·exact .inl e
      ·exact h.elim
     ·have e1:((0*KK+(if false=true then 1 else 0):Nat):Int)=0:=by rw[Nat.zero_mul];rfl
      rw[e1]at hg2⊢;exact hg2
    |true=>
     refine pack (C.move (sl:=sl) (σ':=.last 2) (r':=r) (pmc':=S6) hi B3 R2 hq (htb.leave fun x hx=>?_) (C.wf.Iz0 el0 rfl rfl (Nat.le_refl _) _) v7 C.apart ?_ C.fin ⟨fun _=>⟨hr,Nat.le_refl _,by rw[hdd];exact Du0 ⟨rfl,rfl⟩⟩,fun e=>absurd rfl e⟩) rfl ⟨fun e=>(by cases e),fun e=>(by cases e)⟩
     ·rcases hx with e|⟨e,_⟩
      ·exact .inl e
      ·exact .inr ⟨e,trivial⟩
     ·have e1:((0*KK+(if true=true then 1 else 0):Nat):Int)=1:=by rw[Nat.zero_mul];rfl
      rw[e1]at hg2⊢;exact hg2
 |last s=>
  rw[hq]at Z5;obtain⟨hr,hs2,hL⟩:=Z5;unfold Lst at hL;obtain⟨hd0,hL⟩:=hL;have hUs:UsB i (.last s) i:=.inr ⟨rfl,trivial⟩;have v7:∀(a:Addr) (v:Value),a.block=G.blk->∀x,x∈y7\/x∈S6->(x.1=bx\/w0.heap.size <=x.1)/\(w.setCell a v).heap[x.1]? =some x.2:=fun a v ha x hx=>by
   have:=C.own x hx;exact⟨this.1,by rw[A1 w _ (by rw[ha];exact S.ng this.1)];exact this.2⟩
  rcases hL with⟨g',es,⟨_,hsy,o3⟩,hnm,hL⟩|⟨_,hL⟩
  ·exact pack (C.move (sl:=sl) (σ':=.last s) (r':=r) (pmc':=S6) hi B3 (o3 w _ _ C.z6) hq (C.tb.O2 C.n0 S.O2 (fun e he=>de0 (hsy e he)) (.inl fun e he=>m8 (hsy e he))) C.wf C.own C.apart C.z6 C.fin ⟨fun _=>⟨hr,hs2,by rw[deafBehind_still hnm];exact hL⟩,fun e=>absurd rfl e⟩) rfl ⟨fun e=>(by cases e),fun e=>(by cases e)⟩
  ·rcases s with _|_|_|s
   ·simp only at hL;obtain⟨hwk,g',o3,hQ⟩:=hL;have R2:=o3 w C.z6;refine pack (C.move (sl:=sl) (σ':=.done) (r':=r) (pmc':=S6) hi B3 R2 hq ((C.tb.O2 C.n0 S.O2 ka0 (.inr ⟨hUs,fun _=>iy0 hd0⟩)).leave fun x hx=>?_) (C.wf.Iz0 C.z6 rfl rfl (Nat.le_succ _) _) (v7 (smA G) _ rfl) C.apart (C.z6.setSm _) C.fin ⟨fun _=>⟨hr,by rw[fq0];exact hQ⟩,fun e=>absurd rfl e⟩) rfl ⟨fun _=>.inr fun g0=>?_,fun e=>(by cases e)⟩
    ·rcases hx with e|⟨_,h⟩
     ·exact .inl e
     ·exact h.elim
    ·unfold woken;rw[if_pos];rw[hwk];rcases hQ.status with e|e <;> rw[e] <;> rfl
   ·simp only at hL;obtain⟨g',o3,hL⟩:=hL;have R2:=o3 w C.z6;exact pack (C.move (sl:=sl) (σ':=.last 0) (r':=r) (pmc':=S6) hi B3 R2 hq ((C.tb.O2 C.n0 S.O2 Dr0 (.inr ⟨hUs,fun _ j _=>by rw[n8 fr0];omega⟩)).leave fun x hx=>hx) (C.wf.Iz0 C.z6 rfl rfl (Nat.le_refl _) _) (v7 (stA G) _ rfl) C.apart (C.z6.setSt _) C.fin ⟨fun _=>⟨hr,by omega,by rw[deafBehind_still fr0];exact hL⟩,fun e=>absurd rfl e⟩) rfl ⟨fun e=>(by cases e),fun e=>(by cases e)⟩
   ·simp only at hL;obtain⟨g',o3,hL⟩:=hL;have R2:=o3 w C.z6;exact pack (C.move (sl:=sl) (σ':=.last 1) (r':=r) (pmc':=S6) hi B3 R2 hq ((C.tb.O2 C.n0 S.O2 hw0 (.inr ⟨hUs,fun _ j _=>by rw[n8 G8];omega⟩)).leave fun x hx=>hx) C.wf C.own C.apart C.z6 C.fin ⟨fun _=>⟨hr,by omega,by rw[deafBehind_still G8];exact hL⟩,fun e=>absurd rfl e⟩) rfl ⟨fun e=>(by cases e),fun e=>(by cases e)⟩
   ·omega
end
end
section
attribute [local irreducible] KK
def dz0 (u:World) (bx:Nat) (ox:Obj) (k:Nat):World:={u with heap:=u.heap.setIfInBounds bx ox++Array.replicate k nothing}
def Gh.gx0 (X:Gh) (u:World) (bx k:Nat):Gh:={X with n:=X.n+1,pend:=0,cap:=0,dn:=0,low:=fun b=>X.low b\/b=bx\/(u.heap.size <=b/\b<u.heap.size+k)}
theorem gy0 {u:World} {bx k:Nat} {ox:Obj} {b:Nat} (h:b<u.heap.size) (hb:b≠bx):(dz0 u bx ox k).heap[b]? =u.heap[b]?:=by
 show(u.heap.setIfInBounds bx ox++_)[b]? =_;rw[Array.getElem?_append_left (by simpa using h),Array.getElem?_setIfInBounds_ne (Ne.symm hb)]
theorem uo0 {u:World} {bx k:Nat} {ox:Obj} (h:bx<u.heap.size):(dz0 u bx ox k).heap[bx]? =some ox:=by
 show(u.heap.setIfInBounds bx ox++_)[bx]? =_;rw[Array.getElem?_append_left (by simpa using h),Array.getElem?_setIfInBounds_self_of_lt h]
theorem ww0 {u:World} {bx k:Nat} {ox:Obj} {b:Nat} (h:u.heap.size <=b):(dz0 u bx ox k).heap[b]? =if b<u.heap.size+k then some nothing else none:=by
 show(u.heap.setIfInBounds bx ox++_)[b]? =_;rw[Array.getElem?_append_right (by simpa using h),Array.getElem?_replicate];simp only[Array.size_setIfInBounds];split <;> split <;> first|rfl|omega
theorem is0 {u:World} {bx k:Nat} {ox:Obj}:(dz0 u bx ox k).heap.size=u.heap.size+k:=by
 show(u.heap.setIfInBounds bx ox++_).size=_;simp
theorem Jd0 {u w0 w:World} {G:N4} {bx k:Nat} {ρ:Nat->x6} {st sm:Int} {cs:Array Value} {T:TypeId} {f:Nat×Nat} (hs:K5 ρ (W2 u w0.tape w0.drawn) w0) (hc:Cut u G) (N8:A7 G st sm w0) (hg:A7 G 0 0 w) (hw:WF G bx w0 w) (hgx:G.blk≠bx) (hbx:bx<u.heap.size) (hk:w.heap.size=u.heap.size+k) (ho:w.heap[bx]? =some (.cells cs T f)) :
  ∃ρ',K5 ρ' (W2 (dz0 u bx (.cells cs T f) k) w.tape w.drawn) w/\(∀b,b<u.heap.size->b≠bx->b≠G.blk->ρ' b=ρ b)/\∀b,u.heap.size+k <=b->ρ' b= .all:=by
 have B2:w0.heap.size=u.heap.size:=hs.size;have ia1:G.blk<u.heap.size:=by
  obtain⟨c,T,f,hb,_⟩:=hc;exact(Array.getElem?_eq_some_iff.1 hb).1
 have hy:=hg.extract;obtain⟨y,hyG⟩:∃y,w.heap[G.blk]? =some y:=⟨_,hy⟩
 have hw1:({w0 with heap:=w0.heap.setIfInBounds G.blk y}:World).heap[G.blk]? =some y:=by
  show(w0.heap.setIfInBounds G.blk y)[G.blk]? =_;rw[Array.getElem?_setIfInBounds_self_of_lt (by omega)]
 obtain⟨ρ1,h1,h2⟩:=K5.O2 (w':={w0 with heap:=w0.heap.setIfInBounds G.blk y}) hs hc N8 0 0 (by
   rw[hw1,<- hyG,hy];exact congrArg (fun z:Array Value×TypeId=>some (Obj.cells (z.1 ++ #[.int .u64 0,.int .u32 0]) z.2 (0,0))) hw.pre) (fun b hb=>by
   show(w0.heap.setIfInBounds G.blk y)[b]? =_;rw[Array.getElem?_setIfInBounds_ne (Ne.symm hb)]) (by simp) rfl rfl
 refine⟨fun b=>if b=bx then .all else if u.heap.size <=b/\b<u.heap.size+k then .gone ((w.heap[b]?).getD nothing) else ρ1 b,⟨hw.os.trans h1.os,hw.output.trans h1.output,rfl,rfl,hk.trans is0.symm,fun b x hx=>?_,fun b hb=>?_,fun b x hx=>?_⟩,fun b h3 h4 h5=>?_,fun b hb=>?_⟩
 ·have X3:(dz0 u bx (.cells cs T f) k).heap[b]? =some x:=hx;by_cases e:b=bx
  ·subst e;rw[uo0 hbx]at X3;obtain rfl:=Option.some.inj X3;exact⟨_,ho,by rw[if_pos rfl];exact .same _⟩
  ·rw[if_neg e];rcases Nat.lt_or_ge b u.heap.size with hb|hb
   ·rw[gy0 hb e]at X3;rw[if_neg (by omega)];obtain⟨z,hz,hl⟩:=h1.obj b x X3;refine⟨z,?_,hl⟩;by_cases eG:b=G.blk
    ·subst eG;rw[hw1]at hz;rw[hyG,hz]
    ·have hz':(w0.heap.setIfInBounds G.blk y)[b]? =some z:=hz;rw[Array.getElem?_setIfInBounds_ne (Ne.symm eG)]at hz';rw[hw.old b (by omega) eG e];exact hz'
   ·rw[ww0 hb]at X3;split at X3
    ·rename_i H2;obtain rfl:=Option.some.inj X3;obtain⟨z,hz⟩:∃z,w.heap[b]? =some z:=⟨_,Array.getElem?_eq_getElem (by omega)⟩
     refine⟨z,hz,?_⟩;rw[if_pos ⟨hb,H2⟩,hz];exact .gone _ _ _
    ·cases X3
 ·have P7:(dz0 u bx (.cells cs T f) k).heap.size <=b:=hb;rw[is0]at P7;show(if b=bx then _ else if _ then _ else _)=_;exact U478
 ·have X3:(dz0 u bx (.cells cs T f) k).heap[b]? =some x:=hx;by_cases e:b=bx
  ·subst e;rw[uo0 hbx]at X3;obtain rfl:=Option.some.inj X3;rfl
  ·rcases Nat.lt_or_ge b u.heap.size with hb|hb
   ·rw[gy0 hb e]at X3;exact h1.B6 b x X3
   ·rw[ww0 hb]at X3;split at X3
    ·obtain rfl:=Option.some.inj X3;rfl
    ·cases X3
 ·show(if b=bx then _ else if _ then _ else _)=_;rw[if_neg h4,if_neg (by omega)];exact h2 b h5
 ·show(if b=bx then _ else if _ then _ else _)=_;exact U478
section
variable {P:Program}{X:Gh}{G:N4}{c bx n0:Nat}{u w0:World}{L0 Lc:P3}{A:Addr}{Fp:PM->Prop}{N:Nat}{r:Option Nat}{y7 S6:PM}{T T0:Trace}{gs gs0:Array Goroutine}{w:World}{q q0:Nat->Nat}{live:Nat->Bool}
theorem ring_end (C0:Ring P X 0 u live T0 gs0 w0 q0) (z8:∀i,X.D1 i=none) (hl:J9 X bx) (hbx:bx<u.heap.size) (S:StB X G c bx w0 L0 Lc) (hN:N=X.n+1) (C:Rb P X G c bx n0 w0 L0 Lc A Fp N .out r y7 S6 0 T gs w q) {cs:Array Value} {Ty:TypeId} {f:Nat×Nat} (ho:(bx,.cells cs Ty f)∈S6) {g g':Goroutine} (hg:gs[0]? =some g) :
  ∃k,Ring P (X.gx0 u bx k) 0 (dz0 u bx (.cells cs Ty f) k) (fun _=>false) (T++MemOp.ofEvents 0 g.frame.fn g.frame.place #[⟨.mark (.acquire A),false,true⟩]) ((gs.map (woken P g g' w)).setIfInBounds 0 g') w q/\((gs.map (woken P g g' w)).setIfInBounds 0 g')[0]? =some g':=by
 obtain⟨ρ,hs,hlw⟩:=C0.sim;have ib1:w0.heap.size=u.heap.size:=hs.size;obtain⟨k,hk⟩:∃k,w.heap.size=u.heap.size+k:=⟨w.heap.size-u.heap.size,by have:=C.wf.size;omega⟩
 obtain⟨mz0,N8⟩:=C0.O2 G S.O2;have el0:A7 G 0 0 w:=C.z6;obtain⟨ρ',hs',hold,C1⟩:=Jd0 (k:=k) hs mz0 N8 el0 C.wf S.Cy0.2 hbx hk (C.own _ (.inr ho)).2;have Je0:0<gs.size:=(Array.getElem?_eq_some_iff.1 hg).1;have Z5:∃gc,gs[c]? =some gc:=⟨_,Array.getElem?_eq_getElem C.size.1⟩
 obtain⟨gc,hgc⟩:=Z5;have hr:=(C.child gc hgc).1;obtain⟨r0,rfl⟩:∃r0,r=some r0:=Option.ne_none_iff_exists'.1 hr;obtain⟨p1,p2,p3⟩:=C.tb.acquire (fn:=g.frame.fn) (ps:=g.frame.place) C.n0 C.d0;have fo0:∀i y,i≠0->gs[i]? =some y->QuitsD P (q i) (Deaf T i) y:=fun i y hi hy=>by
  by_cases e:i=c
  ·subst e;exact(C.child y hy).2
  ·exact C.rest i y hi e hy
 have hD:∀i,Deaf (T ++ #[{g:=0,fn:=g.frame.fn,pos:=g.frame.place,act:=MemAct.mark (.acquire A)}]) i=Deaf T i:=fun i=>Deaf_quiet (fun op J5 d=>by simp at J5;subst J5;rfl);have e8:∀b,b<u.heap.size->b≠bx->(dz0 u bx (.cells cs Ty f) k).heap[b]? =u.heap[b]?:=fun b h1 h2=>gy0 h1 h2;have Pe0:∀G',(X.O2=some G'\/G'∈X.old)->Cut u G'->Cut (dz0 u bx (.cells cs Ty f) k) G':=fun G' hG' ⟨c',T',f',M6,er1⟩=>⟨c',T',f',by rw[e8 _ (Array.getElem?_eq_some_iff.1 M6).1 (hl.O2 G' hG')];exact M6,er1⟩
 have Jf0:∀b,b≠bx->ce0 u b->ce0 (dz0 u bx (.cells cs Ty f) k) b:=fun b hb ⟨T',f',M6⟩=>⟨T',f',by rw[e8 b (Array.getElem?_eq_some_iff.1 M6).1 hb];exact M6⟩
 have hwk:∀b,b≠bx->(X.N7 b\/X.j4 b≠none)->ce0 u b->w.heap[b]? =w0.heap[b]?:=fun b hb Z5 hgn=>C.wf.old b (by
  obtain⟨T',f',M6⟩:=hgn;have:=(Array.getElem?_eq_some_iff.1 M6).1;omega) (fun e=>by
  subst e;have:=C0.O7.2 G (.inl S.O2);exact Z5.elim this.1 fun z=>z this.2) hb
 rw[ex0];refine⟨k,⟨⟨ρ',hs',fun b hb=>?_⟩,fun i y hi hy=>?_,z8 0,by simpa using Je0,(by simp only[Array.size_setIfInBounds,Array.size_map];rw[C.size.2,hN];rfl),fun i p hp=>?_,fun ch hc=>?_,fun i s e=>(by have e':X.D1 i=some s:=e;rw[z8 i]at e';cases e'),fun i j s s' e=>(by have e':X.D1 i=some s:=e;rw[z8 i]at e';cases e'),
  fun b o e=>?_,fun G' e=>.inl (C0.ac0 G' e),⟨fun ch e=>.inl (C0.O7.1 ch e),C0.O7.2⟩,fun G' e=>⟨Pe0 G' (.inl e) (C0.O2 G' e).1,?_⟩,fun G' e=>Pe0 G' (.inr e) (C0.old G' e),fun j hj=>?_,?_,fun i h=>(by cases h),fun i hi h=>?_,(hD 0).trans C.d0,?_⟩,Array.getElem?_setIfInBounds_self_of_lt (by simpa using Je0)⟩
 ·have E5:¬X.low b:=fun z=>hb (.inl z);have hb2:b≠bx:=fun z=>hb (.inr (.inl z));have hb3:¬(u.heap.size <=b/\b<u.heap.size+k):=fun z=>hb (.inr (.inr z));show ρ' b=X.O4 b;rcases Nat.lt_or_ge b u.heap.size with h|h
  ·rw[hold b h hb2 fun e=>E5 (e▸C0.ac0 G S.O2)];exact hlw b E5
  ·rw[C1 b (by omega),<- hlw b E5];exact(hs.new b h).symm
 ·rw[Array.getElem?_setIfInBounds_ne (fun e=>hi e.symm),Array.getElem?_map]at hy;obtain⟨y₀,hy₀,rfl⟩:=Option.map_eq_some_iff.1 hy;have h1:=fo0 i y₀ hi hy₀;rw[woken_of_again (again_of_running h1.status w)];unfold Idle;rw[show(X.gx0 u bx k).D1 i=none from z8 i];exact⟨by omega,by rw[if_neg (by simp),hD];exact h1⟩
 ·have h1:=C0.stays i p hp;obtain⟨c',T',f',M6,_,_⟩:=I4 h1.1;have:=w5 (u:=u) (u':=dz0 u bx (.cells cs Ty f) k) (a:=p.1) (e8 _ (Array.getElem?_eq_some_iff.1 M6).1 (hl.stay i p hp));rw[this.1,this.2];exact h1
 ·obtain⟨h1,h2,kk,h3⟩:=C0.chans ch hc;have B3:ch≠bx:=fun e=>hl.N7 (e▸hc);exact⟨Jf0 ch B3 h1,h2,kk,by rw[hwk ch B3 (.inl hc) h1];exact h3⟩
 ·obtain⟨h1,h2,p,y,h3,h4⟩:=C0.j4 b o e;have B3:b≠bx:=fun z=>by subst z;have e2:X.j4 b=some o:=e;rw[hl.j4]at e2;cases e2
  exact⟨Jf0 b B3 h1,h2,p,y,by rw[hwk b B3 (.inr (by have e':X.j4 b=some o:=e;rw[e'];simp)) h1];exact h3,h4⟩
 ·have e':X.O2=some G':=e;rw[S.O2]at e';obtain rfl:=Option.some.inj e';have hz:count (fun _=>false) ((gs.map (woken P g g' w)).setIfInBounds 0 g').size=0:=by
   unfold count;generalize ((gs.map (woken P g g' w)).setIfInBounds 0 g').size=m
   induction m with
   |zero=>rfl
   |succ m ih=>show sumTo m _+_=0;rw[ih];rfl
  have hz':(((count (fun _=>false) ((gs.map (woken P g g' w)).setIfInBounds 0 g').size+(X.gx0 u bx k).pend)*KK:Nat):Int)=0:=by
   rw[hz];show(((0+0)*KK:Nat):Int)=0;rw[Nat.zero_add,Nat.zero_mul];rfl
  rw[hz'];exact el0
 ·simp only[Array.size_setIfInBounds,Array.size_map]at hj;have h2:=C0.above j (by have:=C0.num;have:=C.size.2;omega);exact⟨(hD j).trans (C.above j hj),z8 j,rfl,h2.2.2.2⟩
 ·refine⟨?_,by show(0:Nat) <=65536;omega⟩;have hz:count (fun _=>false) ((gs.map (woken P g g' w)).setIfInBounds 0 g').size=0:=by
   unfold count;generalize ((gs.map (woken P g g' w)).setIfInBounds 0 g').size=m
   induction m with
   |zero=>rfl
   |succ m ih=>show sumTo m _+_=0;rw[ih];rfl
  rw[hz];exact Nat.le_refl _
 ·rcases h with h|h
  ·exact absurd (z8 i) h
  ·exact absurd h hi
 ·have hM:∀x,(X.gx0 u bx k).Mem 0 x->x=0:=fun x hx=>by
   rcases hx with⟨e,_⟩|h
   ·exact e
   ·exact absurd (z8 x) h
  refine⟨p1,fun i a ha hm hns=>.inl (p2 i a ha hm hns),fun i a ha _ x hx hS=>?_,fun x hx=>?_,fun i a x ha hsh hx=>?_⟩
  ·obtain rfl:=hM x hx;obtain⟨h1,h2⟩:=C0.base.Dn0 (l:=a.loc) (i:=0) hS;exact p2 i a ha h1 h2
  ·obtain rfl:=hM x hx;rw[hD];exact C.d0
  ·refine(p3 i a x ha hsh hx).imp (fun z x' X3=>?_) id;rcases X3 with e|e
   ·exact z x' (.inl e)
   ·cases e
end
end
section
attribute [local irreducible] KK
section
variable (P:Program)(G:N4)(A:Addr)(K:Goroutine->Prop)
def WA:Nat->Nat->Goroutine->Prop
 |0,_,_=>False
 |n+1,d,g=>g.status= .running/\((∃g' es,(∀e∈es,GEv G 0 e)/\(∀w,A7 G 0 0 w->stepG P true g w= .go g' w es)/\WA n (deafBehind d es) g')\/(d=0/\∃g',(∀w,stepG P true g w= .go g' w #[⟨.mark (.acquire A),false,true⟩])/\WE P G K n 0 g'))
theorem WA.mono:∀{n m d:Nat} {g:Goroutine},WA P G A K n d g->n <=m->WA P G A K m d g
 |0,_,_,_,h,_=>h.elim
 |n+1,0,_,_,_,hm=>absurd hm (by omega)
 |n+1,m+1,_,_,⟨hr,h⟩,hm=>⟨hr,h.imp (fun⟨g',es,h1,h2,h3⟩=>⟨g',es,h1,h2,WA.mono h3 (by omega)⟩) fun⟨hd,g',h1,h2⟩=>⟨hd,g',h1,WE.mono h2 (by omega)⟩⟩
def Mz0 (n:Nat) (_:PM) (g:Goroutine):Prop:=WH P G (WA P G A K) n none 1 0 g
end
theorem WH.running {P:Program} {G:N4} {E:Nat->Nat->Goroutine->Prop} {n:Nat} {o:Option Nat} {V d:Nat} {g:Goroutine} (h:WH P G E n o V d g):g.status= .running:=by
 cases n with
 |zero=>exact h.elim
 |succ n=>
  unfold WH at h;rcases h with⟨_,_,hh,_⟩|hh
  ·exact hh.1
  ·exact hh.1
theorem WS.running {P:Program} {G:N4} {E:Nat->Nat->Goroutine->Prop} {n d:Nat} {g:Goroutine} (h:WS P G E n d g):g.status= .running:=by
 cases n with
 |zero=>exact h.elim
 |succ n=>
  rcases h with⟨_,_,hh,_⟩|⟨_,hh⟩
  ·exact hh.1
  ·exact hh.1
def it0:Bd->Nat
 | .up _=>1
 |_=>0
theorem Jg0 {σ:Bd} (h:frB σ=true):bst σ=(((it0 σ*KK:Nat):Int),0):=by
 cases σ with
 |up wt=>
  cases wt with
  |false=>show((((0+1)*KK+0:Nat):Int),(0:Int))=_;rw[Nat.add_zero,Nat.zero_add];rfl
  |true=>cases h
 |out=>show((0:Int),(0:Int))=(((0*KK:Nat):Int),0);rw[Nat.zero_mul];rfl
 |last s=>cases h
 |done=>cases h
structure up0 (P:Program) (Post:Value->World->Prop) (X:Gh) (G:N4) (c bx:Nat) (u w0:World) (L0 Lc:P3) (A:Addr) (ox:Obj) (N:Nat) (K:Goroutine->Prop):Prop where
 ring:∃live T0 gs0 q0,Ring P X 0 u live T0 gs0 w0 q0
 no:∀i,X.D1 i=none
 av0:J9 X bx
 blt:bx<u.heap.size
 st:StB X G c bx w0 L0 Lc
 num:N=X.n+1
 isx:∃cs T f,ox= .cells cs T f
 k:∀k g,K g->Fin P Post (X.gx0 u bx k) 0 g (dz0 u bx ox k)
section
variable {P:Program}{Post:Value->World->Prop}{X:Gh}{G:N4}{c bx n0:Nat}{u w0:World}{L0 Lc:P3}{A:Addr}{ox:Obj}{N:Nat}{K:Goroutine->Prop}{σ σ':Bd}{r:Option Nat}{y7 pm0' S6:PM}{d:Nat}{T:Trace}{gs:Array Goroutine}{w w':World}{q:Nat->Nat}
theorem Rb.awake {Fp:PM->Prop} (C:Rb P X G c bx n0 w0 L0 Lc A Fp N σ r y7 S6 d T gs w q) {a:Goroutine} (ha:gs[0]? =some a) (hs:a.status= .running\/a.status= .blocked):∀g∈gs,awake g:=by
 intro g hg;obtain⟨i,hi,rfl⟩:=Array.mem_iff_getElem.1 hg;by_cases e:i=0
 ·subst e;have:gs[0]=a:=by simpa [Array.getElem?_eq_getElem hi]using ha
  rw[this];exact awake_of (hs.elim .inl fun x=>.inr (.inl x))
 ·exact awake_of ((C.status e (Array.getElem?_eq_getElem hi)).elim .inl fun x=>.inr (.inr x))
theorem Rb.main {Fp:PM->Prop} (C:Rb P X G c bx n0 w0 L0 Lc A Fp N σ r y7 S6 d T gs w q) (hc0:c≠0) {g g':Goroutine} {es:Array Event} (tb':TB X.Sh (UsB c σ') c n0 L0 Lc (BM pm0') (BM S6) A r (T++MemOp.ofEvents 0 g.frame.fn g.frame.place es)) (wf':WF G bx w0 w') (Bu0:∀x,x∈pm0'\/x∈S6->(x.1=bx\/w0.heap.size <=x.1)/\w'.heap[x.1]? =some x.2) (zd0:Apart L0 Lc (BM pm0') (BM S6)) (Jc0:A7 G (bst σ').1 (bst σ').2 w')
  (Z5:∀d n y,dx0 P G Lc A Fp σ r S6 d n y->dx0 P G Lc A Fp σ' r S6 d n y):Rb P X G c bx n0 w0 L0 Lc A Fp N σ' r pm0' S6 (deafBehind d es) (T++MemOp.ofEvents 0 g.frame.fn g.frame.place es) ((gs.map (woken P g g' w')).setIfInBounds 0 g') w' q/\((gs.map (woken P g g' w')).setIfInBounds 0 g')[0]? =some g':=by
 have B2:((gs.map (woken P g g' w')).setIfInBounds 0 g').size=gs.size:=by simp
 have hs0:0<gs.size:=by have:=C.size.1;omega
 have hdo:∀x,x≠0->Deaf (T++MemOp.ofEvents 0 g.frame.fn g.frame.place es) x=Deaf T x:=fun x hx=>Deaf_other T (Ne.symm hx) _ Z1;have wj0:∀x y,x≠0->((gs.map (woken P g g' w')).setIfInBounds 0 g')[x]? =some y->gs[x]? =some y:=fun x y hx hy=>by
  rw[Array.getElem?_setIfInBounds_ne (fun z=>hx z.symm),Array.getElem?_map]at hy;obtain⟨y₀,hy₀,rfl⟩:=Option.map_eq_some_iff.1 hy;rw[woken_of_again (again_of_running (C.status hx hy₀) w')];exact hy₀
 refine⟨⟨wf',tb',by rw[Array.size_append];have:=C.n0;omega,by rw[Deaf_own,C.d0],Bu0,zd0,fun y hy=>?_,fun x y hx hxc hy=>?_,Jc0,by rw[B2];exact C.size,fun j hj=>?_,C.fin⟩,Array.getElem?_setIfInBounds_self_of_lt (by simpa using hs0)⟩
 ·rw[hdo c hc0];exact Z5 _ _ _ (C.child y (wj0 c y hc0 hy))
 ·rw[hdo x hx];exact C.rest x y hx hxc (wj0 x y hx hy)
 ·rw[B2]at hj;rw[hdo j (by omega)];exact C.above j hj
theorem Rb.mk0 {Fp:PM->Prop} (C:Rb P X G c bx n0 w0 L0 Lc A Fp N σ r y7 S6 d T gs w q) (S:StB X G c bx w0 L0 Lc) {g g':Goroutine} {es:Array Event} (I9:∀e∈es,GEv G 0 e) (hU:∀x,UsB c σ' x->UsB c σ x) (hw:w'=w\/∃a v,a.block=G.blk/\a.spot=none/\G.off <=a.off/\w'=w.setCell a v) (Jc0:A7 G (bst σ').1 (bst σ').2 w')
  (Z5:∀d n y,dx0 P G Lc A Fp σ r S6 d n y->dx0 P G Lc A Fp σ' r S6 d n y):Rb P X G c bx n0 w0 L0 Lc A Fp N σ' r y7 S6 (deafBehind d es) (T++MemOp.ofEvents 0 g.frame.fn g.frame.place es) ((gs.map (woken P g g' w')).setIfInBounds 0 g') w' q/\((gs.map (woken P g g' w')).setIfInBounds 0 g')[0]? =some g':=by
 refine C.main S.c0 ((C.tb.O2 C.n0 S.O2 I9 (.inr ⟨.inl rfl,fun h=>absurd rfl h⟩)).leave hU) ?_ ?_ C.apart Jc0 Z5
 ·rcases hw with rfl|⟨a,v,h1,h2,h3,rfl⟩
  ·exact C.wf
  ·exact C.wf.Iz0 C.z6 h1 h2 h3 v
 ·intro x hx;have:=C.own x hx;refine⟨this.1,?_⟩;rcases hw with rfl|⟨a,v,h1,h2,h3,rfl⟩
  ·exact this.2
  ·rw[A1 w _ (by rw[h1];exact S.ng this.1)];exact this.2
theorem up0.wa (B:up0 P Post X G c bx u w0 L0 Lc A ox N K):∀(μ n d:Nat) (g:Goroutine) r y7 S6 T gs w sl q,μ=n+sumTo gs.size q->Rb P X G c bx n0 w0 L0 Lc A (fun pm=>(bx,ox)∈pm) N .out r y7 S6 d T gs w q->gs[0]? =some g->WA P G A K n d g->Ends P Post (crowd gs w sl) T:=by
 intro μ
 induction μ using Nat.strongRecOn with
 |_ μ ih=>
  intro n d g r y7 S6 T gs w sl q hμ C h0 hW;cases n with
  |zero=>exact hW.elim
  |succ n=>
   obtain⟨hr,hW'⟩:=hW;obtain⟨i,gi,dd,W4,hi,hgi,R2⟩:=crowd_pick (P:=P) (w:=w) (sl:=sl) (C.awake h0 (.inl hr)) ⟨0,g,h0,hr⟩;have Cd:=C.at dd;by_cases e:i=0
   ·subst e;rcases hW' with⟨g',es,I9,o3,hW'⟩|⟨rfl,g',o3,hE⟩
    ·obtain⟨C',C2⟩:=Cd.mk0 B.st (g:=g) (g':=g') (σ':=.out) (w':=w.at dd) I9 (fun _ h=>h) (.inl rfl) Cd.z6 (fun _ _ _ h=>h);exact Ends.step (R2.trans (runT_crowd_go (sl:=W4) (i:=0) h0 (o3 _ Cd.z6))) (ih _ (by simp only[Array.size_setIfInBounds,Array.size_map];omega) n _ g' _ _ _ _ _ _ W4 q rfl C' C2 hW')
    ·obtain⟨live,T0,gs0,q0,R0⟩:=B.ring;obtain⟨cs,Ty,f,rfl⟩:=B.isx;have Z5:∃gc,gs[c]? =some gc:=⟨_,Array.getElem?_eq_getElem C.size.1⟩
     obtain⟨gc,hgc⟩:=Z5;obtain⟨k,R,C2⟩:=ring_end R0 B.no B.av0 B.blt B.st B.num Cd (C.fin (C.child gc hgc).1) (g':=g') h0;exact Ends.step (R2.trans (runT_crowd_go (sl:=W4) (i:=0) h0 (o3 _))) (Fin.we (X:=X.gx0 u bx k) B.st.O2 (fun g hg=>B.k k g hg) n 0 g' hE _ _ _ _ _ _ C2 R)
   ·obtain⟨K4,ops,q',w',σ',r',pmc',hrt,B2,h0',C',H2,_,_,by0⟩:=Cd.by (sl:=W4) B.st hi e hgi
    have hσ:=by0 rfl;subst hσ;refine Ends.step (R2.trans hrt) (ih _ (by omega) (n+1) d g r' y7 pmc' _ K4 w' W4 q' rfl C' ?_ ⟨hr,hW'⟩);rcases h0' g h0 with z|z
    ·exact z
    ·rw[again_of_running (.inl hr)]at z;exact z
theorem up0.sem (B:up0 P Post X G c bx u w0 L0 Lc A ox N K):∀(μ n d:Nat) (g:Goroutine) (b:Bool) σ r y7 S6 T gs w sl q,μ=3*sumTo gs.size q+3*n+(if b then 1 else 0)->Rb P X G c bx n0 w0 L0 Lc A (fun pm=>(bx,ox)∈pm) N σ r y7 S6 d T gs w q->frB σ=false ->
  (if b then gs[0]? =some g/\WS P G (WA P G A K) n d g else σ≠.done/\gs[0]? =some {g with status:=.blocked}/\∃k,n=k+1/\0<d/\Dq0 P G (WA P G A K) k d g)->Ends P Post (crowd gs w sl) T:=by
 intro μ
 induction μ using Nat.strongRecOn with
 |_ μ ih=>
  intro n d g b σ r y7 S6 T gs w sl q hμ C hmf hb;have Z5:∃gc,gs[c]? =some gc:=⟨_,Array.getElem?_eq_getElem C.size.1⟩
  obtain⟨gc,hgc⟩:=Z5;have va0:(∃(i:Nat) (g:Goroutine),gs[i]? =some g/\g.status= .running)/\∀g∈gs,awake g:=by
   cases b with
   |true=>obtain⟨h0,hW⟩:=hb;exact⟨⟨0,g,h0,hW.running⟩,C.awake h0 (.inl hW.running)⟩
   |false=>
    obtain⟨hmd,h0,k,_,_,_⟩:=hb;refine⟨⟨c,gc,hgc,?_⟩,C.awake h0 (.inr rfl)⟩;have hI:=C.child gc hgc;cases σ with
    |up wt=>rcases hI with⟨_,_,h⟩|⟨_,h⟩;exact h.running fun _ _ _ z=>z.1;exact h.running
    |last s=>exact hI.2.2.running
    |out=>cases hmf
    |done=>exact absurd rfl hmd
  obtain⟨i,gi,dd,W4,hi,hgi,R2⟩:=crowd_pick (P:=P) (w:=w) (sl:=sl) va0.2 va0.1;have Cd:=C.at dd;by_cases e:i=0
  ·subst e;cases b with
   |false=>obtain⟨_,h0,_⟩:=hb;rw[h0]at hi;obtain rfl:=Option.some.inj hi;cases hgi
   |true=>
    obtain⟨h0,hW⟩:=hb;rw[h0]at hi;obtain rfl:=Option.some.inj hi;cases n with
    |zero=>exact hW.elim
    |succ n=>
     rcases hW with⟨g',es,⟨_,_,I9,o3⟩,hW⟩|⟨hd0,hr,ho,tb0,g',Dv0,hE⟩
     ·obtain⟨C',C2⟩:=Cd.mk0 B.st (g:=g) (g':=g') (σ':=σ) (w':=w.at dd) I9 (fun _ h=>h) (.inl rfl) Cd.z6 (fun _ _ _ h=>h);exact Ends.step (R2.trans (runT_crowd_go (sl:=W4) (i:=0) h0 (o3 _ _ _ Cd.z6))) (ih _ (by simp only[Array.size_setIfInBounds,Array.size_map];rw[hμ];simp only[if_true];omega) n _ g' true σ _ _ _ _ _ _ W4 q rfl C' hmf ⟨C2,hW⟩)
     ·have blk:σ≠.done->(∃st,A7 G st 0 (w.at dd))->Ends P Post (crowd gs w sl) T:=fun hmd ⟨st,hat⟩=>by
       have hgo:=tb0 _ _ hat;have hrt:=runT_crowd_go (P:=P) (sl:=W4) (i:=0) h0 hgo;rw[show(MemOp.ofEvents 0 g.frame.fn g.frame.place #[]:Array MemOp)=#[] from rfl]at hrt;obtain⟨C',C2⟩:=Cd.mk0 B.st (g:=g) (g':={g with status:=.blocked}) (es:=#[]) (σ':=σ) (w':=w.at dd) (fun e he=>by simp at he) (fun _ h=>h) (.inl rfl) Cd.z6 (fun _ _ _ h=>h);rw[show(MemOp.ofEvents 0 g.frame.fn g.frame.place #[]:Array MemOp)=#[] from rfl]at C';exact Ends.step (R2.trans hrt) (ih _ (by simp only[Array.size_setIfInBounds,Array.size_map];rw[hμ];simp) (n+1) d g false σ _ _ _ _ _ _ W4 q rfl C' hmf ⟨hmd,C2,n,rfl,hd0,hr,ho,tb0,g',Dv0,hE⟩)
      cases σ with
      |out=>cases hmf
      |up wt=>exact blk (fun e=>by cases e) ⟨_,Cd.z6⟩
      |last s=>exact blk (fun e=>by cases e) (by
        have:=Cd.z6;cases s with
        |zero=>exact⟨_,this⟩
        |succ s=>exact⟨_,this⟩)
      |done=>
       obtain⟨C',C2⟩:=Cd.mk0 B.st (g:=g) (g':=g') (es:=semEvents (smA G)) (σ':=.out) (w':=(w.at dd).setCell (smA G) (.int .u32 0)) ka0 (fun _ h=>h) (.inr ⟨_,_,rfl,rfl,Nat.le_succ _,rfl⟩) (Cd.z6.setSm 0) (fun _ _ _ h=>h);rw[fq0]at C';exact Ends.step (R2.trans (runT_crowd_go (sl:=W4) (i:=0) h0 (Dv0 _ Cd.z6))) (B.wa _ n d g' _ _ _ _ _ _ W4 q rfl C' C2 hE)
  ·obtain⟨K4,ops,q',w',σ',r',pmc',hrt,B2,h0',C',H2,hfr,Dx0,_⟩:=Cd.by (sl:=W4) B.st hi e hgi
   rw[hmf]at hfr;refine Ends.step (R2.trans hrt) ?_;cases b with
   |true=>
    obtain⟨h0,hW⟩:=hb;refine ih _ (by rw[hμ];simp only[if_true];omega) n d g true σ' r' y7 pmc' _ K4 w' W4 q' rfl C' hfr ⟨?_,hW⟩;rcases h0' g h0 with z|z
    ·exact z
    ·rw[again_of_running (.inl hW.running)]at z;exact z
   |false=>
    obtain⟨hmd,h0,k,hk,hd0,tc0⟩:=hb;have hA:K4[0]? =some (({g with status:=.blocked}:Goroutine).again w')->Ends P Post (crowd K4 w' W4) (T++ops):=fun z=>by
     rw[again_blocked tc0.1 tc0.2.1]at z;exact ih _ (by rw[hμ];simp only[if_true];simp;omega) n d g true σ' r' y7 pmc' _ K4 w' W4 q' rfl C' hfr ⟨z,by rw[hk];exact .inr ⟨hd0,tc0⟩⟩
    by_cases g9:σ'= .done
    ·exact hA ((Dx0 g9).resolve_left hmd _ h0)
    ·rcases h0' _ h0 with z|z
     ·exact ih _ (by rw[hμ];simp;omega) n d g false σ' r' y7 pmc' _ K4 w' W4 q' rfl C' hfr ⟨g9,z,k,hk,hd0,tc0⟩
     ·exact hA z
theorem up0.head (B:up0 P Post X G c bx u w0 L0 Lc A ox N K):∀(μ n:Nat) (o:Option Nat) (V d:Nat) (g:Goroutine) σ r y7 S6 T gs w sl q,μ=n+sumTo gs.size q->Rb P X G c bx n0 w0 L0 Lc A (fun pm=>(bx,ox)∈pm) N σ r y7 S6 d T gs w q->frB σ=true->gs[0]? =some g->WH P G (WA P G A K) n o V d g ->
  (match o with|none=>it0 σ <=V|some vs=>0<vs/\it0 σ <=vs)->Ends P Post (crowd gs w sl) T:=by
 intro μ
 induction μ using Nat.strongRecOn with
 |_ μ ih=>
  intro n o V d g σ r y7 S6 T gs w sl q hμ C hfr h0 hW hV;have hr:=hW.running;cases n with
  |zero=>exact hW.elim
  |succ n=>
   obtain⟨i,gi,dd,W4,hi,hgi,R2⟩:=crowd_pick (P:=P) (w:=w) (sl:=sl) (C.awake h0 (.inl hr)) ⟨0,g,h0,hr⟩;have Cd:=C.at dd;by_cases e:i=0
   ·subst e;rw[h0]at hi;obtain rfl:=Option.some.inj hi;have hat:A7 G ((it0 σ*KK:Nat):Int) 0 (w.at dd):=by have:=Cd.z6;rw[Jg0 hfr]at this;exact this
    unfold WH at hW;rcases hW with⟨g',es,⟨_,_,I9,o3⟩,hW⟩|⟨_,hW⟩
    ·obtain⟨C',C2⟩:=Cd.mk0 B.st (g:=g) (g':=g') (σ':=σ) (w':=w.at dd) I9 (fun _ h=>h) (.inl rfl) Cd.z6 (fun _ _ _ h=>h);exact Ends.step (R2.trans (runT_crowd_go (sl:=W4) (i:=0) h0 (o3 _ _ _ hat))) (ih _ (by simp only[Array.size_setIfInBounds,Array.size_map];omega) n o V _ g' σ _ _ _ _ _ _ W4 q rfl C' hfr C2 hW hV)
    ·have kr0:∀g',stepG P true g (w.at dd)= .go g' (w.at dd) #[rdA (stA G)]->(∀T' K4,Rb P X G c bx n0 w0 L0 Lc A (fun pm=>(bx,ox)∈pm) N σ r y7 S6 d T' K4 (w.at dd) q->K4.size=gs.size->K4[0]? =some g'->Ends P Post (crowd K4 (w.at dd) W4) T')->Ends P Post (crowd gs w sl) T:=fun g' hgo hk=>by
      obtain⟨C',C2⟩:=Cd.mk0 B.st (g:=g) (g':=g') (es:=#[rdA (stA G)]) (σ':=σ) (w':=w.at dd) hw0 (fun _ h=>h) (.inl rfl) Cd.z6 (fun _ _ _ h=>h);rw[deafBehind_still G8]at C';exact Ends.step (R2.trans (runT_crowd_go (sl:=W4) (i:=0) h0 hgo)) (hk _ _ C' (by simp) C2)
     cases o with
     |none=>
      have hV':it0 σ <=V:=hV;obtain⟨g',o3,hz,hnz⟩:=hW (it0 σ) hV';refine kr0 g' (o3 _ hat) fun T' K4 C' B2 C2=>?_;by_cases hc:it0 σ=0
      ·have hσ:σ= .out:=by
        cases σ with
        |out=>rfl
        |up wt=>cases hc
        |last s=>cases hfr
        |done=>cases hfr
       subst hσ;exact B.wa _ n d g' _ _ _ _ _ _ W4 q rfl C' C2 (hz hc)
      ·exact ih _ (by rw[B2];omega) n (some (it0 σ)) V d g' σ _ _ _ T' K4 _ W4 q rfl C' hfr C2 (hnz hc) ⟨by omega,Nat.le_refl _⟩
     |some vs=>
      obtain⟨hvs,hle⟩:=hV;obtain⟨⟨g1,Bl0,hS⟩,Dy0⟩:=hW;by_cases hc:it0 σ=vs
      ·have hσ:σ= .up false:=by
        cases σ with
        |out=>have h2:0=vs:=hc;omega
        |up wt=>cases wt with
         |false=>rfl
         |true=>cases hfr
        |last s=>cases hfr
        |done=>cases hfr
       subst hσ;have es1:vs=1:=hc.symm;subst es1;have e1:(((1*KK+1:Nat)):Int)=(bst (.up true)).1:=by show _=((((0+1)*KK+(if true=true then 1 else 0):Nat)):Int);rw[Nat.zero_add];rfl
       obtain⟨C',C2⟩:=Cd.mk0 B.st (g:=g) (g':=g1) (es:=#[rdA (stA G),wrA (stA G)]) (σ':=.up true) (w':=(w.at dd).setCell (stA G) (.int .u64 ((1*KK+1:Nat):Int))) L9 (fun _ h=>h) (.inr ⟨_,_,rfl,rfl,Nat.le_refl _,rfl⟩) (by
        have:=Cd.z6.setSt ((1*KK+1:Nat):Int);rw[<- e1];exact this) (fun _ _ _ h=>h)
       rw[ht0]at C';exact Ends.step (R2.trans (runT_crowd_go (sl:=W4) (i:=0) h0 (Bl0 _ hat))) (B.sem _ n d g1 true (.up true) _ _ _ _ _ _ W4 q rfl C' rfl ⟨C2,hS⟩)
      ·obtain⟨g',o3,hH⟩:=Dy0 (it0 σ) (by omega);refine kr0 g' (o3 _ hat) fun T' K4 C' B2 C2=>?_;exact ih _ (by rw[B2];omega) n none (it0 σ) d g' σ _ _ _ T' K4 _ W4 q rfl C' hfr C2 hH (Nat.le_refl _)
   ·obtain⟨K4,ops,q',w',σ',r',pmc',hrt,B2,h0',C',H2,wk0,_,by0⟩:=Cd.by (sl:=W4) B.st hi e hgi
    rw[hfr]at wk0;have E6:it0 σ' <=it0 σ:=by
     cases σ with
     |out=>rw[by0 rfl];exact Nat.le_refl _
     |up wt=>cases σ' <;> first|exact Nat.le_refl _|exact Nat.zero_le _
     |last s=>cases hfr
     |done=>cases hfr
    refine Ends.step (R2.trans hrt) (ih _ (by omega) (n+1) o V d g σ' r' y7 pmc' _ K4 w' W4 q' rfl C' wk0 ?_ hW ?_)
    ·rcases h0' g h0 with z|z
     ·exact z
     ·rw[again_of_running (.inl hr)]at z;exact z
    ·cases o with
     |none=>exact Nat.le_trans E6 hV
     |some vs=>exact⟨hV.1,Nat.le_trans E6 hV.2⟩
theorem up0.path (B:up0 P Post X G c bx u w0 L0 Lc A ox N K):∀(μ n:Nat) (g:Goroutine) σ r y7 S6 T gs w sl q,μ=n+sumTo gs.size q->Rb P X G c bx n0 w0 L0 Lc A (fun pm=>(bx,ox)∈pm) N σ r y7 S6 0 T gs w q->frB σ=true->gs[0]? =some g->MP P true G L0 (Mz0 P G A K) n y7 g->Ends P Post (crowd gs w sl) T:=by
 intro μ
 induction μ using Nat.strongRecOn with
 |_ μ ih=>
  intro n g σ r y7 S6 T gs w sl q hμ C hfr h0 hW;have hr:g.status= .running:=hW.running fun n pm g z=>WH.running (show WH P G (WA P G A K) n none 1 0 g from z);cases n with
  |zero=>exact hW.elim
  |succ n=>
   unfold MP at hW;rcases hW with hE|⟨_,hW⟩
   ·exact B.head _ n none 1 0 g σ r y7 S6 T gs w sl q rfl C hfr h0 hE (by cases σ <;> first|exact Nat.le_refl _|exact Nat.zero_le _)
   obtain⟨i,gi,dd,W4,hi,hgi,R2⟩:=crowd_pick (P:=P) (w:=w) (sl:=sl) (C.awake h0 (.inl hr)) ⟨0,g,h0,hr⟩;have Cd:=C.at dd;by_cases e:i=0
   ·subst e;rw[h0]at hi;obtain rfl:=Option.some.inj hi;rcases hW with⟨g',es,hr',I9,o3,hM⟩|⟨g',b,cs,T1,o,v,es,hr',hm,I9,o3,hM⟩|⟨gf,cs,T1,hr',o3,hM⟩
    ·have hd:deafBehind 0 es=0:=deafBehind_still (fun e he=>(I9 e he).on.2.2) _;obtain⟨C',C2⟩:=Cd.main B.st.c0 (g:=g) (g':=g') (es:=es) (σ':=σ) (pm0':=y7) (w':=w.at dd) (Cd.tb.own Cd.apart Cd.n0 Z1 (fun op J5 bb hb=>by
      obtain⟨e,he,rfl⟩:=Go.Conc.mem_ofEvents J5;have:=(I9 e he).on.1 bb hb;exact⟨B.st.on0 Cd.Zt0 this,.inl ⟨rfl,this⟩⟩) fun _=>norel_of fun e he=>(I9 e he).on.2.1) Cd.wf Cd.own Cd.apart Cd.z6 (fun _ _ _ h=>h)
     rw[hd]at C';exact Ends.step (R2.trans (runT_crowd_go (sl:=W4) (i:=0) h0 (o3 _ (Cd.Ja0 B.st)))) (ih _ (by simp only[Array.size_setIfInBounds,Array.size_map];omega) n g' σ _ _ _ _ _ _ W4 q rfl C' hfr C2 hM)
    ·have hd:deafBehind 0 es=0:=deafBehind_still (fun e he=>(dy0 (L:=L0) hm (I9 e he)).2.2) _;have hob:=(Cd.own _ (.inl hm))
     have hng:=B.st.ng hob.1;obtain⟨C',C2⟩:=Cd.main B.st.c0 (g:=g) (g':=g') (es:=es) (σ':=σ) (pm0':=jq0 y7 b (.cells (cs.setIfInBounds o v) T1 (0,0))) (w':=(w.at dd).setCell ⟨b,o,none⟩ v) ((Cd.tb.own Cd.apart Cd.n0 Z1 (fun op J5 bb hb=>by
      obtain⟨e,he,rfl⟩:=Go.Conc.mem_ofEvents J5;have:=(dy0 (L:=L0) hm (I9 e he)).1 bb hb;exact⟨B.st.on0 Cd.Zt0 this,.inl ⟨rfl,this⟩⟩) fun _=>norel_of fun e he=>(dy0 (L:=L0) hm (I9 e he)).2.1).grow (fun k hk=>by
       obtain⟨x,hx⟩:=hk;by_cases e:k=b
       ·exact⟨.cells (cs.setIfInBounds o v) T1 (0,0),List.mem_map.2 ⟨(k,x),hx,by rw[if_pos e,e]⟩⟩
       ·exact⟨x,List.mem_map.2 ⟨(k,x),hx,by rw[if_neg e]⟩⟩) fun _ h=>h) (Cd.wf.cell v hob.1 hng) (fun x hx=>by
       rcases hx with hx|hx
       ·rcases mem_set hx with⟨rfl,_⟩|⟨hx,hxb⟩
        ·exact⟨hob.1,heap_put hob.2⟩
        ·have h1:=Cd.own x (.inl hx);exact⟨h1.1,by rw[A1 _ v (a:=⟨b,o,none⟩) hxb];exact h1.2⟩
       ·have h1:=Cd.own x (.inr hx);have:x.1≠b:=fun e=>Cd.apart.own x.1 ⟨_,by rw[e];exact hm⟩ ⟨x.2,hx⟩;exact⟨h1.1,by rw[A1 _ v (a:=⟨b,o,none⟩) this];exact h1.2⟩)
      ⟨Cd.apart.l0,fun p hp h=>Cd.apart.lc p hp (um0 h),fun bb h h'=>Cd.apart.own bb (um0 h) h'⟩ (Cd.z6.of_block (A1 _ v (a:=⟨b,o,none⟩) (Ne.symm hng))) (fun _ _ _ h=>h)
     rw[hd]at C';exact Ends.step (R2.trans (runT_crowd_go (sl:=W4) (i:=0) h0 (o3 _ (Cd.Ja0 B.st)))) (ih _ (by simp only[Array.size_setIfInBounds,Array.size_map];omega) n g' σ _ _ _ _ _ _ W4 q rfl C' hfr C2 hM)
    ·have B2:=Cd.wf.size;have et1:w0.heap.size <=w.heap.size:=B2;obtain⟨C',C2⟩:=Cd.main B.st.c0 (g:=g) (g':=gf w.heap.size) (es:=#[]) (σ':=σ) (pm0':=(w.heap.size,.cells cs T1 (0,0))::y7) (w':=(w.at dd).alloc (.cells cs T1 (0,0))) ((Cd.tb.mute Cd.n0 (fun op J5=>by
      obtain⟨e,he,rfl⟩:=Go.Conc.mem_ofEvents J5;simp at he) fun _=>norel_of fun e he=>by simp at he).grow (fun k ⟨x,hx⟩=>⟨x,List.mem_cons_of_mem _ hx⟩) fun _ h=>h) (Cd.wf.alloc _ B.st.Cy0.1) (fun x hx=>by
       rcases hx with hx|hx
       ·rcases List.mem_cons.1 hx with rfl|hx
        ·exact⟨.inr et1,heap_alloc_new (w:=w.at dd)⟩
        ·have:=Cd.own x (.inl hx);exact⟨this.1,heap_alloc this.2⟩
       ·have:=Cd.own x (.inr hx);exact⟨this.1,heap_alloc this.2⟩)
      ⟨Cd.apart.l0,fun p hp h=>by
       obtain⟨x,hx⟩:=h;rcases List.mem_cons.1 hx with e|hx
       ·have:=(B.st.st p (.inr hp)).2.1;have e:=congrArg Prod.fst e;simp only at e;omega
       ·exact Cd.apart.lc p hp ⟨x,hx⟩,fun bb h h'=>by
       obtain⟨x,hx⟩:=h;rcases List.mem_cons.1 hx with e|hx
       ·obtain⟨y,hy⟩:=h';have h1:bb<w.heap.size:=un0 (Cd.own _ (.inr hy)).2;have e:=congrArg Prod.fst e;simp only at e;omega
       ·exact Cd.apart.own bb ⟨x,hx⟩ h'⟩ (Cd.z6.of_block (by
       show(w.heap.push _)[G.blk]? =w.heap[G.blk]?;rw[Array.getElem?_push,if_neg (by have:=B.st.Cy0.1;omega)])) (fun _ _ _ h=>h)
     exact Ends.step (R2.trans (runT_crowd_go (sl:=W4) (i:=0) h0 (o3 _))) (ih _ (by simp only[Array.size_setIfInBounds,Array.size_map];omega) n (gf w.heap.size) σ _ _ _ _ _ _ W4 q rfl C' hfr C2 (hM w.heap.size))
   ·obtain⟨K4,ops,q',w',σ',r',pmc',hrt,B2,h0',C',H2,wk0,_,_⟩:=Cd.by (sl:=W4) B.st hi e hgi
    rw[hfr]at wk0;refine Ends.step (R2.trans hrt) (ih _ (by omega) (n+1) g σ' r' y7 pmc' _ K4 w' W4 q' rfl C' wk0 ?_ (by unfold MP;exact .inr ⟨hr,hW⟩));rcases h0' g h0 with z|z
    ·exact z
    ·rw[again_of_running (.inl hr)]at z;exact z
end
end
section
attribute [local irreducible] KK
theorem Fin.beside {P:Program} {Post:Value->World->Prop} {X:Gh} {u:World} {g g1 child:Goroutine} {G:N4} {bx nc np:Nat} {ox0 ox:Obj} {L0 Lc:P3} {A:Addr} {K:Goroutine->Prop} (k4:g.status= .running) (g9:X.dn=0) (ix0:X.pend=1) (ey0:X.cap=1) (hG:X.O2=some G) (z8:∀i,X.D1 i=none)
  (hgo:∀w,stepG P true g w= .spawn g1 child w #[]) (hl:J9 X bx) (hw:¬X.low bx) (K9:X.O4 bx= .all) (hb:u.heap[bx]? =some ox0) (R2:∀p,p∈L0\/p∈Lc->u.cell? p.1=some p.2/\p.1.block≠bx/\¬GB X p.1.block)
  (To0:MP P true G L0 (Mz0 P G A K) np [] g1) (Z5:MP P false G Lc (zc0 P G A (fun pm=>(bx,ox)∈pm)) nc [(bx,ox0)] child) (hox:∃cs T f,ox= .cells cs T f) (hK:∀k g,K g->Fin P Post (X.gx0 u bx k) 0 g (dz0 u bx ox k)):Fin P Post X 0 g u:=by
 refine Fin.m9 k4 fun live T gs w sl d W4 q hg o3 C=>?_;have hrt:=runT_crowd_spawn (P:=P) (sl:=W4) (i:=0) hg (hgo (w.at d));have Dm0:(((MemOp.ofEvents 0 g.frame.fn g.frame.place #[]:Array MemOp).push {g:=0,fn:=g.frame.fn,pos:=g.frame.place,act:=.go gs.size}).push {g:=gs.size,fn:=child.frame.fn,pos:=g.frame.place,act:=.start})=
   #[{g:=0,fn:=g.frame.fn,pos:=g.frame.place,act:=.go gs.size},{g:=gs.size,fn:=child.frame.fn,pos:=g.frame.place,act:=.start}]:=rfl
 rw[Dm0]at hrt;refine Ends.step (o3.trans hrt) ?_;have h0:=C.size;have sz0:=C.above gs.size (Nat.le_refl _);have hc0:gs.size≠0:=by omega
 obtain⟨ρ,hs,hlw⟩:=C.sim;have B2:(w.at d).heap.size=u.heap.size:=hs.size;have hz:count live gs.size=0:=by have:=C.few;omega
 have kn0:∀i,live i=false:=fun i=>by
  rcases Nat.lt_or_ge i gs.size with hi|hi
  ·cases e:live i with
   |false=>rfl
   |true=>have:=count_le hi e;omega
  ·exact(C.above i hi).2.2.1
 have mz0:∀G',(X.O2=some G'\/G'∈X.old)->Cut u G':=fun G' hG'=>hG'.elim (fun e=>(C.O2 G' e).1) (C.old G');have S:StB X G gs.size bx (w.at d) L0 Lc:=by
  refine⟨hG,hc0,fun p hp=>?_,⟨by rw[B2];exact(Array.getElem?_eq_some_iff.1 hb).1,fun⟨G',hG',e⟩=>hl.O2 G' hG' e.symm⟩,fun b ⟨G',hG',e⟩=>?_⟩
  ·obtain⟨h1,h2,h3⟩:=R2 p hp;obtain⟨c',T',f',M6,_,_⟩:=I4 h1;exact⟨hs.cell (u:=W2 u (w.at d).tape (w.at d).drawn) h1,by rw[B2];exact(Array.getElem?_eq_some_iff.1 M6).1,h2,h3⟩
  ·obtain⟨c',T',f',M6,_⟩:=mz0 G' hG';rw[B2,e];exact(Array.getElem?_eq_some_iff.1 M6).1
 have B:up0 P Post X G gs.size bx u (w.at d) L0 Lc A ox (X.n+1) K:=⟨⟨live,T,gs,q,C⟩,z8,hl,(Array.getElem?_eq_some_iff.1 hb).1,S,rfl,hox,hK⟩
 generalize hu:(#[{g:=0,fn:=g.frame.fn,pos:=g.frame.place,act:=.go gs.size},{g:=gs.size,fn:=child.frame.fn,pos:=g.frame.place,act:=.start}]:Trace)=U;have hn:∀op∈U,op.act.touch? =none:=by
  intro op J5;subst hu;simp only[List.mem_toArray,List.mem_cons,List.not_mem_nil,or_false]at J5;rcases J5 with rfl|rfl <;> rfl
 have hD:∀x,Deaf (T++U) x=Deaf T x:=fun x=>Deaf_quiet (fun op J5 d=>by
  subst hu;simp only[List.mem_toArray,List.mem_cons,List.not_mem_nil,or_false]at J5;rcases J5 with rfl|rfl <;> rfl)
 have p:=PastH.born (c:=gs.size) C.past (.inl ⟨rfl,g9⟩) sz0.1 (fun l ⟨p,hp,_⟩=>by rw[sz0.2.2.2]at hp;cases hp) (.inl rfl) g.frame.fn g.frame.place child.frame.fn;rw[hu]at p;have hlo:∀x,¬X.Lo 0 x:=fun x hx=>hx.2 (z8 x);have Ci0:((gs.setIfInBounds 0 g1).push child).size=gs.size+1:=by simp
 have wj0:∀i y,i≠0->i≠gs.size->((gs.setIfInBounds 0 g1).push child)[i]? =some y->gs[i]? =some y:=fun i y hi hic hy=>by
  rw[Array.getElem?_push,if_neg (by simpa using hic),Array.getElem?_setIfInBounds_ne (Ne.symm hi)]at hy;exact hy
 obtain⟨y,hy,hlk⟩:=hs.obj bx ox0 (show(W2 u (w.at d).tape (w.at d).drawn).heap[bx]? =some ox0 from hb);have hyo:(w.at d).heap[bx]? =some ox0:=by
  rw[hlw bx hw,K9]at hlk;cases hlk;exact hy
 refine B.path (n0:=(T++U).size) _ np g1 (.up false) none [] [(bx,ox0)] (T++U) _ (w.at d) W4 (upd q gs.size nc) rfl ⟨WF.refl,⟨p.clean,fun i a _ ha hm hs'=>⟨?_,?_⟩,fun i a x hi ha _ _=>?_,fun i a x ha hsh hx=>?_,fun r0 e=>(by cases e)⟩,Nat.le_refl _,by rw[hD,C.dfn,g9],fun x hx=>?_,⟨fun p hp=>?_,fun p hp h=>?_,fun b h=>?_⟩,
  fun y hy=>?_,fun i y hi hic hy=>?_,?_,⟨by rw[Ci0];omega,by rw[Ci0,C.num]⟩,fun j hj=>?_,fun e=>absurd rfl e⟩ rfl ?_ To0
 ·obtain⟨x,hx,C5⟩:=touch_of ha;rcases getElem?_append_cases hx with⟨H2,X3⟩|⟨_,S8⟩
  ·rcases C.past.known i a (by rw[touchAt_of X3];exact C5) hm hs' with h|⟨_,x,_,h,_⟩
   ·exact h.app U
   ·exact absurd h (hlo x)
  ·rw[hn x S8]at C5;cases C5
 ·rcases p.known i a ha hm hs' with h|⟨_,x,_,h,_⟩
  ·exact h
  ·exact absurd h (hlo x)
 ·obtain⟨z,hz',hza⟩:=touch_of ha;have:=lt_size_of_getElem? hz';omega
 ·refine(p.db0 i a x ha hsh hx).imp (fun z g' L6=>z g' ?_) id;rcases L6 with e|⟨e,_⟩
  ·exact .inl (.inl e)
  ·exact .inr e
 ·rcases hx with hx|hx
  ·cases hx
  ·rcases List.mem_cons.1 hx with rfl|hx
   ·exact⟨.inl rfl,hyo⟩
   ·cases hx
 ·rintro⟨o,ho⟩;rcases List.mem_cons.1 ho with e|ho
  ·exact(S.st p (.inl hp)).2.2.1 (congrArg Prod.fst e)
  ·cases ho
 ·obtain⟨o,ho⟩:=h;cases ho
 ·obtain⟨o,ho⟩:=h;cases ho
 ·rw[Array.getElem?_push,if_pos (by simp)]at hy;obtain rfl:=Option.some.inj hy;rw[upd_same];exact .inl ⟨rfl,(hD _).trans sz0.1,Z5⟩
 ·rw[upd_ne q nc hic,hD];have:=C.idle i y hi (wj0 i y hi hic hy);unfold Idle at this;rw[z8 i]at this;simp only[kn0,Bool.false_eq_true,if_false]at this;exact this.2
 ·have:=(C.O2 G hG).2;rw[hz,ix0]at this;exact this
 ·rw[Ci0]at hj;rw[hD];exact(C.above j (by omega)).1
 ·rw[Array.getElem?_push,if_neg (by simp;omega),Array.getElem?_setIfInBounds_self_of_lt h0]
end
end Go.Yc
end
section
namespace Go.Vy
open Go Go.Conc Go.Yc Go.RowKit
open Go.Vc Go.Wg
section
attribute [local irreducible] KK
structure sr0 (n:Nat) (b:Frame) (cs:List Frame) (ds:List Deferred) (e:Env) (todo:List Item) (c:Frame):Prop where
 rep:∃a,dm0 n a e ds/\c={b.at a todo with mode:=.returning}
theorem sr0.mode {n:Nat} {b c:Frame} {cs:List Frame} {ds:List Deferred} {e:Env} {todo:List Item} (h:sr0 n b cs ds e todo c):c.mode= .returning:=by
 obtain⟨a,_,rfl⟩:=h.rep;rfl
theorem sr0.go {n:Nat} {b c:Frame} {cs:List Frame} {ds:List Deferred} {e:Env} {todo:List Item} (h:sr0 n b cs ds e todo c) {Y:Nat->Nat->Goroutine->Prop} {ft d:Nat} (hA:AtR Y ft n b cs ds d e todo):Y ft d (G c cs):=by
 obtain⟨a,ha,rfl⟩:=h.rep;exact hA a ha
section
variable {P:Program}{main:Bool}{ok:Event->Prop}{Y:Nat->Nat->Goroutine->Prop}{ft n:Nat}{b:Frame}{cs:List Frame}{ds:List Deferred}{d:Nat}{e:Env}{k todo:List Item}{ops:Array Oper}{i:Nat}{l:List Oper}{dst:Option Nat}{ty:TypeId}{ps:String}{af:Array Edge}{f:FuncId}{fn:Func}{c:Code}
theorem G0.Tp0 (hY:HF P main ok Y) (hk:b.kind≠.early) {o:Oper} {args:Array Value} (m:Nat) (hg:o.guard=none) (hd:m4 n o.dst=true) (hf:P.funcs[f]? =some fn) (hb:fn.body=some c) (hr:∀w,(execOp (ev e) o).run P w= .ok (.enter f args) w) (hv:∀w,(execOp (ev e) o).events P w #[]=#[])
  (hm:args.size+(fn.ntmps-args.size)=m) (h:∀c6,Fd0 n b cs ds e ops i o.dst l k c6->At Y ft m (base f) c6 [] d (Wg.J7 args) [.code c]):G0 Y (ft+1) n b cs ds d e ops i (o::l) k:=by
 intro hl a ha;obtain⟨ho,u5⟩:=C3 hl;refine hY.c rfl rfl (fun w=>?_) (h _ ⟨⟨a,ha,rfl⟩,by rw[ho];rfl,hd,u5⟩ {tmps:=args++Array.replicate (fn.ntmps-args.size) undef,defers:=[]} (D7 args _ hm));show stepG P main (G (b.at a (.inRegion ops (i::List.range' (i+1) l.length)::k)) cs) w=_;rw[stepG_enter ho (by obtain⟨d,op,ty,ps,af,g⟩:=o;cases hg;rfl) hk (by rw[ha.eval];exact hr w),enter_at _ hf hb];have h1:listed P b.fn a o w=#[]:=by unfold listed;rw[ha.eval,hv w];exact seen_none P _
 rw[h1]
theorem G0.Zv0 (hY:HF P main ok Y) (hk:b.kind≠.early) {x:Operand} {caps:Array Value} (m:Nat) (hd:m4 n dst=true) (hx:ev e x= .func (.func f) #[] caps) (hf:P.funcs[f]? =some fn) (L2:(fn.name== "runtime.NumGoroutine")=false) (hb:fn.body=some c)
  (hm:caps.size+(fn.ntmps-caps.size)=m) (h:∀c6,Fd0 n b cs ds e ops i dst l k c6->At Y ft m (base f) c6 [] d (Wg.J7 caps) [.code c]):G0 Y (ft+1) n b cs ds d e ops i (⟨dst,.call {callee:=.value x,args:=#[],argTypes:=#[]},ty,ps,af,none⟩::l) k:=by
 have h1:¬fn.name= "runtime.NumGoroutine":=by simpa using L2
 refine G0.Tp0 hY hk (args:=caps) m rfl hd hf hb (fun w=>?_) (fun w=>?_) hm h
 ·simp[execOp,resolve,Deferred.ofValue,invoke,callFunc,hx,hf,h1,hb]
 ·simp[execOp,resolve,Deferred.ofValue,invoke,callFunc,hx,hf,h1,hb]
theorem G0.ij0 (hY:HF P main ok Y) {cf:Frame} (hd:m4 n dst=true) (hk:b.kind= .deferred) (hr:b.roundOf=none) (hc:cf.mode= .returning) (h:G0 Y ft n b (cf::cs) ds d (k3 e dst .nilIface) ops (i+1) l k):G0 Y (ft+1) n b (cf::cs) ds d e ops i (⟨dst,.call {callee:=.builtin .recover,args:=#[],argTypes:=#[]},ty,ps,af,none⟩::l) k:=by
 intro hl a ha;obtain⟨ho,u5⟩:=C3 hl;exact hY.c rfl rfl (fun w=>cv0 ho hk hr hc) (h u5 _ (ha.put hd _))
theorem AtR.Jh0 (hY:HF P main ok Y) {args caps:Array Value} (m:Nat) (hf:P.funcs[f]? =some fn) (L2:(fn.name== "runtime.NumGoroutine")=false) (hb:fn.body=some c) (hm:(args++caps).size+(fn.ntmps-(args++caps).size)=m)
  (h:∀cf,sr0 n b cs ds e todo cf->At Y ft m (baseD f) (cf::cs) [] d (Wg.J7 (args++caps)) [.code c]):AtR Y (ft+1) n b cs ({target:=.fn (.func f) caps,args} :: ds) d e todo:=by
 intro a ha;refine hY.c rfl rfl (fun w=>do0 (a:=a) (by simp) ha.defers hf L2 hb) ?_;exact h _ ⟨⟨a.tmps,ds⟩,⟨ha.size,rfl,ha.get⟩,rfl⟩ _ (D7 (args++caps) _ hm)
end
section
variable {P:Program}{gr:N4}{A:Addr}{Fp:PM->Prop}{pm:PM}{L:P3}{K:Goroutine->Prop}{ft n:Nat}{b:Frame}{cs:List Frame}{ds:List Deferred}{d:Nat}{e:Env}{k:List Item}{ops:Array Oper}{i:Nat}{l:List Oper}{dst:Option Nat}{ty:TypeId}{ps:String}{af:Array Edge}{f:FuncId}{fn:Func}{asx:Array Operand}{ats:Array TypeId}
theorem G0.eu1 (hk:b.kind≠.early) (hd:m4 n dst=true) (hf:P.funcs[f]? =some fn) (L2:(fn.name== "runtime.NumGoroutine")=false) (hb:fn.body.isNone=true) (hn:Extern.findNext fn=none) (he:Extern.find fn=some (Extern.Race.marked .releaseMerge)) (hx:(asx.toList.map (ev e))[0]? =some (.pointer (some A))) (hF:Fp pm)
  (h:G0 (YLt P gr) ft n b cs ds 0 (k3 e dst (.tuple #[])) ops (i+1) l k):G0 (YM P false gr L (zc0 P gr A Fp) pm) (ft+1) n b cs ds 0 e ops i (⟨dst,.call {callee:=.value (.func f),args:=asx,argTypes:=ats},ty,ps,af,none⟩::l) k:=by
 intro hl a ha _;obtain⟨ho,u5⟩:=C3 hl;refine .inl ⟨rfl,hF,_,fun w=>stepG_markAt (P:=P) .releaseMerge (by simp) ho (by rw[ha.yielded];rfl) hk rfl hf L2 hb hn he (by rw[ha.eval,Y6 rfl];simpa using hx),h u5 _ (ha.put hd _)⟩
abbrev YWA (P:Program) (gr:N4) (A:Addr) (K:Goroutine->Prop):Nat->Nat->Goroutine->Prop:=fun m d g=>WA P gr A K m d g
theorem u4:HF P true (okM gr) (YWA P gr A K):=⟨fun _m _d _g g' es h1 _ h3 h4 h5=>⟨h1,.inl ⟨g',es,fun e he=>tq0 (h3 e he),fun w _=>h4 w,h5⟩⟩⟩
theorem Zw0:StG P true gr (YWA P gr A K):=fun m d g g' h1 _ h3 h4=>⟨h1,.inl ⟨g',#[],fun e he=>by simp at he,fun w hw=>h3 w _ _ hw,h4⟩⟩
theorem G0.Tq0 {x:Operand} (hk:b.kind≠.early) (hd:m4 n dst=true) (hf:P.funcs[f]? =some fn) (L2:(fn.name== "runtime.NumGoroutine")=false) (hb:fn.body.isNone=true) (hn:Extern.findNext fn=none) (he:Extern.find fn=some (Extern.Atomic.loadT (.int .u64))) (hx:ev e x= .pointer (some ⟨gr.blk,gr.off,none⟩))
  (h:G0 (YWA P gr A K) ft n b cs ds d (k3 e dst (.int .u64 0)) ops (i+1) l k) :
  G0 (YWA P gr A K) (ft+1) n b cs ds d e ops i (⟨dst,.call {callee:=.value (.func f),args:=#[x],argTypes:=ats},ty,ps,af,none⟩::l) k:=by
 intro hl a ha;obtain⟨ho,u5⟩:=C3 hl;refine⟨rfl,.inl ⟨G (b.at (a.put dst (.int .u64 0)) (.inRegion ops (List.range' (i+1) l.length)::k)) cs,#[rdA (stA gr)],hw0,fun w hw=>?_,?_⟩⟩
 ·exact stepG_load_atomic ho (by rw[ha.yielded];rfl) hk rfl hf L2 hb hn .u64 he (ad:=stA gr) (by rw[ha.eval];exact hx) hw.cells.1
 ·rw[deafBehind_still G8];exact h u5 _ (ha.put hd _)
theorem G0.Zx0 (hk:b.kind≠.early) (hd:m4 n dst=true) (hf:P.funcs[f]? =some fn) (L2:(fn.name== "runtime.NumGoroutine")=false) (hb:fn.body.isNone=true) (hn:Extern.findNext fn=none) (he:Extern.find fn=some (Extern.Race.marked .acquire)) (hx:(asx.toList.map (ev e))[0]? =some (.pointer (some A)))
  (h:G0 (YWE P gr K) ft n b cs ds 0 (k3 e dst (.tuple #[])) ops (i+1) l k):G0 (YWA P gr A K) (ft+1) n b cs ds 0 e ops i (⟨dst,.call {callee:=.value (.func f),args:=asx,argTypes:=ats},ty,ps,af,none⟩::l) k:=by
 intro hl a ha;obtain⟨ho,u5⟩:=C3 hl;exact⟨rfl,.inr ⟨rfl,_,fun w=>stepG_markAt (P:=P) .acquire (by simp) ho (by rw[ha.yielded];rfl) hk rfl hf L2 hb hn he (by rw[ha.eval,Y6 rfl];simpa using hx),h u5 _ (ha.put hd _)⟩⟩
end
end
end Go.Vy
end
section
namespace Go.Proofs.YtnifpkopeheodaaGreat
open Go Go.Conc Go.Yc Go.Vy Go.Wg
open Go.Vc (Env upd k3 ev m4 Y2)
section
attribute [local irreducible] KK
set_option maxRecDepth 20000 in
theorem Tr0 (gr:N4) {L:P3} {Fp:PM->Prop} {pm:PM} (hF:Fp pm) {c:Frame} {cs:List Frame} (hcm:c.mode= .returning) {N:Nat} (hT:QuitsD Tryz.prog N 0 (Conc.G c cs)):At (YM Tryz.prog false gr L (zc0 Tryz.prog gr (stA gr) Fp) pm) (N+500) 4 (baseD 68) (c::cs) [] 0 (Wg.J7 #[.pointer (some ⟨gr.blk,gr.off,none⟩)]) [.code (Tryz.f68.body.getD .skip)]:=by
 refine At.region E2 ?_;refine G0.val E2 (bkd _) rfl (v:=.pointer (some ⟨gr.blk,gr.off,none⟩)) (I0 rfl) ?_;refine G0.call E2 (bkd _) [.pointer (some ⟨gr.blk,gr.off,none⟩),.int .i64 (-1)] 117 rfl Tryz.func66 Lb0 rfl rfl rfl (fun cs1 E5=>?_);refine At.seq E2 ?_;refine At.J4 E2 rfl ?_;refine At.seq E2 ?_;refine U18 ?_;refine G0.val E2 (Y0 _) rfl (v:=.int .i64 (-1)) (I0 rfl) ?_;refine U424 ?_;refine At.J4 E2 rfl ?_;refine At.region E2 ?_;refine G0.val E2 (Y0 _) rfl (v:=.pointer (some ⟨gr.blk,gr.off,none⟩)) (I0 rfl) ?_;refine G0.toUnsafe ep1 (Y0 _) rfl rfl (.inl rfl) Tryz.underlying165 Tryz.underlying128 Ai0 ?_;refine G0.eu1 (Y0 _) rfl Tryz.func87 Wp0 rfl rfl Xd0 rfl hF ?_;refine U437 ?_;simp only[dn0];refine G0.nil (A3 _ gr) ?_;refine U509 ?_;refine U163 ?_;refine U447 ?_;refine U271 ?_;refine U407 ?_;refine U539 ?_;refine U95 ?_;refine U361 ?_;refine G0.val (A3 _ gr) (Y0 _) rfl (v:=.int .i64 (-1)) (I0 rfl) ?_;refine U313 ?_;refine U404 ?_;intro cs2 hb2;refine U494 ?_;refine U201 ?_;refine U321 ?_;refine G0.Nx0 (Y0 _) rfl Tryz.func109 Fx0 rfl rfl Fy0 rfl rfl (fun v wt hwt hv B3=>?_) ?_
 ·by_cases hv0:0<v
  ·have hwc:wt=0\/wt=1:=by omega
   rcases hwc with rfl|rfl
   ·refine G0.val (j0 _) (Y0 _) rfl (v:=.int .u64 (((v*4294967296+0:Nat):Int))) (Q0 rfl) ?_;refine G0.nil (j0 _) ?_;refine At.ret (j0 _) (fun _=>?_);refine U336 ?_;refine U24 ?_;refine U329 ?_;refine U85 ?_;refine U142 ?_;refine U374 ?_;refine G0.nil (j0 _) ?_;refine U142 ?_;refine U392 ?_;refine U24 ?_;refine U135 ?_;refine U189 ?_;refine U192 ?_;refine U252 ?_;refine U190 ?_;refine At.ret (j0 _) (fun _=>?_);refine AtR.mark (j0 _) .enable (by simp) rfl Tryz.func89 jv0 rfl rfl jw0 ?_;simp only[w6];refine U32 ?_;refine At.done (j0 _) (fun _=>?_);exact U31
   ·refine G0.val (j0 _) (Y0 _) rfl (v:=.int .u64 (((v*4294967296+1:Nat):Int))) (Q0 rfl) ?_;refine G0.nil (j0 _) ?_;refine At.ret (j0 _) (fun _=>?_);refine U337 ?_;refine U24 ?_;refine U330 ?_;refine U85 ?_;refine U143 ?_;refine U373 ?_;refine G0.nil (j0 _) ?_;refine U143 ?_;refine U324 ?_;refine U473 ?_;refine U135 ?_;refine U189 ?_;refine U29 ?_;refine U366 ?_;refine U135 ?_;refine U261 ?_;refine U190 ?_;refine At.ret (j0 _) (fun _=>?_);refine AtR.mark (j0 _) .enable (by simp) rfl Tryz.func89 jv0 rfl rfl jw0 ?_;simp only[w6];refine U32 ?_;refine At.done (j0 _) (fun _=>?_);exact U31
  ·obtain rfl:v=0:=by omega
   obtain rfl:wt=0:=by omega
   refine U206 ?_;refine At.ret (j0 _) (fun _=>?_);refine U412 ?_;refine U29 ?_;refine U331 ?_;refine U85 ?_;refine U144 ?_;refine U312 ?_;refine U405 ?_;refine U144 ?_;refine U394 ?_;refine U24 ?_;refine U135 ?_;refine U197 ?_;refine U195 ?_;refine U419 ?_;refine U192 ?_;refine U195 ?_;refine U367 ?_;refine U358 ?_;refine U428 ?_;refine At.J4 (j0 _) rfl ?_;refine At.ret (j0 _) (fun _=>?_);refine AtR.mark (j0 _) .enable (by simp) rfl Tryz.func89 jv0 rfl rfl jw0 ?_;simp only[w6];refine U32 ?_;refine At.done (j0 _) (fun _=>?_);exact U31
 ·refine G0.val (P0 _ gr 2) (Y0 _) rfl (v:=.int .u64 (((0*4294967296+1:Nat):Int))) (Q0 rfl) ?_;refine G0.nil (P0 _ gr 2) ?_;refine At.ret (P0 _ gr 2) (fun _=>?_);refine U333 ?_;refine U535 ?_;refine U73 ?_;refine U332 ?_;refine U74 ?_;refine U37 ?_;refine U73 ?_;refine U310 ?_;refine U402 ?_;refine U73 ?_;refine U322 ?_;refine U421 ?_;refine U44 ?_;refine U372 ?_;refine U129 ?_;refine U74 ?_;refine U94 ?_;refine U37 ?_;refine U146 ?_;refine U387 ?_;refine U202 ?_;refine U44 ?_;refine U362 ?_;refine U372 ?_;refine U129 ?_;refine U74 ?_;refine U94 ?_;refine U37 ?_;refine U146 ?_;refine U360 ?_;refine U357 ?_;refine U37 ?_;refine U44 ?_;refine U127 ?_;refine U323 ?_;intro cs3 hb3;refine U69 ?_;refine U422 ?_;refine U69 ?_;refine U127 ?_;refine U326 ?_;refine U423 ?_;refine At.ret (P0 _ gr 1) (fun _=>?_);refine U476 ?_;refine U525 ?_;refine U536 ?_;refine U165 ?_;refine U320 ?_;intro cs4 hb4;refine U165 ?_;refine U325 ?_;refine U432 ?_;refine At.done (P0 _ gr 0) (fun _=>?_);refine U459 ?_;refine U168 ?_;refine U429 ?_;refine U526 ?_;refine U532 ?_;refine U168 ?_;refine U363 ?_;refine U527 ?_;refine At.skip (P0 _ gr 0) ?_;refine U534 ?_;refine U383 ?_;refine U316 ?_;refine U454 ?_;refine At.inBlock (j0 _) ?_;refine U439 ?_;refine U368 ?_;refine U540 ?_;refine U207 ?_;refine U425 ?_;refine At.exit (j0 _) rfl ?_;refine At.done (j0 _) (fun _=>?_);refine AtR.mark (j0 _) .enable (by simp) rfl Tryz.func89 jv0 rfl rfl jw0 ?_;simp only[w6];refine U32 ?_;refine At.done (j0 _) (fun _=>?_);exact U31
set_option maxRecDepth 20000 in
theorem ze0 (gr:N4) (K:Goroutine->Prop) {c:Frame} {cs:List Frame} (hK:K (Conc.G (c.finish (.tuple #[])) cs)):∀(V:Nat),V<2147483648->∀(e:Env),At (XWH Tryz.prog gr (WA Tryz.prog gr (stA gr) K) none V) (500*V+500) 84 (base 70) (c::cs) [] 1 (upd e 0 (.pointer (some ⟨gr.blk,gr.off,none⟩))) [.code Aj0,.inLoop Aj0,.inBlock 0]:=by
 intro V
 induction V using Nat.strongRecOn with
 |_ V ih=>
 intro hV e;refine At.block n2 ?_;refine U8 ?_;refine U133 ?_;refine U495 ?_;intro cs1 E5;refine U475 ?_;refine U8 ?_;refine U132 ?_;refine G0.Fn0 (Y0 _) rfl Tryz.func110 vv0 rfl rfl vw0 rfl ?_ (fun v hv hv0=>?_)
 ·refine G0.val u4 (Y0 _) rfl (v:=.int .u64 0) (Q0 rfl) ?_;refine G0.nil u4 ?_;refine At.ret u4 (fun _=>?_);refine AtR.leave1 u4 E5 rfl Tryz.func96 rfl (.int .u64 0) rfl ?_;refine U231 ?_;refine U513 ?_;refine G0.val u4 (Y0 _) rfl (v:=.int .u64 0) (co0 (r:=0) rfl rfl (by decide) (by decide)) ?_;refine G0.val u4 (Y0 _) rfl (v:=.int .i32 0) (m3 (r:=0) rfl Tryz.underlying136 Tryz.underlying21 (by decide)) ?_;refine G0.val u4 (Y0 _) rfl (v:=.int .i32 0) (Q0 rfl) ?_;refine G0.nil u4 ?_;refine U513 ?_;refine G0.val u4 (Y0 _) rfl (v:=.int .u64 0) (J6 (r:=0) rfl rfl (by decide)) ?_;refine G0.val u4 (Y0 _) rfl (v:=.int .u32 0) (m3 (r:=0) rfl Tryz.underlying136 Tryz.underlying139 (by decide)) ?_;refine G0.val u4 (Y0 _) rfl (v:=.int .u32 0) (Q0 rfl) ?_;refine U264 ?_;refine U154 ?_;refine G0.val u4 (Y0 _) rfl (v:=.int .i32 0) (I0 rfl) ?_;refine G0.val u4 (Y0 _) rfl (v:=.bool true) (v9 (r:=true) rfl rfl (by decide)) ?_;refine G0.nil u4 ?_;refine At.J4 u4 rfl ?_;refine At.seq u4 ?_;refine At.J4 u4 rfl ?_;refine U434 ?_;simp only[w6];refine G0.nil u4 ?_;refine U212 ?_;refine U369 ?_;refine U77 ?_;refine U23 ?_;refine U375 ?_;refine U388 ?_;refine U355 ?_;refine U385 ?_;refine G0.off G2 rfl rfl ?_;refine U450 ?_;refine U175 ?_;refine At.ret G2 (fun _=>?_);exact U161
 ·refine G0.val n2 (Y0 _) rfl (v:=.int .u64 (((v*4294967296+0:Nat):Int))) (Q0 rfl) ?_;refine G0.nil n2 ?_;refine At.ret n2 (fun _=>?_);refine U346 ?_;refine G0.nil n2 ?_;refine U145 ?_;refine U314 ?_;refine U440 ?_;refine U145 ?_;refine U327 ?_;refine U463 ?_;refine At.seq n2 ?_;refine U8 ?_;refine U356 ?_;refine U262 ?_;refine U8 ?_;refine U133 ?_;refine U353 ?_;refine U311 ?_;intro cs2 hb2;refine U8 ?_;refine U464 ?_;refine U8 ?_;refine U132 ?_;refine U354 ?_;refine G0.Ny0 (vs:=v) (Y0 _) rfl Tryz.func112 Oe0 rfl rfl On0 rfl rfl rfl ?_ (fun v2 hv2=>?_)
  ·refine G0.val A4 (Y0 _) rfl (v:=.bool true) (Q0 rfl) ?_;refine G0.nil A4 ?_;refine At.ret A4 (fun _=>?_);refine U500 ?_;refine U508 ?_;refine U496 ?_;refine U246 ?_;refine U194 ?_;refine U338 ?_;rw[v8 _ rfl];refine G0.nil A4 ?_;refine U224 ?_;refine U460 ?_;refine U263 ?_;refine U340 ?_;refine U371 ?_;refine U446 ?_;refine U551 ?_;refine At.skip A4 ?_;refine At.seq A4 ?_;refine U194 ?_;refine U389 ?_;refine U264 ?_;refine U420 ?_;refine G0.val u4 (Y0 _) rfl (v:=.pointer (some ⟨gr.blk,gr.off,none⟩)) (u3 (s:=1) gr.off gr.off rfl Tryz.underlying141 rfl ln0 (by decide) rfl) ?_;refine G0.call u4 (Y0 _) [.pointer (some ⟨gr.blk,gr.off,none⟩)] 7 rfl Tryz.func96 Lc0 rfl rfl rfl (fun cs3 hb3=>?_);refine U154 ?_;refine U231 ?_;refine At.seq u4 ?_;refine U420 ?_;refine G0.val u4 (Y0 _) rfl (v:=.pointer (some ⟨gr.blk,gr.off,none⟩)) (u3 (s:=1) gr.off gr.off rfl Tryz.underlying138 rfl lm0 (by decide) rfl) ?_;refine G0.Tq0 (Y0 _) rfl Tryz.func110 vv0 rfl rfl vw0 rfl ?_;refine U231 ?_;refine At.ret u4 (fun _=>?_);refine AtR.leave1 u4 hb3 rfl Tryz.func96 rfl (.int .u64 0) rfl ?_;refine G0.val u4 (Y0 _) rfl (v:=.bool false) (n7 (r:=false) rfl rfl (by decide)) ?_;refine G0.val u4 (Y0 _) rfl (v:=.bool false) (Q0 rfl) ?_;refine U264 ?_;refine At.J4 u4 rfl ?_;refine U434 ?_;simp only[w6];refine G0.nil u4 ?_;refine U212 ?_;refine U369 ?_;refine U77 ?_;refine U504 ?_;refine U175 ?_;refine At.ret G2 (fun _=>?_);exact U161
  ·refine G0.val n2 (Y0 _) rfl (v:=.bool false) (Q0 rfl) ?_;refine G0.nil n2 ?_;refine At.ret n2 (fun _=>?_);refine U498 ?_;refine U552 ?_;exact At.Fj0 (E:=WA Tryz.prog gr (stA gr) K) (fun _ _ _ _=>WA.mono _ _ _ _) (At.kg0 (fun e=>ih v2 (by omega) (by omega) e) rfl) (by omega)
set_option maxRecDepth 20000 in
theorem Ts0 (gr:N4) (K:Goroutine->Prop) {c:Frame} {cs:List Frame} (hK:K (Conc.G (c.finish (.tuple #[])) cs)) (V:Nat) (hV:V<2147483648):At (XWH Tryz.prog gr (WA Tryz.prog gr (stA gr) K) none V) (500*V+510) 84 (base 70) (c::cs) [] 0 (Wg.J7 #[.pointer (some ⟨gr.blk,gr.off,none⟩)]) [.code (Tryz.f70.body.getD .skip)]:=by
 refine At.seq n2 ?_;refine At.J4 n2 rfl ?_;refine U408 ?_;simp only[dn0];refine G0.nil n2 ?_;refine At.block n2 ?_;refine At.loop n2 ?_;exact At.Fj0 (E:=WA Tryz.prog gr (stA gr) K) (fun _ _ _ _=>WA.mono _ _ _ _) (At.kg0 (fun e=>ze0 gr K hK V hV e) rfl) (by omega)
end
end Go.Proofs.YtnifpkopeheodaaGreat
end
section
namespace Go.Vy
open Go Go.Conc Go.Yc Go.RowKit
open Go.Vc Go.Wg
section
attribute [local irreducible] KK
theorem ea0 {pm:PM} {b:Nat} {o o':Obj} (h:(b,o)∈pm):(b,o')∈jq0 pm b o':=List.mem_map.2 ⟨(b,o),h,by simp⟩
section
variable {P:Program}{ρ:Operand->Value}{d:Option Nat}{ty:TypeId}{ps:String}{af:Array Edge}{g:Option (Nat×Bool)}{x y:Operand}{T T':TypeId}
theorem ml0:Op.maxDepth=9999+1:=rfl
theorem Tt0 {p:Addr} {u:TypeId} (hx:ρ x= .pointer (some p)) (hy:ρ y= .pointer none) (hT:P.underlying T=some (.pointer u)):Pu P (execOp ρ ⟨d,.binOp .eql T x y T',ty,ps,af,g⟩) (.bool false):=by
 refine⟨fun w=>Go.Vc.c5 hx hy hT,fun w=>?_⟩;have h2:(Op.equalIn Op.maxDepth T (.pointer (some p)) (.pointer none)).events P w #[]=#[]:=by rw[ml0,Op.equalIn];simp[run_underlying hT,go_sem]
 simp[execOp,hx,hy,go_sem,eqGuard,binOp,Op.equal,h2]
theorem Tu0 {p:Addr} {u:TypeId} (hx:ρ x= .pointer (some p)) (hy:ρ y= .pointer none) (hT:P.underlying T=some (.pointer u)):Pu P (execOp ρ ⟨d,.binOp .neq T x y T',ty,ps,af,g⟩) (.bool true):=by
 refine⟨fun w=>Go.Vc.B7 hx hy hT,fun w=>?_⟩;have h2:(Op.equalIn Op.maxDepth T (.pointer (some p)) (.pointer none)).events P w #[]=#[]:=by rw[ml0,Op.equalIn];simp[run_underlying hT,go_sem]
 simp[execOp,hx,hy,go_sem,eqGuard,binOp,Op.equal,h2]
theorem zf0 {u:TypeDesc} (hx:ρ x= .nilFunc) (hy:ρ y= .nilFunc) (hT:P.underlying T=some u) (hu:∃a b c,u= .func a b c):Pu P (execOp ρ ⟨d,.binOp .eql T x y T',ty,ps,af,g⟩) (.bool true):=by
 refine⟨fun w=>Go.Vc.C7 hx (.inl ⟨rfl,rfl⟩) hy hT hu,fun w=>?_⟩;obtain⟨a,b,c,rfl⟩:=hu;have h2:(Op.equalIn Op.maxDepth T .nilFunc .nilFunc).events P w #[]=#[]:=by rw[ml0,Op.equalIn];simp[run_underlying hT,go_sem]
 simp[execOp,hx,hy,go_sem,eqGuard,binOp,Op.equal,h2]
theorem Ji0 {b o n c s:Nat} {E:TypeId} {i:Nat} (r:Nat) (hx:ρ x= .slice (some ⟨b,o,none⟩) n c) (hy:ρ y= .int .i64 (i:Int)) (hT:P.underlying T=some (.slice E)) (hs:(P.info? E).map (·.size)=some s) (h:i<n) (hr:o+i*s=r):Pu P (execOp ρ ⟨d,.indexAddr T x y,ty,ps,af,g⟩) (.pointer (some ⟨b,r,none⟩)):=by
 subst hr;refine⟨fun w=>Go.Vc.p9 hx hy hT hs h,fun w=>?_⟩;have h1:=Go.Vc.p9 (d:=d) (ty:=ty) (ps:=ps) (af:=af) (g:=g) (w:=w) hx hy hT hs h;obtain⟨inf,hi,hs'⟩:=Option.map_eq_some_iff.1 hs;simp[execOp,hx,hy,Instr.indexAt,go_sem,run_underlying hT,sizeOf,typeInfo,hi];intro hh;omega
end
section
variable {P:Program}{main:Bool}{b c:Frame}{a:Act}{k todo:List Item}{cs:List Frame}{w:World}{ops:Array Oper}{i:Nat}{rest:List Nat}{f:FuncId}{fn:Func}{args caps:Array Value}
theorem Cz0 {x:Operand} {dst:Option Nat} {ty:TypeId} {ps:String} {af:Array Edge} (hk:b.kind≠.early) (ho:ops[i]? =some ⟨dst,.go {callee:=.value x,args:=#[],argTypes:=#[]},ty,ps,af,none⟩) (hx:a.eval x= .func (.func f) #[] caps) (w:World) :
  stepG P main (G (b.at a (.inRegion ops (i::rest)::k)) cs) w= .spawn (G (b.at (a.put dst undef) (.inRegion ops rest::k)) cs) (born P {target:=.fn (.func f) caps,args:=#[]}) w #[]:=by
 have hr:(execOp a.eval ⟨dst,.go {callee:=.value x,args:=#[],argTypes:=#[]},ty,ps,af,none⟩).run P w= .ok (.spawn {target:=.fn (.func f) caps,args:=#[]}) w:=by
  unfold execOp;simp[resolve,Deferred.ofValue,hx]
 have he:(execOp a.eval ⟨dst,.go {callee:=.value x,args:=#[],argTypes:=#[]},ty,ps,af,none⟩).events P w #[]=#[]:=by
  unfold execOp;simp[resolve,Deferred.ofValue,hx]
 rw[stepG_spawn ho rfl hk hr rfl,listed,he,seen_none]
theorem zg0 {body:Code} (hf:P.funcs[f]? =some fn) (L2:(fn.name== "runtime.NumGoroutine")=false) (hb:fn.body=some body) :
  stepG P main (born P {target:=.fn (.func f) caps,args}) w= .go (G ((baseD f).at {tmps:=(args++caps)++Array.replicate (fn.ntmps-(args++caps).size) undef,defers:=[]} [.code body]) [g6 P]) w #[]:=by
 have h1:¬fn.name= "runtime.NumGoroutine":=by simpa using L2
 rw[<- enter_atD (args++caps) hf hb];simp[born,G,stepG,unwind,callDeferred,invoke,callFunc,hf,h1,hb,GStep.after,seen_none,g6];exact⟨rfl,rfl,rfl,rfl⟩
theorem Jj0 {ok:Event->Prop} {Y:Nat->Nat->Goroutine->Prop} {ft d:Nat} {c:Code} (hY:HF P main ok Y) (m:Nat) (hf:P.funcs[f]? =some fn) (L2:(fn.name== "runtime.NumGoroutine")=false) (hb:fn.body=some c) (hm:(args++caps).size+(fn.ntmps-(args++caps).size)=m) (h:At Y ft m (baseD f) [g6 P] [] d (Wg.J7 (args++caps)) [.code c]):Y (ft+1) d (born P {target:=.fn (.func f) caps,args}) :=
 hY.c rfl rfl (fun _w=>zg0 hf L2 hb) (h _ (D7 (args++caps) _ hm))
theorem zh0 {n:Nat} {e:Env} (hc:sr0 n b [g6 P] [] e todo c) (hn:b.kind= .deferred) (hf:P.funcs[b.fn]? =some fn) (hr:fn.results=#[]):QuitsD P 2 0 (G c [g6 P]):=by
 obtain⟨a,ha,rfl⟩:=hc.rep;refine .inr ⟨rfl,_,#[],fun e he=>by simp at he,fun w=>ra0 (fn:=fn) hn ha.defers hf (results_none hr _ _ w) (events_results_none hr _ _),?_⟩;exact .inr ⟨rfl,_,#[],fun e he=>by simp at he,fun w=>rc0,rfl,rfl⟩
end
section
theorem MP.end {P:Program} {main:Bool} {gr:N4} {L:P3} {E:Nat->PM->Goroutine->Prop} {n:Nat} {pm:PM} {g:Goroutine} (h:E n pm g):MP P main gr L E (n+1) pm g:=by unfold MP;exact .inl h
variable {P:Program}{Post:Value->World->Prop}{X:Gh}{n:Nat}{b:Frame}{cs:List Frame}{e:Env}{k:List Item}{ops:Array Oper}{i:Nat}{rest:List Nat}{ty:TypeId}{ps:String}{af:Array Edge}{x:Operand}{w:World}
theorem ZA.beside {f:FuncId} {caps:Array Value} {gr:N4} {A:Addr} {bx np:Nat} {ox0 ox:Obj} {L0 Lc:P3} {K:Goroutine->Prop} (hb:b.kind≠.early) (ho:ops[i]? =some ⟨none,.go {callee:=.value x,args:=#[],argTypes:=#[]},ty,ps,af,none⟩) (hx:ev e x= .func (.func f) #[] caps)
  (g9:X.dn=0) (ix0:X.pend=1) (ey0:X.cap=1) (hG:X.O2=some gr) (z8:∀i,X.D1 i=none) (hl:J9 X bx) (hw:¬X.low bx) (K9:X.O4 bx= .all) (hB:w.heap[bx]? =some ox0) (R2:∀p,p∈L0\/p∈Lc->w.cell? p.1=some p.2/\p.1.block≠bx/\¬GB X p.1.block)
  (To0:At (YM P true gr L0 (Mz0 P gr A K) []) np n b cs [] 0 e (.inRegion ops rest::k)) (Z5:∃nc,MP P false gr Lc (zc0 P gr A (fun pm=>(bx,ox)∈pm)) nc [(bx,ox0)] (born P {target:=.fn (.func f) caps,args:=#[]})) (hox:∃cs T f,ox= .cells cs T f) (hK:∀k g,K g->Fin P Post (X.gx0 w bx k) 0 g (dz0 w bx ox k)) :
  ZA (Fin P Post X 0) n b cs e (.inRegion ops (i::rest)::k) w:=by
 intro a ha;obtain⟨nc,Z5⟩:=Z5;exact Fin.beside (g1:=G (b.at (a.put none undef) (.inRegion ops rest::k)) cs) rfl g9 ix0 ey0 hG z8 (fun w=>Cz0 hb ho (by rw[ha.eval];exact hx) w) hl hw K9 hB R2 (To0 a (gm0 ha) rfl) Z5 hox hK
end
end
end Go.Vy
end
section
namespace Go.Proofs.YtnifpkopeheodaaGreat
open Go Go.Conc Go.Yc Go.Vy Go.Wg
open Go.Vc (Env upd k3 ev m4 Y2)
section
attribute [local irreducible] KK
abbrev js0 (bw:Nat) (v:Int):Obj:=.cells #[.int .i64 1,.int .i64 1,.pointer (some ⟨bw,0,none⟩),.int .i64 v] 145 (0,0)
abbrev stC (bb b6 bx bw:Nat):P3:=[(⟨bb,0,none⟩,.func (.func 45) #[] #[.pointer (some ⟨b6,0,none⟩)]),(⟨b6,0,none⟩,.pointer (some ⟨bx,0,none⟩)),(⟨bw,0,none⟩,.bool true)]
abbrev fpC (bx bw:Nat) (pm:PM):Prop:=(bx,js0 bw 5)∈pm
set_option maxRecDepth 20000 in
theorem Na0 (gr:N4) (bb b6 bx bw:Nat):∃n,MP Tryz.prog false gr (stC bb b6 bx bw) (zc0 Tryz.prog gr (stA gr) (fpC bx bw)) n [(bx,js0 bw 0)] (born Tryz.prog {target:=.fn (.func 67) #[.pointer (some ⟨gr.blk,gr.off,none⟩),.pointer (some ⟨bb,0,none⟩)],args:=#[]}):=by
 refine⟨580,(?_:YM Tryz.prog false gr (stC bb b6 bx bw) (zc0 Tryz.prog gr (stA gr) (fpC bx bw)) [(bx,js0 bw 0)] 580 0 _) rfl⟩;refine Jj0 E2 4 Tryz.func67 co1 rfl rfl ?_;refine U18 ?_;refine G0.defer E2 (bkd _) [.pointer (some ⟨gr.blk,gr.off,none⟩)] rfl ?_;refine G0.nil E2 ?_;refine U18 ?_;refine G0.defer E2 (bkd _) [] rfl ?_;refine G0.nil E2 ?_;refine At.region E2 ?_;refine G0.jr0 (bkd _) rfl (v:=.func (.func 45) #[] #[.pointer (some ⟨b6,0,none⟩)]) rfl Tryz.underlying1 rfl (.inl (.head _)) ?_;refine G0.Zv0 E2 (bkd _) (caps:=#[.pointer (some ⟨b6,0,none⟩)]) 3 rfl rfl Tryz.func45 ci1 rfl rfl (fun cs1 E5=>?_);refine At.region E2 ?_;refine G0.jr0 (Y0 _) rfl (v:=.pointer (some ⟨bx,0,none⟩)) rfl Tryz.underlying86 rfl (.inl (.tail _ (.head _))) ?_;refine G0.call E2 (Y0 _) [.pointer (some ⟨bx,0,none⟩),.pointer none,.int .i64 5] 26 rfl Tryz.func42 cg1 rfl rfl rfl (fun cs2 hb2=>?_);refine U18 ?_;refine G0.Zs0 (v:=.pointer (some ⟨bx,0,none⟩)) (cs0:=[.pointer (some ⟨bx,0,none⟩)]) (Y0 _) rfl rfl rfl (fun q1=>?_);refine G0.Zs0 (v:=.int .i64 5) (cs0:=[.int .i64 5]) (Y0 _) rfl rfl rfl (fun q2=>?_);refine G0.nil E2 ?_;refine At.block E2 ?_;refine U380 ?_;refine G0.val E2 (Y0 _) rfl (v:=.bool false) (Tt0 rfl rfl Tryz.underlying86) ?_;refine U486 ?_;refine At.O5 E2 rfl ?_;refine U380 ?_;refine G0.val E2 (Y0 _) rfl (v:=.pointer (some ⟨bx,0,none⟩)) (G3 rfl) ?_;refine G0.val E2 (Y0 _) rfl (v:=.pointer (some ⟨bx,2,none⟩)) (u3 (s:=1) 0 2 rfl Tryz.underlying145 rfl Fs0 (by decide) rfl) ?_;refine G0.jr0 (Y0 _) rfl (v:=.pointer (some ⟨bw,0,none⟩)) rfl Tryz.underlying56 rfl (.inr ⟨_,_,(.tail _ (.tail _ (.head _))),rfl,rfl⟩) ?_;refine G0.call E2 (Y0 _) [.pointer (some ⟨bw,0,none⟩)] 11 rfl Tryz.func44 xw0 rfl rfl rfl (fun cs3 hb3=>?_);refine U18 ?_;refine U486 ?_;refine U18 ?_;refine G0.val E2 (Y0 _) rfl (v:=.pointer (some ⟨bw,0,none⟩)) (I0 rfl) ?_;refine G0.val E2 (Y0 _) rfl (v:=.bool true) (Tu0 rfl rfl Tryz.underlying56) ?_;refine G0.val E2 (Y0 _) rfl (v:=.bool true) (I0 rfl) ?_;refine G0.M8 E2 (Y0 _) rfl rfl (v:=.pointer (some ⟨bw,0,none⟩)) (I0 rfl) ?_;refine G0.M8 E2 (Y0 _) rfl rfl (v:=.pointer (some ⟨bw,0,none⟩)) (G3 rfl) ?_;refine G0.M8 E2 (Y0 _) rfl rfl (v:=.pointer (some ⟨bw,0,none⟩)) (u3 (s:=1) 0 0 rfl Tryz.underlying105 rfl sz4 (by decide) rfl) ?_;refine G0.Tm0 (Y0 _) rfl rfl (v:=.bool true) rfl Tryz.underlying4 rfl (.inl (.tail _ (.tail _ (.head _)))) ?_;refine G0.val E2 (Y0 _) rfl (v:=.bool true) (Z7 rfl rfl) ?_;refine U487 ?_;refine At.ret E2 (fun _=>?_);refine AtR.leave1 E2 hb3 rfl Tryz.func44 rfl (.bool true) rfl ?_;refine U487 ?_;refine At.J4 E2 rfl ?_;refine At.region E2 ?_;refine G0.jr0 (Y0 _) rfl (v:=.pointer (some ⟨bx,0,none⟩)) rfl Tryz.underlying86 rfl (.inr ⟨_,_,(.tail _ (.head _)),rfl,rfl⟩) ?_;refine G0.jr0 (Y0 _) rfl (v:=.int .i64 5) rfl Tryz.underlying3 rfl (.inr ⟨_,_,(.head _),rfl,rfl⟩) ?_;refine G0.val E2 (Y0 _) rfl (v:=.pointer (some ⟨bx,0,none⟩)) (G3 rfl) ?_;refine G0.val E2 (Y0 _) rfl (v:=.pointer (some ⟨bx,3,none⟩)) (u3 (s:=1) 0 3 rfl Tryz.underlying145 rfl sz3 (by decide) rfl) ?_;refine G0.Iy0 (v:=.int .i64 5) (Y0 _) rfl rfl sz3 rfl (.tail _ (.tail _ (.head _))) rfl ?_;refine G0.nil E2 ?_;refine At.inBlock E2 ?_;refine At.done E2 (fun _=>?_);refine AtR.leave0 E2 hb2 rfl Tryz.func42 rfl ?_;refine G0.nil E2 ?_;refine At.done E2 (fun _=>?_);refine AtR.leave0 E2 E5 rfl Tryz.func45 rfl ?_;refine G0.nil E2 ?_;refine At.done E2 (fun _=>?_);refine AtR.Jh0 E2 1 Tryz.func69 cp1 rfl rfl (fun cf1 l8=>?_);refine At.region E2 ?_;refine G0.ij0 E2 rfl rfl rfl l8.mode ?_;refine G0.nil E2 ?_;refine At.done E2 (fun _=>?_);refine AtR.leaveD E2 rfl Tryz.func69 rfl l8.mode ?_;refine l8.go ?_;refine AtR.Jh0 E2 4 Tryz.func68 Wl0 rfl rfl (fun cf2 hc2=>?_);exact Tr0 gr (ea0 (.tail _ (.tail _ (.head _)))) hc2.mode (zh0 hc2 rfl Tryz.func67 rfl)
end
end Go.Proofs.YtnifpkopeheodaaGreat
end
section
namespace Go.Vy.Sc
open Go Go.Conc Go.Yc Go.RowKit Go.Proofs Go.Proofs.YtnifpkopeheodaaGreat Tryz
open Go.Vc Go.Wg
section
attribute [local irreducible] KK
structure wx0 (w:World) (bs b6 bx bw:Nat):Prop where
 sl:S0 w bs #[.func (.func 45) #[] #[.pointer (some ⟨b6,0,none⟩)],.nilFunc] 1
 p6:S0 w b6 #[.pointer (some ⟨bx,0,none⟩)] 86
 cx:w.heap[bx]? =some (js0 bw 0)
 cw:S0 w bw #[.bool true] 105
theorem wx0.A0 {w w':World} {bs b6 bx bw:Nat} (h:wx0 w bs b6 bx bw) (hk:∀b,b<w.heap.size->w'.heap[b]? =w.heap[b]?):wx0 w' bs b6 bx bw :=
 ⟨(hk bs h.sl.lt).trans h.sl,(hk b6 h.p6.lt).trans h.p6,(hk bx (Array.getElem?_eq_some_iff.1 h.cx).1).trans h.cx,(hk bw h.cw.lt).trans h.cw⟩
structure Tv0 (w w':World) (bx bw:Nat):Prop where
 size:w.heap.size <=w'.heap.size
 os:w'.os=w.os
 output:w'.output=w.output
 tape:w'.tape=w.tape
 block:∀b,b<w.heap.size->b≠bx->w'.heap[b]? =w.heap[b]?
 cx:w'.heap[bx]? =some (js0 bw 5)
structure Zy0 (X X':Gh) (n1:Nat) (w':World):Prop where
 D1:∀i,X'.D1 i=none
 cap:X'.cap=0
 pend:X'.pend=0
 dn:X'.dn=0
 under:X'.c9 w'.heap.size
 O4:X'.O4=X.O4
 il0:0<X'.n
 low:∀b,X'.low b->X.low b\/n1 <=b
def Tw0 (cs:List Frame) (g:Goroutine):Prop:=∃a,a.tmps.size=17/\a.defers=[]/\g=G (((base 33).at a (.inRegion (match Tryz.f33.body with|some (.seq _ (.seq _ (.region _ o _)))=>o|_=>#[]) [0] :: [])).finish (.tuple #[])) cs
set_option maxRecDepth 20000 in
theorem zi0 {X:Gh} {Post:Value->World->Prop} {cs:List Frame} {w:World} {bs b6 bx bw n1:Nat} (hin:wx0 w bs b6 bx bw) (h0:∀i,X.D1 i=none) (ey0:X.cap=0) (hp:X.pend=0) (g9:X.dn=0) (hU:X.c9 n1) (K9:∀b,n1 <=b->X.O4 b= .all) (hnb:n1 <=bs/\n1 <=b6/\n1 <=bx/\n1 <=bw)
  (hk:∀X' w' fr,Zy0 X X' n1 w'->Tv0 w w' bx bw->fr.fn=33->Leaves prog fr w' (.returned (.tuple #[]))->Fin prog Post X' 0 (G fr cs) w'):Fin prog Post X 0 (G (Frame.enter prog 33 #[.slice (some ⟨bs,0,none⟩) 2 2] .normal) cs) w:=by
 letI:Ctx prog:=M1 prog true;have hZ:Ctx.Zs prog (Fin prog Post X 0):=D4;have hb:=Y0 33;rw[enter_at _ func33 rfl];refine(?_:ZA (Fin prog Post X 0) 17 (base 33) cs (Vc.J7 #[.slice (some ⟨bs,0,none⟩) 2 2]) [.code (Tryz.f33.body.getD .skip)] w) _ (j6 _ _ rfl);have hUw:∀b,n1 <=b->J9 X b:=fun b hb=>hU.av0 hb;have hlw:∀b,n1 <=b->¬X.low b:=fun b hb hl=>by have:=hU.low b hl;omega
 refine U1 ?_;refine L.alloc (cs:=#[.int .u64 0,.int .u32 0]) Vw0 rfl (fun w1 bG F1=>?_);refine U0 ?_;have Zz0:=hin.A0 (fun b hb=>F1.below.block b hb);refine ZA.seq hZ ?_;refine U47 ?_;refine L.va (H6 rfl underlying60 rfl) ?_;refine U174 ?_;refine U169 ?_;refine U86 ?_;refine ZA.J4 hZ rfl ?_;refine U147 ?_;refine ZA.block hZ ?_;refine U1 ?_;refine L.va (p9 (i:=0) rfl rfl underlying60 sz1 (by decide)) ?_;refine L.va (E0 (v:=.func (.func 45) #[] #[.pointer (some ⟨b6,0,none⟩)]) rfl underlying1 rfl (Zz0.sl.cell rfl)) ?_;refine L.alloc (cs:=#[.nilFunc]) zr1 rfl (fun w2 bb F2=>?_);refine L.put #[.func (.func 45) #[] #[.pointer (some ⟨b6,0,none⟩)]] rfl rfl rfl sz1 rfl rfl F2.blk (by decide) rfl (fun w3 hB3 hg3 hs3=>?_);refine U0 ?_;have hbG:bG=w.heap.size:=F1.here;have hbb:bb=w1.heap.size:=F2.here;have hz1:=F1.size;have hz2:=F2.size;have hGb:S0 w1 bG #[.int .u64 0,.int .u32 0] 141:=F1.blk;have zj0:∀b,b<w1.heap.size->w3.heap[b]? =w1.heap[b]?:=fun b hb=>by
  rw[hg3.block b (by omega) (fun e=>by cases e;omega)];exact F2.below.block b hb
 have Nb0:=Zz0.A0 zj0;have hG3:w3.heap[bG]? =some (.cells (#[] ++ #[.int .u64 0,.int .u32 0]) 141 (0,0)):=by
  rw[zj0 bG (by omega)];exact hGb
 refine ZA.seq hZ ?_;refine U1 ?_;refine L.va (E0 (v:=.func (.func 45) #[] #[.pointer (some ⟨b6,0,none⟩)]) rfl underlying1 rfl (hB3.cell rfl)) ?_;refine L.va (C7 (b:=false) rfl (.inr ⟨_,_,_,rfl,rfl⟩) rfl underlying1 ⟨_,_,_,rfl⟩) ?_;refine U118 ?_;have Tx0:n1 <=bG:=by have:=hin.sl.lt;omega
 intro a ha;refine Fin.Dj0 (f':=(0,0)) (b:=bG) (c:=#[]) ey0 (hUw bG Tx0) (hlw bG Tx0) (K9 bG Tx0) hG3 (Nat.zero_le _) ?_;revert ha;revert a;generalize hw4:K2 w3 bG (.cells #[] 141 (0,0))=w4;have iu0:∀b,b≠bG->w4.heap[b]? =w3.heap[b]?:=fun b hb=>by rw[<- hw4];exact D5 _ _ (Ne.symm hb)
 have ic1:w4.heap.size=w.heap.size+2:=by rw[<- hw4];show(w3.heap.setIfInBounds _ _).size=_;rw[Array.size_setIfInBounds];omega
 have H2:=fun(b:Nat) (cs:Array Value) (T:TypeId) (h:S0 w b cs T)=>h.lt;have Jk0:wx0 w4 bs b6 bx bw:=by
  have h1:=hin.sl.lt;have h2:=hin.p6.lt;have h3:=(Array.getElem?_eq_some_iff.1 hin.cx).1;have h4:=hin.cw.lt;exact⟨(iu0 bs (by omega)).trans Nb0.sl,(iu0 b6 (by omega)).trans Nb0.p6,(iu0 bx (by omega)).trans Nb0.cx,(iu0 bw (by omega)).trans Nb0.cw⟩
 have l9:S0 w4 bb #[.func (.func 45) #[] #[.pointer (some ⟨b6,0,none⟩)]] 1:=(iu0 bb (by omega)).trans hB3;generalize hX1:({X.lower bG with O2:=some ⟨bG,0⟩,old:=X.O2.toList++X.old}:Gh)=X1;have gz0:X1=({X.lower bG with O2:=some ⟨bG,0⟩,old:=X.O2.toList++X.old}:Gh):=hX1.symm;show ZA (Fin prog Post X1 0) 17 (base 33) cs _ _ w4;have hZ1:Ctx.Zs prog (Fin prog Post X1 0):=D4;refine ZA.region hZ1 ?_;refine ZA.call (i:=0) (rest:=[]) hZ1 hb (f:=66) (args:=#[.pointer (some ⟨bG,0,none⟩),.int .i64 1]) rfl rfl (E4 rfl rfl func66 rfl Lb0 rfl) (fun a ha=>?_);have hXe:X1={X1 with dn:=0}:=by rw[gz0];show _=_;cases X;simp only[Gh.lower]at g9⊢;subst g9;rfl
 rw[hXe];refine Fin.Dp0 (G:=⟨bG,0⟩) (X:=X1) (K:=fun g'=>g'=_) (by rw[gz0]) (by rw[gz0];exact hp) (by rw[gz0];show X.cap<65536;omega) (fun g' L6=>?_) _ _ _ (Op0 ⟨bG,0⟩ (fun g'=>g'=_) rfl);subst L6;refine ZA.home (i:=0) rfl rfl ha ?_;have fn1:X1.cap=0:=by rw[gz0];exact ey0
 generalize hX2:({X1 with pend:=1,cap:=X1.cap+1,dn:=0}:Gh)=X2;have jz0:X2=({X1 with pend:=1,cap:=X1.cap+1,dn:=0}:Gh):=hX2.symm;have hZ2:Ctx.Zs prog (Fin prog Post X2 0):=D4;refine ZA.l3 hZ2 ?_;refine ZA.upto hZ2 hb 1 rfl rfl (R:=fun e' w'=>ZA _ _ _ _ e' _ w') ?_ (fun _ _ h=>h);show L _ _ _ _ _ _ _;refine L.va (S3 rfl) ?_;refine U0 ?_;have yd0:X2.stay=X.stay:=by rw[jz0,gz0];rfl
 have Pf0:X2.j4=X.j4:=by rw[jz0,gz0];rfl
 have Pg0:X2.N7=X.N7:=by rw[jz0,gz0];rfl
 have Jl0:X2.low=fun k=>X.low k\/k=bG:=by rw[jz0,gz0];rfl
 have Ph0:X2.O2=some ⟨bG,0⟩:=by rw[jz0,gz0]
 have aa1:X2.old=X.O2.toList++X.old:=by rw[jz0,gz0]
 have Jm0:X2.O4=X.O4:=by rw[jz0,gz0];rfl
 have Jn0:∀i,X2.D1 i=none:=fun i=>by rw[jz0,gz0];exact h0 i
 have hn2:X2.n=X.n:=by rw[jz0,gz0];rfl
 have Ty0:∀G,(X2.O2=some G\/G∈X2.old)->G.blk=bG\/G.blk<n1:=fun G hG=>by
  rw[Ph0,aa1]at hG;rcases hG with hG|hG
  ·cases hG;exact .inl rfl
  ·rcases List.mem_append.1 hG with hG|hG
   ·exact .inr (hU.O2 G (.inl (by simpa using hG)))
   ·exact .inr (hU.O2 G (.inr hG))
 have ev1:∀b,n1 <=b->b≠bG->¬GB X2 b:=fun b hb B3 ⟨G,hG,e⟩=>by
  rcases Ty0 G hG with h|h
  ·exact B3 (e.trans h)
  ·omega
 have hl1:=hin.sl.lt;have hl2:=hin.p6.lt;have hl3:=(Array.getElem?_eq_some_iff.1 hin.cx).1;have hl4:=hin.cw.lt;have hnx:∀(b:Nat) (cs:Array Value) (T:TypeId),S0 w4 b cs T->cs.size≠4->b≠bx:=fun b cs T h hs e=>by
  subst e;unfold S0 at h;rw[Jk0.cx]at h;have:=(Obj.cells.inj (Option.some.inj h)).1;exact hs (by rw[<- this];rfl)
 refine ZA.beside (i:=1) (rest:=[]) (f:=67) (caps:=#[.pointer (some ⟨bG,0,none⟩),.pointer (some ⟨bb,0,none⟩)]) (gr:=⟨bG,0⟩) (A:=⟨bG,0,none⟩) (bx:=bx) (np:=1056) (ox0:=js0 bw 0) (ox:=js0 bw 5) (L0:=[(⟨bs,1,none⟩,.nilFunc)]) (Lc:=stC bb b6 bx bw) (K:=Tw0 cs) hb rfl rfl
  (by rw[jz0]) (by rw[jz0]) (by rw[jz0];show X1.cap+1=1;omega) Ph0 Jn0 ⟨fun i p hp=>?_,?_,?_,fun G hG e=>?_⟩ ?_ ?_ Jk0.cx (fun p hp=>?_) ?_ (Na0 ⟨bG,0⟩ bb b6 bx bw) ⟨_,_,_,rfl⟩ (fun k g hg=>?_)
 ·rw[yd0]at hp;exact(hUw bx hnb.2.2.1).stay i p hp
 ·rw[Pf0];exact(hUw bx hnb.2.2.1).j4
 ·rw[Pg0];exact(hUw bx hnb.2.2.1).N7
 ·rcases Ty0 G hG with h|h <;> omega
 ·rw[Jl0];rintro(h|h)
  ·exact hlw bx hnb.2.2.1 h
  ·omega
 ·rw[Jm0];exact K9 bx hnb.2.2.1
 ·have key:∀b cs T i v,S0 w4 b cs T->cs[i]? =some v->cs.size≠4->n1 <=b->b≠bG->w4.cell? ⟨b,i,none⟩=some v/\b≠bx/\¬GB X2 b:=fun b cs T i v h hv hs hn B3=>⟨h.cell hv,hnx b cs T h hs,ev1 b hn B3⟩
  rcases hp with hp|hp
  ·simp only[List.mem_cons,List.not_mem_nil,or_false]at hp;subst hp;exact key bs _ _ 1 _ Jk0.sl rfl (by simp) hnb.1 (by omega)
  ·simp only[stC,List.mem_cons,List.not_mem_nil,or_false]at hp;rcases hp with rfl|rfl|rfl
   ·exact key bb _ _ 0 _ l9 rfl (by simp) (by omega) (by omega)
   ·exact key b6 _ _ 0 _ Jk0.p6 rfl (by simp) hnb.2.1 (by omega)
   ·exact key bw _ _ 0 _ Jk0.cw rfl (by simp) hnb.2.2.2 (by omega)
 ·refine(?_:At (YM prog true ⟨bG,0⟩ [(⟨bs,1,none⟩,.nilFunc)] (Mz0 prog ⟨bG,0⟩ ⟨bG,0,none⟩ (Tw0 cs)) []) 1056 17 (base 33) cs [] 0 _ _);refine At.l3 E2 ?_;refine At.inBlock E2 ?_;refine At.region E2 ?_;refine G0.val E2 (Y0 _) rfl (v:=.int .i64 1) (xu0 (r:=1) rfl rfl (by decide)) ?_;refine G0.val E2 (Y0 _) rfl (v:=.int .i64 1) (I0 rfl) ?_;refine G0.nil E2 ?_;refine At.inLoop E2 ?_;refine U18 ?_;refine U424 ?_;refine At.seq E2 ?_;refine At.J4 E2 rfl ?_;refine At.skip E2 ?_;refine At.seq E2 ?_;refine At.block E2 ?_;refine U18 ?_;refine G0.val E2 (Y0 _) rfl (v:=.pointer (some ⟨bs,1,none⟩)) (Ji0 (i:=1) 1 rfl rfl underlying60 sz1 (by decide) rfl) ?_;refine G0.jr0 (Y0 _) rfl (v:=.nilFunc) rfl underlying1 rfl (.inl (.head _)) ?_;refine G0.Tn0 (v:=.nilFunc) (cs0:=[.nilFunc]) (Y0 _) rfl zr1 rfl (fun q1=>?_);refine G0.Iy0 (v:=.nilFunc) (Y0 _) rfl rfl sz1 rfl (.head _) rfl ?_;refine G0.nil E2 ?_;refine At.seq E2 ?_;refine U18 ?_;refine G0.jr0 (Y0 _) rfl (v:=.nilFunc) rfl underlying1 rfl (.inr ⟨_,_,(ea0 (.head _)),rfl,rfl⟩) ?_;refine G0.val E2 (Y0 _) rfl (v:=.bool true) (zf0 rfl rfl underlying1 ⟨_,_,_,rfl⟩) ?_;refine G0.nil E2 ?_;refine At.J4 E2 rfl ?_;refine At.exit E2 rfl ?_;refine At.region E2 ?_;refine G0.val E2 (Y0 _) rfl (v:=.int .i64 2) (xu0 (r:=2) rfl rfl (by decide)) ?_;refine G0.val E2 (Y0 _) rfl (v:=.int .i64 2) (I0 rfl) ?_;refine G0.nil E2 ?_;refine At.inLoop E2 ?_;refine U18 ?_;refine G0.val E2 (Y0 _) rfl (v:=.bool false) (ar0 (r:=false) rfl rfl (by decide)) ?_;refine G0.nil E2 ?_;refine At.seq E2 ?_;refine At.O5 E2 rfl ?_;refine At.exit E2 rfl ?_;refine At.region E2 ?_;refine G0.call E2 (Y0 _) [.pointer (some ⟨bG,0,none⟩)] 84 rfl func70 Wm0 rfl rfl rfl (fun cs1 E5=>?_);obtain⟨a1,ha1,rfl⟩:=E5.rep;intro a2 ha2 _;exact MP.end (n:=1010) (Ts0 ⟨bG,0⟩ (Tw0 cs) ⟨a1,ha1.size,ha1.defers,rfl⟩ 1 (by decide) a2 ha2)
 ·obtain⟨a,ha1,ha2,rfl⟩:=hg;have hr:Rep 17 a (fun t=>a.tmps.getD t undef):=⟨ha1,ha2,fun _=>rfl⟩
  refine ZA.home (i:=0) (rest:=[]) rfl rfl hr ?_;have hZ3:Ctx.Zs prog (Fin prog Post (X2.gx0 w4 bx k) 0):=D4;refine ZA.l3 hZ3 ?_;refine ZA.done hZ3 ?_;refine ZA.leaves (fn:=Tryz.f33) (f:=33) rfl func33 rfl (fun fr hfn hlv=>?_);have id1:(dz0 w4 bx (js0 bw 5) k).heap.size=w4.heap.size+k:=is0;refine hk _ _ fr ⟨Jn0,rfl,rfl,rfl,⟨fun i p hp=>?_,fun b o hb=>?_,fun b hb=>?_,fun G hG=>?_,fun b hb=>?_⟩,Jm0,Nat.succ_pos _,fun b hb=>?_⟩ ⟨by omega,?_,?_,?_,fun b hb B3=>?_,uo0 (by omega)⟩ hfn hlv
  ·have hp':p∈X.stay i:=by rw[<- yd0];exact hp
   have:=hU.stay i p hp';omega
  ·have P7:X.j4 b=some o:=by rw[<- Pf0];exact hb
   have:=hU.j4 b o P7;omega
  ·have P7:X.N7 b:=by rw[<- Pg0];exact hb
   have:=hU.N7 b P7;omega
  ·rcases Ty0 G hG with h|h <;> omega
  ·have P7:X2.low b\/b=bx\/(w4.heap.size <=b/\b<w4.heap.size+k):=hb;rw[Jl0]at P7;rcases P7 with(h|h)|h|h
   ·have:=hU.low b h;omega
   ·omega
   ·omega
   ·omega
  ·have P7:X2.low b\/b=bx\/(w4.heap.size <=b/\b<w4.heap.size+k):=hb;rw[Jl0]at P7;rcases P7 with(h|h)|h|h
   ·exact .inl h
   ·right;omega
   ·right;have:=hnb.2.2.1;omega
   ·right;omega
  ·show w4.os=w.os;rw[<- hw4];exact hg3.os.trans (F2.below.os.trans F1.below.os)
  ·show w4.output=w.output;rw[<- hw4];exact hg3.output.trans (F2.below.output.trans F1.below.output)
  ·show w4.tape=w.tape;rw[<- hw4];exact hg3.tape.trans (F2.below.tape.trans F1.below.tape)
  ·rw[gy0 (by omega) B3,iu0 b (by omega),zj0 b (by omega)];exact F1.below.block b hb
end
def kj0:List V2:=[⟨1,0,1,0⟩,⟨5,0,9,1⟩,⟨1,0,2,0⟩]
def Jo0:Nat->Int:=fun j=>if j=1 then 1 else 0
theorem Jp0 {p:r4} (hm:p.m=2) (hb:p.bo=fun i=>if i<2 then kj0 else []):((I3 p).pn Jo0 6).evs=[(0,⟨1,1,0⟩),(0,⟨9,5,0⟩),(0,⟨2,1,0⟩),(1,⟨1,1,0⟩),(1,⟨9,5,0⟩),(1,⟨2,1,0⟩)]:=by
 obtain⟨m,bo,tb,wb,sb,mb,lgb,RO,wI,B,lb,pl⟩:=p;simp only at hm hb;subst hm hb;kernel_rfl
theorem Da0 {w:World} {b10 b14:Nat} (h10:S0 w b10 #[.int .i64 1,.int .i64 0,.int .i64 1,.int .i64 0,.int .i64 5,.int .i64 0,.int .i64 9,.int .i64 1,.int .i64 1,.int .i64 0,.int .i64 2,.int .i64 0] 52) (h14:S0 w b14 #[.slice (some ⟨b10,0,none⟩) 3 3,.slice (some ⟨b10,0,none⟩) 3 3] 50) :
  r7 w (some ⟨b14,0,none⟩) 2 (fun i=>if i<2 then kj0 else []) (fun _=>some ⟨b10,0,none⟩) (fun _=>3):=by
 refine⟨fun _=>rfl,fun i hi=>?_,fun i hi=>?_,fun i hi=>?_⟩
 ·match i,hi with
  |0,_=>exact h14.F0 0 rfl
  |1,_=>exact h14.F0 1 rfl
 ·simp only[if_pos hi];refine⟨fun _=>rfl,fun k o ho j v hv=>?_⟩;have hjl:j<4:=(List.getElem?_eq_some_iff.1 hv).1;have hkl:k<3:=(List.getElem?_eq_some_iff.1 ho).1;obtain rfl|rfl|rfl:k=0\/k=1\/k=2:=by omega
  all_goals cases ho
  all_goals obtain rfl|rfl|rfl|rfl:j=0\/j=1\/j=2\/j=3:=by omega
  all_goals cases hv
  ·exact h10.F0 0 rfl
  ·exact h10.F0 1 rfl
  ·exact h10.F0 2 rfl
  ·exact h10.F0 3 rfl
  ·exact h10.F0 4 rfl
  ·exact h10.F0 5 rfl
  ·exact h10.F0 6 rfl
  ·exact h10.F0 7 rfl
  ·exact h10.F0 8 rfl
  ·exact h10.F0 9 rfl
  ·exact h10.F0 10 rfl
  ·exact h10.F0 11 rfl
 ·simp only[if_pos hi];decide
theorem Nc0 {w:World} {b:Nat} (h:S0 w b #[.int .i64 0,.int .i64 1,.int .i64 0,.int .i64 0,.int .i64 0,.int .i64 0] 3):ug0 w (some ⟨b,0,none⟩) 6 6 Jo0:=by
 refine⟨fun _=>rfl,(fun h=>by cases h),by decide,fun j hj=>?_⟩
 match j,hj with
 |0,_=>exact h.F0 0 rfl
 |1,_=>exact h.F0 1 rfl
 |2,_=>exact h.F0 2 rfl
 |3,_=>exact h.F0 3 rfl
 |4,_=>exact h.F0 4 rfl
 |5,_=>exact h.F0 5 rfl
theorem Jq0:Mu0 2 (fun i=>if i<2 then kj0 else []) 6:=by
 refine⟨by decide,by decide,fun i hi o ho=>?_,by decide⟩;simp only[if_pos hi,kj0,List.mem_cons,List.not_mem_nil,or_false]at ho;rcases ho with rfl|rfl|rfl
 ·exact .inl ⟨rfl,.inl rfl⟩
 ·exact .inr (.inr (.inr (.inr ⟨rfl,.inr rfl⟩)))
 ·exact .inl ⟨rfl,.inr rfl⟩
theorem ZA.Nd0 {P:Program} [Ctx P] {Z:Goroutine->World->Prop} {b:Frame} {cs:List Frame} {n t:Nat} {e:Env} {w:World} {fn:Func} {f:FuncId} {v:Value} (hb:b=base f) (hf:P.funcs[f]? =some fn) (hr:fn.results=#[.tmp t]) (hv:e t=v) (h:∀fr,fr.fn=f->Leaves P fr w (.returned v)->Z (G fr cs) w):ZR Z n b cs e w:=by
 intro todo a ha;subst hb;refine h _ rfl ⟨rfl,ha.defers,rfl,fn,hf,P6 (fun w=>by rw[results_tmp hr];exact congrArg (fun x=>Result.ok x w) ((ha.get t).trans hv)) (fun w=>events_results_tmp hr _ _)⟩
section
variable [Ctx prog]
end
section
theorem Ne0 (x0:Int) (x1:Int):prog.built 107 [(0,.int .i64 x0),(1,.int .i64 x1)]=some #[.int .i64 x0,.int .i64 x1]:=by kernel_rfl
theorem Nf0 (x0:Int) (x1:Int) (x2:Option Addr) (x3:Int):prog.built 145 [(0,.agg #[.int .i64 x0,.int .i64 x1]),(1,.pointer x2),(2,.int .i64 x3)]=some #[.int .i64 x0,.int .i64 x1,.pointer x2,.int .i64 x3]:=by kernel_rfl
theorem Bg0 (x0:Int) (x1:Int):prog.built 52 [(0,.int .i64 x0),(2,.int .i64 x1)]=some #[.int .i64 x0,.int .i64 0,.int .i64 x1,.int .i64 0]:=by kernel_rfl
theorem Ng0 (x0:Int) (x1:Int) (x2:Int):prog.built 52 [(0,.int .i64 x0),(2,.int .i64 x1),(3,.int .i64 x2)]=some #[.int .i64 x0,.int .i64 0,.int .i64 x1,.int .i64 x2]:=by kernel_rfl
end
section
variable [Ctx prog]
theorem mm0 (wb:Nat) (w0:World) (hW:S0 w0 wb #[.bool true] 105):C prog 44 #[.pointer (some ⟨wb,0,none⟩)] w0 fun v w=>v= .bool true/\w=w0:=by
 refine C.enter (n:=11) func44 rfl rfl ?_;refine U2 ?_;refine U88 ?_;refine U517 ?_;refine U115 ?_;refine U506 ?_;refine L.on rfl ?_;refine L.va (E0 rfl underlying4 rfl (hW.F0 0 (v:=.bool true) rfl)) ?_;refine L.va (Q7 rfl) ?_;refine U35 ?_;exact⟨rfl,rfl⟩
theorem zk0 (bw:Nat) (obj num x:Int) (w0:World):C prog 41 #[.pointer (some ⟨bw,0,none⟩),.int .i64 obj,.int .i64 num,.int .i64 x] w0 fun v w=>∃bx,v= .pointer (some ⟨bx,0,none⟩)/\w0.heap.size <=bx/\S0 w bx #[.int .i64 obj,.int .i64 num,.pointer (some ⟨bw,0,none⟩),.int .i64 x] 145/\Below w0.heap.size w0 w:=by
 refine C.enter (n:=16) func41 rfl rfl ?_;refine U3 ?_;intro hb;refine U30 ?_;refine U167 ?_;refine L.va (N3 (parts:=[(0,.tmp 9),(1,.tmp 10)]) rfl (Ne0 obj num)) ?_;refine U41 ?_;refine L.va (N3 (parts:=[(0,.tmp 11),(1,.tmp 12),(2,.tmp 13)]) rfl (Nf0 obj num ((some (⟨bw,0,none⟩))) x)) ?_;refine L.box (cs:=#[.int .i64 obj,.int .i64 num,.p bw,.int .i64 x]) rfl rfl (fun w b15 F15=>?_);have Ms0:=F15.lq hb.size;have hb:=O0 hb F15.below;have yy0:=F15.blk;refine U53 ?_;exact⟨b15,rfl,Ms0,yy0,hb⟩
theorem Nh0 (bx bw:Nat) (obj num x:Int) (c:Option Addr) (w0:World) (hX:S0 w0 bx #[.int .i64 obj,.int .i64 num,.pointer (some ⟨bw,0,none⟩),.int .i64 x] 145) (hW:S0 w0 bw #[.bool true] 105):C prog 43 #[.pointer (some ⟨bx,0,none⟩),.pointer c] w0 fun v w=>v= .int .i64 x/\Below w0.heap.size w0 w:=by
 refine C.enter (n:=26) func43 rfl rfl ?_;refine U3 ?_;intro hb;refine L.box (cs:=#[.pointer (some ⟨bx,0,none⟩)]) rfl rfl (fun w b2 F2=>?_);refine U20 ?_;intro lt2 hb;have hX:=hX.A0 F2.below;have hW:=hW.A0 F2.below;have K7:=F2.blk;refine U104 ?_;refine L.alloc (cs:=#[.int .i64 0]) zr3 rfl (fun w b5 F5=>?_);refine U244 ?_;intro lt5 hb;have hX:=hX.A0 F5.below;have hW:=hW.A0 F5.below;have K7:=K7.A0 F5.below;refine U61 ?_;refine L.va (E0 rfl underlying86 rfl (K7.F0 0 (v:=.pointer (some ⟨bx,0,none⟩)) rfl)) ?_;refine L.va (c5 rfl rfl underlying86) ?_;refine U185 ?_;refine U400 ?_;refine L.va (K0 rfl underlying145 rfl Fs0 (by decide)) ?_;refine L.va (E0 rfl underlying56 rfl (hX.F0 2 (v:=.pointer (some ⟨bw,0,none⟩)) rfl)) ?_;refine L.call (D2 rfl func44 rfl xw0 rfl) (mm0 bw _ hW) ?_;rintro _ w1 ⟨rfl,hw⟩;refine U13 ?_;refine U45 ?_;refine U2 ?_;refine U400 ?_;refine L.va (K0 rfl underlying145 rfl sz3 (by decide)) ?_;refine L.va (E0 rfl underlying3 rfl (hX.F0 3 (v:=.int .i64 x) rfl)) ?_;refine U33 ?_;exact⟨rfl,hb⟩
end
structure NLe (n:Nat) (w:World):Prop where
 le:n <=w.heap.size
theorem NLe.A0 {n:Nat} {w w':World} (h:NLe n w) (hb:Below w.heap.size w w'):NLe n w':=⟨Nat.le_trans h.le hb.size⟩
set_option maxHeartbeats 2000000 in
set_option maxRecDepth 20000 in
theorem Jr0 {lb:Nat} {pl:Nat->x6} (w0:World):@C prog (o7 lb pl) 10 #[] w0 fun v w=>v= .bool true/\Below w0.heap.size w0 w:=by
 rintro Z ⟨Post,rfl⟩ cs hk;letI:Ctx prog:=o7 lb pl;have hZ:Ctx.Zs prog (wi0 lb pl Post):=⟨_,rfl⟩
 have hb:=Y0 10;rw[enter_at _ func10 rfl];refine(?_:ZA (wi0 lb pl Post) 62 (base 10) cs (Vc.J7 #[]) [.code (Tryz.f10.body.getD .skip)] w0) _ (j6 _ _ rfl);have k6:Below w0.heap.size w0 w0:=Below.refl _ _;obtain⟨n0,hn0⟩:∃n0,n0=w0.heap.size:=⟨_,rfl⟩
 refine U1 ?_;refine U25 ?_;refine U1 ?_;refine L.va (N3 (parts:=[(0,.const (.int .i64 1)),(2,.const (.int .i64 1))]) rfl (Bg0 1 1)) ?_;refine L.va (N3 (parts:=[(0,.const (.int .i64 5)),(2,.const (.int .i64 9)),(3,.const (.int .i64 1))]) rfl (Ng0 5 9 1)) ?_;refine L.va (N3 (parts:=[(0,.const (.int .i64 1)),(2,.const (.int .i64 2))]) rfl (Bg0 1 2)) ?_;refine L.uf0 (vs:=[(0,.agg #[.int .i64 1,.int .i64 0,.int .i64 1,.int .i64 0]),(1,.agg #[.int .i64 5,.int .i64 0,.int .i64 9,.int .i64 1]),(2,.agg #[.int .i64 1,.int .i64 0,.int .i64 2,.int .i64 0])]) (cs:=#[.int .i64 1,.int .i64 0,.int .i64 1,.int .i64 0,.int .i64 5,.int .i64 0,.int .i64 9,.int .i64 1,.int .i64 1,.int .i64 0,.int .i64 2,.int .i64 0]) rfl underlying50 R5 Vo0 (by decide) (by kernel_rfl) (fun w b10 F10=>?_);have ie1:=F10.lq k6.size;have k6:=O0 k6 F10.below;have zl0:=F10.blk;refine L.va (ak0 rfl) ?_;refine U0 ?_;refine U47 ?_;refine L.va (I8 rfl) ?_;refine L.uf0 (vs:=[(0,.slice (some ⟨b10,0,none⟩) 3 3),(1,.slice (some ⟨b10,0,none⟩) 3 3)]) (cs:=#[.slice (some ⟨b10,0,none⟩) 3 3,.slice (some ⟨b10,0,none⟩) 3 3]) rfl underlying22 Ca0 Vn0 (by decide) (by kernel_rfl) (fun w b14 F14=>?_);have if1:=F14.lq k6.size;have k6:=O0 k6 F14.below;have zl0:=zl0.A0 F14.below;have Js0:=F14.blk;refine L.uf0 (vs:=[(0,.int .i64 0),(1,.int .i64 1),(2,.int .i64 0),(3,.int .i64 0),(4,.int .i64 0),(5,.int .i64 0)]) (cs:=#[.int .i64 0,.int .i64 1,.int .i64 0,.int .i64 0,.int .i64 0,.int .i64 0]) rfl underlying23 sz3 zr3 (by decide) (by kernel_rfl) (fun w b15 F15=>?_);have Ms0:=F15.lq k6.size;have k6:=O0 k6 F15.below;have zl0:=zl0.A0 F15.below;have Js0:=Js0.A0 F15.below;have yy0:=F15.blk;have zl0:S0 w b10 _ _:=zl0;have Js0:S0 w b14 _ _:=Js0;have yy0:S0 w b15 _ _:=yy0;refine L.call (E4 rfl rfl func11 rfl Vy0 rfl) (Iv0 w (Da0 zl0 Js0) (fun i hi=>if_neg (by omega)) (Nc0 yy0) Jq0) ?_;rintro _ w1 ⟨p,R,r1,rfl,⟨pm,pbo,pB⟩,hP,hY,j2⟩;have k6:=O0 k6 j2;clear j2
 rename World=>w
 have hev:=hY.run.evs.trans (Jp0 pm pbo);refine U275 ?_;refine L.va (D9 rfl rfl) ?_;have dw0:=hY;have wy0:=k6;refine L.alloc (cs:=#[.slice none 0 0,.slice none 0 0,.slice none 0 0,.slice none 0 0,.bool false,.int .i64 0]) Fq0 rfl (fun w b2 F2=>?_);have lt2:=F2.lq k6.size;have K7:=F2.blk;refine L.pa [.slice R.ea R.evs.length R.ec,.slice R.na R.N2.length R.nc,.slice (some ⟨R.eb,0,none⟩) R.m R.m,.slice (some ⟨R.wb,0,none⟩) R.m R.m,.bool R.stuck,.int .i64 (R.used:Int)] if0 K7 (fun w C1 hg B2=>?_);have L7:=R3 F2.below F2.below.size hg (by have:=F2.here;omega);have hY:=dw0.A0 L7;have k6:=O0 wy0 L7;have K7:=C1;clear C1 hg B2 L7 F2 dw0 wy0;refine L.va (ak0 rfl) ?_;refine L.va (ve0 rfl) ?_;refine U19 ?_;refine U1 ?_;refine U164 ?_;refine U249 ?_;refine U222 ?_;refine L.on rfl ?_;refine L.va (xo0 (m:=6) (by rw[hev];rfl) rfl underlying26 rfl) ?_;refine L.on rfl ?_;refine L.va (W1 (r:=false) (by decide) (fy0 (m:=6) (k:=6) rfl rfl)) ?_;refine L.va (R7 rfl) ?_;refine U249 ?_;refine U222 ?_;refine L.on rfl ?_;refine L.va (M5 (i:=1) rfl rfl underlying26 La0 hY.run.mem.evs.sl (by rw[hev];decide)) ?_;refine U510 ?_;refine L.on rfl ?_;refine L.va (E0 (v:=.int .i64 0) rfl underlying3 rfl (by rw[hY.run.mem.evs.off];exact hY.run.mem.evs.cell (j:=4) (by rw[hev];rfl))) ?_;refine L.on rfl ?_;refine L.va (W1 (r:=false) (by decide) (fy0 (m:=0) (k:=0) rfl rfl)) ?_;refine L.va (R7 rfl) ?_;refine U249 ?_;refine U222 ?_;refine L.on rfl ?_;refine L.va (M5 (i:=3) rfl rfl underlying26 La0 hY.run.mem.evs.sl (by rw[hev];decide)) ?_;refine U510 ?_;refine L.on rfl ?_;refine L.va (E0 (v:=.int .i64 1) rfl underlying3 rfl (by rw[hY.run.mem.evs.off];exact hY.run.mem.evs.cell (j:=12) (by rw[hev];rfl))) ?_;refine L.on rfl ?_;refine L.va (W1 (r:=false) (by decide) (fy0 (m:=1) (k:=1) rfl rfl)) ?_;refine L.va (R7 rfl) ?_;refine U232 ?_;refine ZA.skip hZ ?_;refine U1 ?_;refine L.va (et0 rfl) ?_;refine U19 ?_;refine fun a ha X hL h1 h2 h3=>(?_:ZA (Fin prog Post X 0) 62 (base 10) cs _ _ _) a ha;letI:Ctx prog:=M1 prog true;have hZ:Ctx.Zs prog (Fin prog Post X 0):=D4;obtain⟨wN,hwN⟩:∃wN,wN=w:=⟨_,rfl⟩
 have hN:Below wN.heap.size wN w:=by rw[hwN];exact Below.refl _ _
 have h0N:w0.heap.size <=wN.heap.size:=by rw[hwN];exact k6.size
 rw[<- hwN]at hL h1;clear hwN hY hev;refine U92 ?_;refine L.call (al0  func17 rfl Vz0 rfl) (Iq0 _) ?_;rintro _ w ⟨bw,rfl,ltw,hRW,j2⟩;have ltw:=Nat.le_trans hN.size ltw;have k6:=O0 k6 j2;have hN:=O0 hN j2;refine L.call (A8 rfl rfl rfl rfl func41 rfl ce1 rfl) (zk0 bw 1 1 0 _) ?_;rintro _ w ⟨bx,rfl,ltx,hX,j2⟩;have ltx:=Nat.le_trans hN.size ltx;have k6:=O0 k6 j2;have hN:=O0 hN j2;have hRW:=hRW.A0 j2;have Pi0:=hRW;have ab1:=hX;have wy0:=k6;have ac1:=hN;refine L.alloc (cs:=#[.pointer none]) bn1 rfl (fun w b6 F6=>?_);have lt6:=F6.lq k6.size;have nt6:=Nat.le_trans hN.size (Nat.le_of_eq F6.here.symm);have e7:=F6.blk;refine L.pa [.p bx] bm1 e7 (fun w C1 hg B2=>?_);have L7:=R3 F6.below F6.below.size hg (by have:=F6.here;omega);have hRW:=Pi0.A0 L7;have hX:=ab1.A0 L7;have k6:=O0 wy0 L7;have hN:=O0 ac1 L7;have e7:=C1;clear C1 hg B2 L7 F6 Pi0 ab1 wy0 ac1;refine U19 ?_;refine ZA.upto hZ hb 2 rfl rfl (R:=fun e' w'=>ZA _ _ _ _ e' _ w') ?_ (fun _ _ h=>h);show L _ _ _ _ _ _ _;refine L.va (S3 (l:=[.tmp 6]) (vs:=[.pointer (some ⟨b6,0,none⟩)]) rfl) ?_;refine L.uf0 (vs:=[(0,.func (.func 45) #[] #[.pointer (some ⟨b6,0,none⟩)]),(1,.nilFunc)]) (cs:=#[.func (.func 45) #[] #[.pointer (some ⟨b6,0,none⟩)],.nilFunc]) rfl underlying60 sz1 zr1 (by decide) (by kernel_rfl) (fun w b47 F47=>?_);have ig1:=F47.lq k6.size;have ew1:=Nat.le_trans hN.size (Nat.le_of_eq F47.here.symm);have k6:=O0 k6 F47.below;have hN:=O0 hN F47.below;have hRW:=hRW.A0 F47.below;have hX:=hX.A0 F47.below;have e7:=e7.A0 F47.below;have ad1:=F47.blk;refine U0 ?_;refine ZA.call (i:=2) (rest:=[]) hZ hb (f:=33) (args:=#[.slice (some ⟨b47,0,none⟩) 2 2]) rfl rfl (D2 rfl func33 rfl ca1 rfl) (fun a ha=>?_);refine zi0 (n1:=wN.heap.size) (bs:=b47) (b6:=b6) (bx:=bx) (bw:=bw) ⟨ad1,e7,hX,hRW⟩ hL.D1 hL.cap hL.pend hL.dn hL.under hL.O4 ⟨ew1,nt6,ltx,ltw⟩ (fun X' w fr hF hO hfn hlv=>?_);letI:Ctx prog:=M1 prog true;have hZ:Ctx.Zs prog (Fin prog Post X' 0):=D4;refine ZA.back (ax0 prog Post X' 0) (i:=2) rfl rfl ha hlv ?_;refine ZA.l3 hZ ?_;have B2:=hO.size;have ae1:Below w0.heap.size w0 w:=⟨hO.os.trans k6.os,hO.tape.trans k6.tape,hO.output.trans k6.output,Nat.le_trans k6.size B2,fun q hq=>(hO.block q (Nat.lt_of_lt_of_le hq k6.size) (by have:=Nat.le_trans h0N ltx;omega)).trans (k6.block q hq)⟩
 have hNn:wN.heap.size <=w.heap.size:=Nat.le_trans hN.size B2;have af1:S0 w b6 #[.pointer (some ⟨bx,0,none⟩)] 86:=(hO.block b6 e7.lt (S0.ne e7 hX (by decide))).trans e7;have ag1:S0 w bw #[.bool true] 105:=(hO.block bw hRW.lt (S0.ne hRW hX (by decide))).trans hRW;have hXn:S0 w bx #[.int .i64 1,.int .i64 1,.pointer (some ⟨bw,0,none⟩),.int .i64 5] 145:=hO.cx;clear k6 hN e7 hRW hX ad1 hO;have k6:=ae1;have e7:=af1;have hRW:=ag1;have hX:=hXn;clear ae1 af1 ag1 hXn;have ah1:X'.c9 w.heap.size:=hF.under;obtain⟨n9,hn9⟩:∃n9,n9=w.heap.size:=⟨_,rfl⟩
 rw[<- hn9]at ah1 hNn;have hM:Below n9 w w:=by rw[hn9];exact Below.refl _ _
 have hM9:n9 <=w.heap.size:=Nat.le_of_eq hn9;clear hn9 B2;have hM9:NLe n9 w:=⟨hM9⟩
 clear hM;refine U1 ?_;refine L.va (E0 rfl underlying86 rfl (e7.F0 0 (v:=.pointer (some ⟨bx,0,none⟩)) rfl)) ?_;refine L.call (E4 rfl rfl func43 rfl ch1 rfl) (Nh0 bx bw 1 1 5 _ _ hX hRW) ?_;rintro _ w ⟨rfl,j2⟩;have k6:=O0 k6 j2;have hM9:=hM9.A0 j2;refine U170 ?_;refine U171 ?_;refine L.va (W1 (r:=true) (by decide) (n3 (m:=5) (k:=5) rfl rfl)) ?_;refine U99 ?_;refine L.call (al0  func17 rfl Vz0 rfl) (Iq0 _) ?_;rintro _ w ⟨br,rfl,_,hR2,j2⟩;have k6:=O0 k6 j2;have hM9:=hM9.A0 j2;refine L.on rfl ?_;refine L.call (D2 rfl func44 rfl xw0 rfl) (mm0 br _ hR2) ?_;rintro _ w1 ⟨rfl,hw⟩;refine U13 ?_;refine L.va (Q7 rfl) ?_;refine U99 ?_;refine L.call (al0  func36 rfl Wa0 rfl) (jo0 _) ?_;rintro _ w ⟨bs,rfl,_,hS2,j2⟩;have k6:=O0 k6 j2;have hM9:=hM9.A0 j2;refine L.on rfl ?_;refine L.call (D2 rfl func44 rfl xw0 rfl) (gr0 bs _ hS2) ?_;rintro _ w1 ⟨rfl,hw⟩;refine U13 ?_;refine L.on rfl ?_;refine L.va (ky0 rfl) ?_;refine L.va (Q7 rfl) ?_;refine U25 ?_;refine ZA.ret hZ ?_;refine ZA.Nd0 (t:=0) (fn:=Tryz.f10) (f:=10) rfl func10 rfl rfl (fun fr hfn hlv=>?_);have K9:∀b,wN.heap.size <=b->X'.O4 b= .all:=fun b hb=>by rw[hF.O4];exact hL.O4 b hb
 have hm9:=hM9.le;exact hk (.returned (.bool true)) w fr ⟨rfl,k6⟩ hfn hlv X' ⟨hF.D1,hF.cap,hF.pend,hF.dn,ah1.mono hm9,fun b hb=>K9 b (by omega),hF.il0⟩ (by omega) (fun b hb=>by rcases hF.low b hb with z|z;exact h2 b z;omega) (hF.O4.trans h3)
theorem Sys.ex1 {Y:Sys} (I:PR Y->Prop) (h0:I Y.p0) (hb:∀p,Y.Reach p->I p->p.ft.length<Y.m->I (Y.bgn p)) (ht:∀p i l,Y.Reach p->I p->p.ft.length=Y.m->p.ft[i]? =some (.inl l)->Y.rdy i l p.s=true->I (Y.y5 p i)):∀p,Y.Reach p->I p:=by
 have hB:∀n,n <=Y.m->I (Y.M4 n):=by
  intro n
  induction n with
  |zero=>exact fun _=>h0
  |succ n ih=>exact fun hn=>hb _ (.inl ⟨n,by omega,rfl⟩) (ih (by omega)) (by rw[Sys.z5];omega)
 have hP:∀(sc:Nat->Int) n,I (Y.pn sc n):=by
  intro sc n
  induction n with
  |zero=>exact hB Y.m (Nat.le_refl _)
  |succ n ih=>
   show I (Y.step (Y.pn sc n) (sc n));unfold Sys.step;split
   ·rename_i i hi;obtain⟨_,hr⟩:=Sys.ud0 hi;unfold Sys.dp0 at hr;cases hx:(Y.pn sc n).ft[i]? with
    |none=>rw[hx]at hr;cases hr
    |some f=>
     cases f with
     |inl l=>rw[hx]at hr;exact ht _ i l (.inr ⟨sc,n,rfl⟩) ih (Sys.T8 sc n) hx hr
     |inr x=>rw[hx]at hr;cases hr
   ·exact ih
 rintro p (⟨n,hn,rfl⟩|⟨sc,n,rfl⟩)
 ·exact hB n hn
 ·exact hP sc n
def stepOf (o:V2):Stp:=⟨o.call,o.A5,(Z0 o:Nat)⟩
structure Trs (p:r4) (q:PR (I3 p)) (st:Nat->PS):Prop where
 s0:st 0=ps0
 s1:st q.evs.length=q.s
 go:∀i,i<q.evs.length->∃c o,q.evs[i]? =some (c,stepOf o)/\c<p.m/\(p.bo c)[((st i).S2 c).length]? =some o/\mb0 o (st i)=true/\st (i+1)=Y9 c (X9 o (st i))
theorem Db0 {p:r4}:∀q,(I3 p).Reach q->∃st,Trs p q st:=by
 refine Sys.ex1 (Y:=I3 p) (fun q=>∃st,Trs p q st) ⟨fun _=>ps0,rfl,rfl,fun i hi=>absurd hi (Nat.not_lt_zero _)⟩ (fun q hR hq _=>?_) (fun q i k hR hq hlen hf hr=>?_)
 ·obtain⟨st,h⟩:=hq;exact⟨st,h.s0,h.s1,h.go⟩
 ·obtain⟨st,h⟩:=hq;have him:i<p.m:=by have:=(List.getElem?_eq_some_iff.1 hf).1;have hlen:q.ft.length=p.m:=hlen;omega
  obtain⟨h1,h2⟩:=(ui0 q hR).S4 i k hf;obtain⟨o,ho⟩:∃o,(p.bo i)[k]? =some o:=⟨_,List.getElem?_eq_getElem h2⟩
  have ht:(I3 p).y5 q i={q with s:=(goP (p.bo i) i k q.s).s,ft:=q.ft.set i (goP (p.bo i) i k q.s).g8,evs:=q.evs ++ [(i,(I3 p).stp i k)],N2:=q.N2++tell i (q.evs.length+1) (goP (p.bo i) i k q.s).N2,outs:=q.outs ++ [goP (p.bo i) i k q.s],who:=q.who ++ [some i],used:=q.used+1}:=by
   unfold Sys.y5;rw[hf]
  have hs:(I3 p).stp i k=stepOf o:=by
   show(match(p.bo i)[k]? with|some o=>(⟨o.call,o.A5,(Z0 o:Nat)⟩:Stp)|none=>⟨0,0,0⟩)=_;rw[ho];rfl
  have hr':mb0 o q.s=true:=by
   have hr:(match(p.bo i)[k]? with|some o=>mb0 o q.s|none=>true)=true:=hr;rw[ho]at hr;exact hr
  rw[ht,yr0 ho,hs];refine⟨fun j=>if j <=q.evs.length then st j else Y9 i (X9 o q.s),?_,?_,fun j hj=>?_⟩
  ·show(if 0 <=q.evs.length then st 0 else _)=_;rw[if_pos (Nat.zero_le _)];exact h.s0
  ·show(if(q.evs ++ [_]).length <=q.evs.length then _ else _)=_;rw[List.length_append,List.length_singleton,if_neg (by omega)];rfl
  ·have hj:j<(q.evs ++ [(i,stepOf o)]).length:=hj;rw[List.length_append,List.length_singleton]at hj;show ∃c o',(q.evs ++ [(i,stepOf o)])[j]? =some (c,stepOf o')/\c<p.m/\(p.bo c)[((if j <=q.evs.length then st j else _).S2 c).length]? =some o'/\mb0 o' (if j <=q.evs.length then st j else _)=true/\(if j+1 <=q.evs.length then st (j+1) else _)=Y9 c (X9 o' (if j <=q.evs.length then st j else _));rw[if_pos (by omega)];by_cases hjl:j<q.evs.length
   ·obtain⟨c,o',g1,g2,g3,g4,g5⟩:=h.go j hjl;rw[List.getElem?_append_left hjl,if_pos (by omega)];exact⟨c,o',g1,g2,g3,g4,g5⟩
   ·have e:j=q.evs.length:=by omega
    subst e;rw[List.getElem?_append_right (Nat.le_refl _),Nat.sub_self,if_neg (by omega),h.s1];exact⟨i,o,rfl,him,by rw[h1];exact ho,hr',rfl⟩
theorem Jt0 {p:r4} (sc:Nat->Int):∀n,((I3 p).pn sc n).evs.length <=n
 |0=>by
  show((I3 p).M4 p.m).evs.length <=0;have:∀k,((I3 p).M4 k).evs=[]:=fun k=>by
   induction k with
   |zero=>rfl
   |succ k ih=>exact ih
  rw[this];exact Nat.le_refl _
 |n+1=>by
  have ih:=Jt0 (p:=p) sc n;show((I3 p).step ((I3 p).pn sc n) (sc n)).evs.length <=n+1;unfold Sys.step;split
  ·unfold Sys.y5;split
   ·show(_ ++ [_]).length <=n+1;rw[List.length_append,List.length_singleton];omega
   ·omega
  ·omega
section
end
def rdA (r:Nat->Int):Array Value:=arr 2 fun j=>.int .i64 (r j)
theorem Ni0 {α:Type} (f:α->List Value) (k:Nat) (hf:∀x,(f x).length=k):∀(l:List α) (i:Nat) (x:α) (j:Nat) (v:Value),l[i]? =some x->(f x)[j]? =some v->(l.flatMap f)[i*k+j]? =some v:=by
 intro l
 induction l with
 |nil=>intro i x j v h;cases h
 |cons y l ih=>
  intro i x j v h hj;rw[List.flatMap_cons];cases i with
  |zero=>
   cases h;have hl:=(List.getElem?_eq_some_iff.1 hj).1;rw[Nat.zero_mul,Nat.zero_add,List.getElem?_append_left hl];exact hj
  |succ i=>
   rw[List.getElem?_append_right (by rw[hf,Nat.succ_mul];omega),hf,Nat.succ_mul,show i*k+k+j-k=i*k+j by omega];exact ih i x j v h hj
theorem ai1 {w:World} {B n c:Nat} {E:TypeId} {a:Option Addr} {evs:List (Nat×Stp)} (hO:Own w B E 4 a n c (evs.flatMap evC)) {i:Nat} {e:Nat×Stp} (he:evs[i]? =some e) (j:Nat) (v:Value) (hj:(evC e)[j]? =some v):w.cell? ⟨ab a,ao a+i*4+j,none⟩=some v:=by
 rw[hO.off,Nat.zero_add];exact hO.cell (Ni0 evC 4 (fun _=>rfl) evs i e j v he hj)
theorem j7.Tz0 {p:r4} {sc:Nat->Int} {sn B:Nat} {w:World} {R:Rn} {r:B5} (h:j7 p sc sn B w R r) {i:Nat} {e:Nat×Stp} (he:((I3 p).pn sc sn).evs[i]? =some e) (j:Nat) (v:Value) (hj:(evC e)[j]? =some v):w.cell? ⟨ab R.ea,ao R.ea+i*4+j,none⟩=some v :=
 ai1 h.run.mem.evs (by rw[h.run.evs];exact he) j v hj
theorem j7.off {p:r4} {sc:Nat->Int} {sn B b:Nat} {w w':World} {R:Rn} {r:B5} {cs:Array Value} {T:TypeId} (h:j7 p sc sn B w R r) (hg:w.grownBy w' (some b)) (hB:S0 w b cs T) (hT:T≠45/\T≠2) (hn:¬R.fp b):j7 p sc sn B w' R r :=
 ⟨h.lg.other hg (S0.ne h.lg hB hT.1.symm),fun i hi=>(h.ans i hi).k5 hg (Own.Pa0 (h.ans i hi) (T3 hB) hT.2.symm),h.run.k5 hg hn⟩
section
variable {p:r4}{q:PR (I3 p)}{st:Nat->PS}
theorem fj0 (c:Nat) (x:PS×Int) (d:Nat):(Y9 c x).S2 d=if d=c then x.1.S2 c ++ [x.2] else x.1.S2 d:=by
 show upN x.1.S2 c _ d=_;by_cases h:d=c
 ·subst h;rw[R4,if_pos rfl]
 ·rw[l5 h,if_neg h]
theorem Trs.pre (h:Trs p q st) (c:Nat):∀(k i:Nat),i+k <=q.evs.length->∃l,(st (i+k)).S2 c=(st i).S2 c++l
 |0,i,_=>⟨[],by simp⟩
 |k+1,i,hk=>by
  obtain⟨l,hl⟩:=Trs.pre h c k i (by omega);obtain⟨d,o,_,_,_,_,e⟩:=h.go (i+k) (by omega);rw[show i+(k+1)=i+k+1 by omega,e,fj0,ca0];split
  ·rename_i hd;subst hd;exact⟨l ++ [(X9 o (st (i+k))).2],by rw[hl,List.append_assoc]⟩
  ·exact⟨l,hl⟩
theorem Trs.last (h:Trs p q st) (hp:e5 p) {i:Nat} (hi:i<q.evs.length):∃c o,q.evs[i]? =some (c,stepOf o)/\c<p.m/\(p.bo c)[((st i).S2 c).length]? =some o/\POk o/\(q.s.S2 c)[((st i).S2 c).length]? =some (X9 o (st i)).2/\(st (i+1)).val=(X9 o (st i)).1.val/\∀d,((st (i+1)).S2 d).length=if d=c then((st i).S2 c).length+1 else((st i).S2 d).length:=by
 obtain⟨c,o,he,hc,ho,hr,e⟩:=h.go i hi;refine⟨c,o,he,hc,ho,hp.ops c o (List.mem_of_getElem? ho),?_,by rw[e];rfl,fun d=>?_⟩
 ·obtain⟨l,hl⟩:=h.pre c (q.evs.length-(i+1)) (i+1) (by omega);rw[show i+1+(q.evs.length-(i+1))=q.evs.length by omega,h.s1,e,fj0,if_pos rfl,ca0]at hl;rw[hl,List.append_assoc,List.getElem?_append_right (Nat.le_refl _),Nat.sub_self];rfl
 ·rw[e,fj0,ca0];split
  ·rw[List.length_append];rfl
  ·rfl
theorem Bh0 (o:V2) (s:PS) (h:o.call <=4) (h1:1 <=o.call):(X9 o s).1.val=s.val:=by
 unfold X9;by_cases h1:o.call=1
 ·rw[if_pos h1]
 by_cases h2:o.call=2
 ·rw[if_neg h1,if_pos h2]
 by_cases h3:o.call=3
 ·rw[if_neg h1,if_neg h2,if_pos h3]
 have h4:o.call=4:=by omega
 rw[if_neg h1,if_neg h2,if_neg h3,if_pos h4]
end
def Dc0 (v:Nat->Nat->Int):Array Value:=arr 12 fun j=>.int .i64 (v (j/2) (j%2))
theorem mn0 {v:Nat->Nat->Int} {t n:Nat} (hn:n<2) (x:Int):setRow (Dc0 v) (0+t*2+n*1) [.int .i64 x]=Dc0 (up2 v t n x):=by
 unfold Dc0;rw[dr0];refine id0 fun j _=>?_;by_cases e:j=0+t*2+n*1
 ·rw[if_pos e,show j/2=t by omega,show j%2=n by omega,fh0]
 ·rw[if_neg e,yq0 (by omega)]
theorem mo0 {w:World} {b:Nat} {T:TypeId} {v:Nat->Nat->Int} {t n:Nat} (hB:S0 w b (Dc0 v) T) (ht:t<6) (hn:n<2) {x:Int} (hv:v t n=x):w.cell? ⟨b,0+t*2+n*1,none⟩=some (.int .i64 x):=by
 refine S0.F0 hB _ ((am0 (by omega)).trans ?_);rw[show(0+t*2+n*1)/2=t by omega,show(0+t*2+n*1)%2=n by omega,hv]
def wz0 (m:Nat) (f:Nat->List Int):Array Value:=arr m fun c=>.int .i64 ((f c).length:Nat)
theorem Ju0 {m c k:Nat} {f g:Nat->List Int} (hk:(f c).length=k) (hg:∀d,(g d).length=if d=c then(f c).length+1 else(f d).length):setRow (wz0 m f) (0+c*1) [.int .i64 ((k:Int)+1)]=wz0 m g:=by
 unfold wz0;rw[dr0];refine id0 fun j _=>?_;rw[hg j];by_cases e:j=c
 ·subst e;rw[if_pos (by omega),if_pos rfl,hk];rfl
 ·rw[if_neg (by omega),if_neg e]
theorem he0 {w:World} {b m c:Nat} {T:TypeId} {f:Nat->List Int} (hB:S0 w b (wz0 m f) T) (hc:c<m) {k:Nat} (hk:(f c).length=k):w.cell? ⟨b,0+c*1,none⟩=some (.int .i64 (k:Nat)):=by
 refine S0.F0 hB _ ((am0 (by omega)).trans ?_);rw[show 0+c*1=c by omega,hk]
theorem j7.Nj0 {p:r4} {sc:Nat->Int} {sn B:Nat} {w:World} {R:Rn} {r:B5} (h:j7 p sc sn B w R r) {c k:Nat} {x:Int} (hc:c<p.m) (hx:((pS p sc sn).S2 c)[k]? =some x):w.cell? ⟨ab (r.la c),ao (r.la c)+k*1,none⟩=some (.int .i64 x):=by
 rw[(h.ans c hc).off,Nat.zero_add,Nat.mul_one];exact(h.ans c hc).cell (by rw[List.getElem?_map,hx];rfl)
theorem Dd0 (m:Nat):Array.replicate (m*1) (.int .i64 0)=wz0 m fun _=>[]:=by
 rw[Bf0];rfl
set_option maxHeartbeats 8000000 in
theorem ey1 {lb:Nat} {pl:Nat->x6} {m bc sn scp:Nat} {bo:Nat->List V2} {sc:Nat->Int} {ba sa:Option Addr} {oa:Nat->Option Addr} {oc:Nat->Nat} (w0:World) (hm:m <=1000000000000) (hsn:sn <=9223372036854775807) (hBo:r7 w0 ba m bo oa oc) (hz:∀i,m <=i->bo i=[]) (hSc:ug0 w0 sa sn scp sc) :
  @C prog (o7 lb pl) 5 #[.slice ba m bc,.slice sa sn scp] w0 fun v w=>v= .bool true/\Below w0.heap.size w0 w:=by
 letI:Ctx prog:=o7 lb pl;refine C.enter (n:=161) func5 rfl rfl ?_;refine U3 ?_;intro hb;refine U9 ?_;refine U7 ?_;refine U257 ?_;refine L.call (E4 rfl rfl func9 rfl nm9 rfl) (Zk0 _ hm hsn hBo) ?_;rintro _ w ⟨bf,rfl,ez1,j2⟩;have hb:=O0 hb j2;clear j2;refine L.va (ky0 rfl) ?_;refine U4 ?_;refine W.cond rfl (fun h18=>?_) (fun h18=>?_)
 ·refine W.seq ?_;refine W.region rfl ?_;refine L.call (al0  func10 rfl Vx0 rfl) (Jr0 _) ?_;rintro _ w ⟨rfl,j2⟩;have hb:=O0 hb j2;exact U180
 ·refine W.skip ?_;refine U418 ?_;refine U257 ?_;have hF:=ez1 (by simpa using h18);refine L.call (E4 rfl rfl func11 rfl Vy0 rfl) (Iv0 w (hBo.A0 hb) hz (hSc.A0 hb) hF) ?_;rintro _ w1 ⟨p,R,r,rfl,⟨pm,pbo,pB⟩,hP,hY,j2⟩;obtain⟨Bq,hBq⟩:∃Bq,Bq=w.heap.size:=⟨_,rfl⟩
  rw[<- hBq]at hY;clear hBq;have hb:=O0 hb j2;clear j2
  rename World=>w
  have en1:=hF.m1;have hel:((I3 p).pn sc sn).evs.length <=1000000:=Nat.le_trans (Jt0 sc sn) (Nat.le_trans hF.sn1 (by decide));obtain⟨st,hTr⟩:=Db0 ((I3 p).pn sc sn) (.inr ⟨sc,sn,rfl⟩);have hRl:R.evs.length=((I3 p).pn sc sn).evs.length:=by rw[hY.run.evs]
  have hRm:R.m=m:=hY.run.hm.trans pm;refine U275 ?_;refine L.va (D9 rfl rfl) ?_;have dw0:=hY;have ah0:=hb;refine L.alloc (cs:=#[.slice none 0 0,.slice none 0 0,.slice none 0 0,.slice none 0 0,.bool false,.int .i64 0]) Fq0 rfl (fun w b5 F5=>?_);have lt5:=F5.lq hb.size;have P2:=F5.blk;refine L.pa [.slice R.ea R.evs.length R.ec,.slice R.na R.N2.length R.nc,.slice (some ⟨R.eb,0,none⟩) R.m R.m,.slice (some ⟨R.wb,0,none⟩) R.m R.m,.bool R.stuck,.int .i64 (R.used:Int)] if0 P2 (fun w C1 hg B2=>?_);have L7:=R3 F5.below F5.below.size hg (by have:=F5.here;omega);have hY:=dw0.A0 L7;have hb:=O0 ah0 L7;have P2:=C1;clear C1 hg B2 L7 F5 dw0 ah0;refine L.va (ak0 rfl) ?_;refine U9 ?_;refine U7 ?_;refine U164 ?_;refine U99 ?_;refine L.va (K0 rfl underlying30 rfl Fo0 (by decide)) ?_;refine L.on rfl ?_;refine L.va (E0 rfl underlying23 rfl (P2.F0 2 (v:=.slice (some ⟨R.eb,0,none⟩) R.m R.m) rfl)) ?_;refine L.on rfl ?_;refine L.va (H6 rfl underlying23 rfl) ?_;refine L.on rfl ?_;refine U548 ?_;refine L.on rfl ?_;refine L.va (W1 (r:=false) (decide_eq_false (by omega)) (fy0 rfl rfl)) ?_;refine L.va (R7 rfl) ?_;refine U62 ?_;refine U158 ?_;refine L.make (m:=m) rfl rfl underlying23 in3 (z0:=.int .i64 0) rfl (by decide) (by omega) (by omega) (fun w b39 F39=>?_);have fa1:=F39.lq hb.size;have fb1:¬R.fp b39:=fun z=>by have h9:=hY.run.mem.lt z;have:=F39.here;omega
  have hb:=O0 hb F39.below;have hY:=hY.A0 F39.below;have P2:=P2.A0 F39.below;have aj1:=F39.blk;have hA:S0 w b39 (wz0 m fun c=>(st 0).S2 c) 3:=by have h9:=aj1;rw[Dd0]at h9;rw[hTr.s0];exact h9
  clear aj1;refine L.va (ak0 rfl) ?_;refine U10 ?_;refine L.alloc (cs:=#[.int .i64 0,.int .i64 0,.int .i64 0,.int .i64 0,.int .i64 0,.int .i64 0,.int .i64 0,.int .i64 0,.int .i64 0,.int .i64 0,.int .i64 0,.int .i64 0]) bd1 rfl (fun w b9 F9=>?_);have lt9:=F9.lq hb.size;have nf9:¬R.fp b9:=fun z=>by have h9:=hY.run.mem.lt z;have:=F9.here;omega
  have hb:=O0 hb F9.below;have hY:=hY.A0 F9.below;have P2:=P2.A0 F9.below;have hA:=hA.A0 F9.below;have hB9:=F9.blk;have hV:S0 w b9 (Dc0 (st 0).val) 38:=by rw[hTr.s0];exact hB9
  clear hB9;refine U61 ?_;refine U82 ?_;refine W.loop (fun k e w=>∃(i:Nat),k=R.evs.length-i/\e 0= .slice ba m bc/\e 5= .pointer (some ⟨b5,0,none⟩)/\e 6= .slice (some ⟨p.lgb,0,none⟩) m m/\e 8= .slice (some ⟨b39,0,none⟩) m m/\e 9= .p b9/\e 10= .int .i64 (i:Nat)/\i <=R.evs.length/\j7 p sc sn Bq w R r/\S0 w b5 #[.slice R.ea R.evs.length R.ec,.slice R.na R.N2.length R.nc,.slice (some ⟨R.eb,0,none⟩) R.m R.m,.slice (some ⟨R.wb,0,none⟩) R.m R.m,.bool R.stuck,.int .i64 (R.used:Int)] 30/\S0 w b39 (wz0 m fun c=>(st i).S2 c) 3/\S0 w b9 (Dc0 (st i).val) 38/\Below w0.heap.size w0 w) _ ⟨0,rfl,rfl,rfl,rfl,rfl,rfl,rfl,Nat.zero_le _,hY,P2,hA,hV,hb⟩ ?_;rintro k e w ⟨i,hk,s0,s5,s6,s8,s9,s10,hi,hY,P2,hA,hV,hb⟩;rw[L1 s0,L1 s5,L1 s6,L1 s8,L1 s9,L1 s10];clear s0 s5 s6 s8 s9 s10;refine U34 ?_;refine U198 ?_;refine L.va (H6 rfl underlying26 rfl) ?_;refine U79 ?_;refine W.ct0 rfl (fun h44=>?_) (fun h44=>?_)
  ·refine W.skip ?_;show W _ _ _ _ _ _;refine U226 ?_;refine W.seq ?_;obtain⟨cl,o,he,hcp,ho,hok,hx,hvl,htl⟩:=hTr.last hP (i:=i) (by omega);obtain⟨x,hxe⟩:∃x,x=(X9 o (st i)).2:=⟨_,rfl⟩
   rw[<- hxe]at hx;obtain⟨k,hk⟩:∃k,((st i).S2 cl).length=k:=⟨_,rfl⟩
   rw[hk]at ho hx;rw[pbo]at ho;have hcm:cl<m:=by omega
   have hkl:k<(bo cl).length:=(List.getElem?_eq_some_iff.1 ho).1;have hkt:k<((pS p sc sn).S2 cl).length:=(List.getElem?_eq_some_iff.1 hx).1;have hle:=hBo.len cl hcm;obtain⟨th,wh,ca,vv⟩:=o;have hcs:(1 <=ca/\ca <=4/\(st (i+1)).val=(st i).val)\/(th=3/\ca=5)\/(th=3/\ca=7)\/(th=4/\ca=5)\/(th=4/\ca=6)\/(th=5/\ca=8)\/(th=5/\ca=9):=by
    rcases hok with⟨z1,z2⟩|⟨z1,z2⟩|⟨z1,z2⟩|⟨z1,z2⟩|⟨z1,z2⟩ <;> simp only at z1 z2
    ·exact .inl ⟨by omega,by omega,by rw[hvl];exact Bh0 _ _ (by show ca <=4;omega) (by show 1 <=ca;omega)⟩
    ·exact .inl ⟨by omega,by omega,by rw[hvl];exact Bh0 _ _ (by show ca <=4;omega) (by show 1 <=ca;omega)⟩
    all_goals omega
   clear hok;rcases hcs with⟨l8,hc4,evl⟩|⟨rfl,rfl⟩|⟨rfl,rfl⟩|⟨rfl,rfl⟩|⟨rfl,rfl⟩|⟨rfl,rfl⟩|⟨rfl,rfl⟩
   ·refine W.region rfl ?_;refine U198 ?_;refine U438 ?_;refine U64 ?_;intro w hb hY P2 hA hV R8;refine U67 ?_;intro hb hY P2 hA hV R8;generalize w.drew=w at *;refine U55 ?_;refine F.va rfl rfl (fun w' V1=>(E1 (cs:=[.int .i64 th,.int .i64 wh,.int .i64 ca,.int .i64 vv]) rfl underlying52 rfl R5 rfl (fun q v hq=>(V1.1.ops cl hcm).cell k _ ho q v hq))) ?_;refine U68 ?_;intro dw0 hh0;have zm0:=hA;have zn0:=hV;have mp0:=R8;have ah0:=hb;refine U56 ?_;intro w b12 F12 ir0 hA R8;have I2:=F12.blk;refine L.nil ⟨rfl,⟨R8,hA⟩,?_⟩;refine U6 ?_;refine L.pa [.int .i64 th,.int .i64 wh,.int .i64 ca,.int .i64 vv] R5 I2 (fun w C1 hg B2=>?_);refine U59 ?_;intro L7 hY P2 hA hV R8 hb;have I2:=C1;refine U58 ?_;refine U66 ?_;intro w hb hY P2 hA hV I2;refine U63 ?_;intro w C1 hg B2 hY P2 hV I2 hb;clear hA;have hA:=C1;refine U52 ?_;refine L.va (E1 (cs:=[.int .i64 th,.int .i64 wh,.int .i64 ca,.int .i64 vv]) rfl underlying52 rfl R5 rfl (I2.N5 rfl)) ?_;refine L.call (D2 rfl func15 rfl cp0 rfl) (W5 (⟨th,wh,ca,vv⟩:V2) _) ?_;rintro _ w ⟨rfl,j2⟩;refine U57 ?_;intro hb hY P2 hA hV I2;refine U116 ?_;refine L.va (E0 rfl underlying3 rfl (I2.F0 2 (v:=.int .i64 ca) rfl)) ?_;refine U54 ?_;refine U148 ?_;refine W.region rfl ?_;refine L.va (W1 (r:=false) (decide_eq_false (by omega)) (n3 rfl rfl)) ?_;refine U5 ?_;refine U148 ?_;refine U7 ?_;refine U148 ?_;refine W.region rfl ?_;refine U148 ?_;exact U458
   ·rw[A9 (.inl rfl) (t:=3) rfl]at hxe hvl;have evl:=hvl;refine U84 ?_;refine U64 ?_;intro w hb hY P2 hA hV R8;refine U67 ?_;intro hb hY P2 hA hV R8;generalize w.drew=w at *;refine U55 ?_;refine F.va rfl rfl (fun w' V1=>(E1 (cs:=[.int .i64 3,.int .i64 wh,.int .i64 5,.int .i64 vv]) rfl underlying52 rfl R5 rfl (fun q v hq=>(V1.1.ops cl hcm).cell k _ ho q v hq))) ?_;refine U68 ?_;intro dw0 hh0;have zm0:=hA;have zn0:=hV;have mp0:=R8;have ah0:=hb;refine U56 ?_;intro w b12 F12 ir0 hA R8;have I2:=F12.blk;refine L.nil ⟨rfl,⟨R8,hA⟩,?_⟩;refine U6 ?_;refine L.pa [.int .i64 3,.int .i64 wh,.int .i64 5,.int .i64 vv] R5 I2 (fun w C1 hg B2=>?_);refine U59 ?_;intro L7 hY P2 hA hV R8 hb;have I2:=C1;refine U58 ?_;refine U66 ?_;intro w hb hY P2 hA hV I2;refine U63 ?_;intro w C1 hg B2 hY P2 hV I2 hb;clear hA;have hA:=C1;refine U52 ?_;refine L.va (E1 (cs:=[.int .i64 3,.int .i64 wh,.int .i64 5,.int .i64 vv]) rfl underlying52 rfl R5 rfl (I2.N5 rfl)) ?_;refine L.call (D2 rfl func15 rfl cp0 rfl) (W5 (⟨3,wh,5,vv⟩:V2) _) ?_;rintro _ w ⟨rfl,j2⟩;refine U57 ?_;intro hb hY P2 hA hV I2;clear j2;refine U457 ?_;refine U54 ?_;refine U470 ?_;refine U469 ?_;refine U468 ?_;refine U7 ?_;refine U150 ?_;refine U277 ?_;refine U151 ?_;refine U462 ?_;refine L.va (P1 (i:=Z0 (⟨3,wh,5,vv⟩:V2)) (n:=2) rfl rfl underlying37 sz2 (N0 _)) ?_;refine U208 ?_;exact U188
   ·rw[uk0 rfl (t:=3) rfl]at hxe hvl;have evl:=hvl;refine U84 ?_;refine U64 ?_;intro w hb hY P2 hA hV R8;refine U67 ?_;intro hb hY P2 hA hV R8;generalize w.drew=w at *;refine U55 ?_;refine F.va rfl rfl (fun w' V1=>(E1 (cs:=[.int .i64 3,.int .i64 wh,.int .i64 7,.int .i64 vv]) rfl underlying52 rfl R5 rfl (fun q v hq=>(V1.1.ops cl hcm).cell k _ ho q v hq))) ?_;refine U68 ?_;intro dw0 hh0;have zm0:=hA;have zn0:=hV;have mp0:=R8;have ah0:=hb;refine U56 ?_;intro w b12 F12 ir0 hA R8;have I2:=F12.blk;refine L.nil ⟨rfl,⟨R8,hA⟩,?_⟩;refine U6 ?_;refine L.pa [.int .i64 3,.int .i64 wh,.int .i64 7,.int .i64 vv] R5 I2 (fun w C1 hg B2=>?_);refine U59 ?_;intro L7 hY P2 hA hV R8 hb;have I2:=C1;refine U58 ?_;refine U66 ?_;intro w hb hY P2 hA hV I2;refine U63 ?_;intro w C1 hg B2 hY P2 hV I2 hb;clear hA;have hA:=C1;refine U52 ?_;refine L.va (E1 (cs:=[.int .i64 3,.int .i64 wh,.int .i64 7,.int .i64 vv]) rfl underlying52 rfl R5 rfl (I2.N5 rfl)) ?_;refine L.call (D2 rfl func15 rfl cp0 rfl) (W5 (⟨3,wh,7,vv⟩:V2) _) ?_;rintro _ w ⟨rfl,j2⟩;refine U57 ?_;intro hb hY P2 hA hV I2;refine U116 ?_;refine L.va (E0 rfl underlying3 rfl (I2.F0 2 (v:=.int .i64 7) rfl)) ?_;refine U54 ?_;refine L.va (W1 (r:=false) (by decide) (n3 (m:=7) (k:=6) rfl rfl)) ?_;refine U49 ?_;refine L.va (W1 (r:=false) (by decide) (n3 (m:=7) (k:=9) rfl rfl)) ?_;refine U5 ?_;refine L.va (W1 (r:=true) (by decide) (n3 (m:=7) (k:=7) rfl rfl)) ?_;refine U22 ?_;refine W.seq ?_;refine W.dl0 14 (fun w'=>Below w.heap.size w w') (by kernel_rfl) (by kernel_rfl) (by kernel_rfl) (by kernel_rfl) ((Below.refl w.heap.size w).drew) ?_;refine U547 ?_;refine U547 ?_;refine U339 ?_;refine D.va (fun w' V1=>(E0 (v:=.int .i64 ((st i).val 3 (Z0 (⟨3,wh,7,vv⟩:V2)))) rfl underlying2 rfl (mo0 (hV.A0 V1) (by decide) (N0 _) rfl))) ?_;refine U307 ?_;refine D.va (fun w' V1=>(fx0 (κ:=.i64) rfl rfl)) ?_;refine U339 ?_;refine U436 ?_;intro w j2 hb hY P2 hA hV I2;clear j2;refine L.put (b:=b9) (o:=0+3*2+Z0 (⟨3,wh,7,vv⟩:V2)*1) (vs:=[.int .i64 (IntKind.i64.wrap (((st i).val 3 (Z0 (⟨3,wh,7,vv⟩:V2)))+vv))]) _ rfl rfl rfl sz2 rfl rfl hV (by show _ <=(arr 12 _).size;rw[T7];have h9:=N0 (⟨3,wh,7,vv⟩:V2);omega) (mn0 (N0 _) (IntKind.i64.wrap (((st i).val 3 (Z0 (⟨3,wh,7,vv⟩:V2)))+vv))) (fun w C1 hg B2=>?_);refine U266 ?_;intro hY P2 hA;have I2:=S0.other I2 hg (S0.ne I2 hV (by decide));have hb:=R3 hb hb.size hg lt9;clear hV;have hV:=C1;clear C1 hg B2;refine U4 ?_;refine U151 ?_;refine U462 ?_;refine L.va (P1 (i:=Z0 (⟨3,wh,7,vv⟩:V2)) (n:=2) rfl rfl underlying37 sz2 (N0 _)) ?_;refine L.va (E0 (v:=.int .i64 x) rfl underlying2 rfl (mo0 hV (by decide) (N0 _) (fh0.trans hxe.symm))) ?_;refine L.va (W1 (r:=false) (decide_eq_false (fun z=>z rfl)) (fy0 rfl rfl)) ?_;exact U188
   ·rw[A9 (.inl rfl) (t:=4) rfl]at hxe hvl;have evl:=hvl;refine U84 ?_;refine U64 ?_;intro w hb hY P2 hA hV R8;refine U67 ?_;intro hb hY P2 hA hV R8;generalize w.drew=w at *;refine U55 ?_;refine F.va rfl rfl (fun w' V1=>(E1 (cs:=[.int .i64 4,.int .i64 wh,.int .i64 5,.int .i64 vv]) rfl underlying52 rfl R5 rfl (fun q v hq=>(V1.1.ops cl hcm).cell k _ ho q v hq))) ?_;refine U68 ?_;intro dw0 hh0;have zm0:=hA;have zn0:=hV;have mp0:=R8;have ah0:=hb;refine U56 ?_;intro w b12 F12 ir0 hA R8;have I2:=F12.blk;refine L.nil ⟨rfl,⟨R8,hA⟩,?_⟩;refine U6 ?_;refine L.pa [.int .i64 4,.int .i64 wh,.int .i64 5,.int .i64 vv] R5 I2 (fun w C1 hg B2=>?_);refine U59 ?_;intro L7 hY P2 hA hV R8 hb;have I2:=C1;refine U58 ?_;refine U66 ?_;intro w hb hY P2 hA hV I2;refine U63 ?_;intro w C1 hg B2 hY P2 hV I2 hb;clear hA;have hA:=C1;refine U52 ?_;refine L.va (E1 (cs:=[.int .i64 4,.int .i64 wh,.int .i64 5,.int .i64 vv]) rfl underlying52 rfl R5 rfl (I2.N5 rfl)) ?_;refine L.call (D2 rfl func15 rfl cp0 rfl) (W5 (⟨4,wh,5,vv⟩:V2) _) ?_;rintro _ w ⟨rfl,j2⟩;refine U57 ?_;intro hb hY P2 hA hV I2;clear j2;refine U457 ?_;refine U54 ?_;refine U470 ?_;refine U469 ?_;refine U468 ?_;refine U7 ?_;refine U150 ?_;refine U277 ?_;refine U151 ?_;refine L.va (E0 rfl underlying3 rfl (I2.F0 0 (v:=.int .i64 4) rfl)) ?_;refine L.va (Y3 rfl) ?_;refine L.va (P1 (i:=4) (n:=6) rfl rfl underlying38 Bz0 (by decide)) ?_;refine L.va (P1 (i:=Z0 (⟨4,wh,5,vv⟩:V2)) (n:=2) rfl rfl underlying37 sz2 (N0 _)) ?_;refine U208 ?_;exact U188
   ·rw[ej0 (.inl rfl) (t:=4) rfl]at hxe hvl;have evl:=hvl;refine U84 ?_;refine U64 ?_;intro w hb hY P2 hA hV R8;refine U67 ?_;intro hb hY P2 hA hV R8;generalize w.drew=w at *;refine U55 ?_;refine F.va rfl rfl (fun w' V1=>(E1 (cs:=[.int .i64 4,.int .i64 wh,.int .i64 6,.int .i64 vv]) rfl underlying52 rfl R5 rfl (fun q v hq=>(V1.1.ops cl hcm).cell k _ ho q v hq))) ?_;refine U68 ?_;intro dw0 hh0;have zm0:=hA;have zn0:=hV;have mp0:=R8;have ah0:=hb;refine U56 ?_;intro w b12 F12 ir0 hA R8;have I2:=F12.blk;refine L.nil ⟨rfl,⟨R8,hA⟩,?_⟩;refine U6 ?_;refine L.pa [.int .i64 4,.int .i64 wh,.int .i64 6,.int .i64 vv] R5 I2 (fun w C1 hg B2=>?_);refine U59 ?_;intro L7 hY P2 hA hV R8 hb;have I2:=C1;refine U58 ?_;refine U66 ?_;intro w hb hY P2 hA hV I2;refine U63 ?_;intro w C1 hg B2 hY P2 hV I2 hb;clear hA;have hA:=C1;refine U52 ?_;refine L.va (E1 (cs:=[.int .i64 4,.int .i64 wh,.int .i64 6,.int .i64 vv]) rfl underlying52 rfl R5 rfl (I2.N5 rfl)) ?_;refine L.call (D2 rfl func15 rfl cp0 rfl) (W5 (⟨4,wh,6,vv⟩:V2) _) ?_;rintro _ w ⟨rfl,j2⟩;refine U57 ?_;intro hb hY P2 hA hV I2;refine U116 ?_;refine L.va (E0 rfl underlying3 rfl (I2.F0 2 (v:=.int .i64 6) rfl)) ?_;refine U54 ?_;refine L.va (W1 (r:=true) (by decide) (n3 (m:=6) (k:=6) rfl rfl)) ?_;refine U22 ?_;refine U277 ?_;refine U328 ?_;refine D.va (fun w' V1=>(E0 rfl underlying3 rfl ((I2.A0 V1).F0 0 (v:=.int .i64 4) rfl))) ?_;refine U546 ?_;refine D.va (fun w' V1=>(P1 (i:=4) (n:=6) rfl rfl underlying38 Bz0 (by decide))) ?_;refine D.va (fun w' V1=>(P1 (i:=Z0 (⟨4,wh,6,vv⟩:V2)) (n:=2) rfl rfl underlying37 sz2 (N0 _))) ?_;refine U140 ?_;intro w j2 hb hY P2 hA hV;clear j2;refine L.put (b:=b9) (o:=0+4*2+Z0 (⟨4,wh,6,vv⟩:V2)*1) (vs:=[.int .i64 vv]) _ rfl rfl rfl sz2 rfl rfl hV (by show _ <=(arr 12 _).size;rw[T7];have h9:=N0 (⟨4,wh,6,vv⟩:V2);omega) (mn0 (N0 _) vv) (fun w C1 hg B2=>?_);refine U266 ?_;intro hY P2 hA;have hb:=R3 hb hb.size hg lt9;clear hV;have hV:=C1;clear C1 hg B2;refine L.nil ?_;exact U255
   ·rw[A9 (.inr rfl) (t:=5) rfl]at hxe hvl;have evl:=hvl;refine U84 ?_;refine U64 ?_;intro w hb hY P2 hA hV R8;refine U67 ?_;intro hb hY P2 hA hV R8;generalize w.drew=w at *;refine U55 ?_;refine F.va rfl rfl (fun w' V1=>(E1 (cs:=[.int .i64 5,.int .i64 wh,.int .i64 8,.int .i64 vv]) rfl underlying52 rfl R5 rfl (fun q v hq=>(V1.1.ops cl hcm).cell k _ ho q v hq))) ?_;refine U68 ?_;intro dw0 hh0;have zm0:=hA;have zn0:=hV;have mp0:=R8;have ah0:=hb;refine U56 ?_;intro w b12 F12 ir0 hA R8;have I2:=F12.blk;refine L.nil ⟨rfl,⟨R8,hA⟩,?_⟩;refine U6 ?_;refine L.pa [.int .i64 5,.int .i64 wh,.int .i64 8,.int .i64 vv] R5 I2 (fun w C1 hg B2=>?_);refine U59 ?_;intro L7 hY P2 hA hV R8 hb;have I2:=C1;refine U58 ?_;refine U66 ?_;intro w hb hY P2 hA hV I2;refine U63 ?_;intro w C1 hg B2 hY P2 hV I2 hb;clear hA;have hA:=C1;refine U52 ?_;refine L.va (E1 (cs:=[.int .i64 5,.int .i64 wh,.int .i64 8,.int .i64 vv]) rfl underlying52 rfl R5 rfl (I2.N5 rfl)) ?_;refine L.call (D2 rfl func15 rfl cp0 rfl) (W5 (⟨5,wh,8,vv⟩:V2) _) ?_;rintro _ w ⟨rfl,j2⟩;refine U57 ?_;intro hb hY P2 hA hV I2;refine U116 ?_;refine L.va (E0 rfl underlying3 rfl (I2.F0 2 (v:=.int .i64 8) rfl)) ?_;refine U54 ?_;refine L.va (W1 (r:=false) (by decide) (n3 (m:=8) (k:=6) rfl rfl)) ?_;refine U49 ?_;refine L.va (W1 (r:=false) (by decide) (n3 (m:=8) (k:=9) rfl rfl)) ?_;refine U5 ?_;refine L.va (W1 (r:=false) (by decide) (n3 (m:=8) (k:=7) rfl rfl)) ?_;refine U93 ?_;refine U7 ?_;refine L.va (W1 (r:=false) (by decide) (n3 (m:=8) (k:=5) rfl rfl)) ?_;refine U49 ?_;refine L.va (W1 (r:=true) (by decide) (n3 (m:=8) (k:=8) rfl rfl)) ?_;refine U22 ?_;refine U151 ?_;refine L.va (E0 rfl underlying3 rfl (I2.F0 0 (v:=.int .i64 5) rfl)) ?_;refine L.va (Y3 rfl) ?_;refine L.va (P1 (i:=5) (n:=6) rfl rfl underlying38 Bz0 (by decide)) ?_;refine L.va (P1 (i:=Z0 (⟨5,wh,8,vv⟩:V2)) (n:=2) rfl rfl underlying37 sz2 (N0 _)) ?_;refine U208 ?_;exact U188
   ·rw[ej0 (.inr rfl) (t:=5) rfl]at hxe hvl;have evl:=hvl;refine U84 ?_;refine U64 ?_;intro w hb hY P2 hA hV R8;refine U67 ?_;intro hb hY P2 hA hV R8;generalize w.drew=w at *;refine U55 ?_;refine F.va rfl rfl (fun w' V1=>(E1 (cs:=[.int .i64 5,.int .i64 wh,.int .i64 9,.int .i64 vv]) rfl underlying52 rfl R5 rfl (fun q v hq=>(V1.1.ops cl hcm).cell k _ ho q v hq))) ?_;refine U68 ?_;intro dw0 hh0;have zm0:=hA;have zn0:=hV;have mp0:=R8;have ah0:=hb;refine U56 ?_;intro w b12 F12 ir0 hA R8;have I2:=F12.blk;refine L.nil ⟨rfl,⟨R8,hA⟩,?_⟩;refine U6 ?_;refine L.pa [.int .i64 5,.int .i64 wh,.int .i64 9,.int .i64 vv] R5 I2 (fun w C1 hg B2=>?_);refine U59 ?_;intro L7 hY P2 hA hV R8 hb;have I2:=C1;refine U58 ?_;refine U66 ?_;intro w hb hY P2 hA hV I2;refine U63 ?_;intro w C1 hg B2 hY P2 hV I2 hb;clear hA;have hA:=C1;refine U52 ?_;refine L.va (E1 (cs:=[.int .i64 5,.int .i64 wh,.int .i64 9,.int .i64 vv]) rfl underlying52 rfl R5 rfl (I2.N5 rfl)) ?_;refine L.call (D2 rfl func15 rfl cp0 rfl) (W5 (⟨5,wh,9,vv⟩:V2) _) ?_;rintro _ w ⟨rfl,j2⟩;refine U57 ?_;intro hb hY P2 hA hV I2;refine U116 ?_;refine L.va (E0 rfl underlying3 rfl (I2.F0 2 (v:=.int .i64 9) rfl)) ?_;refine U54 ?_;refine L.va (W1 (r:=false) (by decide) (n3 (m:=9) (k:=6) rfl rfl)) ?_;refine U49 ?_;refine L.va (W1 (r:=true) (by decide) (n3 (m:=9) (k:=9) rfl rfl)) ?_;refine U22 ?_;refine U328 ?_;refine D.va (fun w' V1=>(E0 rfl underlying3 rfl ((I2.A0 V1).F0 0 (v:=.int .i64 5) rfl))) ?_;refine U546 ?_;refine D.va (fun w' V1=>(P1 (i:=5) (n:=6) rfl rfl underlying38 Bz0 (by decide))) ?_;refine D.va (fun w' V1=>(P1 (i:=Z0 (⟨5,wh,9,vv⟩:V2)) (n:=2) rfl rfl underlying37 sz2 (N0 _))) ?_;refine U140 ?_;intro w j2 hb hY P2 hA hV;clear j2;refine L.put (b:=b9) (o:=0+5*2+Z0 (⟨5,wh,9,vv⟩:V2)*1) (vs:=[.int .i64 vv]) _ rfl rfl rfl sz2 rfl rfl hV (by show _ <=(arr 12 _).size;rw[T7];have h9:=N0 (⟨5,wh,9,vv⟩:V2);omega) (mn0 (N0 _) vv) (fun w C1 hg B2=>?_);refine U266 ?_;intro hY P2 hA;have hb:=R3 hb hb.size hg lt9;clear hV;have hV:=C1;clear C1 hg B2;refine L.nil ?_;exact U255
  ·refine W.exit ?_;refine U117 ?_;refine L.call (al0  func10 rfl Vx0 rfl) (Jr0 _) ?_;rintro _ w ⟨rfl,j2⟩;have hb:=O0 hb j2;exact U180
end Go.Vy.Sc
end
section
namespace Go.Vy
open Go Go.Conc
theorem Dg0 {H:Type} {enc:TypeId×Value->H} {a:Assume} {C:Checked} {os:Os} {f:FuncId} {fn:Func} {s:OpenSpec} {k:(H:Type)->List (DataW H)->Bool} (hk:s.cond=some k) {F:Stop.Interp} {conds:List PathCond} {apart fresh handsOn again:Bool}
  (own:ownKnob C.prog.godebug=none) (started:os.Started) (hfn:C.prog.funcs[f]? =some fn)
  (wit:∃(w:World) (tape:Tape) (i:Input),w.os=os/\(w.forCall tape i).Shaped C.prog/\i.vars=[]/\Input.okWide C.prog (w.forCall tape i) .any w.heap.size f i/\s.pre6 enc C.prog fn conds apart (w.forCall tape i).memory i.args/\a.holds C.prog (lone (Frame.enter C.prog f i.args .normal) [] (w.forCall tape i)))
  (runs:∀(W:World) (base:Nat) (args:Array Value) (ds gs:List (DataW H)) (before:List MemPlace),(∀(j:Nat) t v,fn.params[j]? =some t->args[j]? =some v->Value.okWide C.prog W .any base t v)->DataW.Whole enc C.prog fn.params.toList s.vars apart W args.toList ds gs before->k H (ds++gs)=true ->
   ∃M last o w' t',runNT C.prog (M+1) (solo (G (Frame.enter C.prog f args .normal) []) W) #[]=(.ended o w',t')/\runN C.prog M (solo (G (Frame.enter C.prog f args .normal) []) W)= .next last/\step C.prog last= .ended o w'/\Conc.Good C.prog (fun v W'=>(s.at F).post enc C.prog fn apart fresh handsOn again W args v W') last o w' t') :
  ReturnsInLeavingWide a C os f .any (s.pre6 enc C.prog fn conds apart) ((s.at F).post enc C.prog fn apart fresh handsOn again):=by
 refine returnsInLeavingWide_of_good own started wit fun w tape i _ _ _ hok fc1 _=>?_;obtain⟨_,_,_,fn',ak1,_,_,_,_,fd1⟩:=hok;rw[hfn]at ak1;obtain rfl:=Option.some.inj ak1;obtain⟨ds,gs,before,hw,_,hkk⟩:=(OpenSpec.pre_some hk conds apart _ _).1 fc1.1;obtain⟨M,last,o,w',t',h1,h2,h3,h4⟩:=runs (w.forCall tape i) w.heap.size i.args ds gs before fd1 (DataW.Whole.of_heap (w':=w.forCall tape i) (by rfl) hw) hkk;exact⟨M,last,o,w',t',h1,h2,h3,h4.mono fun v hp=>ChangeSpec.post_blind hp⟩
theorem zo0 {p:Pinned} {s:OpenSpec} {c:OpenClaim} (f:FuncId) (fn:Func) (hn:c.program=p.name) (hs:c.sum=p.sum) (hsp:c.spec=s.name) (hstart:c.start= .entering) (by0:c.outside=[]) (hin:c.inits=[]) (hun:c.under=none)
  (hi4:c.initsInPlace=[]/\c.initsUnfollowed=false/\c.initsRecurse=false/\c.initsNamed=[]/\c.initsPassed=[]) (hnb:c.noBlocks=false) (hlv:c.leaving=true) (hfo:c.followed=none) (fe1:c.narrowed=s.cond.isSome) (Ua0:c.still=false)
  (hfn:p.checked.prog.funcNamed c.func=some f) (hf:p.checked.prog.funcs[f]? =some fn) (closed:joinedFacts p.checked.prog f fn s.bare c=true) (al1:fn.isInstance p.checked.prog c.origin c.targs) (am1:fn.isWrapper p.checked.prog c.wrapper c.mainSum)
  (h:∀os:Os,os.Started->∀(H:Type) (enc:TypeId×Value->H),(∀a b,enc a=enc b->a=b)->∀F:Stop.Interp,ReturnsInLeavingWide c.assume p.checked os f .any (c.pre enc p.checked.prog fn s) ((s.at F).post enc p.checked.prog fn c.apart c.fresh c.handsOn c.again)):c.holds p s:=by
 simp only[joinedFacts,Bool.and_eq_true,beq_iff_eq,Array.all_eq_true_iff_forall_mem,List.all_eq_true,decide_eq_true_eq]at closed;obtain⟨⟨⟨⟨⟨⟨⟨⟨⟨⟨⟨⟨⟨⟨⟨⟨⟨⟨⟨⟨⟨⟨⟨⟨⟨⟨⟨⟨⟨⟨⟨q1,q2⟩,q3⟩,q4⟩,q5⟩,q6⟩,q7⟩,q8⟩,q9⟩,q10⟩,q11⟩,q12⟩,q13⟩,q14⟩,q15⟩,q16⟩,q17⟩,ff1⟩,q18⟩,q19⟩,q20⟩,q21⟩,q22⟩,q23⟩,fg1⟩,q24⟩,fh1⟩,fi1⟩,q25⟩,q26⟩,q27⟩,q28⟩:=closed;have hq:∀os:Os,Stop.quiet p.checked.prog os:=fun os k hk=>by rw[q9]at hk;cases hk
 have hex:∃os:Os,c.world os/\Stop.quiet p.checked.prog os:=⟨_,by unfold OpenClaim.world;rw[by0,hstart];exact WideRow.started_initial,hq _⟩
 refine⟨q1,hn,hs,hsp,q2,q3,?_,?_,f,fn,hfn,hf,⟨q4,q19⟩,(fun hb=>by rw[hnb]at hb;cases hb),?_,al1,am1,q6.trans q7.symm,⟨q8.trans q9.symm,?_,fg1⟩,q10,q11,q12,q13,q14,⟨q15,q27,q28⟩,⟨q16,q20⟩,⟨q17,q21,q25,q26⟩,⟨q22,fh1,fi1,ff1⟩,?_,fun n hn'=>varReadable_some (q18 n hn'),hex,[],?_,fun os st _ H enc inj=>?_⟩
 ·unfold OpenClaim.startFits;rw[hstart];exact q24
 ·unfold OpenClaim.startTold;rw[hstart];exact⟨hin,hun,hi4⟩
 ·unfold OpenClaim.namedList;rw[hfo];exact q5
 ·unfold Program.envWorded;rw[q9];rfl
 ·rw[by0,fe1];cases hsh:c.shortTexts with
  |none=>simp
  |some _=>rw[hsh]at q23;cases q23
 ·unfold OpenClaim.lists;rw[hfo]
 ·have st':os.Started:=by unfold OpenClaim.world at st;rw[by0,hstart]at st;exact st
  rw[OpenClaim.post_not_still Ua0];unfold OpenClaim.form;rw[hstart,q6];intro F;have e1:c.okInput=Input.okWide:=by unfold OpenClaim.okInput;rw[hnb]
  have e2:c.atReturn p.checked.prog=leavingAtReturn p.checked.prog:=by unfold OpenClaim.atReturn;rw[hlv]
  have e3:c.always p.checked.prog []=nothingAlways:=by unfold OpenClaim.always;rw[hfo]
  have e4:s.post enc p.checked.prog fn F c.outside c.apart c.fresh c.handsOn c.again=(s.at F).post enc p.checked.prog fn c.apart c.fresh c.handsOn c.again:=by rw[by0];rfl
  rw[e1,e2,e3];show ReturnsInOpen _ _ _ _ _ _ _ _ (s.post enc p.checked.prog fn F c.outside c.apart c.fresh c.handsOn c.again) _ _;rw[e4];exact h os st' H enc inj F q24
end Go.Vy
end
section
namespace Go.Vy.Sc
open Go Go.Conc Go.Yc Go.RowKit Go.Proofs Go.Proofs.YtnifpkopeheodaaGreat Tryz
open Go.Vc Go.Wg Go.ChangeShapes Go.WideShapes Go.ChangeAt Go.Deep
theorem Jv0 {H:Type} (d:DataW H):1 <=Rows.uptoBulk d:=by
 cases d with
 |lit l=>cases l <;> simp[Rows.uptoBulk]
 |_=>simp[Rows.uptoBulk]
theorem sw0 {H:Type} {d:DataW H}:∀{l:List (DataW H)},d∈l->Rows.uptoBulk d <=Rows.uptoBulkAll l
 |x::r,h=>by
  simp only[Rows.uptoBulkAll];rcases List.mem_cons.1 h with rfl|h
  ·omega
  ·have:=sw0 h;omega
theorem xa0 {H:Type}:∀(l:List (DataW H)),l.length <=Rows.uptoBulkAll l
 | []=>Nat.zero_le _
 |x::r=>by
  have:=Jv0 x;have:=xa0 r;simp only[Rows.uptoBulkAll,List.length_cons];omega
theorem Ub0 {H:Type} {l:List (DataW H)} (h:Rows.uptoSmall H l=true):Rows.uptoBulkAll l <=1048576:=of_decide_eq_true h
section
variable {H:Type}{enc:TypeId×Value->H}{W:World}{base:Nat}{spare:Nat->Bool}{held:Bool}{P:Program}
theorem mq0 {t e:TypeId} {s:Nat} {a:Option Addr} {len cap fuel:Nat} {x:DataW H×List MemPlace} (ht:P.underlying t=some (.slice e)) (hs:P.cellsOf e=s) (h0:0<s) (h:DataW.trod enc P W base spare held fuel t [.slice a len cap]=some x) :
  SL a len/\(a=none->len=0/\cap=0)/\(len <=cap/\len <=Rows.uptoBulk x.1)/\∃n,∀i,i<len->∃cs y,Rows.uptoBulk y.1 <=Rows.uptoBulk x.1/\cs.length=s/\(∀(j:Nat) v,cs[j]? =some v->W.cell? ⟨ab a,ao a+i*s+j,none⟩=some v)/\DataW.trod enc P W base spare held n e cs=some y:=by
 rcases open_slice ht h with⟨hcs,_⟩|⟨ad,l,c,m,n,D,Pl,hcs,hb,hl,hm,hmm,hx,hi⟩
 ·simp at hcs;obtain⟨rfl,rfl,rfl⟩:=hcs;exact⟨SL.zero _,fun _=>⟨rfl,rfl⟩,⟨Nat.le_refl _,Nat.zero_le _⟩,0,fun i hi=>absurd hi (Nat.not_lt_zero _)⟩
 ·simp at hcs;obtain⟨rfl,rfl,rfl⟩:=hcs;have hlm:len <=m:=by rw[hmm];split <;> omega
  have hbk:Rows.uptoBulkAll ((List.range len).map D) <=Rows.uptoBulk x.1:=by
   rw[hx];simp only[Rows.uptoBulk];omega
  have hE:∀i,i<len->∃cs y,Rows.uptoBulk y.1 <=Rows.uptoBulk x.1/\cs.length=s/\(∀(j:Nat) v,cs[j]? =some v->W.cell? ((ad.add (i*s)).add j)=some v)/\DataW.trod enc P W base spare held n e cs=some y:=fun i u7=>by
   obtain⟨cs,h1,h2⟩:=hi i (by omega);rw[hs]at h1;obtain⟨_,h4,h3⟩:=World.cells?_some h1;refine⟨cs,_,Nat.le_trans (sw0 (List.mem_map.2 ⟨i,by simpa using u7,rfl⟩)) hbk,h4,fun j v hj=>?_,h2⟩;have:j<s:=by rw[<- h4];exact(List.getElem?_eq_some_iff.1 hj).1
   rw[h3 j this];exact hj
  have hsp:0<len->ad=⟨ad.block,ad.off,none⟩:=fun hl0=>by
   obtain⟨cs,y,_,h1,h2,_⟩:=hE 0 hl0;obtain⟨v,hv⟩:∃v,cs[0]? =some v:=⟨_,List.getElem?_eq_getElem (by omega)⟩
   have:=h2 0 v hv;rw[Nat.zero_mul]at this;have e1:(ad.add 0).add 0=ad:=by simp[Addr.add]
   rw[e1]at this;obtain⟨b,o,sp⟩:=ad;cases sp with
   |none=>rfl
   |some sp=>unfold World.cell? at this;simp at this;split at this <;> simp at this
  refine⟨fun hl0=>by rw[hsp hl0];rfl,(fun h=>by cases h),⟨hl,?_⟩,n,fun i u7=>?_⟩
  ·have:=xa0 ((List.range len).map D);rw[List.length_map,List.length_range]at this;omega
  ·obtain⟨cs,y,h5,h1,h2,h3⟩:=hE i u7;refine⟨cs,y,h5,h1,fun j v hj=>?_,h3⟩;have:=h2 j v hj;rw[hsp (by omega),Addr.add_lit,Addr.add_lit]at this;exact this
end
section
variable {H:Type}{enc:TypeId×Value->H}{W:World}{base:Nat}{spare:Nat->Bool}{held:Bool}
theorem xb0:prog.cellsOf 52=4:=by kernel_rfl
theorem Jw0:prog.cellsOf 2=1:=by kernel_rfl
theorem De0:prog.cellsOf 50=1:=by kernel_rfl
theorem fj1 {α:Type}:∀{cs:List α},cs.length=4->∃a b c d,cs=[a,b,c,d]
 | [a,b,c,d],_=>⟨a,b,c,d,rfl⟩
instance:Inhabited V2:=⟨⟨0,0,0,0⟩⟩
set_option maxRecDepth 100000 in
theorem Df0 {n:Nat} {cs:List Value} {x:DataW H×List MemPlace} (h:DataW.trod enc prog W base spare held n 52 cs=some x):∃o:V2,cs=yp0 o:=by
 obtain⟨m,hl,hf⟩:=yj0 underlying52 h;rw[xb0]at hl;obtain⟨v0,v1,v2,v3,rfl⟩:=fj1 hl;obtain⟨y0,h0⟩:∃y,DataW.trod enc prog W base spare held m 3 (([v0,v1,v2,v3].drop 0).take (prog.cellsOf 3))=some y:=hf 0 _ rfl;obtain⟨y1,h1⟩:∃y,DataW.trod enc prog W base spare held m 3 (([v0,v1,v2,v3].drop 1).take (prog.cellsOf 3))=some y:=hf 1 _ rfl;obtain⟨y2,h2⟩:∃y,DataW.trod enc prog W base spare held m 3 (([v0,v1,v2,v3].drop 2).take (prog.cellsOf 3))=some y:=hf 2 _ rfl;obtain⟨y3,h3⟩:∃y,DataW.trod enc prog W base spare held m 2 (([v0,v1,v2,v3].drop 3).take (prog.cellsOf 2))=some y:=hf 3 _ rfl;rw[wl0]at h0 h1 h2;rw[Jw0]at h3;obtain⟨z0,g0,_⟩:=DataW.trod_int underlying3 h0;obtain⟨z1,g1,_⟩:=DataW.trod_int underlying3 h1;obtain⟨z2,g2,_⟩:=DataW.trod_int underlying3 h2;obtain⟨z3,g3,_⟩:=DataW.trod_int underlying2 h3;refine⟨⟨z0,z1,z2,z3⟩,?_⟩;simp at g0 g1 g2 g3;rw[g0,g1,g2,g3];rfl
theorem Nk0 {n len cap:Nat} {a:Option Addr} {x:DataW H×List MemPlace} (h:DataW.trod enc prog W base spare held n 50 [.slice a len cap]=some x) (hx:Rows.uptoBulk x.1 <=1048576):∃l:List V2,l.length=len/\SL a len/\len <=1048576/\(∀(k:Nat) (o:V2),l[k]? =some o->∀(j:Nat) (v:Value),(yp0 o)[j]? =some v->W.cell? ⟨ab a,ao a+k*4+j,none⟩=some v):=by
 obtain⟨h1,_,⟨_,h2⟩,m,h3⟩:=mq0 underlying50 xb0 (by decide) h;obtain⟨f,hf⟩:=lx0 (α:=V2) (n:=len) (p:=fun i o=>∀(j:Nat) (v:Value),(yp0 o)[j]? =some v->W.cell? ⟨ab a,ao a+i*4+j,none⟩=some v) fun i hi=>by
  obtain⟨cs,y,g0,_,g2,g3⟩:=h3 i hi;obtain⟨o,rfl⟩:=Df0 g3;exact⟨o,g2⟩
 refine⟨(List.range len).map f,by simp,h1,by omega,fun k o hk=>?_⟩;have hkl:k<len:=by
  have:=(List.getElem?_eq_some_iff.1 hk).1;simpa using this
 simp[hkl]at hk;rw[<- hk];exact hf k hkl
theorem Nl0 {a:Option Addr} {len cap:Nat} {d:DataW H} {p:List MemPlace} (h:DataW.Trod enc prog W base spare held 23 (.slice a len cap) d p) (hd:Rows.uptoBulk d <=1048576):∃sc,ug0 (df0 W) a len cap sc/\len <=1048576:=by
 obtain⟨fuel,hf⟩:=h;obtain⟨h1,h2,h4,n,h3⟩:=mq0 underlying23 wl0 Nat.one_pos (show DataW.trod enc prog W base spare held fuel 23 [.slice a len cap]=_ from hf);have h4c:=h4.1;have h4:len <=Rows.uptoBulk d:=h4.2;obtain⟨sc,hsc⟩:=lx0 (α:=Int) (n:=len) (p:=fun i z=>W.cell? ⟨ab a,ao a+i*1,none⟩=some (.int .i64 z)) fun i hi=>by
  obtain⟨cs,y,_,_,g2,g3⟩:=h3 i hi;obtain⟨z,rfl,_⟩:=DataW.trod_int underlying3 g3;exact⟨z,g2 0 _ rfl⟩
 exact⟨sc,⟨h1,h2,h4c,fun j hj=>ip0 (hsc j hj)⟩,by omega⟩
theorem Nm0 {a:Option Addr} {len cap:Nat} {d:DataW H} {p:List MemPlace} (h:DataW.Trod enc prog W base spare held 22 (.slice a len cap) d p) (hd:Rows.uptoBulk d <=1048576):∃bo oa oc,r7 (df0 W) a len bo oa oc/\len <=1048576/\∀i,len <=i->bo i=[]:=by
 obtain⟨fuel,hf⟩:=h;obtain⟨h1,h2,h4,n,h3⟩:=mq0 underlying22 De0 Nat.one_pos (show DataW.trod enc prog W base spare held fuel 22 [.slice a len cap]=_ from hf);have h4c:=h4.1;have h4:len <=Rows.uptoBulk d:=h4.2;obtain⟨F,hF⟩:=lx0 (α:=List V2×Option Addr×Nat) (n:=len) (p:=fun i z=>W.cell? ⟨ab a,ao a+i*1,none⟩=some (.slice z.2.1 z.1.length z.2.2)/\SL z.2.1 z.1.length/\z.1.length <=1048576/\∀(k:Nat) (o:V2),z.1[k]? =some o->∀(j:Nat) (v:Value),(yp0 o)[j]? =some v->W.cell? ⟨ab z.2.1,ao z.2.1+k*4+j,none⟩=some v) fun i hi=>by
  obtain⟨cs,y,g0,g1,g2,g3⟩:=h3 i hi;have g0:Rows.uptoBulk y.1 <=Rows.uptoBulk d:=g0;have hcs:∃a' Uc0 Nn0,cs=[.slice a' Uc0 Nn0]:=by
   rcases DataW.trod_slice underlying50 g3 with⟨h0,_⟩|⟨a',Uc0,Nn0,_,_,_,_,h0,_⟩
   ·exact⟨_,_,_,h0⟩
   ·exact⟨_,_,_,h0⟩
  obtain⟨a',Uc0,Nn0,rfl⟩:=hcs;obtain⟨l,rfl,q1,q2,q3⟩:=Nk0 g3 (by omega);exact⟨(l,a',Nn0),g2 0 _ rfl,q1,q2,q3⟩
 refine⟨fun i=>if i<len then(F i).1 else [],fun i=>(F i).2.1,fun i=>(F i).2.2,⟨h1,fun i hi=>?_,fun i hi=>?_,fun i hi=>?_⟩,by omega,fun i hi=>if_neg (by omega)⟩
 ·show(df0 W).cell? _=some (.slice _ (if i<len then(F i).1 else []).length _);rw[if_pos hi];exact ip0 (hF i hi).1
 ·show fi0 (df0 W) _ (if i<len then(F i).1 else []);rw[if_pos hi];exact⟨(hF i hi).2.1,fun k o ho j v hv=>ip0 ((hF i hi).2.2.2 k o ho j v hv)⟩
 ·show(if i<len then(F i).1 else []).length <=_;rw[if_pos hi];exact(hF i hi).2.2.1
end
end Go.Vy.Sc
end
