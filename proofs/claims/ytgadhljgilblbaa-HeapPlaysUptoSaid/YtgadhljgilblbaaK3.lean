/- What the claim leans on, part 3. Laws. -/
import Derived.Test.YtgadhljgilblbaaK2
import Derived.Test.YtgadhljgilblbaaRows
import Derived.KernelRfl
import Derived.Conc.SmallLaws
set_option linter.unusedVariables false
section
namespace Go.Vy
open Go Go.Conc Go.Yc Go.RowKit
open Go.Vc
section
variable {P:Program}[Ctx P]{Z:Goroutine->World->Prop}{Q:Exit->Act->World->Prop}{ops:Array Oper}{b:Frame}{k:List Item}{cs:List Frame}
theorem Bj0 (hZ:Ctx.Zs P Z) (hb:b.kind≠.early) (hk:∀ch a' w',Q (.panic ch) a' w'->zz0 Z b k cs (.panic ch) a' w') {i:Nat} {rest:List Nat} {o:Oper} {a:Act} {w:World} (ho:ops[i]? =some o)
  (h:if Region.wanted o (yielded ops a.tmps) then pc0 P o a w (fun a w=>Z (G (b.at a (.inRegion ops rest::k)) cs) w) Q else Z (G (b.at (a.put o.dst undef) (.inRegion ops rest::k)) cs) w):Z (G (b.at a (.inRegion ops (i::rest)::k)) cs) w:=by
 cases hw:Region.wanted o (yielded ops a.tmps)with
 |false=>
  rw[hw]at h;exact(Ctx.cl Z hZ).ctl rfl rfl (fun w=>stepG_unwanted ho hw) h
 |true=>
  rw[hw,if_pos rfl]at h;have H9:∀v,(b.at a (.inRegion ops (i::rest)::k)).finish v=b.at (a.put o.dst v) (.inRegion ops rest::k):=by
   intro v;rw[Frame.finish_at,ho];rfl
  have Iz0:(b.kind==CallKind.early)=false:=by simpa using hb
  refine(Ctx.cl Z hZ).own _ _ rfl fun τ d=>?_;obtain⟨r,w',hr,hK⟩:=h τ d;have fol:∀g',g'.status= .running->(∀x x' es,(execOp a.eval o).runT P x #[]=(r.res x',es)->stepG P (Ctx.main P) (G (b.at a (.inRegion ops (i::rest)::k)) cs) x= .go g' x' (seen P b.fn es))->l6 P (Ctx.main P) (G (b.at a (.inRegion ops (i::rest)::k)) cs) (P2 w τ d) g' w':=by
   intro g' Y8 hs;refine⟨Y8,fun ρ x hx=>?_⟩;obtain⟨h1,x',es,h2,h3,h4⟩:=hr ρ x hx;exact⟨h1,x',_,hs x x' es h2,h3,fun e he=>h4 e (mem_seen he)⟩
  have split:∀x x' es,(execOp a.eval o).runT P x #[]=(r.res x',es)->(execOp a.eval o).run P x=r.res x'/\(execOp a.eval o).events P x #[]=es:=fun x x' es h=>by
   rw[Sem.runT_eq]at h;exact Prod.mk.inj h
  cases r with
  |val v=>
   refine⟨G (b.at (a.put o.dst v) (.inRegion ops rest::k)) cs,w',w.drawn,fol _ rfl fun x x' es h=>?_,hK⟩;obtain⟨h1,h2⟩:=split x x' es h;rw[stepG_value ho hw hb h1,listed,h2]
  |skip=>
   refine⟨G (b.at (a.put o.dst undef) (.inRegion ops rest::k)) cs,w',w.drawn,fol _ rfl fun x x' es h=>?_,hK⟩;obtain⟨h1,h2⟩:=split x x' es h;rw[stepG_none ho hw hb h1,listed,h2]
  |enter f args=>
   refine⟨G (Frame.enter P f args .normal) (b.at a (.inRegion ops (i::rest)::k)::cs),w',w.drawn,fol _ rfl fun x x' es h=>?_,hK Z hZ _ fun e w'' fr he hf hl=>?_⟩
   ·obtain⟨h1,h2⟩:=split x x' es h;rw[stepG_enter ho hw hb h1,listed,h2]
   ·cases e with
    |returned v=>
     refine U640 ?_;exact he
    |panicked chain=>
     refine U624 ?_;exact hk _ _ _ he _
    |outgrown=>exact he.elim
  |panic v=>
   refine⟨G {b.at a (.inRegion ops (i::rest)::k)with mode:=.panicking [{v,recovered:=false}]} cs,w',w.drawn,fol _ rfl fun x x' es h=>?_,hk _ _ _ hK _⟩;obtain⟨h1,h2⟩:=split x x' es h;have h1':(execOp a.eval o).run P x= .halt (.panic v) x':=h1;rw[stepG_oper ho hw];simp[stepG.apply,h1',h2,G,Frame.at,Iz0,GStep.after,Frame.raise]
theorem fq0 (hZ:Ctx.Zs P Z) (hb:b.kind≠.early) {suf:List Nat} (hk:∀ch a' w',Q (.panic ch) a' w'->zz0 Z b k cs (.panic ch) a' w') (hn:∀a' w',Q .normal a' w'->Z (G (b.at a' (.inRegion ops suf::k)) cs) w') :
  ∀(pre:List Nat) (a:Act) (w:World),wpOps P ops Q pre a w->Z (G (b.at a (.inRegion ops (pre++suf)::k)) cs) w
 | [],a,w,h=>hn a w h
 |i::pre,a,w,h=>by
  unfold wpOps at h;cases ho:ops[i]? with
  |none=>rw[ho]at h;exact h.elim
  |some o=>
   rw[ho]at h;simp only at h;refine Bj0 hZ hb hk ho ?_;show if _ then pc0 P o a w (fun a w=>Z (G (b.at a (.inRegion ops (pre++suf)::k)) cs) w) Q else _
   by_cases hw:Region.wanted o (yielded ops a.tmps)=true
   ·rw[if_pos hw]at h⊢;exact fm0 (fun a w h=>fq0 hZ hb hk hn pre a w h) (fun _ _ _ z=>z) h
   ·rw[if_neg hw]at h⊢;exact fq0 hZ hb hk hn pre _ _ h
def ZA (Z:Goroutine->World->Prop) (n:Nat) (b:Frame) (cs:List Frame) (e:Env) (todo:List Item) (w:World):Prop:=∀a,Rep n a e->Z (G (b.at a todo) cs) w
variable {n:Nat}{e:Env}{w:World}
theorem ZA.c (hZ:Ctx.Zs P Z) {todo ll0:List Item} (hs:∀a w,stepG P (Ctx.main P) (G (b.at a todo) cs) w= .go (G (b.at a ll0) cs) w #[]) (h:ZA Z n b cs e ll0 w):ZA Z n b cs e todo w :=
 fun a ha=>(Ctx.cl Z hZ).ctl rfl rfl (hs a) (h a ha)
theorem ZA.seq (hZ:Ctx.Zs P Z) {x y:Code} (h:ZA Z n b cs e (.code x :: .code y::k) w):ZA Z n b cs e (.code (.seq x y)::k) w:=ZA.c hZ (fun _ _=>stepG_seq) h
theorem ZA.skip (hZ:Ctx.Zs P Z) (h:ZA Z n b cs e k w):ZA Z n b cs e (.code .skip::k) w:=ZA.c hZ (fun _ _=>stepG_skip) h
theorem ZA.block (hZ:Ctx.Zs P Z) {id:Nat} {c:Code} (h:ZA Z n b cs e (.code c :: .inBlock id::k) w):ZA Z n b cs e (.code (.block id c)::k) w:=ZA.c hZ (fun _ _=>stepG_block) h
theorem ZA.loop (hZ:Ctx.Zs P Z) {c:Code} (h:ZA Z n b cs e (.code c :: .inLoop c::k) w):ZA Z n b cs e (.code (.loop c)::k) w:=ZA.c hZ (fun _ _=>stepG_loop) h
theorem ZA.inBlock (hZ:Ctx.Zs P Z) {id:Nat} (h:ZA Z n b cs e k w):ZA Z n b cs e (.inBlock id::k) w:=ZA.c hZ (fun _ _=>stepG_inBlock) h
theorem ZA.inLoop (hZ:Ctx.Zs P Z) {c:Code} (h:ZA Z n b cs e (.code c :: .inLoop c::k) w):ZA Z n b cs e (.inLoop c::k) w:=ZA.c hZ (fun _ _=>stepG_inLoop) h
theorem ZA.exit (hZ:Ctx.Zs P Z) {id:Nat} {k':List Item} (hk:exitTo id k=some k') (h:ZA Z n b cs e k' w):ZA Z n b cs e (.code (.exit id)::k) w:=ZA.c hZ (fun _ _=>stepG_exit hk) h
theorem ZA.cond (hZ:Ctx.Zs P Z) {c:Operand} {x y:Code} {t:Bool} (hc:ev e c= .bool t) (h:ZA Z n b cs e (.code (if t then x else y)::k) w):ZA Z n b cs e (.code (.cond c x y)::k) w :=
 fun a ha=>(Ctx.cl Z hZ).ctl rfl rfl (fun _=>stepG_cond (by rw[ha.eval];exact hc)) (h a ha)
theorem ZA.H4 (hZ:Ctx.Zs P Z) (h:ZA Z n b cs e k w):ZA Z n b cs e (.inRegion ops []::k) w:=ZA.c hZ (fun _ _=>stepG_region_end) h
def ZR (Z:Goroutine->World->Prop) (n:Nat) (b:Frame) (cs:List Frame) (e:Env) (w:World):Prop:=∀todo,∀a,Rep n a e->Z (G {b.at a todo with mode:=.returning} cs) w
theorem ZA.ret (hZ:Ctx.Zs P Z) (h:ZR Z n b cs e w):ZA Z n b cs e (.code .ret::k) w:=fun a ha=>(Ctx.cl Z hZ).ctl rfl rfl (fun _=>stepG_ret') (h _ a ha)
theorem ZA.done (hZ:Ctx.Zs P Z) (h:ZR Z n b cs e w):ZA Z n b cs e [] w:=fun a ha=>(Ctx.cl Z hZ).ctl rfl rfl (fun _=>stepG_end) (h _ a ha)
theorem ZA.piece (hZ:Ctx.Zs P Z) (hb:b.kind≠.early) {c:Code} {R:Env->World->Prop} (h:W P n c (bk0 R fun _ _ _=>False) e w) (hk:∀e' w',R e' w'->ZA Z n b cs e' k w'):ZA Z n b cs e (.code c::k) w:=by
 intro a ha;refine h a ha Z hZ b k cs hb fun x a' w' hx=>?_;obtain⟨e',r,hq⟩:=hx;cases x with
 |normal=>exact hk e' w' hq a' r
 |exit _=>exact hq.elim
 |goto _=>exact hq.elim
 |ret=>exact hq.elim
 |panic _=>exact hq.elim
 |outgrown=>exact hq.elim
theorem hh0:∀(l:List Oper) (k:Nat) (a:Act) (w:World),(∀j,j<l.length->l[j]? =ops[k+j]?)->wpList P ops Q l a w->wpOps P ops Q (List.range' k l.length) a w
 | [],_,_,_,_,h=>h
 |o::l,k,a,w,hj,h=>by
  have h0:ops[k]? =some o:=by simpa using(hj 0 (by simp)).symm
  have ih:=fun a w=>hh0 l (k+1) a w (fun j hl=>by have:=hj (j+1) (by simpa using hl);simpa [Nat.add_assoc,Nat.add_comm 1 j]using this);rw[List.length_cons,List.range'_succ];unfold wpOps;rw[h0];unfold wpList at h;by_cases hw:Region.wanted o (yielded ops a.tmps)=true
  ·simp only[if_pos hw]at h⊢;exact fm0 ih (fun _ _ _ z=>z) h
  ·simp only[if_neg hw]at h⊢;exact ih _ _ h
theorem ZA.upto (hZ:Ctx.Zs P Z) (hb:b.kind≠.early) (kk:Nat) {id:Nat} {l:List Oper} {R:Env->World->Prop} (hB:Qo0 n l=true) (hkl:Nat.ble kk l.length=true) (h:L P n l.toArray (bk0 R fun _ _ _=>False) (l.take kk) e w)
  (hk:∀e' w',R e' w'->ZA Z n b cs e' (.inRegion l.toArray (List.range' kk (l.length-kk))::k) w'):ZA Z n b cs e (.code (.region id l.toArray false)::k) w:=by
 intro a ha;have hle:kk <=l.length:=Nat.le_of_ble_eq_true hkl;refine(Ctx.cl Z hZ).ctl rfl rfl (fun _=>stepG_region) ?_;have h1:=h (fun o ho=>List.all_eq_true.1 hB o (List.mem_of_mem_take ho)) a ha;have h2:=hh0 (l.take kk) 0 a w (fun j hj=>by
  rw[List.getElem?_take_of_lt (by simp at hj;omega)];simp) h1
 have h3:(l.take kk).length=kk:=by simp;omega
 rw[h3]at h2;have h4:List.range l.toArray.size=List.range' 0 kk++List.range' kk (l.length-kk):=by
  have:=List.range'_append_1 (s:=0) (m:=kk) (n:=l.length-kk);rw[Nat.zero_add]at this;rw[List.range_eq_range',List.size_toArray,this];congr 1;omega
 rw[h4];exact fq0 hZ hb (fun ch a' w' hx=>by obtain⟨_,_,hx⟩:=hx;exact hx.elim) (fun a' w' hx=>by
  obtain⟨e',r,hq⟩:=hx;exact hk e' w' hq a' r) _ a w h2
theorem Yc0 {V:(Nat->Bool)->Prop} {J:(Nat->Bool)->World->Prop} (WP:List Nat->Act->World->Prop) (du1:∀i σ o a w,ops[i]? =some o->(if Region.wanted o (yielded ops a.tmps) then pc0 P o a w (WP σ) Q else WP σ (a.put o.dst undef) w)->WP (i::σ) a w) (h:Ord n ops) {e0:Env} {vals:Nat->Value} {k:Nat} (hk:k<ops.size) (Jr0:∀i o,i<k->ops[i]? =some o->Loc P ops V J i o (EE e0 ops.toList vals i) (vals i))
  (at0:∀D,V D->∀i,k <=i->i<ops.size->D i=true->∀j,j<i->D j=true)
  (hQ:∀a w D,Rep n a (EE e0 ops.toList vals k)->(∀i,i<k->D i=true)->J D w->WP (List.range' k (ops.size-k)) a w) :
  ∀{listed:Array Bool} {σ:List Nat},Lin ops listed σ->(∀τ ρ,σ=τ++ρ->V (fun j=>listed.getD j false ||τ.contains j)) ->
   ∀(a:Act) (e:Env) (w:World),listed.size=ops.size->(∀j,k <=j->listed.getD j false=false)->Rep n a e->Mid ops e0 vals listed e->J (fun j=>listed.getD j false) w->WP σ a w:=by
 intro listed σ k4
 induction k4 with
 | @nil listed hr=>
  intro _ a e w hs hkf ha hm hJ;have:=fo0 h hs hr k (by omega);rw[hkf k (Nat.le_refl _)]at this;cases this
 | @cons listed i σ hi hl ih=>
  intro hV a e w hs hkf ha hm hJ;have F9:=hi;obtain⟨h1,o,ho,ai0⟩:=mem_ready.1 hi;have hio:i<ops.size:=(Array.getElem?_eq_some_iff.1 ho).1;have J7:i<listed.size:=by omega
  have hDi:(fun j=>listed.getD j false) i=false:=by
   show listed.getD i false=false;simp only[Array.getD_eq_getD_getElem?,J7,Array.getElem?_eq_getElem,Option.getD_some]at h1⊢;exact h1
  have hVD:V (fun j=>listed.getD j false):=by
   have:=hV [] (i::σ) rfl;have e1:(fun j=>listed.getD j false ||([]:List Nat).contains j)=fun j=>listed.getD j false:=funext fun j=>by simp
   rw[e1]at this;exact this
  have hVD:V (fun j=>listed.getD j false)/\V (C4 (fun j=>listed.getD j false) i):=by
   refine⟨hVD,?_⟩;have:=hV [i] σ rfl;have e1:(fun j=>listed.getD j false ||([i]:List Nat).contains j)=C4 (fun j=>listed.getD j false) i:=funext fun j=>by
    unfold C4;by_cases hj:j=i
    ·simp[hj]
    ·simp[hj]
   rw[e1]at this;exact this
  by_cases hik:k <=i
  ·have R6:∀j,j<i->listed.getD j false=true:=fun j hj=>by
    have:=at0 _ hVD.2 i hik hio (by simp[C4]) j hj;unfold C4 at this;rw[if_neg (by omega)]at this;exact this
   have J9:i=k:=by
    rcases Nat.lt_or_ge k i with h3|h3
    ·have:=R6 k h3;rw[hkf k (Nat.le_refl _)]at this;cases this
    ·omega
   subst J9;refine U618 ?_;intro hσ;have he:e=EE e0 ops.toList vals i:=by
    funext t;have hlz:∀j:Nat,ops.toList[j]? =ops[j]?:=fun j=>by rw[Array.getElem?_toList]
    by_cases hex:∃(j:Nat) (p:Oper),j<i/\ops[j]? =some p/\p.dst=some t
    ·obtain⟨j,p,hj,hp,hd⟩:=hex;exact U432
    ·rw[hm.my0 t (fun j p hp hd=>by
      rcases Nat.lt_or_ge j i with h3|h3
      ·exact absurd ⟨j,p,h3,hp,hd⟩ hex
      ·exact hkf j h3)]
     exact(ip0 e0 ops.toList vals t _ (fun j p hj hp hd=>hex ⟨j,p,hj,by rw[<- hlz];exact hp,hd⟩)).symm
   subst he;exact hQ a w _ ha R6 hJ
  ·have hlk:=mz0 h hm ho ai0;refine U383 ?_;intro hex hwa;have hV':∀τ ρ,σ=τ++ρ->V (fun j=>(listed.setIfInBounds i true).getD j false ||τ.contains j):=by
    intro τ ρ hσ;have:=hV (i::τ) ρ (by rw[hσ];rfl);have e1:(fun j=>listed.getD j false ||(i::τ).contains j)=fun j=>(listed.setIfInBounds i true).getD j false ||τ.contains j:=by
     funext j;by_cases hj:i=j
     ·subst hj;simp[J7]
     ·rw[getD_set_ne false hj];simp[Ne.symm hj]
    rw[e1]at this;exact this
   have next:∀w',J (C4 (fun j=>listed.getD j false) i) w'->WP σ (a.put o.dst (vals i)) w':=by
    intro w' hJ';refine ih hV' _ _ w' (by simp[hs]) (fun j hj=>by rw[getD_set_ne false (by omega)];exact hkf j hj) (ha.put (h.dst i o ho) (vals i)) (hm.step h ho J7) ?_;rw[iq0 J7];exact hJ'
   refine du1 i σ o a w ho ?_;rw[y5 ha,hwa];rcases Jr0 i o (by omega) ho with⟨hw,hl⟩|⟨hw,hv,hl⟩
   ·rw[if_pos hw];have c6:=hl (fun j=>listed.getD j false) w hDi hVD ai0 hJ;rw[<- hex,<- ha.eval]at c6;exact nm0 c6 next
   ·rw[if_neg (by rw[hw];simp)];exact U595
theorem ZA.Js0 (hZ:Ctx.Zs P Z) (hb:b.kind≠.early) {k':List Item} {id:Nat} {l:List Oper} (k:Nat) (hm:P.follows .mixedOrders=true) (hB:tx0 n l.toArray=true) (hA:gr0 l k=true) (hk:Nat.blt k l.length=true)
  (h:∀V:(Nat->Bool)->Prop,(∀D D',V D->V D'->(∀k,D k=true->D' k=true)\/(∀k,D' k=true->D k=true))->(∀D,V D->∀i o,l[i]? =some o->D i=true->D6 o D) ->
   ∃J:(Nat->Bool)->World->Prop,J (fun _=>false) w.drew/\JL P l.toArray V J (fun e'=>∀D w',(∀i,i<k->D i=true)->J D w'->ZA Z n b cs e' (.inRegion l.toArray (List.range' k (l.length-k))::k') w') 0 (l.take k) e):ZA Z n b cs e (.code (.region id l.toArray true)::k') w:=by
 intro a ha;have ho:=Ae0 hB;have hkl:k<l.length:=by rw[Nat.blt_eq]at hk;exact hk
 refine(Ctx.cl Z hZ).own _ _ rfl fun τ d=>?_;refine⟨G (b.at a (.inRegion l.toArray (Region.schedule (P.follows .mixedOrders) l.toArray (τ d (.order b.fn id)))::k')) cs,{P2 w τ d with drawn:=d+1},w.drawn+1,⟨rfl,fun ρ x hx=>⟨⟨Nat.le_refl _,fun _ o ho=>⟨o,ho,A4.refl o⟩⟩,{x with drawn:=x.drawn+1},#[],?_,?_,fun e he=>by simp at he⟩⟩,?_⟩
 ·rw[stepG_region_draw,hx.tape,hx.drawn];rfl
 ·exact⟨hx.os,hx.output,hx.tape,by show x.drawn+1=d+1;rw[hx.drawn];rfl,hx.size,hx.obj,hx.new,hx.P7⟩
 show Z (G (b.at a (.inRegion l.toArray (Region.schedule (P.follows .mixedOrders) l.toArray (τ d (.order b.fn id)))::k')) cs) w.drew;generalize τ d (.order b.fn id)=t;simp only[Region.schedule,hm,Bool.true_or,if_true];have k4:=ev0 l.toArray l.toArray.size t (Array.replicate l.toArray.size false) (by simp) (by simp);unfold Region.linearise;generalize Region.linearise.go .any l.toArray l.toArray.size t (Array.replicate l.toArray.size false) []=σ at k4⊢;have do0:=dl0 k4 (fun i o _ hi=>by rw[K0]at hi;cases hi) (by simp);have br0:∀D,Pre σ D->∀i o,l[i]? =some o->D i=true->D6 o D:=by
  rintro D ⟨τ,ρ,hσ,hD⟩ i o hi hDi x hx hb;have:=do0 τ ρ hσ i o (by simpa using hi) (.inr ((hD i).1 hDi)) x hx hb;rcases this with h1|h1
  ·rw[K0]at h1;cases h1
  ·exact(hD _).2 h1
 obtain⟨J,hJ,hjl⟩:=h (Pre σ) (fun D D' h1 h2=>h1.chain h2) br0;obtain⟨vals,h1,h2⟩:=JL.collect (l.take k) 0 e hjl;have hEE:∀j,j <=k->EE e (l.take k) vals j=EE e l vals j:=by
  intro j
  induction j with
  |zero=>intro _;rfl
  |succ j ih=>
   intro hj;simp only[EE,ih (by omega)];rw[List.getElem?_take_of_lt (by omega)]
 have D2:(l.take k).length=k:=by simp;omega
 refine Yc0 (Q:=fun _ _ _=>False) (fun σ a w=>Z (G (b.at a (.inRegion l.toArray σ::k')) cs) w) (fun i σ o a w ho h=>Bj0 hZ hb (fun _ _ _ hx=>hx.elim) ho h) (V:=Pre σ) (J:=J) ho (e0:=e) (vals:=vals) (k:=k) (by simpa using hkl) (fun i o' hi ho'=>?_) (fun D hD i J9 J7=>iv0 hA br0 hD i J9 (by simpa using J7)) (fun a' w' D ha' hD hJ'=>?_) k4 ?_ a e _ (by simp) (fun j _=>K0 _ _) ha ⟨fun j o t _ _ hl=>?_,fun t _=>rfl⟩ ?_
 ·have:=h1 i o' (by rw[List.getElem?_take_of_lt hi];simpa using ho');rw[hEE i (by omega)]at this;simpa using this
 ·rw[D2,hEE k (Nat.le_refl _)]at h2;have h6:l.toArray.size-k=l.length-k:=by simp
  rw[h6];exact h2 D w' hD hJ' a' (by simpa using ha')
 ·intro τ ρ hσ;exact⟨τ,ρ,hσ,fun k=>by show((Array.replicate l.toArray.size false).getD k false ||τ.contains k)=true↔_;rw[K0];simp⟩
 ·rw[K0]at hl;cases hl
 ·have:(fun k=>(Array.replicate l.toArray.size false).getD k false)=fun _=>false:=funext fun k=>K0 _ _;rw[this];exact hJ
theorem ZA.jc0 (hZ:Ctx.Zs P Z) (hb:b.kind≠.early) {k':List Item} {id:Nat} {l:List Oper} (k:Nat) (Cl:World->Prop) (hm:P.follows .mixedOrders=true) (hB:tx0 n l.toArray=true) (hA:gr0 l k=true) (hk:Nat.blt k l.length=true)
  (hC:Cl w.drew) (h:QL P l.toArray Cl (fun e'=>∀w',Cl w'->ZA Z n b cs e' (.inRegion l.toArray (List.range' k (l.length-k))::k') w') 0 (l.take k) e):ZA Z n b cs e (.code (.region id l.toArray true)::k') w:=by
 refine ZA.Js0 hZ hb k hm hB hA hk fun V _ _=>⟨fun _=>Cl,hC,?_⟩
 have mono:∀(l':List Oper) (i:Nat) (e:Env),JL P l.toArray V (fun _=>Cl) (fun e'=>∀w',Cl w'->ZA Z n b cs e' (.inRegion l.toArray (List.range' k (l.length-k))::k') w') i l' e->JL P l.toArray V (fun _=>Cl) (fun e'=>∀(D:Nat->Bool) w',(∀i,i<k->D i=true)->Cl w'->ZA Z n b cs e' (.inRegion l.toArray (List.range' k (l.length-k))::k') w') i l' e:=by
  intro l'
  induction l' with
  |nil=>exact fun i e h _ w' _ hw=>h w' hw
  |cons o l' ih=>exact fun i e ⟨v,h1,h2⟩=>⟨v,h1,ih _ _ h2⟩
 exact mono _ 0 e (h V)
end
def X1 (w:World) (b:Nat) (cs:Array Value) (T:TypeId) (f:Nat×Nat):Prop:=w.heap[b]? =some (.cells cs T f)
section
variable {w w':World}{b o:Nat}{cs:Array Value}{T:TypeId}{f:Nat×Nat}{v:Value}
theorem G3 (h:V0 w b cs T):X1 w b cs T (0,0):=h
theorem X1.lt (h:X1 w b cs T f):b<w.heap.size:=(Array.getElem?_eq_some_iff.1 h).1
theorem X1.cell (h:X1 w b cs T f) (hv:cs[o]? =some v):w.cell? ⟨b,o,none⟩=some v:=by
 unfold X1 at h;simp[World.cell?,h,hv]
theorem X1.q0 (h:X1 w b cs T f) (o:Nat) {v:Value} (hv:cs[o]? =some v):w.cell? ⟨b,o,none⟩=some v:=h.cell hv
theorem X1.B4 (h:X1 w b cs T f) {o:Nat} {l:List Value} (hl:(cs.toList.drop o).take l.length=l):∀(j:Nat) (v:Value),l[j]? =some v->w.cell? ⟨b,o+j,none⟩=some v:=by
 intro j v hj;refine h.cell ?_;have D2:j<l.length:=(List.getElem?_eq_some_iff.1 hj).1;rw[<- hl,List.getElem?_take_of_lt D2,List.getElem?_drop]at hj;simpa using hj
theorem X1.frozen (h:X1 w b cs T f) (o:Nat):w.frozen? ⟨b,o,none⟩=(decide (f.1 <=o)&&decide (o<f.2)):=by
 unfold X1 at h;obtain⟨lo,hi⟩:=f;simp[World.frozen?,h]
theorem X1.j0 (h:X1 w b cs T f) (hb:Below w.heap.size w w'):X1 w' b cs T f:=(hb.block b h.lt).trans h
theorem X1.other {b':Nat} (h:X1 w b cs T f) (hg:w.grownBy w' (some b')) (C3:b≠b'):X1 w' b cs T f:=(hg.block b h.lt (by simpa using C3)).trans h
theorem X1.grown {row:Option Nat} (h:X1 w b cs T f) (hg:w.grownBy w' row) (C3:some b≠row):X1 w' b cs T f:=(hg.block b h.lt C3).trans h
theorem X1.ne {b':Nat} {V6:Array Value} {T':TypeId} {f':Nat×Nat} (h:X1 w b cs T f) (h':X1 w b' V6 T' f') (hT:T≠T'):b≠b':=by
 intro hb;subst hb;unfold X1 at h h';rw[h]at h';exact hT (by cases h';rfl)
end
def n2 (w:World) (b:Nat) (cs:Array Value) (T:TypeId) (f:Nat×Nat):World:={w with heap:=w.heap.setIfInBounds b (.cells cs T f)}
section
variable {w:World}{b:Nat}{cs V6:Array Value}{T T':TypeId}{f:Nat×Nat}
theorem m6:(n2 w b cs T f).heap.size=w.heap.size:=by simp[n2]
theorem H5 (h:X1 w b cs T f) (V6:Array Value) (T':TypeId) (f':Nat×Nat):X1 (n2 w b V6 T' f') b V6 T' f':=by
 have:=h.lt;simp[X1,n2,this]
theorem j8 {k:Nat} (h:k≠b):(n2 w b cs T f).heap[k]? =w.heap[k]?:=by
 simp only[n2];rw[Array.getElem?_setIfInBounds_ne (Ne.symm h)]
theorem N2 (w:World) (b:Nat) (cs:Array Value) (T:TypeId) (f:Nat×Nat):w.grownBy (n2 w b cs T f) (some b) :=
 ⟨rfl,rfl,rfl,Nat.le_of_eq m6.symm,fun k _ hk=>j8 (fun e=>hk (by rw[e]))⟩
theorem ed0 {o:Nat} (h:X1 w b cs T f) (v:Value):w.setCell ⟨b,o,none⟩ v=n2 w b (cs.setIfInBounds o v) T f:=by
 have hl:=h.lt;have hg:w.heap[b]= .cells cs T f:=by have:=h;unfold X1 at this;rw[Array.getElem?_eq_getElem hl]at this;exact Option.some.inj this
 simp only[World.setCell,n2];congr 1;apply Array.ext_getElem?;intro i;by_cases hi:i=b
 ·subst hi;rw[Array.getElem?_modify,if_pos rfl,Array.getElem?_eq_getElem hl,hg];simp[hl]
 ·rw[Array.getElem?_modify,Array.getElem?_setIfInBounds_ne (Ne.symm hi),if_neg (Ne.symm hi)]
theorem pi0 (w:World) (b:Nat) (cs V6:Array Value) (T:TypeId) (f:Nat×Nat):n2 (n2 w b cs T f) b V6 T f=n2 w b V6 T f:=by
 simp[n2]
theorem sa0 (h:X1 w b cs T f):n2 w b cs T f=w:=by
 have hl:=h.lt;have hg:w.heap[b]= .cells cs T f:=by have:=h;unfold X1 at this;rw[Array.getElem?_eq_getElem hl]at this;exact Option.some.inj this
 have:w.heap.setIfInBounds b (.cells cs T f)=w.heap:=by
  apply Array.ext_getElem?;intro i;by_cases hi:i=b
  ·subst hi;simp[hl,hg]
  ·rw[Array.getElem?_setIfInBounds_ne (Ne.symm hi)]
 simp only[n2,this]
end
theorem ae0 {P:Program} (b:Nat) (T:TypeId) (f:Nat×Nat):∀(vs:List Value) (o i:Nat) (cs:Array Value) (w:World),X1 w b cs T f->o+i+vs.length <=cs.size->(o+i+vs.length <=f.1\/f.2 <=o+i)->(∀v∈vs,v.oneCell'=true) ->
  (storeCells ⟨b,o,none⟩ vs i).run P w= .ok () (n2 w b (setRow cs (o+i) vs) T f)
 | [],o,i,cs,w,h,_,_,_=>by simp[storeCells,setRow,sa0 h]
 |v::vs,o,i,cs,w,h,hl,hf,h1=>by
  have ha:Addr.add ⟨b,o,none⟩ i=⟨b,o+i,none⟩:=by
   unfold Addr.add;split
   ·rename_i h0;simp[]
   ·rfl
  have D2:o+i<cs.size:=by simp only[List.length_cons]at hl;omega
  have hc:=h.cell (Array.getElem?_eq_getElem D2);have hfr:w.frozen? ⟨b,o+i,none⟩=false:=by
   rw[h.frozen];simp only[List.length_cons]at hf;rw[Bool.and_eq_false_iff];rcases hf with hf|hf
   ·exact .inl (decide_eq_false (by omega))
   ·exact .inr (decide_eq_false (by omega))
  have ih:=ae0 (P:=P) b T f vs o (i+1) (cs.setIfInBounds (o+i) v) (n2 w b (cs.setIfInBounds (o+i) v) T f) (H5 h _ _ _) (by simp only[List.length_cons]at hl;simp;omega) (by simp only[List.length_cons]at hf;omega) (fun u hu=>h1 u (List.mem_cons_of_mem _ hu));rw[pi0]at ih;simp only[storeCells,Sem.run_bind,ha,run_store P w _ v .plain (h1 v List.mem_cons_self),hc,hfr,Bool.false_eq_true,if_false,Result.andThen_ok,ed0 h v];rw[ih];rfl
section
variable {P:Program}[Ctx P]{n:Nat}{ops:Array Oper}{Q:Exit->Env->World->Prop}{rest:List Oper}{e:Env}{w:World}{ty:TypeId}{ps:String}{af:Array Edge}{x y:Operand}{T:TypeId}
theorem L.Gl0 {b o s:Nat} {cs:Array Value} {vs:List Value} {E:TypeId} {f:Nat×Nat} {v:Value} (V6:Array Value) (hx:ev e x= .pointer (some ⟨b,o,none⟩)) (hy:ev e y=v) (hvs:v.cells.toList=vs) (hs:(P.info? T).map (·.size)=some s) (hl:vs.length=s) (h1:vs.all Value.oneCell'=true) (hB:X1 w b cs E f) (ho:o+s <=cs.size) (hf:o+s <=f.1\/f.2 <=o) (hcs:setRow cs o vs=V6)
  (k:L P n ops Q rest e (n2 w b V6 E f)):L P n ops Q (⟨none,.store T x y,ty,ps,af,none⟩::rest) e w:=by
 have Xn0:v.cells=vs.toArray:=by rw[<- hvs]
 have h1':∀u∈vs,u.oneCell'=true:=fun u hu=>List.all_eq_true.1 h1 u hu;rw[<- hcs]at k;refine L.st (w':=n2 w b (setRow cs o vs) E f) (.j1 (I2 rfl _) rfl rfl fun τ d=>?_) k;have:=ae0 (P:=P) b E f vs o 0 cs (P2 w τ d) hB (by simp;omega) (by simp;omega) h1';show _=Result.ok Next.skip (n2 (P2 w τ d) b (setRow cs o vs) E f);simp[execOp,Instr.storeAt,hx,hy,Instr.sureAddr,storeVar,Go.Vc.run_sizeOf hs,Xn0,hl,this]
end
section
variable {P:Program}[Ctx P]{n:Nat}{Q:Exit->Env->World->Prop}{e:Env}{w:World}{ops:Array Oper}{rest:List Oper}
variable {d:Nat}{ty:TypeId}{ps:String}{af:Array Edge}{T E:TypeId}{x y:Operand}
theorem L.z6 {B s bytes m c':Nat} {a:Option Addr} {k c:Nat} {xs news:List Value} {zv:Value} {ad:Addr} (hx:ev e x= .slice a k c) (hy:ev e y= .slice (some ad) m c') (hT:P.underlying T=some (.slice E))
  (hi:(P.info? E).map (fun i=>(i.zero,i.size,i.bytes))=some (some zv,s,bytes)) (hz:zv.cells.size=s) (hs:0<s) (ce0:Own w B E s a k c xs)
  (hl:news.length=m*s) (bu0:∀(j:Nat) u,news[j]? =some u->w.cell? (ad.add j)=some u) (h1:∀u∈news,u.oneCell'=true) (ul0:k+m <=9223372036854775807) (hb:(k+m)*bytes <=140737488355328) (hB:B <=w.heap.size)
  (h:∀a' c2 w',Own w' B E s a' (k+m) c2 (xs++news)->w.grownBy w' (Value.ownBlock (.slice a k c))->(a'≠none->(a≠none/\ab a'=ab a)\/w.heap.size <=ab a')->L P n ops Q rest (upd e d (.slice a' (k+m) c2)) w') :
  L P n ops Q (⟨some d,.call ⟨.builtin .append,#[x,y],#[T,T]⟩,ty,ps,af,none⟩::rest) e w:=by
 cases a with
 |none=>
  have h0:k=0/\c=0/\xs=[]:=by
   have hln:=ce0.1;rcases ce0.2 with⟨hv,h0⟩|⟨g,cap,cur,hv,_⟩
   ·cases hv;exact⟨rfl,rfl,by
     rw[Nat.zero_mul]at hln;exact List.eq_nil_of_length_eq_zero hln⟩
   ·cases hv
  obtain⟨rfl,rfl,rfl⟩:=h0;refine L.N5 hx hy hT hi hz hs (Own.nil w w.heap.size E s) (fun h=>by cases h) hl (fun ad' e=>by cases e;exact bu0) h1 ul0 hb (Nat.le_refl _) fun a' c2 w' hO hg _ _=>?_;refine h a' c2 w' (hO.down hB) hg fun ha=>.inr ?_;exact(hO.row ha).choose_spec.2.1
 |some a0=>
  have ha0:∃b,a0=⟨b,0,none⟩:=by
   rcases ce0.2 with⟨hv,_⟩|⟨g,cap,cur,hv,_⟩
   ·cases hv
   ·cases hv;exact⟨g,rfl⟩
  obtain⟨b,rfl⟩:=ha0;refine L.Qu0 hx hy hT hi hz hs ce0 hl bu0 h1 ul0 hb hB fun b' c2 w' hO hg hw=>?_;refine h _ c2 w' hO hg fun _=>?_;rcases hw with⟨rfl,_⟩|⟨rfl,_⟩
  ·exact .inl ⟨by simp,rfl⟩
  ·exact .inr (Nat.le_refl _)
end
structure ho0 (S:Nat->Prop) (B:Nat) (w w':World):Prop where
 os:w'.os=w.os
 tape:w'.tape=w.tape
 output:w'.output=w.output
 size:w.heap.size <=w'.heap.size
 block:∀k,k<B->¬S k->w'.heap[k]? =w.heap[k]?
section
variable {S:Nat->Prop}{B:Nat}{w w1 w2:World}
theorem ho0.refl (S:Nat->Prop) (B:Nat) (w:World):ho0 S B w w:=⟨rfl,rfl,rfl,Nat.le_refl _,fun _ _ _=>rfl⟩
theorem ho0.trans (h:ho0 S B w w1) (h':ho0 S B w1 w2):ho0 S B w w2:=⟨h'.os.trans h.os,h'.tape.trans h.tape,h'.output.trans h.output,Nat.le_trans h.size h'.size,fun k hk hs=>(h'.block k hk hs).trans (h.block k hk hs)⟩
theorem ho0.below (h:ho0 S B w w1) (hb:Below w1.heap.size w1 w2) (hB:B <=w1.heap.size):ho0 S B w w2:=h.trans ⟨hb.os,hb.tape,hb.output,hb.size,fun k hk _=>hb.block k (by omega)⟩
theorem ho0.grown {row:Option Nat} (h:ho0 S B w w1) (hg:w1.grownBy w2 row) (hB:B <=w1.heap.size) (hr:∀r,row=some r->S r\/B <=r):ho0 S B w w2 :=
 h.trans ⟨hg.os,hg.tape,hg.output,hg.size,fun k hk hs=>hg.block k (by omega) (fun e=>by rcases hr k e.symm with z|z;exact hs z;omega)⟩
theorem Own.congr {E:TypeId} {s n c:Nat} {a:Option Addr} {xs:List Value} (h:Own w B E s a n c xs) (he:a≠none->w1.heap[ab a]? =w.heap[ab a]?):Own w1 B E s a n c xs:=by
 refine⟨h.1,?_⟩;rcases h.2 with h1|⟨g,cap,cur,hv,hb,hg,h2⟩
 ·exact .inl h1
 ·refine .inr ⟨g,cap,cur,hv,hb,?_,h2⟩;cases hv;exact(he (by simp)).trans hg
end
end Go.Vy
end
section
namespace Go.Proofs.Ytgadhljgilblbaa
theorem sz1:(Try.prog.info? 1).map (·.size)=some 1:=by kernel_rfl
theorem sz2:(Try.prog.info? 2).map (·.size)=some 1:=by kernel_rfl
theorem c5:(Try.prog.info? 3).map (·.size)=some 1:=by kernel_rfl
theorem zr3:(Try.prog.info? 3).bind (·.zero)=some (.int .i64 0):=by kernel_rfl
theorem in3:(Try.prog.info? 3).map (fun i=>(i.zero,i.size,i.bytes))=some (some (.int .i64 0),1,8):=by kernel_rfl
theorem sz4:(Try.prog.info? 4).map (·.size)=some 1:=by kernel_rfl
theorem zr4:(Try.prog.info? 4).bind (·.zero)=some (.bool false):=by kernel_rfl
theorem dv1:(Try.prog.info? 22).map (·.size)=some 1:=by kernel_rfl
theorem O8:(Try.prog.info? 23).map (·.size)=some 1:=by kernel_rfl
theorem dw1:(Try.prog.info? 23).bind (·.zero)=some (.slice none 0 0):=by kernel_rfl
theorem Yd0:(Try.prog.info? 25).map (·.size)=some 1:=by kernel_rfl
theorem Ye0:(Try.prog.info? 29).map (·.size)=some 1:=by kernel_rfl
theorem Yf0:(Try.prog.info? 31).map (·.size)=some 1:=by kernel_rfl
theorem jz1:(Try.prog.info? 33).map (·.size)=some 1:=by kernel_rfl
theorem ka1:(Try.prog.info? 33).bind (·.zero)=some (.pointer none):=by kernel_rfl
theorem pj0:(Try.prog.info? 36).map (·.size)=some 1:=by kernel_rfl
theorem Rc0:(Try.prog.info? 37).map (·.size)=some 1:=by kernel_rfl
theorem Gm0:(Try.prog.info? 38).map (·.size)=some 1:=by kernel_rfl
theorem da0:(Try.prog.info? 40).map (·.size)=some 6:=by kernel_rfl
theorem Ki0:(Try.prog.info? 40).bind (·.zero)=some (.agg #[.slice none 0 0,.slice none 0 0,.slice none 0 0,.slice none 0 0,.bool false,.int .i64 0]):=by kernel_rfl
theorem Rd0:(Try.prog.info? 45).map (·.size)=some 1:=by kernel_rfl
theorem Bl0:(Try.prog.info? 46).map (·.size)=some 1:=by kernel_rfl
theorem nt0:(Try.prog.info? 50).map (·.size)=some 1:=by kernel_rfl
theorem dx1:(Try.prog.info? 50).map (fun i=>(i.zero,i.size,i.bytes))=some (some (.slice none 0 0),1,24):=by kernel_rfl
theorem Yg0:(Try.prog.info? 51).map (·.size)=some 1:=by kernel_rfl
theorem Yh0:(Try.prog.info? 52).map (·.size)=some 1:=by kernel_rfl
theorem k8:(Try.prog.info? 77).map (·.size)=some 3:=by kernel_rfl
theorem dy1:(Try.prog.info? 77).bind (·.zero)=some (.agg #[.int .i64 0,.int .i64 0,.int .i64 0]):=by kernel_rfl
theorem dz1:(Try.prog.info? 77).map (fun i=>(i.zero,i.size,i.bytes))=some (some (.agg #[.int .i64 0,.int .i64 0,.int .i64 0]),3,24):=by kernel_rfl
theorem Gn0:(Try.prog.info? 79).map (·.size)=some 4:=by kernel_rfl
theorem ea1:(Try.prog.info? 79).bind (·.zero)=some (.agg #[.int .i64 0,.int .i64 0,.int .i64 0,.int .i64 0]):=by kernel_rfl
theorem eb1:(Try.prog.info? 79).map (fun i=>(i.zero,i.size,i.bytes))=some (some (.agg #[.int .i64 0,.int .i64 0,.int .i64 0,.int .i64 0]),4,32):=by kernel_rfl
theorem Bm0:(Try.prog.info? 80).map (·.size)=some 1:=by kernel_rfl
theorem kb1:(Try.prog.info? 80).bind (·.zero)=some (.slice none 0 0):=by kernel_rfl
theorem X5:(Try.prog.info? 82).map (·.size)=some 2:=by kernel_rfl
theorem sb0:(Try.prog.info? 82).bind (·.zero)=some (.agg #[.int .i64 0,.int .i64 0]):=by kernel_rfl
theorem Yi0:(Try.prog.info? 82).map (fun i=>(i.zero,i.size,i.bytes))=some (some (.agg #[.int .i64 0,.int .i64 0]),2,16):=by kernel_rfl
theorem up0:(Try.prog.info? 84).map (·.size)=some 5:=by kernel_rfl
theorem kc1:(Try.prog.info? 84).bind (·.zero)=some (.agg #[.int .i64 0,.int .i64 0,.int .i64 0,.int .i64 0,.int .i64 0]):=by kernel_rfl
theorem Yj0:(Try.prog.info? 85).map (·.size)=some 1:=by kernel_rfl
theorem ec1:(Try.prog.info? 91).map (·.size)=some 1:=by kernel_rfl
theorem ed1:(Try.prog.info? 93).map (·.size)=some 1:=by kernel_rfl
theorem Kj0:(Try.prog.info? 97).map (·.size)=some 1:=by kernel_rfl
theorem Yk0:(Try.prog.info? 97).bind (·.zero)=some (.slice none 0 0):=by kernel_rfl
theorem uq0:(Try.prog.info? 106).map (·.size)=some 1:=by kernel_rfl
theorem Vg0:(Try.prog.info? 106).bind (·.zero)=some (.pointer none):=by kernel_rfl
theorem Kk0:(Try.prog.info? 106).map (fun i=>(i.zero,i.size,i.bytes))=some (some (.pointer none),1,8):=by kernel_rfl
theorem Vh0:(Try.prog.info? 108).map (·.size)=some 1:=by kernel_rfl
theorem ee1:(Try.prog.info? 108).bind (·.zero)=some (.nilFunc):=by kernel_rfl
theorem ef1:(Try.prog.info? 108).map (fun i=>(i.zero,i.size,i.bytes))=some (some (.nilFunc),1,8):=by kernel_rfl
theorem gn0:(Try.prog.info? 111).map (·.size)=some 1:=by kernel_rfl
theorem X2:(Try.prog.info? 117).map (·.size)=some 11:=by kernel_rfl
theorem Kl0:(Try.prog.info? 117).bind (·.zero)=some (.agg #[.int .i64 0,.int .i64 0,.int .i64 0,.int .i64 0,.int .i64 0,.slice none 0 0,.int .i64 0,.int .i64 0,.int .i64 0,.int .i64 0,.bool false]):=by kernel_rfl
theorem eg1:(Try.prog.info? 117).map (fun i=>(i.zero,i.size,i.bytes))=some (some (.agg #[.int .i64 0,.int .i64 0,.int .i64 0,.int .i64 0,.int .i64 0,.slice none 0 0,.int .i64 0,.int .i64 0,.int .i64 0,.int .i64 0,.bool false]),11,104):=by kernel_rfl
theorem Ef0:(Try.prog.info? 120).map (·.size)=some 4:=by kernel_rfl
theorem ee0:(Try.prog.info? 122).map (·.size)=some 5:=by kernel_rfl
theorem ur0:(Try.prog.info? 122).bind (·.zero)=some (.agg #[.int .i64 0,.int .i64 0,.int .i64 0,.int .i64 0,.bool false]):=by kernel_rfl
theorem nu0:(Try.prog.info? 122).map (fun i=>(i.zero,i.size,i.bytes))=some (some (.agg #[.int .i64 0,.int .i64 0,.int .i64 0,.int .i64 0,.bool false]),5,40):=by kernel_rfl
theorem Q9:(Try.prog.info? 125).map (·.size)=some 3:=by kernel_rfl
theorem Km0:(Try.prog.info? 125).bind (·.zero)=some (.agg #[.int .i64 0,.bool false,.int .i64 0]):=by kernel_rfl
theorem eh1:(Try.prog.info? 125).map (fun i=>(i.zero,i.size,i.bytes))=some (some (.agg #[.int .i64 0,.bool false,.int .i64 0]),3,24):=by kernel_rfl
theorem us0:(Try.prog.info? 133).map (·.size)=some 2:=by kernel_rfl
theorem Kn0:(Try.prog.info? 140).map (·.size)=some 1:=by kernel_rfl
theorem ei1:(Try.prog.info? 140).bind (·.zero)=some (.pointer none):=by kernel_rfl
theorem Vi0:(Try.prog.info? 140).map (fun i=>(i.zero,i.size,i.bytes))=some (some (.pointer none),1,8):=by kernel_rfl
theorem af0:(Try.prog.info? 145).map (·.size)=some 3:=by kernel_rfl
theorem lm0:(Try.prog.info? 145).bind (·.zero)=some (.agg #[.int .i64 0,.bool false,.int .i64 0]):=by kernel_rfl
theorem Ko0:(Try.prog.info? 150).map (·.size)=some 1:=by kernel_rfl
theorem Vj0:(Try.prog.info? 151).map (·.size)=some 1:=by kernel_rfl
theorem ut0:(Try.prog.info? 152).map (·.size)=some 1:=by kernel_rfl
theorem qd0:(Try.prog.info? 155).map (·.size)=some 1:=by kernel_rfl
theorem qe0:(Try.prog.info? 157).map (·.size)=some 1:=by kernel_rfl
theorem Kp0:(Try.prog.info? 158).map (·.size)=some 1:=by kernel_rfl
theorem Vk0:(Try.prog.info? 160).map (·.size)=some 2:=by kernel_rfl
theorem Vl0:(Try.prog.info? 195).map (·.size)=some 1:=by kernel_rfl
theorem nm6:(Try.f6.name== "runtime.NumGoroutine")=false:=by kernel_rfl
theorem nm7:(Try.f7.name== "runtime.NumGoroutine")=false:=by kernel_rfl
theorem nm8:(Try.f8.name== "runtime.NumGoroutine")=false:=by kernel_rfl
theorem nm9:(Try.f9.name== "runtime.NumGoroutine")=false:=by kernel_rfl
theorem Kq0:(Try.f10.name== "runtime.NumGoroutine")=false:=by kernel_rfl
theorem kd1:(Try.f11.name== "runtime.NumGoroutine")=false:=by kernel_rfl
theorem ke1:(Try.f12.name== "runtime.NumGoroutine")=false:=by kernel_rfl
theorem kf1:(Try.f13.name== "runtime.NumGoroutine")=false:=by kernel_rfl
theorem kg1:(Try.f14.name== "runtime.NumGoroutine")=false:=by kernel_rfl
theorem kh1:(Try.f15.name== "runtime.NumGoroutine")=false:=by kernel_rfl
theorem ki1:(Try.f20.name== "runtime.NumGoroutine")=false:=by kernel_rfl
theorem ej1:(Try.f21.name== "runtime.NumGoroutine")=false:=by kernel_rfl
theorem Kr0:(Try.f22.name== "runtime.NumGoroutine")=false:=by kernel_rfl
theorem Re0:(Try.f23.name== "runtime.NumGoroutine")=false:=by kernel_rfl
theorem ek1:(Try.f24.name== "runtime.NumGoroutine")=false:=by kernel_rfl
theorem kj1:(Try.f25.name== "runtime.NumGoroutine")=false:=by kernel_rfl
theorem kk1:(Try.f26.name== "runtime.NumGoroutine")=false:=by kernel_rfl
theorem kl1:(Try.f27.name== "runtime.NumGoroutine")=false:=by kernel_rfl
theorem el1:(Try.f28.name== "runtime.NumGoroutine")=false:=by kernel_rfl
theorem em1:(Try.f29.name== "runtime.NumGoroutine")=false:=by kernel_rfl
theorem km1:(Try.f30.name== "runtime.NumGoroutine")=false:=by kernel_rfl
theorem en1:(Try.f31.name== "runtime.NumGoroutine")=false:=by kernel_rfl
theorem Ks0:(Try.f32.name== "runtime.NumGoroutine")=false:=by kernel_rfl
theorem eo1:(Try.f33.name== "runtime.NumGoroutine")=false:=by kernel_rfl
theorem kn1:(Try.f34.name== "runtime.NumGoroutine")=false:=by kernel_rfl
theorem ep1:(Try.f35.name== "runtime.NumGoroutine")=false:=by kernel_rfl
theorem ko1:(Try.f44.name== "runtime.NumGoroutine")=false:=by kernel_rfl
theorem Go0:(Try.f45.name== "runtime.NumGoroutine")=false:=by kernel_rfl
theorem Gp0:(Try.f46.name== "runtime.NumGoroutine")=false:=by kernel_rfl
theorem Rf0:(Try.f47.name== "runtime.NumGoroutine")=false:=by kernel_rfl
theorem Gq0:(Try.f48.name== "runtime.NumGoroutine")=false:=by kernel_rfl
theorem eq1:(Try.f49.name== "runtime.NumGoroutine")=false:=by kernel_rfl
theorem er1:(Try.f50.name== "runtime.NumGoroutine")=false:=by kernel_rfl
theorem Rg0:(Try.f51.name== "runtime.NumGoroutine")=false:=by kernel_rfl
theorem Yl0:(Try.f52.name== "runtime.NumGoroutine")=false:=by kernel_rfl
theorem kp1:(Try.f53.name== "runtime.NumGoroutine")=false:=by kernel_rfl
theorem kq1:(Try.f54.name== "runtime.NumGoroutine")=false:=by kernel_rfl
theorem es1:(Try.f55.name== "runtime.NumGoroutine")=false:=by kernel_rfl
theorem kr1:(Try.f56.name== "runtime.NumGoroutine")=false:=by kernel_rfl
theorem ks1:(Try.f57.name== "runtime.NumGoroutine")=false:=by kernel_rfl
theorem kt1:(Try.f58.name== "runtime.NumGoroutine")=false:=by kernel_rfl
theorem ku1:(Try.f59.name== "runtime.NumGoroutine")=false:=by kernel_rfl
theorem kv1:(Try.f60.name== "runtime.NumGoroutine")=false:=by kernel_rfl
theorem kw1:(Try.f61.name== "runtime.NumGoroutine")=false:=by kernel_rfl
theorem Rh0:(Try.f62.name== "runtime.NumGoroutine")=false:=by kernel_rfl
theorem kx1:(Try.f63.name== "runtime.NumGoroutine")=false:=by kernel_rfl
theorem ky1:(Try.f64.name== "runtime.NumGoroutine")=false:=by kernel_rfl
theorem kz1:(Try.f74.name== "runtime.NumGoroutine")=false:=by kernel_rfl
theorem uu0:(Try.f75.name== "runtime.NumGoroutine")=false:=by kernel_rfl
theorem Ym0:(Try.f76.name== "runtime.NumGoroutine")=false:=by kernel_rfl
theorem Yn0:(Try.f77.name== "runtime.NumGoroutine")=false:=by kernel_rfl
theorem Yo0:(Try.f78.name== "runtime.NumGoroutine")=false:=by kernel_rfl
theorem la1:(Try.f79.name== "runtime.NumGoroutine")=false:=by kernel_rfl
theorem Yp0:(Try.f80.name== "runtime.NumGoroutine")=false:=by kernel_rfl
theorem et1:(Try.f81.name== "runtime.NumGoroutine")=false:=by kernel_rfl
theorem lb1:(Try.f82.name== "runtime.NumGoroutine")=false:=by kernel_rfl
theorem lc1:(Try.f83.name== "runtime.NumGoroutine")=false:=by kernel_rfl
theorem Ri0:(Try.f84.name== "runtime.NumGoroutine")=false:=by kernel_rfl
theorem eu1:(Try.f97.name== "runtime.NumGoroutine")=false:=by kernel_rfl
theorem ld1:(Try.f98.name== "runtime.NumGoroutine")=false:=by kernel_rfl
theorem Yq0:(Try.f99.name== "runtime.NumGoroutine")=false:=by kernel_rfl
theorem nv0:(Try.f100.name== "runtime.NumGoroutine")=false:=by kernel_rfl
theorem Vm0:(Try.f101.name== "runtime.NumGoroutine")=false:=by kernel_rfl
theorem Vn0:(Try.f105.name== "runtime.NumGoroutine")=false:=by kernel_rfl
theorem ev1:(Try.f106.name== "runtime.NumGoroutine")=false:=by kernel_rfl
theorem Kt0:(Try.f107.name== "runtime.NumGoroutine")=false:=by kernel_rfl
theorem ew1:(Try.f108.name== "runtime.NumGoroutine")=false:=by kernel_rfl
theorem ex1:(Try.f110.name== "runtime.NumGoroutine")=false:=by kernel_rfl
theorem ey1:(Try.f111.name== "runtime.NumGoroutine")=false:=by kernel_rfl
theorem ez1:(Try.f112.name== "runtime.NumGoroutine")=false:=by kernel_rfl
theorem fa1:(Try.f113.name== "runtime.NumGoroutine")=false:=by kernel_rfl
theorem fb1:(Try.f115.name== "runtime.NumGoroutine")=false:=by kernel_rfl
theorem fc1:(Try.f116.name== "runtime.NumGoroutine")=false:=by kernel_rfl
theorem fd1:(Try.f117.name== "runtime.NumGoroutine")=false:=by kernel_rfl
theorem Vo0:(Try.f124.name== "runtime.NumGoroutine")=false:=by kernel_rfl
theorem Ku0:(Try.f125.name== "runtime.NumGoroutine")=false:=by kernel_rfl
theorem fe1:(Try.f126.name== "runtime.NumGoroutine")=false:=by kernel_rfl
theorem ff1:(Try.f127.name== "runtime.NumGoroutine")=false:=by kernel_rfl
end Go.Proofs.Ytgadhljgilblbaa
end
section
namespace Go.Proofs.Ytgadhljgilblbaa
open Go.Conc Go.Yc Go.Wg
open Go.Vc (Env upd L3 ev g6 u3)
section
attribute [local irreducible] KK
theorem nw0 (d:Nat):deafBehind d #[(⟨.mark .disable,false,true⟩:Event)]=d+1:=rfl
theorem bw0 (d:Nat):deafBehind (d+1) #[(⟨.mark .enable,false,true⟩:Event)]=d:=rfl
theorem ay0 (d:Nat) {m:Mark} (h:(match m with| .disable| .enable=>false|_=>true)=true):deafBehind d #[(⟨.mark m,false,true⟩:Event)]=d:=by cases m <;> first|rfl|cases h
theorem add1 (v:Nat) (h:v<2147483648):IntKind.u64.wrap (((v*4294967296+0:Nat):Int)+1)=((v*4294967296+1:Nat):Int):=by rw[IntKind.wrap_u64];omega
theorem le1:Extern.find Try.f98=some (Extern.Race.marked .releaseMerge):=by kernel_rfl
theorem fg1:Extern.find Try.f106=some (Extern.Race.marked .read):=by kernel_rfl
theorem fh1:Extern.find Try.f116=some (Extern.Race.marked .write):=by kernel_rfl
theorem fi1:Extern.find Try.f113=some (Extern.Race.marked .acquire):=by kernel_rfl
theorem Yr0:Extern.find Try.f99=some (fun _=>do mark .disable;pure Extern.Race.none_):=by kernel_rfl
theorem nx0:Extern.find Try.f100=some (fun _=>do mark .enable;pure Extern.Race.none_):=by kernel_rfl
theorem Vp0:Extern.find Try.f101=some (fun _=>pure (.bool false)):=by kernel_rfl
theorem Vq0:Extern.find Try.f124=some (Extern.Atomic.update (Op.intArith .add) .u64 true):=by kernel_rfl
theorem Kv0:Extern.find Try.f125=some (Extern.Atomic.loadT (.int .u64)):=by kernel_rfl
theorem fj1:Extern.find Try.f126=some Extern.Atomic.storeT:=by kernel_rfl
theorem fk1:Extern.find Try.f127=some (Extern.Atomic.casT (.int .u64)):=by kernel_rfl
theorem fl1:Extern.find Try.f110=some Extern.Sync.semrelease:=by kernel_rfl
theorem fm1:Extern.find Try.f117=some Extern.Sync.semacquire:=by kernel_rfl
theorem Vr0:(Try.prog.info? 158).map (fun i=>decide (i.size=0))=some false:=by kernel_rfl
theorem Vs0:(Try.prog.info? 160).map (fun i=>decide (i.size=0))=some false:=by kernel_rfl
set_option maxRecDepth 20000 in
theorem Rj0 (gr:X6) {c:Frame} {cs:List Frame} (hcm:c.mode= .returning) {N:Nat} (hT:QuitsD Try.prog N 0 (Conc.G c cs)):∃n,Lt Try.prog gr n 0 (Conc.G ((baseD 111).at {tmps:=#[.pointer (some ⟨gr.blk,gr.off,none⟩)]++Array.replicate (Try.f111.ntmps-1) undef,defers:=[]} [.code (Try.f111.body.getD .skip)]) (c::cs)):=by
 refine⟨N+500,(?_:At (fun m d g=>Lt Try.prog gr m d g) (N+500) 4 (baseD 111) (c::cs) [] 0 (Wg.bf0 #[.pointer (some ⟨gr.blk,gr.off,none⟩)]) [.code (Try.f111.body.getD .skip)]) _ (cw0 _ _ rfl)⟩;refine At.region (Q3 _ gr) ?_;refine S0.val (Q3 _ gr) (bkd _) rfl (v:=.pointer (some ⟨gr.blk,gr.off,none⟩)) (P0 rfl) ?_;refine S0.call (Q3 _ gr) (bkd _) [.pointer (some ⟨gr.blk,gr.off,none⟩),.i (-1)] 117 rfl Try.func81 et1 rfl rfl rfl (fun cs1 V7=>?_);refine At.seq (Q3 _ gr) ?_;refine At.Y5 (Q3 _ gr) rfl ?_;refine At.seq (Q3 _ gr) ?_;refine U139 ?_;refine S0.val (Q3 _ gr) (P1 _) rfl (v:=.i (-1)) (P0 rfl) ?_;refine S0.val (Q3 _ gr) (P1 _) rfl (v:=.bool true) (fp0 (r:=true) rfl rfl (by decide)) ?_;refine S0.nil (Q3 _ gr) ?_;refine At.Y5 (Q3 _ gr) rfl ?_;refine At.region (Q3 _ gr) ?_;refine S0.val (Q3 _ gr) (P1 _) rfl (v:=.pointer (some ⟨gr.blk,gr.off,none⟩)) (P0 rfl) ?_;refine S0.toUnsafe (do1 _ gr) (P1 _) rfl rfl (.inl rfl) Try.underlying227 Try.underlying91 Vs0 ?_;refine S0.rz0 (Q3 _ gr) (P1 _) .releaseMerge (by simp) rfl rfl Try.func98 ld1 rfl rfl le1 rfl ?_;rw[ay0 _ rfl];refine U373 ?_;refine S0.Eb0 (Q3 _ gr) (P1 _) .disable (by simp) rfl rfl Try.func99 Yq0 rfl rfl Yr0 ?_;simp only[nw0];refine S0.nil (Q3 _ gr) ?_;refine At.region (Q3 _ gr) ?_;refine S0.defer (Q3 _ gr) (P1 _) [] rfl ?_;refine U373 ?_;refine S0.val (Q3 _ gr) (P1 _) rfl (v:=.bool false) (J1 rfl) ?_;refine S0.nil (Q3 _ gr) ?_;refine At.seq (Q3 _ gr) ?_;refine U139 ?_;refine S0.qc0 (Q3 _ gr) (P1 _) (.bool false) rfl Try.func101 Vm0 rfl rfl Vp0 ?_;refine S0.nil (Q3 _ gr) ?_;refine At.G5 (Q3 _ gr) rfl ?_;refine At.skip (Q3 _ gr) ?_;refine U139 ?_;refine U428 ?_;refine S0.val (Q3 _ gr) (P1 _) rfl (v:=.pointer (some ⟨gr.blk,gr.off,none⟩)) (j5 (s:=1) gr.off gr.off rfl Try.underlying160 rfl qe0 (by decide) rfl) ?_;refine S0.val (Q3 _ gr) (P1 _) rfl (v:=.i (-1)) (P0 rfl) ?_;refine S0.val (Q3 _ gr) (P1 _) rfl (v:=.int .u64 18446744073709551615) (l4 (r:=18446744073709551615) rfl Try.underlying3 Try.underlying155 (by decide)) ?_;refine S0.val (Q3 _ gr) (P1 _) rfl (v:=.int .u64 18446744069414584320) (Ka0 (r:=18446744069414584320) rfl rfl (by decide) (by decide)) ?_;refine S0.call (Q3 _ gr) (P1 _) [.pointer (some ⟨gr.blk,gr.off,none⟩),.int .u64 18446744069414584320] 10 rfl Try.func105 Vn0 rfl rfl rfl (fun cs2 H3=>?_);refine U139 ?_;refine S0.val (Q3 _ gr) (P1 _) rfl (v:=.int .u64 0) (J1 rfl) ?_;refine U373 ?_;refine U428 ?_;refine S0.val (Q3 _ gr) (P1 _) rfl (v:=.pointer (some ⟨gr.blk,gr.off,none⟩)) (j5 (s:=1) gr.off gr.off rfl Try.underlying157 rfl qd0 (by decide) rfl) ?_;refine S0.val (Q3 _ gr) (P1 _) rfl (v:=.int .u64 18446744069414584320) (P0 rfl) ?_;refine S0.dp1 (P1 _) rfl Try.func124 Vo0 rfl rfl Vq0 rfl rfl (fun v wt hwt hv C3=>?_) ?_
 ·by_cases hv0:0<v
  ·have hwc:wt=0\/wt=1:=by omega
   rcases hwc with rfl|rfl
   ·refine S0.val (I0 _) (P1 _) rfl (v:=.int .u64 (((v*4294967296+0:Nat):Int))) (J1 rfl) ?_;refine S0.nil (I0 _) ?_;refine At.ret (I0 _) (fun _=>?_);refine AtR.leave1 (I0 _) H3 rfl Try.func105 rfl (.int .u64 (((v*4294967296+0:Nat):Int))) rfl ?_;refine S0.val (I0 _) (P1 _) rfl (v:=.int .u64 (((v*4294967296+0:Nat):Int))) (J1 rfl) ?_;refine U111 ?_;refine S0.val (I0 _) (P1 _) rfl (v:=.int .u64 (((v*4294967296+0:Nat):Int))) (P0 rfl) ?_;refine S0.val (I0 _) (P1 _) rfl (v:=.int .u64 0) (T7 (r:=0) rfl rfl (nr0 v 0 (by omega) (by omega))) ?_;refine U134 ?_;refine U232 ?_;refine U508 ?_;refine S0.val (I0 _) (P1 _) rfl (v:=.int .u64 (((v:Nat):Int))) (fc0 (r:=((v:Nat):Int)) rfl rfl (by decide) (ns0 v 0 (by omega))) ?_;refine U417 ?_;refine S0.nil (I0 _) ?_;refine U508 ?_;refine S0.val (I0 _) (P1 _) rfl (v:=.int .u64 0) (T7 (r:=0) rfl rfl (gy0 v 0 (by omega) (by omega))) ?_;refine U425 ?_;refine U111 ?_;refine U259 ?_;refine U258 ?_;refine U496 ?_;refine U329 ?_;refine U134 ?_;refine U272 ?_;refine U258 ?_;refine U442 ?_;refine U552 ?_;refine U340 ?_;refine At.ret (I0 _) (fun _=>?_);refine AtR.mark (I0 _) .enable (by simp) rfl Try.func100 nv0 rfl rfl nx0 ?_;simp only[bw0];refine U209 ?_;refine At.done (I0 _) (fun _=>?_);exact U207
   ·refine S0.val (I0 _) (P1 _) rfl (v:=.int .u64 (((v*4294967296+1:Nat):Int))) (J1 rfl) ?_;refine S0.nil (I0 _) ?_;refine At.ret (I0 _) (fun _=>?_);refine AtR.leave1 (I0 _) H3 rfl Try.func105 rfl (.int .u64 (((v*4294967296+1:Nat):Int))) rfl ?_;refine S0.val (I0 _) (P1 _) rfl (v:=.int .u64 (((v*4294967296+1:Nat):Int))) (J1 rfl) ?_;refine U111 ?_;refine S0.val (I0 _) (P1 _) rfl (v:=.int .u64 (((v*4294967296+1:Nat):Int))) (P0 rfl) ?_;refine S0.val (I0 _) (P1 _) rfl (v:=.int .u64 0) (T7 (r:=0) rfl rfl (nr0 v 1 (by omega) (by omega))) ?_;refine U134 ?_;refine U232 ?_;refine U509 ?_;refine S0.val (I0 _) (P1 _) rfl (v:=.int .u64 (((v:Nat):Int))) (fc0 (r:=((v:Nat):Int)) rfl rfl (by decide) (ns0 v 1 (by omega))) ?_;refine U417 ?_;refine S0.nil (I0 _) ?_;refine U509 ?_;refine S0.val (I0 _) (P1 _) rfl (v:=.int .u64 1) (T7 (r:=1) rfl rfl (gy0 v 1 (by omega) (by omega))) ?_;refine S0.val (I0 _) (P1 _) rfl (v:=.int .u32 1) (l4 (r:=1) rfl Try.underlying155 Try.underlying158 (by decide)) ?_;refine S0.val (I0 _) (P1 _) rfl (v:=.int .u32 1) (J1 rfl) ?_;refine U111 ?_;refine U259 ?_;refine U258 ?_;refine U496 ?_;refine U136 ?_;refine S0.val (I0 _) (P1 _) rfl (v:=.int .u32 1) (P0 rfl) ?_;refine S0.val (I0 _) (P1 _) rfl (v:=.bool true) (N8 (r:=true) rfl rfl (by decide)) ?_;refine U259 ?_;refine U258 ?_;refine U442 ?_;refine U552 ?_;refine U340 ?_;refine At.ret (I0 _) (fun _=>?_);refine AtR.mark (I0 _) .enable (by simp) rfl Try.func100 nv0 rfl rfl nx0 ?_;simp only[bw0];refine U209 ?_;refine At.done (I0 _) (fun _=>?_);exact U207
  ·obtain rfl:v=0:=by omega
   obtain rfl:wt=0:=by omega
   refine S0.val (I0 _) (P1 _) rfl (v:=.int .u64 (((0*4294967296+0:Nat):Int))) (J1 rfl) ?_;refine S0.nil (I0 _) ?_;refine At.ret (I0 _) (fun _=>?_);refine AtR.leave1 (I0 _) H3 rfl Try.func105 rfl (.int .u64 (((0*4294967296+0:Nat):Int))) rfl ?_;refine S0.val (I0 _) (P1 _) rfl (v:=.int .u64 (((0*4294967296+0:Nat):Int))) (J1 rfl) ?_;refine U111 ?_;refine S0.val (I0 _) (P1 _) rfl (v:=.int .u64 (((0*4294967296+0:Nat):Int))) (P0 rfl) ?_;refine S0.val (I0 _) (P1 _) rfl (v:=.int .u64 0) (T7 (r:=0) rfl rfl (nr0 0 0 (by omega) (by omega))) ?_;refine U134 ?_;refine U232 ?_;refine U511 ?_;refine S0.val (I0 _) (P1 _) rfl (v:=.int .u64 (((0:Nat):Int))) (fc0 (r:=((0:Nat):Int)) rfl rfl (by decide) (ns0 0 0 (by omega))) ?_;refine S0.val (I0 _) (P1 _) rfl (v:=.int .i32 (((0:Nat):Int))) (l4 (r:=((0:Nat):Int)) rfl Try.underlying155 Try.underlying21 (cy0 0 (by omega))) ?_;refine S0.val (I0 _) (P1 _) rfl (v:=.int .i32 (((0:Nat):Int))) (J1 rfl) ?_;refine S0.nil (I0 _) ?_;refine U511 ?_;refine S0.val (I0 _) (P1 _) rfl (v:=.int .u64 0) (T7 (r:=0) rfl rfl (gy0 0 0 (by omega) (by omega))) ?_;refine U425 ?_;refine U111 ?_;refine U259 ?_;refine U363 ?_;refine U537 ?_;refine S0.val (I0 _) (P1 _) rfl (v:=.bool false) (fp0 (r:=false) rfl rfl (by decide)) ?_;refine U282 ?_;refine U329 ?_;refine U134 ?_;refine U272 ?_;refine U363 ?_;refine U537 ?_;refine S0.val (I0 _) (P1 _) rfl (v:=.bool false) (dv0 (r:=false) rfl rfl (by decide)) ?_;refine S0.val (I0 _) (P1 _) rfl (v:=.bool false) (P0 rfl) ?_;refine S0.cf0 (I0 _) (P1 _) rfl rfl (v:=.int .u32 0) (P0 rfl) ?_;refine S0.cf0 (I0 _) (P1 _) rfl rfl (v:=.bool true) (bv0 (r:=true) rfl rfl (by decide)) ?_;refine S0.val (I0 _) (P1 _) rfl (v:=.bool true) (cx0 rfl rfl) ?_;refine U340 ?_;refine At.ret (I0 _) (fun _=>?_);refine AtR.mark (I0 _) .enable (by simp) rfl Try.func100 nv0 rfl rfl nx0 ?_;simp only[bw0];refine U209 ?_;refine At.done (I0 _) (fun _=>?_);exact U207
 ·refine S0.val (u1 _ gr 2) (P1 _) rfl (v:=.int .u64 (((0*4294967296+1:Nat):Int))) (J1 rfl) ?_;refine S0.nil (u1 _ gr 2) ?_;refine At.ret (u1 _ gr 2) (fun _=>?_);refine AtR.leave1 (u1 _ gr 2) H3 rfl Try.func105 rfl (.int .u64 (((0*4294967296+1:Nat):Int))) rfl ?_;refine S0.val (u1 _ gr 2) (P1 _) rfl (v:=.int .u64 (((0*4294967296+1:Nat):Int))) (J1 rfl) ?_;refine S0.nil (u1 _ gr 2) ?_;refine At.seq (u1 _ gr 2) ?_;refine U309 ?_;refine S0.val (u1 _ gr 2) (P1 _) rfl (v:=.int .u64 0) (T7 (r:=0) rfl rfl (nr0 0 1 (by omega) (by omega))) ?_;refine S0.val (u1 _ gr 2) (P1 _) rfl (v:=.bool false) (N8 (r:=false) rfl rfl (by decide)) ?_;refine U326 ?_;refine U204 ?_;refine U141 ?_;refine U309 ?_;refine S0.val (u1 _ gr 2) (P1 _) rfl (v:=.int .u64 (((0:Nat):Int))) (fc0 (r:=((0:Nat):Int)) rfl rfl (by decide) (ns0 0 1 (by omega))) ?_;refine S0.val (u1 _ gr 2) (P1 _) rfl (v:=.int .i32 (((0:Nat):Int))) (l4 (r:=((0:Nat):Int)) rfl Try.underlying155 Try.underlying21 (cy0 0 (by omega))) ?_;refine S0.val (u1 _ gr 2) (P1 _) rfl (v:=.int .i32 (((0:Nat):Int))) (J1 rfl) ?_;refine S0.nil (u1 _ gr 2) ?_;refine U309 ?_;refine S0.val (u1 _ gr 2) (P1 _) rfl (v:=.int .u64 1) (T7 (r:=1) rfl rfl (gy0 0 1 (by omega) (by omega))) ?_;refine S0.val (u1 _ gr 2) (P1 _) rfl (v:=.int .u32 1) (l4 (r:=1) rfl Try.underlying155 Try.underlying158 (by decide)) ?_;refine S0.val (u1 _ gr 2) (P1 _) rfl (v:=.int .u32 1) (J1 rfl) ?_;refine S0.nil (u1 _ gr 2) ?_;refine U230 ?_;refine U479 ?_;refine U443 ?_;refine U326 ?_;refine U295 ?_;refine U204 ?_;refine U141 ?_;refine U535 ?_;refine S0.val (u1 _ gr 2) (P1 _) rfl (v:=.bool false) (fp0 (r:=false) rfl rfl (by decide)) ?_;refine S0.nil (u1 _ gr 2) ?_;refine U141 ?_;refine U230 ?_;refine S0.val (u1 _ gr 2) (P1 _) rfl (v:=.int .u32 1) (P0 rfl) ?_;refine S0.val (u1 _ gr 2) (P1 _) rfl (v:=.bool true) (N8 (r:=true) rfl rfl (by decide)) ?_;refine U479 ?_;refine U443 ?_;refine U326 ?_;refine U295 ?_;refine U204 ?_;refine U141 ?_;refine U535 ?_;refine S0.val (u1 _ gr 2) (P1 _) rfl (v:=.bool false) (dv0 (r:=false) rfl rfl (by decide)) ?_;refine S0.val (u1 _ gr 2) (P1 _) rfl (v:=.bool false) (P0 rfl) ?_;refine S0.cf0 (u1 _ gr 2) (P1 _) rfl rfl (v:=.int .u32 1) (P0 rfl) ?_;refine S0.cf0 (u1 _ gr 2) (P1 _) rfl rfl (v:=.bool false) (bv0 (r:=false) rfl rfl (by decide)) ?_;refine U204 ?_;refine U141 ?_;refine U230 ?_;refine U421 ?_;refine S0.val (u1 _ gr 2) (P1 _) rfl (v:=.pointer (some ⟨gr.blk,gr.off,none⟩)) (j5 (s:=1) gr.off gr.off rfl Try.underlying160 rfl qe0 (by decide) rfl) ?_;refine S0.call (u1 _ gr 2) (P1 _) [.pointer (some ⟨gr.blk,gr.off,none⟩)] 7 rfl Try.func107 Kt0 rfl rfl rfl (fun cs3 hb3=>?_);refine U194 ?_;refine S0.val (u1 _ gr 2) (P1 _) rfl (v:=.int .u64 0) (J1 rfl) ?_;refine S0.nil (u1 _ gr 2) ?_;refine U194 ?_;refine U421 ?_;refine S0.val (u1 _ gr 2) (P1 _) rfl (v:=.pointer (some ⟨gr.blk,gr.off,none⟩)) (j5 (s:=1) gr.off gr.off rfl Try.underlying157 rfl qd0 (by decide) rfl) ?_;refine S0.Ra0 (P1 _) rfl Try.func125 Ku0 rfl rfl Kv0 rfl ?_;refine S0.val (u1 _ gr 1) (P1 _) rfl (v:=.int .u64 1) (J1 rfl) ?_;refine S0.nil (u1 _ gr 1) ?_;refine At.ret (u1 _ gr 1) (fun _=>?_);refine AtR.leave1 (u1 _ gr 1) hb3 rfl Try.func107 rfl (.int .u64 1) rfl ?_;refine S0.val (u1 _ gr 1) (P1 _) rfl (v:=.int .u64 (((0*4294967296+1:Nat):Int))) (P0 rfl) ?_;refine S0.val (u1 _ gr 1) (P1 _) rfl (v:=.bool false) (N8 (r:=false) rfl rfl (by decide)) ?_;refine S0.nil (u1 _ gr 1) ?_;refine At.G5 (u1 _ gr 1) rfl ?_;refine At.skip (u1 _ gr 1) ?_;refine At.seq (u1 _ gr 1) ?_;refine At.region (u1 _ gr 1) ?_;refine U422 ?_;refine S0.val (u1 _ gr 1) (P1 _) rfl (v:=.pointer (some ⟨gr.blk,gr.off,none⟩)) (j5 (s:=1) gr.off gr.off rfl Try.underlying160 rfl qe0 (by decide) rfl) ?_;refine S0.call (u1 _ gr 1) (P1 _) [.pointer (some ⟨gr.blk,gr.off,none⟩),.int .u64 0] 9 rfl Try.func108 ew1 rfl rfl rfl (fun cs4 hb4=>?_);refine At.region (u1 _ gr 1) ?_;refine U422 ?_;refine S0.val (u1 _ gr 1) (P1 _) rfl (v:=.pointer (some ⟨gr.blk,gr.off,none⟩)) (j5 (s:=1) gr.off gr.off rfl Try.underlying157 rfl qd0 (by decide) rfl) ?_;refine S0.val (u1 _ gr 1) (P1 _) rfl (v:=.int .u64 0) (P0 rfl) ?_;refine S0.Kd0 (P1 _) rfl Try.func126 fe1 rfl rfl fj1 rfl rfl ?_;refine S0.nil (u1 _ gr 0) ?_;refine At.done (u1 _ gr 0) (fun _=>?_);refine AtR.leave0 (u1 _ gr 0) hb4 rfl Try.func108 rfl ?_;refine S0.nil (u1 _ gr 0) ?_;refine At.seq (u1 _ gr 0) ?_;refine U626 ?_;refine S0.val (u1 _ gr 0) (P1 _) rfl (v:=.bool false) (P0 rfl) ?_;refine S0.nil (u1 _ gr 0) ?_;refine At.G5 (u1 _ gr 0) rfl ?_;refine At.skip (u1 _ gr 0) ?_;refine At.block (u1 _ gr 0) ?_;refine At.loop (u1 _ gr 0) ?_;refine At.seq (u1 _ gr 0) ?_;refine U626 ?_;refine S0.val (u1 _ gr 0) (P1 _) rfl (v:=.int .u32 1) (P0 rfl) ?_;refine S0.val (u1 _ gr 0) (P1 _) rfl (v:=.bool true) (N8 (r:=true) rfl rfl (by decide)) ?_;refine S0.nil (u1 _ gr 0) ?_;refine At.Y5 (u1 _ gr 0) rfl ?_;refine At.skip (u1 _ gr 0) ?_;refine At.seq (u1 _ gr 0) ?_;refine At.block (u1 _ gr 0) ?_;refine At.region (u1 _ gr 0) ?_;refine S0.val (u1 _ gr 0) (P1 _) rfl (v:=.pointer (some ⟨gr.blk,gr.off,none⟩)) (P0 rfl) ?_;refine S0.val (u1 _ gr 0) (P1 _) rfl (v:=.pointer (some ⟨gr.blk,gr.off,none⟩)) (l5 rfl) ?_;refine S0.val (u1 _ gr 0) (P1 _) rfl (v:=.pointer (some ⟨gr.blk,gr.off+1,none⟩)) (j5 (s:=1) gr.off (gr.off+1) rfl Try.underlying160 rfl Kp0 (by decide) rfl) ?_;refine S0.Xy0 (P1 _) rfl Try.func110 ex1 rfl rfl fl1 rfl ?_;refine S0.nil (I0 _) ?_;refine At.inBlock (I0 _) ?_;refine At.region (I0 _) ?_;refine S0.val (I0 _) (P1 _) rfl (v:=.int .u32 1) (P0 rfl) ?_;refine S0.val (I0 _) (P1 _) rfl (v:=.int .u32 0) (Xx0 (r:=0) rfl rfl (by decide)) ?_;refine S0.val (I0 _) (P1 _) rfl (v:=.int .u32 0) (J1 rfl) ?_;refine S0.nil (I0 _) ?_;refine At.inLoop (I0 _) ?_;refine U329 ?_;refine S0.val (I0 _) (P1 _) rfl (v:=.bool false) (N8 (r:=false) rfl rfl (by decide)) ?_;refine U400 ?_;refine At.exit (I0 _) rfl ?_;refine At.done (I0 _) (fun _=>?_);refine AtR.mark (I0 _) .enable (by simp) rfl Try.func100 nv0 rfl rfl nx0 ?_;simp only[bw0];refine U209 ?_;refine At.done (I0 _) (fun _=>?_);exact U207
set_option maxRecDepth 20000 in
theorem fn1 (gr:X6) (K:Goroutine->Prop) {c:Frame} {cs:List Frame} (hK:K (Conc.G (c.finish (.tuple #[])) cs)):Iq0 Try.prog gr K 500 0 (Conc.G (Frame.enter Try.prog 81 #[.pointer (some ⟨gr.blk,gr.off,none⟩),.i 1] .normal) (c::cs)):=by
 rw[enter_at _ Try.func81 rfl];refine(?_:At (Ke0 Try.prog gr K) 500 117 (base 81) (c::cs) [] 0 (Wg.bf0 #[.pointer (some ⟨gr.blk,gr.off,none⟩),.i 1]) [.code (Try.f81.body.getD .skip)]) _ (cw0 _ _ rfl);refine At.seq E3 ?_;refine At.Y5 E3 rfl ?_;refine At.seq E3 ?_;refine U84 ?_;refine S0.val E3 (P1 _) rfl (v:=.i 1) (P0 rfl) ?_;refine S0.val E3 (P1 _) rfl (v:=.bool false) (fp0 (r:=false) rfl rfl (by decide)) ?_;refine U645 ?_;refine At.skip E3 ?_;refine U84 ?_;refine S0.Eb0 E3 (P1 _) .disable (by simp) (.inl rfl) rfl Try.func99 Yq0 rfl rfl Yr0 ?_;simp only[nw0];refine S0.nil E3 ?_;refine At.region E3 ?_;refine S0.defer E3 (P1 _) [] rfl ?_;refine S0.nil E3 ?_;refine U84 ?_;refine S0.val E3 (P1 _) rfl (v:=.bool false) (J1 rfl) ?_;refine S0.nil E3 ?_;refine At.seq E3 ?_;refine U84 ?_;refine S0.qc0 E3 (P1 _) (.bool false) rfl Try.func101 Vm0 rfl rfl Vp0 ?_;refine U645 ?_;refine At.skip E3 ?_;refine U84 ?_;refine U433 ?_;refine S0.val E3 (P1 _) rfl (v:=.pointer (some ⟨gr.blk,gr.off,none⟩)) (j5 (s:=1) gr.off gr.off rfl Try.underlying160 rfl qe0 (by decide) rfl) ?_;refine S0.val E3 (P1 _) rfl (v:=.i 1) (P0 rfl) ?_;refine S0.val E3 (P1 _) rfl (v:=.int .u64 1) (l4 (r:=1) rfl Try.underlying3 Try.underlying155 (by decide)) ?_;refine S0.val E3 (P1 _) rfl (v:=.int .u64 4294967296) (Ka0 (r:=4294967296) rfl rfl (by decide) (by decide)) ?_;refine S0.call E3 (P1 _) [.pointer (some ⟨gr.blk,gr.off,none⟩),.int .u64 4294967296] 10 rfl Try.func105 Vn0 rfl rfl rfl (fun cs1 V7=>?_);refine U84 ?_;refine S0.val E3 (P1 _) rfl (v:=.int .u64 0) (J1 rfl) ?_;refine S0.nil E3 ?_;refine U84 ?_;refine U433 ?_;refine S0.val E3 (P1 _) rfl (v:=.pointer (some ⟨gr.blk,gr.off,none⟩)) (j5 (s:=1) gr.off gr.off rfl Try.underlying157 rfl qd0 (by decide) rfl) ?_;refine S0.val E3 (P1 _) rfl (v:=.int .u64 4294967296) (P0 rfl) ?_;refine S0.Qe0 (P1 _) rfl Try.func124 Vo0 rfl rfl Vq0 rfl rfl (fun v hv=>?_);rcases Nat.eq_zero_or_pos v with rfl|hv0
 ·refine S0.val n1 (P1 _) rfl (v:=.int .u64 ((((0+1)*4294967296+0:Nat):Int))) (J1 rfl) ?_;refine S0.nil n1 ?_;refine At.ret n1 (fun _=>?_);refine AtR.leave1 n1 V7 rfl Try.func105 rfl (.int .u64 ((((0+1)*4294967296+0:Nat):Int))) rfl ?_;refine S0.val n1 (P1 _) rfl (v:=.int .u64 ((((0+1)*4294967296+0:Nat):Int))) (J1 rfl) ?_;refine U158 ?_;refine S0.val n1 (P1 _) rfl (v:=.int .u64 ((((0+1)*4294967296+0:Nat):Int))) (P0 rfl) ?_;refine S0.val n1 (P1 _) rfl (v:=.int .u64 0) (T7 (r:=0) rfl rfl (nr0 (0+1) 0 (by omega) (by omega))) ?_;refine U280 ?_;refine U99 ?_;refine U113 ?_;refine U513 ?_;refine S0.val n1 (P1 _) rfl (v:=.int .u64 ((((0+1):Nat):Int))) (fc0 (r:=(((0+1):Nat):Int)) rfl rfl (by decide) (ns0 (0+1) 0 (by omega))) ?_;refine S0.val n1 (P1 _) rfl (v:=.int .i32 ((((0+1):Nat):Int))) (l4 (r:=(((0+1):Nat):Int)) rfl Try.underlying155 Try.underlying21 (cy0 (0+1) (by omega))) ?_;refine S0.val n1 (P1 _) rfl (v:=.int .i32 ((((0+1):Nat):Int))) (J1 rfl) ?_;refine S0.nil n1 ?_;refine U513 ?_;refine S0.val n1 (P1 _) rfl (v:=.int .u64 0) (T7 (r:=0) rfl rfl (gy0 (0+1) 0 (by omega) (by omega))) ?_;refine U434 ?_;refine U158 ?_;refine U493 ?_;refine U598 ?_;refine S0.cf0 n1 (P1 _) rfl rfl (v:=.int .i32 ((((0+1):Nat):Int))) (P0 rfl) ?_;refine U438 ?_;refine S0.cf0 n1 (P1 _) rfl rfl (v:=.bool true) (bv0 (r:=true) rfl rfl (decide_eq_true (by omega))) ?_;refine U368 ?_;refine At.region n1 ?_;refine S0.val n1 (P1 _) rfl (v:=.pointer (some ⟨gr.blk,gr.off,none⟩)) (P0 rfl) ?_;refine S0.val n1 (P1 _) rfl (v:=.pointer (some ⟨gr.blk,gr.off,none⟩)) (l5 rfl) ?_;refine S0.val n1 (P1 _) rfl (v:=.pointer (some ⟨gr.blk,gr.off+1,none⟩)) (j5 (s:=1) gr.off (gr.off+1) rfl Try.underlying160 rfl Kp0 (by decide) rfl) ?_;refine S0.toUnsafe Rb0 (P1 _) rfl rfl (.inr rfl) Try.underlying234 Try.underlying91 Vr0 ?_;refine S0.rz0 n1 (P1 _) .read (by simp) (.inr (.inl rfl)) rfl Try.func106 ev1 rfl rfl fg1 rfl ?_;rw[ay0 _ rfl];refine U158 ?_;refine S0.val n1 (P1 _) rfl (v:=.int .i32 ((((0+1):Nat):Int))) (P0 rfl) ?_;refine U501 ?_;refine U143 ?_;refine U594 ?_;refine U99 ?_;refine U593 ?_;refine U99 ?_;refine U113 ?_;refine U143 ?_;refine S0.val n1 (P1 _) rfl (v:=.int .i32 ((((0+1):Nat):Int))) (P0 rfl) ?_;refine U452 ?_;refine U195 ?_;refine U368 ?_;refine At.ret n1 (fun _=>?_);refine AtR.mark n1 .enable (by simp) (.inl rfl) Try.func100 nv0 rfl rfl nx0 ?_;simp only[bw0];exact U627
 ·refine S0.val n1 (P1 _) rfl (v:=.int .u64 ((((v+1)*4294967296+0:Nat):Int))) (J1 rfl) ?_;refine S0.nil n1 ?_;refine At.ret n1 (fun _=>?_);refine AtR.leave1 n1 V7 rfl Try.func105 rfl (.int .u64 ((((v+1)*4294967296+0:Nat):Int))) rfl ?_;refine S0.val n1 (P1 _) rfl (v:=.int .u64 ((((v+1)*4294967296+0:Nat):Int))) (J1 rfl) ?_;refine U158 ?_;refine S0.val n1 (P1 _) rfl (v:=.int .u64 ((((v+1)*4294967296+0:Nat):Int))) (P0 rfl) ?_;refine S0.val n1 (P1 _) rfl (v:=.int .u64 0) (T7 (r:=0) rfl rfl (nr0 (v+1) 0 (by omega) (by omega))) ?_;refine U280 ?_;refine U99 ?_;refine U113 ?_;refine U512 ?_;refine S0.val n1 (P1 _) rfl (v:=.int .u64 ((((v+1):Nat):Int))) (fc0 (r:=(((v+1):Nat):Int)) rfl rfl (by decide) (ns0 (v+1) 0 (by omega))) ?_;refine S0.val n1 (P1 _) rfl (v:=.int .i32 ((((v+1):Nat):Int))) (l4 (r:=(((v+1):Nat):Int)) rfl Try.underlying155 Try.underlying21 (cy0 (v+1) (by omega))) ?_;refine S0.val n1 (P1 _) rfl (v:=.int .i32 ((((v+1):Nat):Int))) (J1 rfl) ?_;refine S0.nil n1 ?_;refine U512 ?_;refine S0.val n1 (P1 _) rfl (v:=.int .u64 0) (T7 (r:=0) rfl rfl (gy0 (v+1) 0 (by omega) (by omega))) ?_;refine U434 ?_;refine U158 ?_;refine U493 ?_;refine U598 ?_;refine S0.cf0 n1 (P1 _) rfl rfl (v:=.int .i32 ((((v+1):Nat):Int))) (P0 rfl) ?_;refine U438 ?_;refine S0.cf0 n1 (P1 _) rfl rfl (v:=.bool false) (bv0 (r:=false) rfl rfl (decide_eq_false (by omega))) ?_;refine S0.val n1 (P1 _) rfl (v:=.bool false) (P9 rfl rfl) ?_;refine U113 ?_;refine U538 ?_;refine U501 ?_;refine U143 ?_;refine U594 ?_;refine U99 ?_;refine U593 ?_;refine U99 ?_;refine U113 ?_;refine U538 ?_;refine U452 ?_;refine U195 ?_;refine U368 ?_;refine At.ret n1 (fun _=>?_);refine AtR.mark n1 .enable (by simp) (.inl rfl) Try.func100 nv0 rfl rfl nx0 ?_;simp only[bw0];exact U627
noncomputable def Vt0:Code:=match Try.f83.body with|some (.seq _ (.block _ (.loop c)))=>c|_=>.skip
set_option maxRecDepth 20000 in
theorem Gr0 (gr:X6) (K:Goroutine->Prop) {c:Frame} {cs:List Frame} (hK:K (Conc.G (c.finish (.tuple #[])) cs)):∀(V:Nat),V<2147483648->∀(e:Env),At (YWH Try.prog gr K none V) (500*V+500) 84 (base 83) (c::cs) [] 1 (upd e 0 (.pointer (some ⟨gr.blk,gr.off,none⟩))) [.code Vt0,.inLoop Vt0,.inBlock 0]:=by
 intro V
 induction V using Nat.strongRecOn with
 |_ V ih=>
 intro hV e;refine At.block B3 ?_;refine U67 ?_;refine U461 ?_;refine S0.call B3 (P1 _) [.pointer (some ⟨gr.blk,gr.off,none⟩)] 7 rfl Try.func107 Kt0 rfl rfl rfl (fun cs1 V7=>?_);refine U67 ?_;refine S0.val B3 (P1 _) rfl (v:=.int .u64 0) (J1 rfl) ?_;refine S0.nil B3 ?_;refine U67 ?_;refine U460 ?_;refine S0.Ya0 (P1 _) rfl Try.func125 Ku0 rfl rfl Kv0 rfl ?_ (fun v hv hv0=>?_)
 ·refine S0.val T2 (P1 _) rfl (v:=.int .u64 0) (J1 rfl) ?_;refine S0.nil T2 ?_;refine At.ret T2 (fun _=>?_);refine AtR.leave1 T2 V7 rfl Try.func107 rfl (.int .u64 0) rfl ?_;refine U321 ?_;refine U600 ?_;refine S0.val T2 (P1 _) rfl (v:=.int .u64 0) (fc0 (r:=0) rfl rfl (by decide) (by decide)) ?_;refine S0.val T2 (P1 _) rfl (v:=.int .i32 0) (l4 (r:=0) rfl Try.underlying155 Try.underlying21 (by decide)) ?_;refine S0.val T2 (P1 _) rfl (v:=.int .i32 0) (J1 rfl) ?_;refine S0.nil T2 ?_;refine U600 ?_;refine S0.val T2 (P1 _) rfl (v:=.int .u64 0) (T7 (r:=0) rfl rfl (by decide)) ?_;refine S0.val T2 (P1 _) rfl (v:=.int .u32 0) (l4 (r:=0) rfl Try.underlying155 Try.underlying158 (by decide)) ?_;refine S0.val T2 (P1 _) rfl (v:=.int .u32 0) (J1 rfl) ?_;refine U235 ?_;refine U66 ?_;refine S0.val T2 (P1 _) rfl (v:=.int .i32 0) (P0 rfl) ?_;refine S0.val T2 (P1 _) rfl (v:=.bool true) (bv0 (r:=true) rfl rfl (by decide)) ?_;refine S0.nil T2 ?_;refine At.Y5 T2 rfl ?_;refine At.seq T2 ?_;refine At.Y5 T2 rfl ?_;refine U516 ?_;simp only[bw0];refine S0.nil T2 ?_;refine U504 ?_;refine U429 ?_;rw[ay0 _ rfl];refine U235 ?_;refine U66 ?_;refine S0.val T2 (P1 _) rfl (v:=.int .u32 0) (P0 rfl) ?_;refine S0.val T2 (P1 _) rfl (v:=.bool true) (bv0 (r:=true) rfl rfl (by decide)) ?_;refine S0.val T2 (P1 _) rfl (v:=.bool true) (P0 rfl) ?_;refine S0.cf0 T2 (P1 _) rfl rfl (v:=.int .u64 0) (P0 rfl) ?_;refine S0.cf0 T2 (P1 _) rfl rfl (v:=.int .u64 0) (T7 (r:=0) rfl rfl (by decide)) ?_;refine S0.cf0 T2 (P1 _) rfl rfl (v:=.bool false) (N8 (r:=false) rfl rfl (by decide)) ?_;refine S0.val T2 (P1 _) rfl (v:=.bool false) (P9 rfl rfl) ?_;refine S0.val T2 (P1 _) rfl (v:=.bool false) (P0 rfl) ?_;refine S0.off T2 rfl rfl ?_;refine S0.off T2 rfl rfl ?_;refine S0.val T2 (P1 _) rfl (v:=.bool false) (cx0 rfl rfl) ?_;refine S0.nil T2 ?_;refine At.G5 T2 rfl ?_;refine At.skip T2 ?_;refine At.ret T2 (fun _=>?_);exact U631
 ·refine S0.val B3 (P1 _) rfl (v:=.int .u64 (((v*4294967296+0:Nat):Int))) (J1 rfl) ?_;refine S0.nil B3 ?_;refine At.ret B3 (fun _=>?_);refine AtR.leave1 B3 V7 rfl Try.func107 rfl (.int .u64 (((v*4294967296+0:Nat):Int))) rfl ?_;refine S0.val B3 (P1 _) rfl (v:=.int .u64 (((v*4294967296+0:Nat):Int))) (J1 rfl) ?_;refine S0.nil B3 ?_;refine U521 ?_;refine S0.val B3 (P1 _) rfl (v:=.int .u64 (((v:Nat):Int))) (fc0 (r:=((v:Nat):Int)) rfl rfl (by decide) (ns0 v 0 (by omega))) ?_;refine S0.val B3 (P1 _) rfl (v:=.int .i32 (((v:Nat):Int))) (l4 (r:=((v:Nat):Int)) rfl Try.underlying155 Try.underlying21 (cy0 v (by omega))) ?_;refine S0.val B3 (P1 _) rfl (v:=.int .i32 (((v:Nat):Int))) (J1 rfl) ?_;refine S0.nil B3 ?_;refine U521 ?_;refine S0.val B3 (P1 _) rfl (v:=.int .u64 0) (T7 (r:=0) rfl rfl (gy0 v 0 (by omega) (by omega))) ?_;refine S0.val B3 (P1 _) rfl (v:=.int .u32 0) (l4 (r:=0) rfl Try.underlying155 Try.underlying158 (by decide)) ?_;refine S0.val B3 (P1 _) rfl (v:=.int .u32 0) (J1 rfl) ?_;refine S0.nil B3 ?_;refine At.seq B3 ?_;refine U67 ?_;refine S0.val B3 (P1 _) rfl (v:=.int .i32 (((v:Nat):Int))) (P0 rfl) ?_;refine S0.val B3 (P1 _) rfl (v:=.bool false) (bv0 (r:=false) rfl rfl (decide_eq_false (by omega))) ?_;refine S0.nil B3 ?_;refine At.G5 B3 rfl ?_;refine At.skip B3 ?_;refine U67 ?_;refine U461 ?_;refine S0.val B3 (P1 _) rfl (v:=.int .u64 (((v*4294967296+0:Nat):Int))) (P0 rfl) ?_;refine S0.val B3 (P1 _) rfl (v:=.int .u64 (((v*4294967296+0:Nat):Int))) (P0 rfl) ?_;refine S0.val B3 (P1 _) rfl (v:=.int .u64 (((v*4294967296+1:Nat):Int))) (Xw0 (r:=((v*4294967296+1:Nat):Int)) rfl rfl (add1 v (by omega))) ?_;refine S0.call B3 (P1 _) [.pointer (some ⟨gr.blk,gr.off,none⟩),.int .u64 (((v*4294967296+0:Nat):Int)),.int .u64 (((v*4294967296+1:Nat):Int))] 13 rfl Try.func115 fb1 rfl rfl rfl (fun cs2 H3=>?_);refine U67 ?_;refine S0.val B3 (P1 _) rfl (v:=.bool false) (J1 rfl) ?_;refine S0.nil B3 ?_;refine U67 ?_;refine U460 ?_;refine S0.val B3 (P1 _) rfl (v:=.int .u64 (((v*4294967296+0:Nat):Int))) (P0 rfl) ?_;refine S0.val B3 (P1 _) rfl (v:=.int .u64 (((v*4294967296+1:Nat):Int))) (P0 rfl) ?_;refine S0.ds1 (vs:=v) (P1 _) rfl Try.func127 ff1 rfl rfl fk1 rfl rfl rfl ?_ (fun v2 hv2=>?_)
  ·refine S0.val K5 (P1 _) rfl (v:=.bool true) (J1 rfl) ?_;refine S0.nil K5 ?_;refine At.ret K5 (fun _=>?_);refine AtR.leave1 K5 H3 rfl Try.func115 rfl (.bool true) rfl ?_;refine U646 ?_;refine At.seq K5 ?_;refine U234 ?_;refine S0.val K5 (P1 _) rfl (v:=.bool true) (P0 rfl) ?_;refine S0.cf0 K5 (P1 _) rfl rfl (v:=.int .u32 0) (P0 rfl) ?_;refine S0.cf0 K5 (P1 _) rfl rfl (v:=.bool true) (bv0 (r:=true) rfl rfl (by decide)) ?_;refine S0.val K5 (P1 _) rfl (v:=.bool true) (P9 rfl rfl) ?_;refine U646 ?_;refine At.region K5 ?_;refine U522 ?_;refine S0.toUnsafe dq1 (P1 _) rfl rfl (.inr rfl) Try.underlying234 Try.underlying91 Vr0 ?_;refine S0.rz0 K5 (P1 _) .write (by simp) (.inr (.inr rfl)) rfl Try.func116 fc1 rfl rfl fh1 rfl ?_;rw[ay0 _ rfl];refine S0.nil K5 ?_;refine U234 ?_;refine S0.val K5 (P1 _) rfl (v:=.bool false) (J1 rfl) ?_;refine S0.nil K5 ?_;refine At.seq K5 ?_;refine U234 ?_;refine S0.val K5 (P1 _) rfl (v:=.int .u64 (((v*4294967296+0:Nat):Int))) (P0 rfl) ?_;refine S0.val K5 (P1 _) rfl (v:=.int .u64 0) (T7 (r:=0) rfl rfl (nr0 v 0 (by omega) (by omega))) ?_;refine S0.val K5 (P1 _) rfl (v:=.bool false) (N8 (r:=false) rfl rfl (by decide)) ?_;refine S0.val K5 (P1 _) rfl (v:=.bool false) (P0 rfl) ?_;refine S0.off K5 rfl rfl ?_;refine S0.val K5 (P1 _) rfl (v:=.bool false) (cx0 rfl rfl) ?_;refine S0.nil K5 ?_;refine At.G5 K5 rfl ?_;refine At.skip K5 ?_;refine U234 ?_;refine U522 ?_;refine S0.val K5 (P1 _) rfl (v:=.bool false) (P0 rfl) ?_;refine S0.dt1 (P1 _) rfl Try.func117 fd1 rfl rfl fm1 rfl ?_;refine S0.nil T2 ?_;refine U66 ?_;refine U435 ?_;refine S0.val T2 (P1 _) rfl (v:=.pointer (some ⟨gr.blk,gr.off,none⟩)) (j5 (s:=1) gr.off gr.off rfl Try.underlying160 rfl qe0 (by decide) rfl) ?_;refine S0.call T2 (P1 _) [.pointer (some ⟨gr.blk,gr.off,none⟩)] 7 rfl Try.func107 Kt0 rfl rfl rfl (fun cs3 hb3=>?_);refine U66 ?_;refine U321 ?_;refine U66 ?_;refine U435 ?_;refine S0.val T2 (P1 _) rfl (v:=.pointer (some ⟨gr.blk,gr.off,none⟩)) (j5 (s:=1) gr.off gr.off rfl Try.underlying157 rfl qd0 (by decide) rfl) ?_;refine S0.Yb0 (P1 _) rfl Try.func125 Ku0 rfl rfl Kv0 rfl ?_;refine U321 ?_;refine At.ret T2 (fun _=>?_);refine AtR.leave1 T2 hb3 rfl Try.func107 rfl (.int .u64 0) rfl ?_;refine S0.val T2 (P1 _) rfl (v:=.bool false) (N8 (r:=false) rfl rfl (by decide)) ?_;refine S0.val T2 (P1 _) rfl (v:=.bool false) (J1 rfl) ?_;refine U235 ?_;refine At.Y5 T2 rfl ?_;refine U516 ?_;simp only[bw0];refine S0.nil T2 ?_;refine U504 ?_;refine U429 ?_;rw[ay0 _ rfl];refine U235 ?_;refine U66 ?_;refine S0.val T2 (P1 _) rfl (v:=.bool false) (P0 rfl) ?_;refine S0.nil T2 ?_;refine At.G5 T2 rfl ?_;refine At.skip T2 ?_;refine At.ret T2 (fun _=>?_);exact U631
  ·refine S0.val B3 (P1 _) rfl (v:=.bool false) (J1 rfl) ?_;refine S0.nil B3 ?_;refine At.ret B3 (fun _=>?_);refine AtR.leave1 B3 H3 rfl Try.func115 rfl (.bool false) rfl ?_;refine S0.nil B3 ?_;refine At.G5 B3 rfl ?_;refine At.skip B3 ?_;refine At.inBlock B3 ?_;refine At.inLoop B3 ?_;exact At.Kf0 (At.Ee0 (fun e=>ih v2 (by omega) (by omega) e) rfl) (by omega)
set_option maxRecDepth 20000 in
theorem Ys0 (gr:X6) (K:Goroutine->Prop) {c:Frame} {cs:List Frame} (hK:K (Conc.G (c.finish (.tuple #[])) cs)) (V:Nat) (hV:V<2147483648):WH Try.prog gr K (500*V+510) none V 0 (Conc.G (Frame.enter Try.prog 83 #[.pointer (some ⟨gr.blk,gr.off,none⟩)] .normal) (c::cs)):=by
 rw[enter_at _ Try.func83 rfl];refine(?_:At (YWH Try.prog gr K none V) (500*V+510) 84 (base 83) (c::cs) [] 0 (Wg.bf0 #[.pointer (some ⟨gr.blk,gr.off,none⟩)]) [.code (Try.f83.body.getD .skip)]) _ (cw0 _ _ rfl);refine At.seq B3 ?_;refine At.Y5 B3 rfl ?_;refine At.region B3 ?_;refine S0.Eb0 B3 (P1 _) .disable (by simp) (.inl rfl) rfl Try.func99 Yq0 rfl rfl Yr0 ?_;simp only[nw0];refine S0.nil B3 ?_;refine At.block B3 ?_;refine At.loop B3 ?_;exact At.Kf0 (At.Ee0 (fun e=>Gr0 gr K hK V hV e) rfl) (by omega)
end
end Go.Proofs.Ytgadhljgilblbaa
end
section
namespace Go.Vy.Sc
open Go Go.Conc Go.Yc Go.RowKit Go.Proofs Go.Proofs.Ytgadhljgilblbaa Try
open Go.Vc
structure CB where
 cb:Nat
 rc:Nat
 sp:Stp
 rf:Value
 df:Value
 E2:Nat
 wt:Bool
 st:Bool
def CB.cells (rb i:Nat) (c:CB):Array Value:=#[.i (i:Int),.p rb,.chan (some c.rc),.i c.sp.kind,.i c.sp.obj,.i c.sp.num,c.rf,c.df,.i (c.E2:Int),.bool c.wt,.bool c.st]
def evC (x:Nat×Stp):List Value:=[.i (x.1:Int),.i x.2.kind,.i x.2.obj,.i x.2.num]
def ntC (x:Nat×Nat×Nte):List Value:=[.i (x.1:Int),.i (x.2.1:Int),.i x.2.2.kind,.string x.2.2.text]
def spC (s:Stp):List Value:=[.i s.kind,.i s.obj,.i s.num]
structure Rn where
 rb:Nat
 yb:Nat
 eb:Nat
 wb:Nat
 m:Nat
 ca:Option Addr
 cc:Nat
 cl:List CB
 ea:Option Addr
 ec:Nat
 evs:List (Nat×Stp)
 na:Option Addr
 nc:Nat
 j2:List (Nat×Nat×Nte)
 ends:List Int
 I4:List Stp
 stuck:Bool
 used:Nat
def Rn.cells (R:Rn):Array Value:=#[.slice R.ca R.cl.length R.cc,.slice R.ea R.evs.length R.ec,.slice R.na R.j2.length R.nc,.slice (pt R.eb) R.m R.m,.slice (pt R.wb) R.m R.m,.bool R.stuck,.i (R.used:Int),.chan (some R.yb)]
structure D4 (w:World) (Bs:Nat) (R:Rn):Prop where
 run:X1 w R.rb R.cells 162 (7,8)
 cls:Own w Bs 106 1 R.ca R.cl.length R.cc (R.cl.map fun c=>.p c.cb)
 evs:Own w Bs 79 4 R.ea R.evs.length R.ec (R.evs.flatMap evC)
 j2:Own w Bs 120 4 R.na R.j2.length R.nc (R.j2.flatMap ntC)
 ends:X1 w R.eb (R.ends.map (Value.int .i64)).toArray 3 (0,0)
 I4:X1 w R.wb (R.I4.flatMap spC).toArray 77 (0,0)
 eo0:R.ends.length=R.m
 jf0:R.I4.length=R.m
 lcl:R.cl.length <=R.m
 blk:∀(i:Nat) (c:CB),R.cl[i]? =some c->X1 w c.cb (c.cells R.rb i) 197 (0,3)
def Rn.fp (R:Rn) (k:Nat):Prop:=k=R.rb\/k=R.eb\/k=R.wb\/(R.ca≠none/\k=ab R.ca)\/(R.ea≠none/\k=ab R.ea)\/(R.na≠none/\k=ab R.na)\/∃(i:Nat) (c:CB),R.cl[i]? =some c/\k=c.cb
section
variable {w w':World}{Bs:Nat}{R:Rn}
theorem D4.congr (h:D4 w Bs R) (he:∀k,R.fp k->w'.heap[k]? =w.heap[k]?):D4 w' Bs R :=
 ⟨(he _ (.inl rfl)).trans h.run,Own.congr h.cls fun ha=>he _ (.inr (.inr (.inr (.inl ⟨ha,rfl⟩)))),Own.congr h.evs fun ha=>he _ (.inr (.inr (.inr (.inr (.inl ⟨ha,rfl⟩))))),Own.congr h.j2 fun ha=>he _ (.inr (.inr (.inr (.inr (.inr (.inl ⟨ha,rfl⟩)))))),
  (he _ (.inr (.inl rfl))).trans h.ends,(he _ (.inr (.inr (.inl rfl)))).trans h.I4,h.eo0,h.jf0,h.lcl,fun i c hc=>(he _ (.inr (.inr (.inr (.inr (.inr (.inr ⟨i,c,hc,rfl⟩))))))).trans (h.blk i c hc)⟩
theorem D4.lt (h:D4 w Bs R) {k:Nat} (hk:R.fp k):k<w.heap.size:=by
 rcases hk with rfl|rfl|rfl|⟨ha,rfl⟩|⟨ha,rfl⟩|⟨ha,rfl⟩|⟨i,c,hc,rfl⟩
 ·exact h.run.lt
 ·exact h.ends.lt
 ·exact h.I4.lt
 ·exact h.cls.lt ha
 ·exact h.evs.lt ha
 ·exact h.j2.lt ha
 ·exact(h.blk i c hc).lt
theorem D4.j0 (h:D4 w Bs R) (hb:Below w.heap.size w w'):D4 w' Bs R:=h.congr fun k hk=>hb.block k (h.lt hk)
theorem R3 {b:Nat} {cs:Array Value} {T:TypeId} {f:Nat×Nat} {row:Option Nat} (h:X1 w b cs T f) (hg:w.grownBy w' row) (hr:∀r,row=some r->∃V6 T' f',X1 w r V6 T' f'/\T≠T'):X1 w' b cs T f :=
 h.grown hg fun e=>by
  obtain⟨V6,T',f',h',hT⟩:=hr b e.symm;exact h.ne h' hT rfl
theorem C5 {E:TypeId} {s n c:Nat} {a:Option Addr} {xs:List Value} {row:Option Nat} (h:Own w Bs E s a n c xs) (hg:w.grownBy w' row) (hr:∀r,row=some r->∃V6 T' f',X1 w r V6 T' f'/\E≠T'):Own w' Bs E s a n c xs :=
 Own.congr h fun ha=>by
  obtain⟨cur,hB,_⟩:=h.row ha;refine hg.block _ hB.lt fun e=>?_;obtain⟨V6,T',f',h',hT⟩:=hr (ab a) e.symm;exact X1.ne (f:=(0,0)) hB h' hT rfl
theorem D4.lf1 (h:D4 w Bs R) {i j:Nat} {c d:CB} (hc:R.cl[i]? =some c) (hd:R.cl[j]? =some d) (he:c.cb=d.cb):i=j:=by
 have h1:=h.blk i c hc;have h2:=h.blk j d hd;unfold X1 at h1 h2;rw[he,h2]at h1;have:=congrArg (fun o=>match o with|some (Obj.cells c _ _)=>c[0]? |_=>none) h1;simp[CB.cells]at this;omega
theorem Kw0 (l:List CB) (i:Nat) (c c':CB) (hc:l[i]? =some c) (he:c'.cb=c.cb):(l.set i c').map (fun c=>Value.p c.cb)=l.map fun c=>Value.p c.cb:=by
 apply List.ext_getElem?;intro j;rw[List.getElem?_map,List.getElem?_map,List.getElem?_set];by_cases hj:i=j
 ·subst hj;have D2:=(List.getElem?_eq_some_iff.1 hc).1;rw[List.getElem?_eq_getElem D2]at hc;obtain rfl:=Option.some.inj hc;simp[D2,he]
 ·simp[hj]
theorem Rn.Eg0 {i:Nat} {c c':CB} (hc:R.cl[i]? =some c) (he:c'.cb=c.cb) {k:Nat} (hk:Rn.fp {R with cl:=R.cl.set i c'} k):R.fp k:=by
 rcases hk with h|h|h|h|h|h|⟨j,d,hd,rfl⟩
 ·exact .inl h
 ·exact .inr (.inl h)
 ·exact .inr (.inr (.inl h))
 ·exact .inr (.inr (.inr (.inl h)))
 ·exact .inr (.inr (.inr (.inr (.inl h))))
 ·exact .inr (.inr (.inr (.inr (.inr (.inl h)))))
 ·refine .inr (.inr (.inr (.inr (.inr (.inr ?_)))));have O5:(R.cl.set i c')[j]? =some d:=hd;rw[List.getElem?_set]at O5;by_cases hj:i=j
  ·subst hj;rw[if_pos rfl]at O5;split at O5
   ·obtain rfl:=Option.some.inj O5;exact⟨i,c,hc,he⟩
   ·cases O5
  ·rw[if_neg hj]at O5;exact⟨j,d,O5,rfl⟩
theorem D4.Yt0 (h:D4 w Bs R) {i:Nat} {c:CB} (c':CB) (hc:R.cl[i]? =some c) (he:c'.cb=c.cb):D4 (n2 w c.cb (c'.cells R.rb i) 197 (0,3)) Bs {R with cl:=R.cl.set i c'}:=by
 have hg:=N2 w c.cb (c'.cells R.rb i) 197 (0,3);have hb:=h.blk i c hc;have hr:∀T:TypeId,T≠197->∀r,some c.cb=some r->∃V6 T' f',X1 w r V6 T' f'/\T≠T':=fun T hT r e=>by cases e;exact⟨_,_,_,hb,hT⟩
 refine⟨?_,?_,C5 h.evs hg (hr _ (by decide)),C5 h.j2 hg (hr _ (by decide)),R3 h.ends hg (hr _ (by decide)),R3 h.I4 hg (hr _ (by decide)),h.eo0,h.jf0,by simpa using h.lcl,fun j d hd=>?_⟩
 ·have:=R3 h.run hg (hr _ (by decide));simpa [Rn.cells]using this
 ·have:=C5 h.cls hg (hr _ (by decide));show Own _ Bs _ 1 R.ca (R.cl.set i c').length R.cc ((R.cl.set i c').map _);rw[Kw0 R.cl i c c' hc he,List.length_set];exact this
 ·have O5:(R.cl.set i c')[j]? =some d:=hd;rw[List.getElem?_set]at O5;by_cases hj:i=j
  ·subst hj;rw[if_pos rfl]at O5;split at O5
   ·obtain rfl:=Option.some.inj O5;rw[he];exact H5 hb _ _ _
   ·cases O5
  ·rw[if_neg hj]at O5;exact(h.blk j d O5).other hg fun e=>hj (h.lf1 O5 hc e).symm
theorem D4.Yu0 (h:D4 w Bs R) (st:Bool) (us:Nat):D4 (n2 w R.rb (Rn.cells {R with stuck:=st,used:=us}) 162 (7,8)) Bs {R with stuck:=st,used:=us}:=by
 have hg:=N2 w R.rb (Rn.cells {R with stuck:=st,used:=us}) 162 (7,8);have hr:∀T:TypeId,T≠162->∀r,some R.rb=some r->∃V6 T' f',X1 w r V6 T' f'/\T≠T':=fun T hT r e=>by cases e;exact⟨_,_,_,h.run,hT⟩
 exact⟨H5 h.run _ _ _,C5 h.cls hg (hr _ (by decide)),C5 h.evs hg (hr _ (by decide)),C5 h.j2 hg (hr _ (by decide)),R3 h.ends hg (hr _ (by decide)),R3 h.I4 hg (hr _ (by decide)),h.eo0,h.jf0,h.lcl,fun j d hd=>R3 (h.blk j d hd) hg (hr _ (by decide))⟩
theorem Rk0 {E:TypeId} {s n c:Nat} {a:Option Addr} {xs:List Value} (h:Own w Bs E s a n c xs):∀r,Value.ownBlock (.slice a n c)=some r->∃V6 T' f',X1 w r V6 T' f':=by
 intro r e;cases a with
 |none=>cases e
 |some ad=>
  obtain⟨cur,hB,_⟩:=h.row (by simp);cases e;exact⟨_,_,_,hB⟩
theorem A7 {E T:TypeId} {s n c:Nat} {a:Option Addr} {xs:List Value} (h:Own w Bs E s a n c xs) (hT:T≠E):∀r,Value.ownBlock (.slice a n c)=some r->∃V6 T' f',X1 w r V6 T' f'/\T≠T':=by
 intro r e;cases a with
 |none=>cases e
 |some ad=>
  obtain⟨cur,hB,_⟩:=h.row (by simp);cases e;exact⟨_,_,_,hB,hT⟩
theorem D4.uv0 (h:D4 w Bs R) {w1:World} {a':Option Addr} {c':Nat} (x:Nat×Stp) (hg:w.grownBy w1 (Value.ownBlock (.slice R.ea R.evs.length R.ec))) (hO:Own w1 Bs 79 4 a' (R.evs.length+1) c' (R.evs.flatMap evC++evC x)) :
  D4 (n2 w1 R.rb (Rn.cells {R with ea:=a',ec:=c',evs:=R.evs ++ [x]}) 162 (7,8)) Bs {R with ea:=a',ec:=c',evs:=R.evs ++ [x]}:=by
 have W5:=R3 h.run hg (A7 h.evs (by decide));have u9:=N2 w1 R.rb (Rn.cells {R with ea:=a',ec:=c',evs:=R.evs ++ [x]}) 162 (7,8);have hr:∀T:TypeId,T≠162->∀r,some R.rb=some r->∃V6 T' f',X1 w1 r V6 T' f'/\T≠T':=fun T hT r e=>by cases e;exact⟨_,_,_,W5,hT⟩
 refine⟨H5 W5 _ _ _,C5 (C5 h.cls hg (A7 h.evs (by decide))) u9 (hr _ (by decide)),?_,C5 (C5 h.j2 hg (A7 h.evs (by decide))) u9 (hr _ (by decide)),R3 (R3 h.ends hg (A7 h.evs (by decide))) u9 (hr _ (by decide)),R3 (R3 h.I4 hg (A7 h.evs (by decide))) u9 (hr _ (by decide)),h.eo0,h.jf0,h.lcl,fun j d hd=>R3 (R3 (h.blk j d hd) hg (A7 h.evs (by decide))) u9 (hr _ (by decide))⟩;have:=C5 hO u9 (hr _ (by decide));simpa using this
theorem D4.Kx0 (h:D4 w Bs R) {w1:World} {a':Option Addr} {c':Nat} (x:CB) (hx:X1 w x.cb (x.cells R.rb R.cl.length) 197 (0,3)) (hm:R.cl.length<R.m) (hg:w.grownBy w1 (Value.ownBlock (.slice R.ca R.cl.length R.cc))) (hO:Own w1 Bs 106 1 a' (R.cl.length+1) c' ((R.cl.map fun c=>.p c.cb) ++ [.p x.cb])) :
  D4 (n2 w1 R.rb (Rn.cells {R with ca:=a',cc:=c',cl:=R.cl ++ [x]}) 162 (7,8)) Bs {R with ca:=a',cc:=c',cl:=R.cl ++ [x]}:=by
 have W5:=R3 h.run hg (A7 h.cls (by decide));have u9:=N2 w1 R.rb (Rn.cells {R with ca:=a',cc:=c',cl:=R.cl ++ [x]}) 162 (7,8);have hr:∀T:TypeId,T≠162->∀r,some R.rb=some r->∃V6 T' f',X1 w1 r V6 T' f'/\T≠T':=fun T hT r e=>by cases e;exact⟨_,_,_,W5,hT⟩
 refine⟨H5 W5 _ _ _,?_,C5 (C5 h.evs hg (A7 h.cls (by decide))) u9 (hr _ (by decide)),C5 (C5 h.j2 hg (A7 h.cls (by decide))) u9 (hr _ (by decide)),R3 (R3 h.ends hg (A7 h.cls (by decide))) u9 (hr _ (by decide)),R3 (R3 h.I4 hg (A7 h.cls (by decide))) u9 (hr _ (by decide)),h.eo0,h.jf0,by simp;omega,fun j d hd=>?_⟩
 ·have:=C5 hO u9 (hr _ (by decide));simpa using this
 ·have O5:(R.cl ++ [x])[j]? =some d:=hd;have hb:X1 w d.cb (d.cells R.rb j) 197 (0,3):=by
   rw[List.getElem?_append]at O5;split at O5
   ·exact h.blk j d O5
   ·rename_i D2;have hj:j=R.cl.length:=by
     rcases Nat.lt_or_ge (j-R.cl.length) 1 with z|z
     ·omega
     ·rw[List.getElem?_eq_none (by simpa using z)]at O5;cases O5
    subst hj;simp at O5;subst O5;exact hx
  exact R3 (R3 hb hg (A7 h.cls (by decide))) u9 (hr _ (by decide))
theorem D4.Ky0 (h:D4 w Bs R) (i:Nat) (v:Int):D4 (n2 w R.eb ((R.ends.set i v).map (Value.int .i64)).toArray 3 (0,0)) Bs {R with ends:=R.ends.set i v}:=by
 have hg:=N2 w R.eb ((R.ends.set i v).map (Value.int .i64)).toArray 3 (0,0);have hr:∀T:TypeId,T≠3->∀r,some R.eb=some r->∃V6 T' f',X1 w r V6 T' f'/\T≠T':=fun T hT r e=>by cases e;exact⟨_,_,_,h.ends,hT⟩
 exact⟨R3 h.run hg (hr _ (by decide)),C5 h.cls hg (hr _ (by decide)),C5 h.evs hg (hr _ (by decide)),C5 h.j2 hg (hr _ (by decide)),H5 h.ends _ _ _,R3 h.I4 hg (hr _ (by decide)),by simpa using h.eo0,h.jf0,h.lcl,fun j d hd=>R3 (h.blk j d hd) hg (hr _ (by decide))⟩
theorem D4.Yv0 (h:D4 w Bs R) (i:Nat) (v:Stp):D4 (n2 w R.wb ((R.I4.set i v).flatMap spC).toArray 77 (0,0)) Bs {R with I4:=R.I4.set i v}:=by
 have hg:=N2 w R.wb ((R.I4.set i v).flatMap spC).toArray 77 (0,0);have hr:∀T:TypeId,T≠77->∀r,some R.wb=some r->∃V6 T' f',X1 w r V6 T' f'/\T≠T':=fun T hT r e=>by cases e;exact⟨_,_,_,h.I4,hT⟩
 exact⟨R3 h.run hg (hr _ (by decide)),C5 h.cls hg (hr _ (by decide)),C5 h.evs hg (hr _ (by decide)),C5 h.j2 hg (hr _ (by decide)),R3 h.ends hg (hr _ (by decide)),H5 h.I4 _ _ _,h.eo0,by simpa using h.jf0,h.lcl,fun j d hd=>R3 (h.blk j d hd) hg (hr _ (by decide))⟩
structure Rg (S:Nat->Prop) (B:Nat) (w0 w:World) (Bs:Nat) (R:Rn):Prop where
 m:D4 w Bs R
 md:ho0 S B w0 w
 fp:∀k,R.fp k->S k\/B <=k
 le:B <=w.heap.size
end
section
variable {S:Nat->Prop}{B:Nat}{w0 w w':World}{Bs:Nat}{R:Rn}
theorem D4.rg (h:D4 w Bs R):Rg R.fp w.heap.size w w Bs R:=⟨h,ho0.refl _ _ _,fun _ h=>.inl h,Nat.le_refl _⟩
theorem Rg.j0 (h:Rg S B w0 w Bs R) (hb:Below w.heap.size w w'):Rg S B w0 w' Bs R:=⟨h.m.j0 hb,h.md.below hb h.le,h.fp,Nat.le_trans h.le hb.size⟩
theorem Rg.fresh (h:Rg S B w0 w Bs R) {b:Nat} (cs:Array Value) (T:TypeId) (f:Nat×Nat) (hb:∀k,R.fp k->k≠b) (hB:B <=b):Rg S B w0 (n2 w b cs T f) Bs R :=
 ⟨h.m.congr fun k hk=>j8 (hb k hk),h.md.grown (N2 w b cs T f) h.le (fun r e=>by cases e;exact .inr hB),h.fp,by rw[m6];exact h.le⟩
theorem Rg.put (h:Rg S B w0 w Bs R) {b:Nat} {cs:Array Value} {T:TypeId} {f:Nat×Nat} {R':Rn} (hb:R.fp b) (hm:D4 (n2 w b cs T f) Bs R') (hf:∀k,R'.fp k->R.fp k):Rg S B w0 (n2 w b cs T f) Bs R' :=
 ⟨hm,h.md.grown (N2 w b cs T f) h.le (fun r e=>by cases e;exact h.fp _ hb),fun k hk=>h.fp k (hf k hk),by rw[m6];exact h.le⟩
theorem fo1 {i:Nat} {c:CB} (hc:R.cl[i]? =some c):R.fp c.cb:=.inr (.inr (.inr (.inr (.inr (.inr ⟨i,c,hc,rfl⟩)))))
theorem Rg.Yt0 (h:Rg S B w0 w Bs R) {i:Nat} {c:CB} (c':CB) (hc:R.cl[i]? =some c) (he:c'.cb=c.cb):Rg S B w0 (n2 w c.cb (c'.cells R.rb i) 197 (0,3)) Bs {R with cl:=R.cl.set i c'} :=
 h.put (fo1 hc) (h.m.Yt0 c' hc he) fun _ hk=>Rn.Eg0 hc he hk
theorem Rg.Yu0 (h:Rg S B w0 w Bs R) (st:Bool) (us:Nat):Rg S B w0 (n2 w R.rb (Rn.cells {R with stuck:=st,used:=us}) 162 (7,8)) Bs {R with stuck:=st,used:=us} :=
 h.put (.inl rfl) (h.m.Yu0 st us) fun _ hk=>hk
theorem Rg.Ky0 (h:Rg S B w0 w Bs R) (i:Nat) (v:Int):Rg S B w0 (n2 w R.eb ((R.ends.set i v).map (Value.int .i64)).toArray 3 (0,0)) Bs {R with ends:=R.ends.set i v} :=
 h.put (.inr (.inl rfl)) (h.m.Ky0 i v) fun _ hk=>hk
theorem Rg.Yv0 (h:Rg S B w0 w Bs R) (i:Nat) (v:Stp):Rg S B w0 (n2 w R.wb ((R.I4.set i v).flatMap spC).toArray 77 (0,0)) Bs {R with I4:=R.I4.set i v} :=
 h.put (.inr (.inr (.inl rfl))) (h.m.Yv0 i v) fun _ hk=>hk
def Rl0 (w:World) (a a':Option Addr):Prop:=a'≠none->(a≠none/\ab a'=ab a)\/w.heap.size <=ab a'
theorem sc0 {a:Option Addr} {n c r:Nat} (e:Value.ownBlock (.slice a n c)=some r):a≠none/\r=ab a:=by
 cases a with
 |none=>cases e
 |some ad=>exact⟨by simp,by cases e;rfl⟩
theorem Rg.app (h:Rg S B w0 w Bs R) {R':Rn} {row:Option Nat} {w1:World} (hg:w.grownBy w1 row) (hr:∀r,row=some r->R.fp r) (hb:R'.rb=R.rb) (hm:D4 (n2 w1 R.rb R'.cells 162 (7,8)) Bs R') (hf:∀k,R'.fp k->R.fp k\/w.heap.size <=k) :
  Rg S B w0 (n2 w1 R.rb R'.cells 162 (7,8)) Bs R' :=
 ⟨hm,(h.md.grown hg h.le fun r e=>h.fp r (hr r e)).grown (N2 _ _ _ _ _) (Nat.le_trans h.le hg.size) (fun r e=>by cases e;exact h.fp _ (.inl rfl)),fun k hk=>by
  rcases hf k hk with z|z
  ·exact h.fp k z
  ·have:=h.le;exact .inr (by omega),by rw[m6];exact Nat.le_trans h.le hg.size⟩
theorem Rg.uv0 (h:Rg S B w0 w Bs R) {w1:World} {a':Option Addr} {c':Nat} (x:Nat×Stp) (hg:w.grownBy w1 (Value.ownBlock (.slice R.ea R.evs.length R.ec))) (hO:Own w1 Bs 79 4 a' (R.evs.length+1) c' (R.evs.flatMap evC++evC x)) (hl:Rl0 w R.ea a') :
  Rg S B w0 (n2 w1 R.rb (Rn.cells {R with ea:=a',ec:=c',evs:=R.evs ++ [x]}) 162 (7,8)) Bs {R with ea:=a',ec:=c',evs:=R.evs ++ [x]} :=
 h.app (R':={R with ea:=a',ec:=c',evs:=R.evs ++ [x]}) hg (fun r e=>by obtain⟨h1,rfl⟩:=sc0 e;exact .inr (.inr (.inr (.inr (.inl ⟨h1,rfl⟩))))) rfl (h.m.uv0 x hg hO) fun k hk=>by
  rcases hk with z|z|z|z|⟨z1,z2⟩|z|z
  ·exact .inl (.inl z)
  ·exact .inl (.inr (.inl z))
  ·exact .inl (.inr (.inr (.inl z)))
  ·exact .inl (.inr (.inr (.inr (.inl z))))
  ·rcases hl z1 with⟨y1,y2⟩|y
   ·exact .inl (.inr (.inr (.inr (.inr (.inl ⟨y1,by rw[z2];exact y2⟩)))))
   ·exact .inr (by rw[z2];exact y)
  ·exact .inl (.inr (.inr (.inr (.inr (.inr (.inl z))))))
  ·exact .inl (.inr (.inr (.inr (.inr (.inr (.inr z))))))
theorem Rg.Kx0 (h:Rg S B w0 w Bs R) {w1:World} {a':Option Addr} {c':Nat} (x:CB) (hx:X1 w x.cb (x.cells R.rb R.cl.length) 197 (0,3)) (hxS:S x.cb\/B <=x.cb) (hm:R.cl.length<R.m) (hg:w.grownBy w1 (Value.ownBlock (.slice R.ca R.cl.length R.cc)))
  (hO:Own w1 Bs 106 1 a' (R.cl.length+1) c' ((R.cl.map fun c=>.p c.cb) ++ [.p x.cb])) (hl:Rl0 w R.ca a') :
  Rg S B w0 (n2 w1 R.rb (Rn.cells {R with ca:=a',cc:=c',cl:=R.cl ++ [x]}) 162 (7,8)) Bs {R with ca:=a',cc:=c',cl:=R.cl ++ [x]}:=by
 have h1:=h.m.Kx0 x hx hm hg hO;refine⟨h1,(h.md.grown hg h.le fun r e=>h.fp r (by obtain⟨h1,rfl⟩:=sc0 e;exact .inr (.inr (.inr (.inl ⟨h1,rfl⟩))))).grown (N2 _ _ _ _ _) (Nat.le_trans h.le hg.size) (fun r e=>by cases e;exact h.fp _ (.inl rfl)),fun k hk=>?_,by rw[m6];exact Nat.le_trans h.le hg.size⟩;rcases hk with z|z|z|⟨z1,z2⟩|z|z|⟨i,d,hd,z⟩
 ·exact h.fp _ (.inl z)
 ·exact h.fp _ (.inr (.inl z))
 ·exact h.fp _ (.inr (.inr (.inl z)))
 ·rcases hl z1 with⟨y1,y2⟩|y
  ·exact h.fp _ (.inr (.inr (.inr (.inl ⟨y1,by rw[z2];exact y2⟩))))
  ·have:=h.le;exact .inr (by rw[z2];show B <=ab a';omega)
 ·exact h.fp _ (.inr (.inr (.inr (.inr (.inl z)))))
 ·exact h.fp _ (.inr (.inr (.inr (.inr (.inr (.inl z))))))
 ·have O5:(R.cl ++ [x])[i]? =some d:=hd;rw[List.getElem?_append]at O5;split at O5
  ·exact h.fp _ (.inr (.inr (.inr (.inr (.inr (.inr ⟨i,d,O5,z⟩))))))
  ·have hdx:d=x:=by
    have:=List.mem_of_getElem? O5;simpa using this
   subst hdx;rw[z];exact hxS
end
section
variable {w:World}{Bs:Nat}{R:Rn}
theorem Kz0 (hM:D4 w Bs R) {i:Nat} {c:CB} (hc:R.cl[i]? =some c):w.cell? ⟨ab R.ca,ao R.ca+i*1,none⟩=some (.p c.cb):=by
 rw[hM.cls.off,Nat.zero_add,Nat.mul_one];exact hM.cls.cell (by rw[List.getElem?_map,hc];rfl)
def rdl (cl:List CB) (r:Nat->Bool) (n:Nat):List Nat:=(List.range n).filter fun i=>(cl[i]?.any (·.wt))&&r i
def La0 (cl:List CB) (i:Nat):Value:=.pointer (some ⟨(cl[i]?.map (·.cb)).getD 0,0,none⟩)
theorem Lb0 {cl:List CB} {r:Nat->Bool} {i:Nat} {c:CB} (hc:cl[i]? =some c) (h:(c.wt&&r i)=false):rdl cl r (i+1)=rdl cl r i:=by
 unfold rdl;rw[List.range_succ,List.filter_append];simp[hc,h]
theorem Eh0 {cl:List CB} {r:Nat->Bool} {i:Nat} {c:CB} (hc:cl[i]? =some c) (h:(c.wt&&r i)=true):rdl cl r (i+1)=rdl cl r i ++ [i]:=by
 unfold rdl;rw[List.range_succ,List.filter_append];simp only[Bool.and_eq_true]at h;simp[hc,h.1,h.2]
theorem Bo0 {cl:List CB} {r:Nat->Bool} (n:Nat):(rdl cl r n).length <=n:=by
 have:=List.length_filter_le (fun i=>(cl[i]?.any (·.wt))&&r i) (List.range n);simpa [rdl]using this
theorem fp1 {cl:List CB} {i:Nat} (h:∀(j:Nat) (c:CB),j<i->cl[j]? =some c->c.wt=false) (hi:cl.length <=i):cl.any (·.wt)=false:=by
 rw[List.any_eq_false];intro c hc;obtain⟨j,hj⟩:=List.mem_iff_getElem?.1 hc;have:=h j c (by have:=(List.getElem?_eq_some_iff.1 hj).1;omega) hj;simp[this]
def sd0 [Ctx prog] (w0:World) (rf:Value) (b:Bool):Prop :=
 (rf= .nilFunc/\b=true)\/∃f fn caps,rf= .func (.func f) #[] caps/\prog.funcs[f]? =some fn/\fn.body.isSome=true/\(fn.name== "runtime.NumGoroutine")=false/\∀u,Below w0.heap.size w0 u->C prog f caps u fun v u'=>v= .bool b/\Below u.heap.size u u'
end
section
variable [Ctx prog]{n:Nat}{Q:Exit->Env->World->Prop}{e:Env}{ops:Array Oper}{rest:List Oper}{ty:TypeId}{ps:String}{af:Array Edge}{T:TypeId}{x y:Operand}
variable {S:Nat->Prop}{B:Nat}{w0 w:World}{Bs:Nat}{R:Rn}
theorem L.stC {i:Nat} {c:CB} {o s:Nat} {v:Value} {vs:List Value} (hg:Rg S B w0 w Bs R) (c':CB) (hc:R.cl[i]? =some c) (he:c'.cb=c.cb) (hx:ev e x= .pointer (some ⟨c.cb,o,none⟩)) (hy:ev e y=v) (hvs:v.cells.toList=vs) (hs:(prog.info? T).map (·.size)=some s) (hl:vs.length=s) (h1:vs.all Value.oneCell'=true) (ho:3 <=o/\o+s <=11) (hcs:setRow (c.cells R.rb i) o vs=c'.cells R.rb i)
  (k:∀w1,Rg S B w0 w1 Bs {R with cl:=R.cl.set i c'}->w.grownBy w1 (some c.cb)->L prog n ops Q rest e w1):L prog n ops Q (⟨none,.store T x y,ty,ps,af,none⟩::rest) e w :=
 L.Gl0 (c'.cells R.rb i) hx hy hvs hs hl h1 (hg.m.blk i c hc) ho.2 (.inr ho.1) hcs (k _ (hg.Yt0 c' hc he) (N2 _ _ _ _ _))
theorem L.stR {o s:Nat} {v:Value} {vs:List Value} (hg:Rg S B w0 w Bs R) (st:Bool) (us:Nat) (hx:ev e x= .pointer (some ⟨R.rb,o,none⟩)) (hy:ev e y=v) (hvs:v.cells.toList=vs) (hs:(prog.info? T).map (·.size)=some s) (hl:vs.length=s) (h1:vs.all Value.oneCell'=true) (ho:o+s <=7) (hcs:setRow R.cells o vs=Rn.cells {R with stuck:=st,used:=us})
  (k:∀w1,Rg S B w0 w1 Bs {R with stuck:=st,used:=us}->w.grownBy w1 (some R.rb)->L prog n ops Q rest e w1):L prog n ops Q (⟨none,.store T x y,ty,ps,af,none⟩::rest) e w :=
 L.Gl0 (Rn.cells {R with stuck:=st,used:=us}) hx hy hvs hs hl h1 hg.m.run (show o+s <=8 by omega) (.inl (show o+s <=7 by omega)) hcs (k _ (hg.Yu0 st us) (N2 _ _ _ _ _))
theorem L.lg1 {o:Nat} {v:Value} {w1:World} {a':Option Addr} {c':Nat} (hg:Rg S B w0 w Bs R) (x':Nat×Stp) (N3:w.grownBy w1 (Value.ownBlock (.slice R.ea R.evs.length R.ec))) (hO:Own w1 Bs 79 4 a' (R.evs.length+1) c' (R.evs.flatMap evC++evC x')) (hli:Rl0 w R.ea a')
  (hx:ev e x= .pointer (some ⟨R.rb,1,none⟩)) (hy:ev e y= .slice a' (R.evs.length+1) c') (hs:(prog.info? T).map (·.size)=some 1)
  (k:∀w2,Rg S B w0 w2 Bs {R with ea:=a',ec:=c',evs:=R.evs ++ [x']}->L prog n ops Q rest e w2):L prog n ops Q (⟨none,.store T x y,ty,ps,af,none⟩::rest) e w1 :=
 L.Gl0 (Rn.cells {R with ea:=a',ec:=c',evs:=R.evs ++ [x']}) hx hy rfl hs rfl rfl (R3 hg.m.run N3 (A7 hg.m.evs (by decide))) (show 1+1 <=8 by omega) (.inl (show 1+1 <=7 by omega)) (by simp[Rn.cells,setRow,Value.cells]) (k _ (hg.uv0 x' N3 hO hli))
theorem L.lh1 {w1:World} {a':Option Addr} {c':Nat} (hg:Rg S B w0 w Bs R) (x':CB) (hx0:X1 w x'.cb (x'.cells R.rb R.cl.length) 197 (0,3)) (hxS:S x'.cb\/B <=x'.cb) (hm:R.cl.length<R.m) (N3:w.grownBy w1 (Value.ownBlock (.slice R.ca R.cl.length R.cc)))
  (hO:Own w1 Bs 106 1 a' (R.cl.length+1) c' ((R.cl.map fun c=>.p c.cb) ++ [.p x'.cb])) (hli:Rl0 w R.ca a')
  (hx:ev e x= .p R.rb) (hy:ev e y= .slice a' (R.cl.length+1) c') (hs:(prog.info? T).map (·.size)=some 1)
  (k:∀w2,Rg S B w0 w2 Bs {R with ca:=a',cc:=c',cl:=R.cl ++ [x']}->w1.grownBy w2 (some R.rb)->L prog n ops Q rest e w2):L prog n ops Q (⟨none,.store T x y,ty,ps,af,none⟩::rest) e w1 :=
 L.Gl0 (Rn.cells {R with ca:=a',cc:=c',cl:=R.cl ++ [x']}) hx hy rfl hs rfl rfl (R3 hg.m.run N3 (A7 hg.m.cls (by decide))) (show 0+1 <=8 by omega) (.inl (show 0+1 <=7 by omega)) (by simp[Rn.cells,setRow,Value.cells]) (k _ (hg.Kx0 x' hx0 hxS hm N3 hO hli) (N2 _ _ _ _ _))
end
section
theorem Gs0 (l:List Stp) (i:Nat) (s:Stp) (hi:i<l.length):setRow (l.flatMap spC).toArray (i*3) (spC s)=((l.set i s).flatMap spC).toArray:=by
 apply Array.toList_inj.1;have key:∀(l:List Stp) (i:Nat),i<l.length->(l.set i s).flatMap spC=(((l.flatMap spC).set (i*3) (.i s.kind)).set (i*3+1) (.i s.obj)).set (i*3+2) (.i s.num):=by
  intro l
  induction l with
  |nil=>intro i hi;simp at hi
  |cons a l ih=>
   intro i hi;cases i with
   |zero=>simp[spC,List.flatMap_cons]
   |succ i=>
    have:=ih i (by simpa using hi);simp only[List.set_cons_succ,List.flatMap_cons,spC,List.cons_append,List.nil_append];rw[show(i+1)*3=i*3+1+1+1 by omega];simp only[List.set_cons_succ];rw[this]
 rw[key l i hi];simp[setRow,spC]
end
section
variable [Ctx prog]{n:Nat}{Q:Exit->Env->World->Prop}{e:Env}{ops:Array Oper}{rest:List Oper}{ty:TypeId}{ps:String}{af:Array Edge}{T:TypeId}{x y:Operand}
variable {S:Nat->Prop}{B:Nat}{w0 w:World}{Bs:Nat}{R:Rn}
theorem L.stE {i:Nat} {z:Int} (hg:Rg S B w0 w Bs R) (hi:i<R.m) (hx:ev e x= .pointer (some ⟨R.eb,0+i*1,none⟩)) (hy:ev e y= .i z) (hs:(prog.info? T).map (·.size)=some 1)
  (k:∀w1,Rg S B w0 w1 Bs {R with ends:=R.ends.set i z}->w.grownBy w1 (some R.eb)->L prog n ops Q rest e w1):L prog n ops Q (⟨none,.store T x y,ty,ps,af,none⟩::rest) e w:=by
 refine L.Gl0 _ hx hy rfl hs rfl rfl hg.m.ends (by rw[Nat.zero_add,Nat.mul_one];simp[hg.m.eo0];omega) (.inr (by simp)) ?_ (k _ (hg.Ky0 i z) (N2 _ _ _ _ _));rw[Nat.zero_add,Nat.mul_one];apply Array.toList_inj.1;simp[setRow,Value.cells,List.map_set]
theorem L.stW {i:Nat} {z:Stp} (hg:Rg S B w0 w Bs R) (hi:i<R.m) (hx:ev e x= .pointer (some ⟨R.wb,0+i*3,none⟩)) (hy:ev e y=gm0 z) (hs:(prog.info? T).map (·.size)=some 3)
  (k:∀w1,Rg S B w0 w1 Bs {R with I4:=R.I4.set i z}->w.grownBy w1 (some R.wb)->L prog n ops Q rest e w1):L prog n ops Q (⟨none,.store T x y,ty,ps,af,none⟩::rest) e w:=by
 have hln:(R.I4.flatMap spC).length=R.m*3:=by
  rw[<- hg.m.jf0];generalize R.I4=l
  induction l with
  |nil=>rfl
  |cons a l ih=>simp only[List.flatMap_cons,List.length_append,ih,List.length_cons];simp[spC];omega
 refine L.Gl0 (vs:=spC z) _ hx hy rfl hs rfl rfl hg.m.I4 (by simp only[List.size_toArray,hln];omega) (.inr (by simp)) ?_ (k _ (hg.Yv0 i z) (N2 _ _ _ _ _));rw[Nat.zero_add];exact Gs0 R.I4 i z (by rw[hg.m.jf0];exact hi)
end
section
variable [Ctx prog]
theorem Lc0 (rb i:Nat) (c:CB) (w:World) (hC:X1 w c.cb (c.cells rb i) 197 (0,3)):C prog 53 #[.p c.cb] w fun v w1=>v= .i (i:Int)/\w1=w:=by
 refine C.enter (n:=9) func53 rfl rfl ?_;refine U175 ?_;refine U197 ?_;refine L.va (Q5 rfl rfl underlying106) ?_;refine U26 ?_;refine U14 ?_;refine L.va (E0 rfl underlying197 rfl c5 (by decide)) ?_;refine L.va (B0 rfl underlying3 rfl (hC.q0 0 (v:=.i (i:Int)) rfl)) ?_;refine U5 ?_;exact U118
theorem Bq0 (R:Rn) (Bs:Nat) (w0:World) (hM:D4 w0 Bs R) (hm:R.cl.length <=1000):C prog 57 #[.p R.rb] w0 fun v w1=>v= .bool (R.cl.any (·.wt))/\w1=w0:=by
 refine C.enter (n:=19) func57 rfl rfl ?_;refine U40 ?_;refine U162 ?_;refine U469 ?_;refine U339 ?_;refine U192 ?_;refine W.loop (fun k e w=>∃(i:Nat),k=R.cl.length-i/\e 0= .p R.rb/\e 2= .bool false/\e 8= .slice R.ca R.cl.length (R.cc)/\e 9= .i (R.cl.length:Nat)/\e 10= .i (i:Int)/\i <=R.cl.length/\(∀(j:Nat) (c:CB),j<i->R.cl[j]? =some c->c.wt=false)/\w=w0) _ ⟨0,rfl,rfl,rfl,rfl,rfl,rfl,Nat.zero_le _,fun j c hj=>absurd hj (Nat.not_lt_zero _),rfl⟩ ?_;rintro k e w ⟨i,hk,s0,s2,s8,s9,s10,hi,hno,hw⟩;rw[L0 s0,L0 s2,L0 s8,L0 s9,L0 s10];clear s0 s2 s8 s9 s10;subst hw;refine U0 ?_;refine U29 ?_;refine W.seq ?_;refine W.y6 rfl (fun h11=>?_) (fun h11=>?_)
 ·have D2:i<R.cl.length:=by omega
  obtain⟨c,hc⟩:∃c,R.cl[i]? =some c:=⟨_,List.getElem?_eq_getElem D2⟩
  refine U49 ?_;refine U0 ?_;refine U483 ?_;refine U9 ?_;refine U3 ?_;refine U533 ?_;refine U1 ?_;refine W.cond rfl (fun h17=>?_) (fun h17=>?_)
  ·refine W.seq ?_;refine U382 ?_;exact⟨congrArg Value.bool (List.any_eq_true.2 ⟨c,List.mem_of_getElem? hc,h17⟩).symm,rfl⟩
  ·refine W.skip ?_;refine U164 ?_;refine T.nrm ?_;exact⟨_,by omega,⟨i+1,rfl,rfl,rfl,rfl,rfl,rfl,(by omega),(fun j d hj hd=>by
     rcases Nat.lt_or_ge j i with z|z
     ·exact hno j d z hd
     ·obtain rfl:j=i:=by omega
      rw[hc]at hd;obtain rfl:=Option.some.inj hd;exact h17),rfl⟩⟩
 ·refine W.exit ?_;refine U38 ?_;refine U40 ?_;refine U33 ?_;exact⟨congrArg Value.bool (fp1 hno (by omega)).symm,rfl⟩
theorem qf0 (R:Rn) (Bs:Nat) (w0:World) (hM:D4 w0 Bs R) (hm:R.cl.length <=1000) (r:Nat->Bool) (hrd:∀(i:Nat) (c:CB),R.cl[i]? =some c->c.wt=true->sd0 w0 c.rf (r i)):C prog 55 #[.p R.rb] w0 fun v w=>∃a cp,v= .slice a (rdl R.cl r R.cl.length).length cp/\Own w w0.heap.size 106 1 a (rdl R.cl r R.cl.length).length cp ((rdl R.cl r R.cl.length).map (La0 R.cl))/\Below w0.heap.size w0 w:=by
 refine C.enter (n:=39) func55 rfl rfl ?_;refine U7 ?_;intro hb;refine U92 ?_;refine U28 ?_;refine U162 ?_;refine L.va (E0 rfl underlying162 rfl ut0 (by decide)) ?_;refine L.va (B0 rfl underlying152 rfl ((hM.j0 hb).run.q0 0 (v:=.slice R.ca R.cl.length R.cc) rfl)) ?_;refine U339 ?_;refine U192 ?_;refine W.loop (fun k e w=>∃(i:Nat),∃(a:Option Addr),∃(q:Nat),∃(cp:Nat),k=R.cl.length-i/\e 0= .p R.rb/\e 2= .slice none 0 0/\e 3= .slice a q cp/\e 9= .slice R.ca R.cl.length (R.cc)/\e 10= .i (R.cl.length:Nat)/\e 11= .i (i:Int)/\i <=R.cl.length/\q=(rdl R.cl r i).length/\Own w w0.heap.size 106 1 a q cp ((rdl R.cl r i).map (La0 R.cl))/\Below w0.heap.size w0 w) _ ⟨0,none,0,0,rfl,rfl,rfl,rfl,rfl,rfl,rfl,Nat.zero_le _,rfl,Own.nil _ _ _ _,hb⟩ ?_;rintro k e w ⟨i,a,q,cp,hk,s0,s2,s3,s9,s10,s11,hi,hq,hO,hb⟩;rw[L0 s0,L0 s2,L0 s3,L0 s9,L0 s10,L0 s11];clear s0 s2 s3 s9 s10 s11;refine U0 ?_;refine U29 ?_;refine W.seq ?_;refine W.y6 rfl (fun h12=>?_) (fun h12=>?_)
 ·have D2:i<R.cl.length:=by omega
  obtain⟨c,hc⟩:∃c,R.cl[i]? =some c:=⟨_,List.getElem?_eq_getElem D2⟩
  obtain⟨cb,rc,sp,rf,df,pk,wt,st⟩:=c;refine U49 ?_;refine U0 ?_;refine L.va (u4 (i:=i) rfl rfl underlying152 uq0 hM.cls.sl D2) ?_;refine L.va (B0 (v:=.p cb) rfl underlying106 rfl (Kz0 (hM.j0 hb) hc)) ?_;refine U9 ?_;refine W.seq ?_;cases wt with
  |false=>
   refine W.region rfl ?_;refine L.va (Y3 rfl) ?_;refine U54 ?_;refine L.va (B0 rfl underlying4 rfl (((hM.j0 hb).blk i _ hc).q0 9 (v:=.bool false) rfl)) ?_;refine U376 ?_;refine U257 ?_;refine U25 ?_;have hrl:=Lb0 (r:=r) hc rfl;show W _ _ _ _ _ _;refine U474 ?_;refine U164 ?_;exact U482
  |true=>
   rcases hrd i _ hc rfl with⟨h1,h2⟩|⟨f,fn,caps,h1,hf,hbd,hnm,C8⟩
   all_goals dsimp only at h1
   all_goals subst h1
   ·refine W.region rfl ?_;refine L.va (Y3 rfl) ?_;refine U514 ?_;refine U266 ?_;refine U331 ?_;refine L.va (B0 rfl underlying31 rfl (((hM.j0 hb).blk i _ hc).q0 6 (v:=.nilFunc) rfl)) ?_;refine L.on rfl ?_;refine L.va (an0 (v:=.nilFunc) (b:=true) rfl (.inl ⟨rfl,rfl⟩) rfl underlying31 ⟨_,_,_,rfl⟩) ?_;refine L.on rfl ?_;refine U376 ?_;refine L.off rfl ?_;refine L.on rfl ?_;refine L.va (e7 rfl) ?_;refine U55 ?_;have hrl:=Eh0 (r:=r) hc h2;show W _ _ _ _ _ _;refine W.Y5 rfl ?_;refine U148 ?_;refine U579 ?_;intro w b35 F35;have hb:=O0 hb F35.below;have hO:=hO.j0 F35.below;have Yw0:=F35.blk;have hOl:=Bo0 (cl:=R.cl) (r:=r) i;refine L.N5 (B:=w0.heap.size) (m:=1) rfl rfl underlying152 Kk0 rfl (by decide) hO (fun h=>by cases h) (news:=[.p cb]) rfl (fun ad had j u hj=>by
     cases had;rw[Addr.add_lit]
     match j,hj with
     |0,hj=>cases hj;exact Yw0.q0 0 rfl) (fun u hu=>by simp only[List.mem_cons,List.not_mem_nil,or_false]at hu;subst hu;rfl) (by omega) (by omega) hb.size (fun a2 cp2 w2 H8 u9 J6 _=>?_)
    have hb:=hb.trans J6
    rename World=>w
    refine U236 ?_;refine U164 ?_;exact U426
   ·refine W.region rfl ?_;refine L.va (Y3 rfl) ?_;refine U514 ?_;refine U266 ?_;refine U331 ?_;refine U488 ?_;refine L.va (an0 (v:=.func (.func f) #[] caps) (b:=false) rfl (.inr ⟨_,_,_,rfl,rfl⟩) rfl underlying31 ⟨_,_,_,rfl⟩) ?_;refine L.on rfl ?_;refine U266 ?_;refine U331 ?_;refine U488 ?_;refine L.call (ez0 rfl hf hbd hnm) (C8 w hb) ?_;rintro _ w ⟨rfl,D1⟩;have hb:=O0 hb D1;have hO:=hO.j0 D1;refine L.on rfl ?_;refine L.va (O6 rfl) ?_;refine L.va (e7 rfl) ?_;refine U1 ?_;refine W.cond rfl (fun h32=>?_) (fun h32=>?_)
    ·have hrl:=Eh0 (r:=r) hc h32;refine U148 ?_;refine U579 ?_;intro w b35 F35;have hb:=O0 hb F35.below;have hO:=hO.j0 F35.below;have Yw0:=F35.blk;have hOl:=Bo0 (cl:=R.cl) (r:=r) i;refine L.N5 (B:=w0.heap.size) (m:=1) rfl rfl underlying152 Kk0 rfl (by decide) hO (fun h=>by cases h) (news:=[.p cb]) rfl (fun ad had j u hj=>by
      cases had;rw[Addr.add_lit]
      match j,hj with
      |0,hj=>cases hj;exact Yw0.q0 0 rfl) (fun u hu=>by simp only[List.mem_cons,List.not_mem_nil,or_false]at hu;subst hu;rfl) (by omega) (by omega) hb.size (fun a2 cp2 w2 H8 u9 J6 _=>?_)
     have hb:=hb.trans J6
     rename World=>w
     refine U236 ?_;refine U164 ?_;exact U426
    ·have hrl:=Lb0 (r:=r) hc h32;refine W.skip ?_;refine U164 ?_;exact U482
 ·refine W.exit ?_;refine U38 ?_;refine U0 ?_;refine L.va (w7 rfl) ?_;refine U28 ?_;refine U33 ?_;obtain rfl:i=R.cl.length:=by omega
  subst hq;exact⟨a,cp,rfl,hO,hb⟩
end
end Go.Vy.Sc
end
section
namespace Go.Vy
open Go Go.Conc Go.Yc Go.RowKit
open Go.Vc Go.Wg
def YS (P:Program) (main:Bool) (l:er0) (K:w6->Prop):Nat->Nat->Goroutine->Prop:=fun m _ g=>∃s,K s/\Yc.Way P main l s m g
def okS (l:er0) (e:Event):Prop:=∃p∈l,e=⟨.cell p.1,false,false⟩
theorem se0 {P:Program} {main:Bool} {l:er0} {K:w6->Prop}:HF P main (okS l) (YS P main l K) :=
 ⟨fun m d g g' es h1 h2 h3 h4 ⟨s,hk,hw⟩=>⟨s,hk,.inr ⟨(by
  rcases hw.status with⟨_,h⟩|⟨h,_⟩
  ·exact h
  ·rw[h2]at h;cases h),h1,g',es,h3,fun w _=>h4 w,hw⟩⟩⟩
def Sits (n:Nat) (b:Frame) (cs:List Frame) (e:Env) (dst:Option Nat) (todo:List Item) (me:Goroutine):Prop:=∀v,∃a,Rep n a (L3 e dst v)/\Go.Conc.served me v=G (b.at a todo) cs
theorem Sits.go {Z:Goroutine->World->Prop} {n:Nat} {b:Frame} {cs:List Frame} {e:Env} {dst:Option Nat} {todo:List Item} {me:Goroutine} (h:Sits n b cs e dst todo me) {v:Value} {w:World} (hz:ZA Z n b cs (L3 e dst v) todo w):Z (Go.Conc.served me v) w:=by
 obtain⟨a,ha,he⟩:=h v;rw[he];exact hz a ha
theorem kl0 {b:Frame} {a:Act} {k:List Item} {cs:List Frame} {ops:Array Oper} {i:Nat} {rest:List Nat} {o:Oper} (ho:ops[i]? =some o) (v:Value):Go.Conc.served (G (b.at a (.inRegion ops (i::rest)::k)) cs) v=G (b.at (a.put o.dst v) (.inRegion ops rest::k)) cs:=by
 have:(b.at a (.inRegion ops (i::rest)::k)).finish v=b.at (a.put o.dst v) (.inRegion ops rest::k):=by rw[Frame.finish_at,ho];rfl
 show({frame:=(b.at a (.inRegion ops (i::rest)::k)).finish v,callers:=cs,status:=.running,dying:=none}:Goroutine)=_;rw[this];rfl
section
variable {P:Program}{main:Bool}{st:er0}{K:w6->Prop}{ft n:Nat}{b:Frame}{cs:List Frame}{d:Nat}{e:Env}{k:List Item}{ops:Array Oper}{i:Nat}{l:List Oper}{dst:Option Nat}{ty:TypeId}{ps:String}{af:Array Edge}{T E:TypeId}{x y:Operand}
theorem S0.stay {p:Addr} {v:Value} {u:TypeDesc} (hk:b.kind≠.early) (hd:g6 n dst=true) (hp:(p,v)∈st) (hx:ev e x= .pointer (some p)) (hT:P.underlying T=some u) (hu:cp0 u=true)
  (h:S0 (YS P main st K) ft n b cs [] d (L3 e dst v) ops (i+1) l k):S0 (YS P main st K) (ft+1) n b cs [] d e ops i (⟨dst,.load T x,ty,ps,af,none⟩::l) k:=by
 intro hl a ha;obtain⟨ho,c6⟩:=r5 hl;obtain⟨s,hs,hw⟩:=h c6 _ (ha.put hd v);have h0:0<ft:=by
  rcases hw.status with⟨_,h⟩|⟨h,_⟩
  ·exact h
  ·cases h
 refine⟨s,hs,.inr ⟨h0,rfl,_,seen P b.fn #[⟨.cell p,false,false⟩],fun ev' he=>⟨(p,v),hp,?_⟩,fun w J0=>?_,hw⟩⟩
 ·have:=mem_seen he;simpa using this
 ·have hc:=J0 (p,v) hp;show stepG P main (G (b.at a (.inRegion ops (i::List.range' (i+1) l.length)::k)) cs) w=_;rw[stepG_value ho (by rw[ha.yielded];rfl) hk (by rw[ha.eval];exact Go.Vc.B0 hx hT hu hc),listed];have he:∀es,(isAgg T).events P w es=es:=fun es=>by
   cases u <;> simp[isAgg,go_sem,run_underlying hT]
  have hq:(execOp a.eval ⟨dst,.load T x,ty,ps,af,none⟩).events P w #[]=#[⟨.cell p,false,false⟩]:=by
   rw[ha.eval];simp[execOp,Instr.loadAt,hx,Instr.sureAddr,loadVar,Go.Vc.cq0 hT,hu,hc,he]
  rw[hq]
theorem S0.C2 {c:Nat} {z:Value} {dd:ChanDir} (hk:b.kind≠.early) (hT:P.underlying T=some (.chan dd E)) (hz:(P.info? E).bind (·.zero)=some z) (hx:ev e x= .chan (some c))
  (hK:∀me,Sits n b cs e dst (.inRegion ops (List.range' (i+1) l.length)::k) me->K ⟨c,z,me⟩) (hd:g6 n dst=true):S0 (YS P main st K) (ft+1) n b cs [] d e ops i (⟨dst,.recv T x false,ty,ps,af,none⟩::l) k:=by
 intro hl a ha;obtain⟨ho,c6⟩:=r5 hl;refine⟨⟨c,z,G (b.at a (.inRegion ops (i::List.range' (i+1) l.length)::k)) cs⟩,hK _ fun v=>⟨a.put dst v,⟨(ha.put hd v).size,(ha.put hd v).defers,(ha.put hd v).get⟩,kl0 ho v⟩,.inl ⟨rfl,rfl,rfl,rfl,fun w=>?_⟩⟩;have hr:(execOp a.eval ⟨dst,.recv T x false,ty,ps,af,none⟩).run P w= .ok (.comm #[rcase c z] true (.recv false)) w:=by
  rw[ha.eval];obtain⟨inf,hi,hz'⟩:=Option.bind_eq_some_iff.1 hz;simp[execOp,hx,run_underlying hT,zeroValue,typeInfo,hi,hz',rcase,go_sem]
 show stepG P main (G (b.at a (.inRegion ops (i::List.range' (i+1) l.length)::k)) cs) w=_;have hq:(execOp a.eval ⟨dst,.recv T x false,ty,ps,af,none⟩).events P w #[]=#[]:=by
  rw[ha.eval];obtain⟨inf,hi,hz'⟩:=Option.bind_eq_some_iff.1 hz;simp[execOp,hx,run_underlying hT,zeroValue,typeInfo,hi,hz',go_sem]
 rw[stepG_comm ho (by rw[ha.yielded];rfl) hk hr,listed,hq,seen_none]
theorem qg0 {c:Nat} {v:Value} {a:Act} {rest:List Nat} (hk:b.kind≠.early) (ho:ops[i]? =some ⟨dst,.send x y,ty,ps,af,none⟩) (hx:a.eval x= .chan (some c)) (hy:a.eval y=v) (w:World) :
  stepG P main (G (b.at a (.inRegion ops (i::rest)::k)) cs) w= .comm (G (b.at a (.inRegion ops (i::rest)::k)) cs) #[scase c v (.tuple #[])] true .send w #[]:=by
 rw[stepG_comm (cases:=#[scase c v (.tuple #[])]) (blocking:=true) (shape:=.send) (w':=w) ho rfl hk (by simp[execOp,hx,hy,scase]),listed];have:(execOp a.eval ⟨dst,.send x y,ty,ps,af,none⟩).events P w #[]=#[]:=rfl;rw[this,seen_none]
theorem Ld0 {f:FuncId} {asx:Array Operand} {ats:Array TypeId} {a:Act} {rest:List Nat} (hk:b.kind≠.early) (ho:ops[i]? =some ⟨dst,.go {callee:=.value (.func f),args:=asx,argTypes:=ats},ty,ps,af,none⟩) (w:World) :
  stepG P main (G (b.at a (.inRegion ops (i::rest)::k)) cs) w= .spawn (G (b.at (a.put dst undef) (.inRegion ops rest::k)) cs) (born P (dcall f (asx.map a.eval))) w #[]:=by
 have ef:a.eval (.func f)= .func (.func f) #[] #[]:=rfl;have hr:(execOp a.eval ⟨dst,.go {callee:=.value (.func f),args:=asx,argTypes:=ats},ty,ps,af,none⟩).run P w= .ok (.spawn (dcall f (asx.map a.eval))) w:=by
  unfold execOp;simp[resolve,Deferred.ofValue,ef,dcall]
 have he:(execOp a.eval ⟨dst,.go {callee:=.value (.func f),args:=asx,argTypes:=ats},ty,ps,af,none⟩).events P w #[]=#[]:=by
  unfold execOp;simp[resolve,Deferred.ofValue,ef]
 rw[stepG_spawn ho rfl hk hr rfl,listed,he,seen_none]
end
section
variable {P:Program}{main:Bool}{b c:Frame}{a:Act}{k todo:List Item}{cs:List Frame}{w:World}{ops:Array Oper}{i:Nat}{rest:List Nat}{f:FuncId}{fn:Func}{args caps:Array Value}{ds:List Deferred}
theorem ln0 {md:FrameMode} {body:Code} (hmd:md≠.run) (hd:a.defers={target:=.fn (.func f) caps,args:=args} :: ds) (hf:P.funcs[f]? =some fn) (T3:(fn.name== "runtime.NumGoroutine")=false) (hb:fn.body=some body) :
  stepG P main (G {b.at a todo with mode:=md} cs) w= .go (G ((baseD f).at {tmps:=(args++caps)++Array.replicate (fn.ntmps-(args++caps).size) undef,defers:=[]} [.code body]) ({b.at ⟨a.tmps,ds⟩ todo with mode:=md} :: cs)) w #[]:=by
 have h1:¬fn.name= "runtime.NumGoroutine":=by simpa using T3
 rw[<- enter_atD (args++caps) hf hb];cases md with
 |run=>exact absurd rfl hmd
 |returning=>simp[G,stepG,unwind,callDeferred,Frame.at,hd,invoke,callFunc,hf,h1,hb,GStep.after,seen_none]
 |panicking ch=>simp[G,stepG,unwind,callDeferred,Frame.at,hd,invoke,callFunc,hf,h1,hb,GStep.after,seen_none]
theorem lo0 {ρ:Operand->Value} {dst:Option Nat} {ty:TypeId} {ps:String} {af:Array Edge}:((execOp ρ ⟨dst,.call {callee:=.builtin .recover,args:=#[],argTypes:=#[]},ty,ps,af,none⟩).run P w= .ok .recover w)/\(execOp ρ ⟨dst,.call {callee:=.builtin .recover,args:=#[],argTypes:=#[]},ty,ps,af,none⟩).events P w #[]=#[]:=by
 constructor <;> simp[execOp,resolve,invoke,builtin]
theorem lz0 {dst:Option Nat} {ty:TypeId} {ps:String} {af:Array Edge} (ho:ops[i]? =some ⟨dst,.call {callee:=.builtin .recover,args:=#[],argTypes:=#[]},ty,ps,af,none⟩) (hk:b.kind= .deferred) (hr:b.roundOf=none) (hc:c.mode= .returning) :
  stepG P main (G (b.at a (.inRegion ops (i::rest)::k)) (c::cs)) w= .go (G (b.at (a.put dst .nilIface) (.inRegion ops rest::k)) (c::cs)) w #[]:=by
 have H9:(b.at a (.inRegion ops (i::rest)::k)).finish .nilIface=b.at (a.put dst .nilIface) (.inRegion ops rest::k):=by rw[Frame.finish_at,ho];rfl
 rw[stepG_oper ho rfl,<- H9];simp[stepG.apply,lo0,G,Frame.at,hk,tryRecover,hc,GStep.after,seen_none]
theorem km0 {dst:Option Nat} {ty:TypeId} {ps:String} {af:Array Edge} {v:Value} {Z4:List PanicEntry} (ho:ops[i]? =some ⟨dst,.call {callee:=.builtin .recover,args:=#[],argTypes:=#[]},ty,ps,af,none⟩) (hk:b.kind= .deferred) (hr:b.roundOf=none) (hc:c.mode= .panicking ({v,recovered:=false} :: Z4)) :
  stepG P main (G (b.at a (.inRegion ops (i::rest)::k)) (c::cs)) w= .go (G (b.at (a.put dst v) (.inRegion ops rest::k)) ({c with mode:=.panicking ({v,recovered:=true} :: Z4)} :: cs)) w #[]:=by
 have H9:(b.at a (.inRegion ops (i::rest)::k)).finish v=b.at (a.put dst v) (.inRegion ops rest::k):=by rw[Frame.finish_at,ho];rfl
 rw[stepG_oper ho rfl,<- H9];simp[stepG.apply,lo0,G,Frame.at,hk,tryRecover,hc,GStep.after,seen_none]
theorem kn0 {v v':Value} {Z4:List PanicEntry} (hn:b.kind= .deferred) (hd:a.defers=[]) (hf:P.funcs[b.fn]? =some fn) (hr:(results fn a.tmps).run P w= .ok v w) (he:(results fn a.tmps).events P w #[]=#[])
  (hc:c.mode= .panicking ({v:=v',recovered:=true} :: Z4)) (ho:Z4.dropWhile (!·.goexit)=[]) :
  stepG P main (G {b.at a todo with mode:=.returning} (c::cs)) w= .go (G {c with mode:=.returning} cs) w #[]:=by
 simp[G,stepG,unwind,doReturn,Frame.at,hn,hd,hf,hr,he,hc,ho,seen,GStep.after]
theorem uw0 {dst:Option Nat} {ty:TypeId} {ps:String} {af:Array Edge} {x:Operand} (ho:ops[i]? =some ⟨dst,.defer {callee:=.value x,args:=#[],argTypes:=#[]},ty,ps,af,none⟩) (hk:b.kind≠.early) (hx:a.eval x= .func (.func f) #[] caps) :
  stepG P main (G (b.at a (.inRegion ops (i::rest)::k)) cs) w= .go (G (b.at (Act.put ⟨a.tmps,{target:=.fn (.func f) caps,args:=#[]} :: a.defers⟩ dst undef) (.inRegion ops rest::k)) cs) w #[]:=by
 have hr:(execOp a.eval ⟨dst,.defer {callee:=.value x,args:=#[],argTypes:=#[]},ty,ps,af,none⟩).run P w= .ok (.defer {target:=.fn (.func f) caps,args:=#[]}) w:=by
  simp[execOp,resolve,Deferred.ofValue,hx]
 have he:(execOp a.eval ⟨dst,.defer {callee:=.value x,args:=#[],argTypes:=#[]},ty,ps,af,none⟩).events P w #[]=#[]:=by
  simp[execOp,resolve,Deferred.ofValue,hx]
 have H9:(b.at ⟨a.tmps,{target:=.fn (.func f) caps,args:=#[]} :: a.defers⟩ (.inRegion ops (i::rest)::k)).finish undef=b.at (Act.put ⟨a.tmps,{target:=.fn (.func f) caps,args:=#[]} :: a.defers⟩ dst undef) (.inRegion ops rest::k):=by rw[Frame.finish_at,ho];rfl
 have hk':(b.kind==CallKind.early)=false:=by simpa using hk
 rw[stepG_oper ho rfl,<- H9];simp[stepG.apply,hr,he,G,Frame.at,hk',GStep.after,seen_none]
def D8 (P:Program):Frame:={fn:=P.funcs.size,tmps:=#[],todo:=[],defers:=[],mode:=.panicking [goexitEntry],kind:=.normal,roundOf:=none}
theorem Gt0 {body:Code} (hf:P.funcs[f]? =some fn) (T3:(fn.name== "runtime.NumGoroutine")=false) (hb:fn.body=some body) :
  stepG P main (born P (dcall f args)) w= .go (G ((baseD f).at {tmps:=args++Array.replicate (fn.ntmps-args.size) undef,defers:=[]} [.code body]) [D8 P]) w #[]:=by
 have h1:¬fn.name= "runtime.NumGoroutine":=by simpa using T3
 rw[<- enter_atD args hf hb];simp[born,G,stepG,unwind,callDeferred,dcall,invoke,callFunc,hf,h1,hb,GStep.after,seen_none,D8];exact⟨rfl,rfl,rfl,rfl⟩
theorem Gu0 (hn:b.kind= .deferred) (hd:a.defers=[]) (hf:P.funcs[b.fn]? =some fn) {v:Value} (hr:(results fn a.tmps).run P w= .ok v w) (he:(results fn a.tmps).events P w #[]=#[]) :
  stepG P main (G {b.at a todo with mode:=.returning} [D8 P]) w= .go (G (D8 P) []) w #[]:=by
 simp[G,stepG,unwind,doReturn,Frame.at,hn,hd,hf,hr,he,seen,GStep.after,D8,goexitEntry]
theorem Gv0:stepG P main (G (D8 P) []) w= .go {frame:=D8 P,callers:=[],status:=.finished,dying:=none} w #[]:=by
 simp[G,stepG,unwind,D8,goexitEntry,Frame.catches]
end
section
variable {P:Program}[Ctx P]{Z:Goroutine->World->Prop}{Q:Exit->Act->World->Prop}{ops:Array Oper}{b:Frame}{k:List Item}{cs:List Frame}{n:Nat}{e:Env}{w:World}
theorem ZA.Y5 (hZ:Ctx.Zs P Z) {c:Operand} {x y:Code} (hc:ev e c= .bool true) (h:ZA Z n b cs e (.code x::k) w):ZA Z n b cs e (.code (.cond c x y)::k) w:=ZA.cond hZ (t:=true) hc h
theorem ZA.G5 (hZ:Ctx.Zs P Z) {c:Operand} {x y:Code} (hc:ev e c= .bool false) (h:ZA Z n b cs e (.code y::k) w):ZA Z n b cs e (.code (.cond c x y)::k) w:=ZA.cond hZ (t:=false) hc h
theorem ZA.W (hZ:Ctx.Zs P Z) (hb:b.kind≠.early) {c:Code} (h:Vy.W P n c (bk0 (fun e' w'=>ZA Z n b cs e' k w') fun _ _ _=>False) e w):ZA Z n b cs e (.code c::k) w:=ZA.piece hZ hb h fun _ _ h=>h
theorem ZA.panics (hZ:Ctx.Zs P Z) (hb:b.kind≠.early) {c:Code} (h:Vy.W P n c (fun x e' w'=>∃ch,x= .panic ch/\∀a todo,Rep n a e'->Z (G {b.at a todo with mode:=.panicking ch} cs) w') e w):ZA Z n b cs e (.code c::k) w:=by
 intro a ha;refine h a ha Z hZ b k cs hb fun x a' w' hx=>?_;obtain⟨e',r,ch,rfl,hq⟩:=hx;exact fun todo=>hq a' todo r
theorem L.Le0 {x:Operand} {ty:TypeId} {ps:String} {af:Array Edge} {rest:List Oper} {Q:Exit->Env->World->Prop} {t:TypeId} {v0:Value} (hx:ev e x= .iface t v0) (k:Q (.panic [{v:=.iface t v0,recovered:=false}]) e w):L P n ops Q (⟨none,.panic x,ty,ps,af,none⟩::rest) e w:=by
 refine L.Xl0 rfl ⟨rfl,rfl,fun τ d ρ x' hs=>⟨Evo.refl _,x',#[],?_,hs,fun e he=>by simp at he⟩⟩ k;rw[Sem.runT_eq];have h1:(execOp (ev e) ⟨none,.panic x,ty,ps,af,none⟩).run P x'= .halt (.panic (.iface t v0)) x':=by simp[execOp,Instr.panic,hx]
 have h2:(execOp (ev e) ⟨none,.panic x,ty,ps,af,none⟩).events P x' #[]=#[]:=by simp[execOp,Instr.panic,hx]
 rw[h1,h2];rfl
end
section
variable {P:Program}{Z:Goroutine->World->Prop}{b:Frame}{cs:List Frame}{n:Nat}{e:Env}{w:World}
theorem ZA.leaves {fn:Func} {f:FuncId} (hb:b=base f) (hf:P.funcs[f]? =some fn) (hr:fn.results=#[]) (h:∀fr,fr.fn=f->Leaves P fr w (.returned (.tuple #[]))->Z (G fr cs) w):ZR Z n b cs e w:=by
 intro todo a ha;subst hb;refine h _ rfl ⟨rfl,ha.defers,rfl,fn,hf,K7 (fun w=>results_none hr _ P w) (fun w=>events_results_none hr _ _)⟩
end
section
variable {P:Program}[Ctx P]{Z:Goroutine->World->Prop}{ops:Array Oper}{b:Frame}{k:List Item}{cs:List Frame}{n:Nat}{e:Env}{w:World}
theorem ZA.call (hZ:Ctx.Zs P Z) (hb:b.kind≠.early) {i:Nat} {rest:List Nat} {o:Oper} {f:FuncId} {args:Array Value} (ho:ops[i]? =some o) (hg:o.guard=none) (hr:Does P (execOp (ev e) o) w (.enter f args) w)
  (h:∀a,Rep n a e->Z (G (Frame.enter P f args .normal) (b.at a (.inRegion ops (i::rest)::k)::cs)) w):ZA Z n b cs e (.inRegion ops (i::rest)::k) w:=by
 intro a ha;have hw:Region.wanted o (yielded ops a.tmps)=true:=by
  obtain⟨d,op,ty,ps,af,g⟩:=o;cases hg;rfl
 refine(Ctx.cl Z hZ).own _ _ rfl fun τ d=>?_;refine⟨_,P2 w τ d,w.drawn,⟨rfl,fun ρ x hx=>?_⟩,h a ha⟩;obtain⟨h1,x',es,h2,h3,h4⟩:=hr.go τ d ρ x hx;rw[Sem.runT_eq]at h2;obtain⟨h5,h6⟩:=Prod.mk.inj h2;refine⟨h1,x',seen P b.fn es,?_,h3,fun e he=>h4 e (mem_seen he)⟩;have h5':(execOp a.eval o).run P x= .ok (.enter f args) x':=by rw[ha.eval];exact h5
 rw[stepG_enter ho hw hb h5',listed,ha.eval,h6]
theorem ZA.home {i:Nat} {rest:List Nat} {o:Oper} (ho:ops[i]? =some o) (hd:g6 n o.dst=true) {v:Value} {w':World} {a:Act} (ha:Rep n a e) (h:ZA Z n b cs (L3 e o.dst v) (.inRegion ops rest::k) w'):Z (G ((b.at a (.inRegion ops (i::rest)::k)).finish v) cs) w':=by
 have H9:(b.at a (.inRegion ops (i::rest)::k)).finish v=b.at (a.put o.dst v) (.inRegion ops rest::k):=by rw[Frame.finish_at,ho];rfl
 rw[H9];exact h _ (ha.put hd v)
end
section
variable {P:Program}{ops:Array Oper}{b:Frame}{k:List Item}{cs:List Frame}{n:Nat}{e:Env}
theorem ZA.back {Z':Goroutine->World->Prop} {main:Bool} (hZ':Cl P main Z') {i:Nat} {rest:List Nat} {o:Oper} (ho:ops[i]? =some o) (hd:g6 n o.dst=true) {v:Value} {w':World} {fr:Frame} {a:Act} (ha:Rep n a e) (hl:Leaves P fr w' (.returned v))
  (h:ZA Z' n b cs (L3 e o.dst v) (.inRegion ops rest::k) w'):Z' (G fr (b.at a (.inRegion ops (i::rest)::k)::cs)) w':=by
 refine aq0 hZ' hl ?_;have H9:(b.at a (.inRegion ops (i::rest)::k)).finish v=b.at (a.put o.dst v) (.inRegion ops rest::k):=by rw[Frame.finish_at,ho];rfl
 rw[H9];exact h _ (ha.put hd v)
end
section
variable {P:Program}[Ctx P]
end
section
variable {P:Program}[Ctx P]{Z:Goroutine->World->Prop}{ops:Array Oper}{b c:Frame}{k:List Item}{cs:List Frame}{n:Nat}{e:Env}{w:World}{i:Nat}{rest:List Nat}{dst:Option Nat}{ty:TypeId}{ps:String}{af:Array Edge}
theorem ZA.Gw0 (hZ:Ctx.Zs P Z) (ho:ops[i]? =some ⟨dst,.call {callee:=.builtin .recover,args:=#[],argTypes:=#[]},ty,ps,af,none⟩) (hd:g6 n dst=true) (hk:b.kind= .deferred) (hr:b.roundOf=none) (hc:c.mode= .returning) (h:ZA Z n b (c::cs) (L3 e dst .nilIface) (.inRegion ops rest::k) w):ZA Z n b (c::cs) e (.inRegion ops (i::rest)::k) w :=
 fun _a ha=>(Ctx.cl Z hZ).ctl rfl rfl (fun _w=>lz0 ho hk hr hc) (h _ (ha.put hd _))
theorem ZA.Bs0 (hZ:Ctx.Zs P Z) {v:Value} {Z4:List PanicEntry} (ho:ops[i]? =some ⟨dst,.call {callee:=.builtin .recover,args:=#[],argTypes:=#[]},ty,ps,af,none⟩) (hd:g6 n dst=true) (hk:b.kind= .deferred) (hr:b.roundOf=none) (hc:c.mode= .panicking ({v,recovered:=false} :: Z4)) (h:ZA Z n b ({c with mode:=.panicking ({v,recovered:=true} :: Z4)} :: cs) (L3 e dst v) (.inRegion ops rest::k) w):ZA Z n b (c::cs) e (.inRegion ops (i::rest)::k) w :=
 fun _a ha=>(Ctx.cl Z hZ).ctl rfl rfl (fun _w=>km0 ho hk hr hc) (h _ (ha.put hd _))
def Vu0 (c c':Frame):Prop:=(c.mode= .returning/\c'=c)\/∃v Z4,Z4.dropWhile (!·.goexit)=[]/\c'={c with mode:=.panicking ({v,recovered:=true} :: Z4)}
theorem ZA.recover (hZ:Ctx.Zs P Z) (ho:ops[i]? =some ⟨dst,.call {callee:=.builtin .recover,args:=#[],argTypes:=#[]},ty,ps,af,none⟩) (hd:g6 n dst=true) (hk:b.kind= .deferred) (hr:b.roundOf=none) (hc:c.mode= .returning\/∃v Z4,c.mode= .panicking ({v,recovered:=false} :: Z4)/\Z4.dropWhile (!·.goexit)=[])
  (h:∀c' v,Vu0 c c'->ZA Z n b (c'::cs) (L3 e dst v) (.inRegion ops rest::k) w):ZA Z n b (c::cs) e (.inRegion ops (i::rest)::k) w:=by
 rcases hc with hc|⟨v,Z4,hc,ho'⟩
 ·exact ZA.Gw0 hZ ho hd hk hr hc (h c _ (.inl ⟨hc,rfl⟩))
 ·exact ZA.Bs0 hZ ho hd hk hr hc (h _ _ (.inr ⟨v,Z4,ho',rfl⟩))
theorem ZA.region (hZ:Ctx.Zs P Z) {id:Nat} (h:ZA Z n b cs e (.inRegion ops (List.range ops.size)::k) w):ZA Z n b cs e (.code (.region id ops false)::k) w:=ZA.c hZ (fun _ _=>stepG_region) h
def ZD (Z:Goroutine->World->Prop) (n:Nat) (b:Frame) (cs:List Frame) (ds:List Deferred) (e:Env) (todo:List Item) (w:World):Prop:=∀a,gw0 n a e ds->Z (G (b.at a todo) cs) w
variable {ds:List Deferred}
theorem ZA.zd (h:ZD Z n b cs [] e k w):ZA Z n b cs e k w:=fun a ha=>h a (fq1 ha) where fq1 {n:Nat} {a:Act} {e:Env} (h:Rep n a e):gw0 n a e []:=⟨h.size,h.defers,h.get⟩
theorem ZD.ctl (hZ:Ctx.Zs P Z) {todo ll0:List Item} (hs:∀a w,stepG P (Ctx.main P) (G (b.at a todo) cs) w= .go (G (b.at a ll0) cs) w #[]) (h:ZD Z n b cs ds e ll0 w):ZD Z n b cs ds e todo w:=fun a ha=>(Ctx.cl Z hZ).ctl rfl rfl (hs a) (h a ha)
theorem ZD.seq (hZ:Ctx.Zs P Z) {x y:Code} (h:ZD Z n b cs ds e (.code x :: .code y::k) w):ZD Z n b cs ds e (.code (.seq x y)::k) w:=ZD.ctl hZ (fun _ _=>stepG_seq) h
theorem ZD.region (hZ:Ctx.Zs P Z) {id:Nat} (h:ZD Z n b cs ds e (.inRegion ops (List.range ops.size)::k) w):ZD Z n b cs ds e (.code (.region id ops false)::k) w:=ZD.ctl hZ (fun _ _=>stepG_region) h
theorem ZD.H4 (hZ:Ctx.Zs P Z) (h:ZD Z n b cs ds e k w):ZD Z n b cs ds e (.inRegion ops []::k) w:=ZD.ctl hZ (fun _ _=>stepG_region_end) h
variable {op:Op}{d:Nat}{v:Value}{w':World}
theorem ZD.va (hZ:Ctx.Zs P Z) (hb:b.kind≠.early) (ho:ops[i]? =some ⟨some d,op,ty,ps,af,none⟩) (hd:g6 n (some d)=true) (hr:Does P (execOp (ev e) ⟨some d,op,ty,ps,af,none⟩) w (.val v) w') (h:ZD Z n b cs ds (upd e d v) (.inRegion ops rest::k) w'):ZD Z n b cs ds e (.inRegion ops (i::rest)::k) w:=by
 intro a ha;refine U554 ?_;refine l9 (r:=.val v) (w':=w') (by rw[ha.eval];exact hr) ?_;exact h _ (ha.put hd v)
theorem ZD.st (hZ:Ctx.Zs P Z) (hb:b.kind≠.early) (ho:ops[i]? =some ⟨none,op,ty,ps,af,none⟩) (hr:Does P (execOp (ev e) ⟨none,op,ty,ps,af,none⟩) w .skip w') (h:ZD Z n b cs ds e (.inRegion ops rest::k) w'):ZD Z n b cs ds e (.inRegion ops (i::rest)::k) w:=by
 intro a ha;refine U554 ?_;refine l9 (r:=.skip) (w':=w') (by rw[ha.eval];exact hr) ?_;exact h _ ha
theorem ZD.defer (hZ:Ctx.Zs P Z) (hb:b.kind≠.early) {f:FuncId} {asx:Array Operand} {ats:Array TypeId} {vs:Array Value} (ho:ops[i]? =some ⟨none,.defer {callee:=.value (.func f),args:=asx,argTypes:=ats},ty,ps,af,none⟩) (hv:asx.map (ev e)=vs) (h:ZD Z n b cs (dcall f vs::ds) e (.inRegion ops rest::k) w):ZD Z n b cs ds e (.inRegion ops (i::rest)::k) w:=by
 intro a ha;refine(Ctx.cl Z hZ).ctl rfl rfl (fun w=>stepG_defer ho rfl hb rfl) ?_;rw[ha.eval,hv,ha.defers];exact h _ ⟨ha.size,rfl,ha.get⟩
theorem ZD.Yx0 (hZ:Ctx.Zs P Z) (hb:b.kind≠.early) {f:FuncId} {caps:Array Value} {x:Operand} (ho:ops[i]? =some ⟨none,.defer {callee:=.value x,args:=#[],argTypes:=#[]},ty,ps,af,none⟩) (hx:ev e x= .func (.func f) #[] caps) (h:ZD Z n b cs ({target:=.fn (.func f) caps,args:=#[]} :: ds) e (.inRegion ops rest::k) w):ZD Z n b cs ds e (.inRegion ops (i::rest)::k) w:=by
 intro a ha;refine(Ctx.cl Z hZ).ctl rfl rfl (fun w=>uw0 ho hb (by rw[ha.eval];exact hx)) ?_;rw[ha.defers];exact h _ ⟨ha.size,rfl,ha.get⟩
theorem ZD.call (hZ:Ctx.Zs P Z) (hb:b.kind≠.early) {f:FuncId} {args:Array Value} (ho:ops[i]? =some ⟨dst,op,ty,ps,af,none⟩) (hr:Does P (execOp (ev e) ⟨dst,op,ty,ps,af,none⟩) w (.enter f args) w)
  (h:∀a,gw0 n a e ds->Z (G (Frame.enter P f args .normal) (b.at a (.inRegion ops (i::rest)::k)::cs)) w):ZD Z n b cs ds e (.inRegion ops (i::rest)::k) w:=by
 intro a ha;refine(Ctx.cl Z hZ).own _ _ rfl fun τ d=>?_;refine⟨_,P2 w τ d,w.drawn,⟨rfl,fun ρ x hx=>?_⟩,h a ha⟩;obtain⟨h1,x',es,h2,h3,h4⟩:=hr.go τ d ρ x hx;rw[Sem.runT_eq]at h2;obtain⟨h5,h6⟩:=Prod.mk.inj h2;refine⟨h1,x',seen P b.fn es,?_,h3,fun e he=>h4 e (mem_seen he)⟩;have h5':(execOp a.eval ⟨dst,op,ty,ps,af,none⟩).run P x= .ok (.enter f args) x':=by rw[ha.eval];exact h5
 rw[stepG_enter ho rfl hb h5',listed,ha.eval,h6]
end
section
variable {P:Program}{Post:Value->World->Prop}{X:Gh}{h:Nat}{H:Hid}
theorem j6:@Ctx.Zs P (R2 P (h==0)) (Fin P Post X h):=⟨di0 P Post X h,ak0⟩
theorem Ei0:@Ctx.Zs P (R2 P (h==0)) (fz0 P Post X h H):=⟨Qx0 H,fun _g _u hz hH=>ak0 _ _ fun hv=>hz (je0 hH hv) hH⟩
theorem mj0 (V:Nat->Prop) [DecidablePred V] {g:Goroutine} {U:World} (hf:fz0 P Post X h (M8 V U) g (P3 V U)):Fin P Post X h g U :=
 ak0 _ _ fun hv=>by have:=hf (np0 hv);rwa [jd0]at this
theorem At.H4 {main:Bool} {ok:Event->Prop} {Y:Nat->Nat->Goroutine->Prop} {ft n d:Nat} {b:Frame} {cs:List Frame} {ds:List Deferred} {e:Env} {k:List Item} {ops:Array Oper} (hY:HF P main ok Y) (h:At Y ft n b cs ds d e k):At Y (ft+1) n b cs ds d e (.inRegion ops []::k):=At.c hY (fun _ _=>stepG_region_end) h
theorem l8 {n:Nat} (args:Array Value) (m:Nat) (hn:args.size+(m-args.size)=n):Rep n {tmps:=args++Array.replicate (m-args.size) undef,defers:=[]} (Vc.bf0 args):=by
 have:=cw0 args m hn;exact⟨this.size,this.defers,this.get⟩
theorem ny0 {n:Nat} {a:Act} {e:Env} (h:Rep n a e):gw0 n a e []:=⟨h.size,h.defers,h.get⟩
variable {n ft:Nat}{b:Frame}{cs:List Frame}{e:Env}{k:List Item}{ops:Array Oper}{i:Nat}{rest:List Nat}{ty:TypeId}{ps:String}{af:Array Edge}{x y:Operand}{v:Value}{w:World}
theorem ZA.more [Ctx P] {Z:Goroutine->World->Prop} (hZ:Ctx.Zs P Z) (hb:b.kind≠.early) {l:List Oper} (i:Nat) (hB:Qo0 n l=true) (h:L P n l.toArray (bk0 (fun e' w'=>ZA Z n b cs e' k w') fun _ _ _=>False) (l.drop i) e w):ZA Z n b cs e (.inRegion l.toArray (List.range' i (l.drop i).length)::k) w:=by
 intro a ha;have h1:=h (fun o ho=>List.all_eq_true.1 hB o (List.mem_of_mem_drop ho)) a ha;have h2:=hh0 (l.drop i) i a w (fun j _=>by rw[List.getElem?_drop];simp) h1;have:=fq0 (Z:=Z) (b:=b) (k:=k) (cs:=cs) (suf:=[]) hZ hb (fun ch a' w' hx=>by obtain⟨_,_,hx⟩:=hx;exact hx.elim) (fun a' w' hx=>by
  obtain⟨e',r,hq⟩:=hx;exact ZA.H4 hZ hq a' r) _ a w h2
 rwa [List.append_nil]at this
theorem ZA.give {j:Nat} {s:w6} {st:er0} {K:w6->Prop} (hb:b.kind≠.early) (ho:ops[i]? =some ⟨none,.send x y,ty,ps,af,none⟩) (hx:ev e x= .chan (some s.ch)) (hy:ev e y=v) (hj:X.C2 j=some s) (hjh:j≠h) (hdn:X.dn=0) (S4:X.stay h=st)
  (re0:At (YS P (h==0) st K) ft n b cs [] 0 e (.inRegion ops rest::k)) (hsh:∀s',K s'->X.chs s'.ch/\∀i s2,i≠j->X.C2 i=some s2->s2.ch≠s'.ch)
  (hF:∀s',K s'->Fin P Post (X.pass h j (some s')) j (Go.Conc.served s.me v) w):ZA (Fin P Post X h) n b cs e (.inRegion ops (i::rest)::k) w:=by
 intro a ha;have Lf0:a.put none undef=a:=rfl;obtain⟨s',hK,hw⟩:=re0 a (ny0 ha);refine Fin.give (a₂:=G (b.at a (.inRegion ops (i::rest)::k)) cs) (s:=s) (j:=j) (nh:=ft) (v:=v) (z':=.tuple #[]) rfl hj hjh hdn (qg0 hb ho (by rw[ha.eval];exact hx) (by rw[ha.eval];exact hy)) (some s') (fun s2 e2=>by cases e2;exact hsh s' hK) ?_ (hF s' hK);unfold rg0;rw[kl0 ho,S4];exact hw
theorem ZA.nz0 {j:Nat} {s:w6} {gr:X6} (hb:b.kind≠.early) (ho:ops[i]? =some ⟨none,.send x y,ty,ps,af,none⟩) (hx:ev e x= .chan (some s.ch)) (hy:ev e y=v) (hj:X.C2 j=some s) (hjh:j≠h) (hdn:X.dn=0) (hh:0<h) (N3:X.J4=some gr)
  (re0:At (YLt P gr) ft n b cs [] 0 e (.inRegion ops rest::k)) (hF:Fin P Post (X.pass h j none) j (Go.Conc.served s.me v) w):ZA (Fin P Post X h) n b cs e (.inRegion ops (i::rest)::k) w:=by
 intro a ha;refine Fin.give (a₂:=G (b.at a (.inRegion ops (i::rest)::k)) cs) (s:=s) (j:=j) (nh:=ft) (v:=v) (z':=.tuple #[]) rfl hj hjh hdn (qg0 hb ho (by rw[ha.eval];exact hx) (by rw[ha.eval];exact hy)) none (fun s2 e2=>by cases e2) ?_ hF;unfold rg0;rw[kl0 ho];exact⟨hh,gr,N3,re0 a (ny0 ha)⟩
theorem ZA.spawn {f:FuncId} {asx:Array Operand} {ats:Array TypeId} {st:er0} {K:w6->Prop} {vs:Array Value} {gr:X6} (hb:b.kind≠.early) (ho:ops[i]? =some ⟨none,.go {callee:=.value (.func f),args:=asx,argTypes:=ats},ty,ps,af,none⟩) (hvs:asx.map (ev e)=vs) (hdn:X.dn=0) (hp:X.pend=1) (N3:X.J4=some gr) (S4:X.stay 0=st)
  (re0:At (YS P true st K) ft n b cs [] 0 e (.inRegion ops rest::k)) (hsh:∀s',K s'->X.chs s'.ch/\∀i s2,X.C2 i=some s2->s2.ch≠s'.ch)
  (hF:∀s',K s'->Fin P Post (X.hire s') X.n (born P (dcall f vs)) w):ZA (Fin P Post X 0) n b cs e (.inRegion ops (i::rest)::k) w:=by
 intro a ha;have Lf0:a.put none undef=a:=rfl;obtain⟨s',hK,hw⟩:=re0 a (ny0 ha);refine Fin.spawn (g':=G (b.at (a.put none undef) (.inRegion ops rest::k)) cs) (child:=born P (dcall f vs)) (s:=s') (nh:=ft) (G:=gr) rfl hdn hp N3 (fun w=>?_) (hsh s' hK).1 (hsh s' hK).2 (by rw[S4];exact hw) (hF s' hK);rw[Ld0 hb ho,ha.eval,hvs]
theorem AtR.saved {Y:Nat->Nat->Goroutine->Prop} {main:Bool} {ok:Event->Prop} (hY:HF P main ok Y) {c c':Frame} {fn:Func} {todo:List Item} {d:Nat} (hs:Vu0 c c') (hn:b.kind= .deferred) (hf:P.funcs[b.fn]? =some fn) (hr:fn.results=#[]) (h:Y ft d (G {c with mode:=.returning} cs)):AtR Y (ft+1) n b (c'::cs) [] d e todo:=by
 intro a ha;rcases hs with⟨hc,rfl⟩|⟨v,Z4,ho,rfl⟩
 ·have:({c' with mode:=.returning}:Frame)=c':=by rw[<- hc]
  rw[this]at h;exact hY.c rfl rfl (fun w=>stepG_leave_deferred hn ha.defers hf (results_none hr _ P w) (events_results_none hr _ _) hc) h
 ·refine hY.c rfl rfl (fun w=>?_) h;exact kn0 hn ha.defers hf (results_none hr _ P w) (events_results_none hr _ _) rfl ho
end
end Go.Vy
end
section
namespace Go.Vy.Sc
open Go Go.Conc Go.Yc Go.RowKit Go.Proofs Go.Proofs.Ytgadhljgilblbaa Try
open Go.Vc Go.Wg
structure oa0 (cs:List Frame) (cb:Nat) (df:Value) (me:Goroutine):Prop where
 yes:∀(C0:Ctx prog) (Z:Goroutine->World->Prop),@Ctx.Zs prog C0 Z->∀(u:World) (K:World->Prop),Gh0 prog C0 df u K->(∀u2 fr,K u2->fr.fn=97->Leaves prog fr u2 (.returned (.tuple #[]))->Z (G fr cs) u2)->Z (Go.Conc.served me (.bool true)) u
 no:∀Z,@Ctx.Zs prog (R2 prog false) Z->∀(u:World) (S:Nat->Prop) (B:Nat) (w0:World) (Bs:Nat) (R:Rn) (i:Nat) (c:CB),Rg S B w0 u Bs R->R.cl[i]? =some c->c.cb=cb->(∀u2 fr ch,Rg S B w0 u2 Bs {R with cl:=R.cl.set i {c with st:=true}}->fr.fn=97->z7 ch->Leaves prog fr u2 (.panicked ch)->Z (G fr cs) u2)->Z (Go.Conc.served me (.bool false)) u
theorem jg0 {f:FuncId} {fn:Func} {n:Nat} {a:Act} {e:Env} {todo:List Item} {ch:List PanicEntry} {w:World} (hf:prog.funcs[f]? =some fn) (ha:Rep n a e):Leaves prog {(base f).at a todo with mode:=.panicking ch} w (.panicked ch) :=
 ⟨rfl,ha.defers,by simp[Frame.catches,Frame.at,base,hf]⟩
theorem fr1:prog.built 246 []=some #[]:=by kernel_rfl
theorem S6 {l:List CB} {i:Nat} {c c':CB} (h:l[i]? =some c):(l.set i c')[i]? =some c':=by
 have:=(List.getElem?_eq_some_iff.1 h).1;simp[this]
theorem Rm0 {S:Nat->Prop} {B:Nat} {w0 w:World} {Bs:Nat} {R:Rn} {i:Nat} {c1 c2 c3 c4:CB} (h:Rg S B w0 w Bs {R with cl:=(((R.cl.set i c1).set i c2).set i c3).set i c4}):Rg S B w0 w Bs {R with cl:=R.cl.set i c4}:=by
 simpa using h
set_option maxRecDepth 20000 in
theorem step_fin {Post:Value->World->Prop} {X:Gh} {g:Nat} {S:Nat->Prop} {B:Nat} {w0:World} {Bs:Nat} {R:Rn} {w:World} {i:Nat} {c:CB} {s:Stp} {rf df:Value} {cs:List Frame} {z0:Value} {me0:Goroutine}
  (hg:Rg S B w0 w Bs R) (hc:R.cl[i]? =some c) (li1:c.st=false) (hrf:rf.cells=#[rf]/\rf.oneCell'=true) (hdf:df.cells=#[df]/\df.oneCell'=true)
  (X9:g≠0) (hX0:X.C2 0=some ⟨R.yb,z0,me0⟩) (hdn:X.dn=0) (S4:X.stay g=[(⟨c.cb,2,none⟩,.chan (some c.rc))]) (hsh:X.chs c.rc/\∀i s2,i≠0->X.C2 i=some s2->s2.ch≠c.rc)
  (E8:∀w' me,Rg S B w0 w' Bs {R with cl:=R.cl.set i {c with sp:=s,rf:=rf,df:=df,wt:=true}}->oa0 cs c.cb df me->Fin prog Post (X.pass g 0 (some ⟨c.rc,.bool false,me⟩)) 0 (Go.Conc.served me0 (.i (i:Int))) w') :
  Fin prog Post X g (G (Frame.enter prog 97 #[.p c.cb,gm0 s,rf,df] .normal) cs) w:=by
 letI:Ctx prog:=R2 prog (g==0);rw[enter_at _ func97 rfl];refine(?_:ZA (Fin prog Post X g) 63 (base 97) cs (Vc.bf0 #[.p c.cb,gm0 s,rf,df]) [.code (Try.f97.body.getD .skip)] w) _ (l8 _ _ rfl);have hZ:Ctx.Zs prog (Fin prog Post X g):=j6;have hb:=P1 97;refine U8 ?_;refine L.box (cs:=#[.i s.kind,.i s.obj,.i s.num]) rfl rfl (fun w b5 F5=>?_);have hg:=hg.j0 F5.below;have j3:=F5.blk;refine U70 ?_;refine U641 ?_;refine U114 ?_;refine U108 ?_;refine U36 ?_;refine U54 ?_;refine L.va (B0 rfl underlying4 rfl ((hg.m.blk i c hc).q0 10 (v:=.bool c.st) rfl)) ?_;refine U2 ?_;refine ZA.G5 hZ (rb li1) ?_;refine ZA.skip hZ ?_;refine U36 ?_;refine L.va (Y3 rfl) ?_;refine L.va (Y3 rfl) ?_;refine L.va (Y3 rfl) ?_;refine L.va (Q0 (cs:=[.i s.kind,.i s.obj,.i s.num]) rfl underlying77 rfl k8 rfl (j3.B4 rfl)) ?_;refine U369 ?_;refine L.va (K1 rfl) ?_;refine L.va (E0 rfl underlying197 rfl k8 (by decide)) ?_;refine L.stC (i:=i) (o:=3) (vs:=[.i s.kind,.i s.obj,.i s.num]) hg {c with sp:=s} hc rfl rfl rfl rfl k8 rfl rfl (by decide) rfl (fun w hg N3=>?_)
 try clear N3
 refine L.va (K1 rfl) ?_;refine L.va (E0 rfl underlying197 rfl Yf0 (by decide)) ?_;refine L.stC (i:=i) (o:=6) (vs:=[rf]) hg {{c with sp:=s} with rf:=rf} (S6 hc) rfl rfl rfl (congrArg Array.toList hrf.1) Yf0 rfl (by simp[hrf.2]) (by decide) rfl (fun w hg N3=>?_)
 try clear N3
 refine L.va (K1 rfl) ?_;refine L.va (E0 rfl underlying197 rfl sz1 (by decide)) ?_;refine L.stC (i:=i) (o:=7) (vs:=[df]) hg {{{c with sp:=s} with rf:=rf} with df:=df} (S6 (S6 hc)) rfl rfl rfl (congrArg Array.toList hdf.1) sz1 rfl (by simp[hdf.2]) (by decide) rfl (fun w hg N3=>?_)
 try clear N3
 refine U54 ?_;refine L.stC (i:=i) (o:=9) (vs:=[.bool true]) hg {{{{c with sp:=s} with rf:=rf} with df:=df} with wt:=true} (S6 (S6 (S6 hc))) rfl rfl rfl rfl sz4 rfl rfl (by decide) rfl (fun w hg N3=>?_)
 try clear N3
 refine U70 ?_;refine ZA.jc0 hZ hb 11 (fun w'=>Below w.heap.size w w') (by kernel_rfl) (by kernel_rfl) (by kernel_rfl) (by kernel_rfl) (Below.refl w.heap.size w).drew ?_;refine U6 ?_;refine D.va (fun w' J0=>(E0 rfl underlying197 rfl Ko0 (by decide))) ?_;refine D.va (fun w' J0=>(B0 rfl underlying150 rfl (((hg.m.blk i _ (S6 (S6 (S6 (S6 hc))))).j0 J0).q0 1 (v:=.p R.rb) rfl))) ?_;refine D.va (fun w' J0=>(K1 rfl)) ?_;refine U191 ?_;refine U6 ?_;refine D.va (fun w' J0=>(E0 rfl underlying197 rfl c5 (by decide))) ?_;refine D.va (fun w' J0=>(B0 rfl underlying3 rfl (((hg.m.blk i _ (S6 (S6 (S6 (S6 hc))))).j0 J0).q0 0 (v:=.i (i:Int)) rfl))) ?_;refine U179 ?_;intro w D1 hg;clear D1;refine ZA.give (i:=11) (rest:=[]) (s:=⟨R.yb,z0,me0⟩) (st:=[(⟨c.cb,2,none⟩,.chan (some c.rc))]) (K:=fun s=>s.ch=c.rc/\s.z= .bool false/\oa0 cs c.cb df s.me) (ft:=60) hb rfl rfl rfl hX0 X9.symm hdn S4 ?_ ?_ ?_
 ·have lj1:(g==0)=false:=by simpa using X9
  rw[lj1];have hY:=se0 (P:=prog) (main:=false) (l:=[((⟨c.cb,2,none⟩:Addr),Value.chan (some c.rc))]) (K:=fun s=>s.ch=c.rc/\s.z= .bool false/\oa0 cs c.cb df s.me);refine At.H4 hY ?_;refine At.seq hY ?_;refine At.seq hY ?_;refine At.region hY ?_;refine S0.val hY hb rfl (v:=.p c.cb) (P0 rfl) ?_;refine S0.val hY hb rfl (l5 rfl) ?_;refine S0.val hY hb rfl (nq0 rfl underlying197 rfl Vl0 (by decide)) ?_;refine S0.stay (v:=.chan (some c.rc)) hb rfl (by simp) rfl underlying195 rfl ?_;refine S0.C2 (E:=4) (z:=.bool false) hb underlying195 zr4 rfl (fun me hs=>⟨rfl,rfl,⟨?_,?_⟩⟩) rfl
  ·intro C0 Z hZ w K hdo hK;refine hs.go ?_;letI:Ctx prog:=C0;refine ZA.more hZ hb 5 rfl ?_;show L _ _ _ _ _ _ _;refine L.va (ir0 rfl) ?_;refine U173 ?_;refine U353 ?_;refine U114 ?_;refine U108 ?_;rcases hdo with⟨h1,h2⟩|⟨f,caps,⟨h1,fn,hf,hbd,hnm⟩,C8⟩
   all_goals subst h1
   ·refine ZA.W hZ hb ?_;refine U152 ?_;refine L.va (aw0 (v:=.nilFunc) (b:=false) rfl (.inl ⟨rfl,rfl⟩) rfl underlying1 ⟨_,_,_,rfl⟩) ?_;refine U114 ?_;refine ZA.skip hZ ?_;exact U517
   ·refine ZA.W hZ hb ?_;refine U152 ?_;refine L.va (aw0 (v:=.func (.func f) #[] caps) (b:=true) rfl (.inr ⟨_,_,_,rfl,rfl⟩) rfl underlying1 ⟨_,_,_,rfl⟩) ?_;refine U243 ?_;refine U186 ?_;refine L.va ew0 ?_;refine L.call (ez0 rfl hf hbd hnm) C8 ?_;rintro _ w h2;refine U2 ?_;exact U517
  ·intro Z hZ w S B w0 Bs R i c2 hg hc hcb hK;refine hs.go ?_;letI:Ctx prog:=R2 prog false
   skip
   refine ZA.more hZ hb 5 rfl ?_;show L _ _ _ _ _ _ _;refine L.va (ir0 rfl) ?_;refine U173 ?_;refine U353 ?_;refine U243 ?_;refine U36 ?_;refine U54 ?_;refine L.stC (i:=i) (o:=10) (vs:=[.bool true]) hg {c2 with st:=true} hc rfl (by rw[hcb];rfl) rfl rfl sz4 rfl rfl (by decide) rfl (fun w hg N3=>?_)
   try clear N3
   refine U2 ?_;refine ZA.panics hZ hb ?_;refine W.region rfl ?_;refine L.va (Z1 (parts:=[]) rfl fr1) ?_;refine L.va (bq0 (v:=.agg #[]) rfl underlying246 rfl) ?_;refine L.Le0 rfl ⟨_,rfl,fun a todo ha=>?_⟩;exact hK _ _ _ hg rfl ⟨_,_,rfl,rfl⟩ (jg0 func97 ha)
 ·rintro s2 ⟨h1,_,_⟩;rw[h1];exact hsh
 ·rintro⟨ch,z,me⟩ ⟨h1,h2,h3⟩;cases h1;cases h2;exact E8 _ me (Rm0 hg) h3
section
attribute [local irreducible] KK
abbrev db0 (a b:Nat):Array Value:=#[.p a,.p b]
theorem sf0 (gr:X6) {n:Nat} {a:Act} {todo:List Item} (hd:a.defers=[dcall 111 #[.pointer (some ⟨gr.blk,gr.off,none⟩)]]):∃m,Lt prog gr m 0 (G {(baseD 82).at a todo with mode:=.returning} [D8 prog]):=by
 have hq:QuitsD prog 2 0 (G {(baseD 82).at ⟨a.tmps,[]⟩ todo with mode:=.returning} [D8 prog]):=by
  refine .inr ⟨rfl,_,#[],fun e he=>by simp at he,fun w=>Gu0 (fn:=Try.f82) rfl rfl func82 (results_none rfl _ _ w) (events_results_none rfl _ _),?_⟩;refine .inr ⟨rfl,_,#[],fun e he=>by simp at he,fun w=>Gv0,?_⟩;exact⟨rfl,rfl⟩
 obtain⟨m,hm⟩:=Rj0 gr (c:={(baseD 82).at ⟨a.tmps,[]⟩ todo with mode:=.returning}) rfl hq;refine⟨m+1,?_⟩;exact(Q3 prog gr).c rfl rfl (fun w=>ln0 (f:=111) (fn:=Try.f111) (caps:=#[]) (args:=#[.pointer (some ⟨gr.blk,gr.off,none⟩)]) (by simp) hd func111 ey1 rfl) hm
theorem fs1:prog.built 246 []=some #[]:=by kernel_rfl
set_option maxRecDepth 20000 in
theorem Bv0 {Z:Goroutine->World->Prop} (hZ:@Ctx.Zs prog (R2 prog false) Z) {rb0 i:Nat} {c:CB} {w0:World} (hC:X1 w0 c.cb (c.cells rb0 i) 197 (0,3)) (S4:c.st=true) {s:Stp} {rf df:Value} {cs:List Frame}
  (hK:∀w' fr ch,Below w0.heap.size w0 w'->fr.fn=97->z7 ch->Leaves prog fr w' (.panicked ch)->Z (G fr cs) w'):Z (G (Frame.enter prog 97 #[.p c.cb,gm0 s,rf,df] .normal) cs) w0:=by
 letI:Ctx prog:=R2 prog false;rw[enter_at _ func97 rfl];refine(?_:ZA Z 63 (base 97) cs (Vc.bf0 #[.p c.cb,gm0 s,rf,df]) [.code (Try.f97.body.getD .skip)] w0) _ (l8 _ _ rfl);have hb:=P1 97;have hb0:Below w0.heap.size w0 w0:=Below.refl _ _;refine U8 ?_;refine L.box (cs:=#[.i s.kind,.i s.obj,.i s.num]) rfl rfl (fun w b5 F5=>?_);have hb0:=O0 hb0 F5.below;have hC:=hC.j0 F5.below;refine U70 ?_;refine U641 ?_;refine U114 ?_;refine U108 ?_;refine U36 ?_;refine U54 ?_;refine L.va (B0 rfl underlying4 rfl (hC.q0 10 (v:=.bool c.st) rfl)) ?_;refine U2 ?_;refine ZA.Y5 hZ (rb S4) ?_;refine ZA.panics hZ hb ?_;refine W.region rfl ?_;refine L.va (Z1 (parts:=[]) rfl fs1) ?_;refine L.va (bq0 (v:=.agg #[]) rfl underlying246 rfl) ?_;refine L.Le0 rfl ⟨_,rfl,fun a todo ha=>?_⟩;exact hK _ _ _ hb0 rfl ⟨_,_,rfl,rfl⟩ (jg0 func97 ha)
set_option maxRecDepth 20000 in
theorem Lg0 {Post:Value->World->Prop} {X:Gh} {g:Nat} {S:Nat->Prop} {B:Nat} {w0:World} {Bs:Nat} {R:Rn} {w:World} {i:Nat} {c:CB} {z0:Value} {me0:Goroutine} {Z7 m7:Nat} {en:Bool} {a45:Act} {v8:List Item} {md:FrameMode}
  (hg:Rg S B w0 w Bs R) (hc:R.cl[i]? =some c) (S4:c.st=true) (hA:X1 w Z7 #[.p c.cb] 106 (0,0)) (hE:X1 w m7 #[.bool en] 4 (0,0)) (X9:0<g) (hX0:X.C2 0=some ⟨R.yb,z0,me0⟩) (hdn:X.dn=0) (ob0:X.J4=some ⟨R.rb,8⟩)
  (hmd:md= .returning\/∃v Z4,md= .panicking ({v,recovered:=false} :: Z4)/\Z4.dropWhile (!·.goexit)=[]) (sg0:a45.defers=[dcall 111 #[.pointer (some ⟨R.rb,8,none⟩)]])
  (E8:∀w',Rg S B w0 w' Bs {R with ends:=R.ends.set i 0,cl:=R.cl.set i {c with wt:=false}}->Fin prog Post (X.pass g 0 none) 0 (Go.Conc.served me0 (.i (i:Int))) w') :
  Fin prog Post X g (G ((baseD 112).at {tmps:=((#[]:Array Value)++db0 Z7 m7)++Array.replicate (Try.f112.ntmps-((#[]:Array Value)++db0 Z7 m7).size) undef,defers:=[]} [.code (Try.f112.body.getD .skip)]) [{(baseD 82).at a45 v8 with mode:=md},D8 prog]) w:=by
 letI:Ctx prog:=R2 prog (g==0);refine(?_:ZA (Fin prog Post X g) 63 (baseD 112) [{(baseD 82).at a45 v8 with mode:=md},D8 prog] (Vc.bf0 ((#[]:Array Value)++db0 Z7 m7)) [.code (Try.f112.body.getD .skip)] w) _ (l8 _ _ rfl);refine U386 ?_;intro hZ hb;have hi:i<R.m:=Nat.lt_of_lt_of_le (List.getElem?_eq_some_iff.1 hc).1 hg.m.lcl;refine ZA.seq hZ ?_;refine U343 ?_;intro c45 v hsv;refine U153 ?_;refine U117 ?_;refine U98 ?_;refine U310 ?_;refine U2 ?_;refine ZA.Y5 hZ (rb S4) ?_;refine U180 ?_;intro hR hC;refine U293 ?_;refine U301 ?_;refine U328 ?_;refine U201 ?_;refine U288 ?_;refine D.nil (fun w D1=>?_);have hA:=hA.j0 D1;have hE:=hE.j0 D1;have hg:=hg.j0 D1;have hR:=hR.j0 D1;have hC:=hC.j0 D1;clear D1;have neA:=X1.ne hA hg.m.ends (by decide);refine U354 ?_;intro neE w hg N3;have hA:=hA.other N3 neA;clear neA neE N3;have hc:(Rn.cl {R with ends:=R.ends.set i 0})[i]? =some c:=hc;refine L.nil ?_
 try clear hR
 try clear hC
 refine U385 ?_;refine U8 ?_;refine U98 ?_;refine U304 ?_;intro neA w hg N3;have hA:=hA.other N3 neA;refine U291 ?_;refine U199 ?_;refine U289 ?_;refine U191 ?_;refine U307 ?_;refine U179 ?_;intro w D1 hg;clear D1;obtain⟨m,hm⟩:=sf0 ⟨R.rb,8⟩ (n:=0) (a:=a45) (todo:=v8) sg0;refine ZA.nz0 (i:=11) (rest:=[]) (s:=⟨R.yb,z0,me0⟩) (gr:=⟨R.rb,8⟩) (ft:=m+3) hb rfl rfl rfl hX0 (Nat.ne_of_lt X9) hdn X9 ob0 ?_ ?_
 ·refine At.H4 (Q3 _ _) ?_;refine At.done (Q3 _ _) (fun _=>?_);exact AtR.saved (Q3 _ _) hsv rfl func112 rfl hm
 ·exact E8 _ hg
set_option maxRecDepth 20000 in
theorem Lh0 {Post:Value->World->Prop} {X:Gh} {g:Nat} {S:Nat->Prop} {B:Nat} {w0:World} {Bs:Nat} {R:Rn} {w:World} {i:Nat} {c:CB} {z0:Value} {me0:Goroutine} {Z7 m7:Nat} {en:Bool} {a45:Act} {v8:List Item} {md:FrameMode}
  (hg:Rg S B w0 w Bs R) (hc:R.cl[i]? =some c) (S4:c.st=false) (hA:X1 w Z7 #[.p c.cb] 106 (0,0)) (hE:X1 w m7 #[.bool true] 4 (0,0)) (X9:0<g) (hX0:X.C2 0=some ⟨R.yb,z0,me0⟩) (hdn:X.dn=0) (ob0:X.J4=some ⟨R.rb,8⟩)
  (hmd:md= .returning\/∃v Z4,md= .panicking ({v,recovered:=false} :: Z4)/\Z4.dropWhile (!·.goexit)=[]) (sg0:a45.defers=[dcall 111 #[.pointer (some ⟨R.rb,8,none⟩)]])
  (E8:∀w',Rg S B w0 w' Bs {R with ends:=R.ends.set i 1,cl:=R.cl.set i {c with wt:=false}}->Fin prog Post (X.pass g 0 none) 0 (Go.Conc.served me0 (.i (i:Int))) w') :
  Fin prog Post X g (G ((baseD 112).at {tmps:=((#[]:Array Value)++db0 Z7 m7)++Array.replicate (Try.f112.ntmps-((#[]:Array Value)++db0 Z7 m7).size) undef,defers:=[]} [.code (Try.f112.body.getD .skip)]) [{(baseD 82).at a45 v8 with mode:=md},D8 prog]) w:=by
 letI:Ctx prog:=R2 prog (g==0);refine(?_:ZA (Fin prog Post X g) 63 (baseD 112) [{(baseD 82).at a45 v8 with mode:=md},D8 prog] (Vc.bf0 ((#[]:Array Value)++db0 Z7 m7)) [.code (Try.f112.body.getD .skip)] w) _ (l8 _ _ rfl);refine U386 ?_;intro hZ hb;have hi:i<R.m:=Nat.lt_of_lt_of_le (List.getElem?_eq_some_iff.1 hc).1 hg.m.lcl;refine ZA.seq hZ ?_;refine U343 ?_;intro c45 v hsv;refine U153 ?_;refine U117 ?_;refine U98 ?_;refine U310 ?_;refine U2 ?_;refine ZA.G5 hZ (rb S4) ?_;refine U8 ?_;refine L.va (B0 rfl underlying4 rfl (hE.q0 0 (v:=.bool true) rfl)) ?_;refine L.va (ir0 rfl) ?_;refine U243 ?_;refine U180 ?_;intro hR hC;refine U293 ?_;refine U301 ?_;refine U328 ?_;refine U201 ?_;refine U288 ?_;refine D.nil (fun w D1=>?_);have hA:=hA.j0 D1;have hE:=hE.j0 D1;have hg:=hg.j0 D1;have hR:=hR.j0 D1;have hC:=hC.j0 D1;clear D1;have neA:=X1.ne hA hg.m.ends (by decide);refine U354 ?_;intro neE w hg N3;have hA:=hA.other N3 neA;clear neA neE N3;have hc:(Rn.cl {R with ends:=R.ends.set i 1})[i]? =some c:=hc;refine L.nil ?_
 try clear hR
 try clear hC
 refine U385 ?_;refine U8 ?_;refine U98 ?_;refine U304 ?_;intro neA w hg N3;have hA:=hA.other N3 neA;refine U291 ?_;refine U199 ?_;refine U289 ?_;refine U191 ?_;refine U307 ?_;refine U179 ?_;intro w D1 hg;clear D1;obtain⟨m,hm⟩:=sf0 ⟨R.rb,8⟩ (n:=0) (a:=a45) (todo:=v8) sg0;refine ZA.nz0 (i:=11) (rest:=[]) (s:=⟨R.yb,z0,me0⟩) (gr:=⟨R.rb,8⟩) (ft:=m+3) hb rfl rfl rfl hX0 (Nat.ne_of_lt X9) hdn X9 ob0 ?_ ?_
 ·refine At.H4 (Q3 _ _) ?_;refine At.done (Q3 _ _) (fun _=>?_);exact AtR.saved (Q3 _ _) hsv rfl func112 rfl hm
 ·exact E8 _ hg
set_option maxRecDepth 20000 in
theorem Li0 {Post:Value->World->Prop} {X:Gh} {g:Nat} {S:Nat->Prop} {B:Nat} {w0:World} {Bs:Nat} {R:Rn} {w:World} {i:Nat} {c:CB} {z0:Value} {me0:Goroutine} {Z7 m7:Nat} {en:Bool} {a45:Act} {v8:List Item} {md:FrameMode}
  (hg:Rg S B w0 w Bs R) (hc:R.cl[i]? =some c) (S4:c.st=false) (hA:X1 w Z7 #[.p c.cb] 106 (0,0)) (hE:X1 w m7 #[.bool false] 4 (0,0)) (X9:0<g) (hX0:X.C2 0=some ⟨R.yb,z0,me0⟩) (hdn:X.dn=0) (ob0:X.J4=some ⟨R.rb,8⟩)
  (hmd:md= .returning\/∃v Z4,md= .panicking ({v,recovered:=false} :: Z4)/\Z4.dropWhile (!·.goexit)=[]) (sg0:a45.defers=[dcall 111 #[.pointer (some ⟨R.rb,8,none⟩)]])
  (E8:∀w',Rg S B w0 w' Bs {R with ends:=R.ends.set i 2,cl:=R.cl.set i {c with wt:=false}}->Fin prog Post (X.pass g 0 none) 0 (Go.Conc.served me0 (.i (i:Int))) w') :
  Fin prog Post X g (G ((baseD 112).at {tmps:=((#[]:Array Value)++db0 Z7 m7)++Array.replicate (Try.f112.ntmps-((#[]:Array Value)++db0 Z7 m7).size) undef,defers:=[]} [.code (Try.f112.body.getD .skip)]) [{(baseD 82).at a45 v8 with mode:=md},D8 prog]) w:=by
 letI:Ctx prog:=R2 prog (g==0);refine(?_:ZA (Fin prog Post X g) 63 (baseD 112) [{(baseD 82).at a45 v8 with mode:=md},D8 prog] (Vc.bf0 ((#[]:Array Value)++db0 Z7 m7)) [.code (Try.f112.body.getD .skip)] w) _ (l8 _ _ rfl);refine U386 ?_;intro hZ hb;have hi:i<R.m:=Nat.lt_of_lt_of_le (List.getElem?_eq_some_iff.1 hc).1 hg.m.lcl;refine ZA.seq hZ ?_;refine U343 ?_;intro c45 v hsv;refine U153 ?_;refine U117 ?_;refine U98 ?_;refine U310 ?_;refine U2 ?_;refine ZA.G5 hZ (rb S4) ?_;refine U8 ?_;refine L.va (B0 rfl underlying4 rfl (hE.q0 0 (v:=.bool false) rfl)) ?_;refine L.va (ir0 rfl) ?_;refine U114 ?_;refine U180 ?_;intro hR hC;refine U293 ?_;refine U301 ?_;refine U328 ?_;refine U201 ?_;refine U288 ?_;refine D.nil (fun w D1=>?_);have hA:=hA.j0 D1;have hE:=hE.j0 D1;have hg:=hg.j0 D1;have hR:=hR.j0 D1;have hC:=hC.j0 D1;clear D1;have neA:=X1.ne hA hg.m.ends (by decide);refine U354 ?_;intro neE w hg N3;have hA:=hA.other N3 neA;clear neA neE N3;have hc:(Rn.cl {R with ends:=R.ends.set i 2})[i]? =some c:=hc;refine L.nil ?_
 try clear hR
 try clear hC
 refine U385 ?_;refine U8 ?_;refine U98 ?_;refine U304 ?_;intro neA w hg N3;have hA:=hA.other N3 neA;refine U291 ?_;refine U199 ?_;refine U289 ?_;refine U191 ?_;refine U307 ?_;refine U179 ?_;intro w D1 hg;clear D1;obtain⟨m,hm⟩:=sf0 ⟨R.rb,8⟩ (n:=0) (a:=a45) (todo:=v8) sg0;refine ZA.nz0 (i:=11) (rest:=[]) (s:=⟨R.yb,z0,me0⟩) (gr:=⟨R.rb,8⟩) (ft:=m+3) hb rfl rfl rfl hX0 (Nat.ne_of_lt X9) hdn X9 ob0 ?_ ?_
 ·refine At.H4 (Q3 _ _) ?_;refine At.done (Q3 _ _) (fun _=>?_);exact AtR.saved (Q3 _ _) hsv rfl func112 rfl hm
 ·exact E8 _ hg
end
section
attribute [local irreducible] KK
theorem Rg.side {S:Nat->Prop} {B:Nat} {w0 w:World} {Bs:Nat} {R:Rn} (h:Rg S B w0 w Bs R) {b:Nat} {cs V6:Array Value} {T:TypeId} {f:Nat×Nat} (hb:X1 w b cs T f) (hT:T≠162/\T≠106/\T≠79/\T≠120/\T≠3/\T≠77/\T≠197) (hS:S b\/B <=b):Rg S B w0 (n2 w b V6 T f) Bs R:=by
 have N3:=N2 w b V6 T f;have hr:∀T':TypeId,T'≠T->∀r,some b=some r->∃V6 T'' f',X1 w r V6 T'' f'/\T'≠T'':=fun T' hT r e=>by cases e;exact⟨_,_,_,hb,hT⟩
 have hm:D4 (n2 w b V6 T f) Bs R:=⟨R3 h.m.run N3 (hr _ (Ne.symm hT.1)),C5 h.m.cls N3 (hr _ (Ne.symm hT.2.1)),C5 h.m.evs N3 (hr _ (Ne.symm hT.2.2.1)),C5 h.m.j2 N3 (hr _ (Ne.symm hT.2.2.2.1)),R3 h.m.ends N3 (hr _ (Ne.symm hT.2.2.2.2.1)),R3 h.m.I4 N3 (hr _ (Ne.symm hT.2.2.2.2.2.1)),h.m.eo0,h.m.jf0,h.m.lcl,fun i c hc=>R3 (h.m.blk i c hc) N3 (hr _ (Ne.symm hT.2.2.2.2.2.2))⟩
 exact⟨hm,h.md.grown N3 h.le (fun r e=>by cases e;exact hS),h.fp,by rw[m6];exact h.le⟩
def ft1 (c:CB) (x:Int):Ending->Prop
 | .returned _=>(c.st=true/\x=0)\/(c.st=false/\x=1)
 | .panicked ch=>z7 ch/\((c.st=true/\x=0)\/(c.st=false/\x=2))
 | .outgrown=>False
structure Lj0 (top:List Frame) (Z7 m7 rb cb:Nat):Prop where
 leave:∀{Post:Value->World->Prop} {X:Gh} {g:Nat} {S:Nat->Prop} {B:Nat} {w0:World} {Bs:Nat} {R:Rn} {w:World} {i:Nat} {c:CB} {z0:Value} {me0:Goroutine} {fr:Frame} {e:Ending} (x:Int),Rg S B w0 w Bs R->R.rb=rb->R.cl[i]? =some c->c.cb=cb ->
  X1 w Z7 #[.p cb] 106 (0,0)->X1 w m7 #[.bool false] 4 (0,0)->(S m7\/B <=m7)->ft1 c x e->0<g->X.C2 0=some ⟨R.yb,z0,me0⟩->X.dn=0->X.J4=some ⟨rb,8⟩ ->
  (∀w',Rg S B w0 w' Bs {R with ends:=R.ends.set i x,cl:=R.cl.set i {c with wt:=false}}->(∃en,X1 w' m7 #[.bool en] 4 (0,0))->Fin prog Post (X.pass g 0 none) 0 (Go.Conc.served me0 (.i (i:Int))) w') ->
  Leaves prog fr w e->Fin prog Post X g (G fr top) w
theorem D4.Vv0 {w:World} {Bs:Nat} {R:Rn} (h:D4 w Bs R) {b:Nat} {cs:Array Value} {T:TypeId} {f:Nat×Nat} (hb:X1 w b cs T f) (hT:T≠162/\T≠106/\T≠79/\T≠120/\T≠3/\T≠77/\T≠197):¬R.fp b:=by
 intro hk;have own:∀{E:TypeId} {s n c:Nat} {a:Option Addr} {xs:List Value},Own w Bs E s a n c xs->a≠none->b=ab a->T≠E->False:=fun ho ha e C3=>by
  obtain⟨cur,hB,_⟩:=ho.row ha;exact X1.ne (f:=(0,0)) hB hb (Ne.symm C3) e.symm
 rcases hk with rfl|rfl|rfl|⟨ha,e⟩|⟨ha,e⟩|⟨ha,e⟩|⟨i,c,hc,rfl⟩
 ·exact X1.ne hb h.run hT.1 rfl
 ·exact X1.ne hb h.ends hT.2.2.2.2.1 rfl
 ·exact X1.ne hb h.I4 hT.2.2.2.2.2.1 rfl
 ·exact own h.cls ha e hT.2.1
 ·exact own h.evs ha e hT.2.2.1
 ·exact own h.j2 ha e hT.2.2.2.1
 ·exact X1.ne hb (h.blk i c hc) hT.2.2.2.2.2.2 rfl
theorem Rg.then {S:Nat->Prop} {B:Nat} {w0 w w':World} {Bs:Nat} {R R':Rn} (h:Rg S B w0 w Bs R) (h':Rg R.fp w.heap.size w w' Bs R'):Rg S B w0 w' Bs R' :=
 ⟨h'.m,⟨h'.md.os.trans h.md.os,h'.md.tape.trans h.md.tape,h'.md.output.trans h.md.output,Nat.le_trans h.md.size h'.md.size,fun k hk hs=>(h'.md.block k (Nat.lt_of_lt_of_le hk h.le) fun z=>(h.fp k z).elim hs (Nat.not_le_of_lt hk)).trans (h.md.block k hk hs)⟩,fun k hk=>by
  rcases h'.fp k hk with z|z
  ·exact h.fp k z
  ·exact .inr (Nat.le_trans h.le z),Nat.le_trans h.le h'.md.size⟩
theorem Lk0 {Post:Value->World->Prop} {X:Gh} {g:Nat} {S:Nat->Prop} {B:Nat} {w0:World} {Bs:Nat} {R:Rn} {w:World} {i:Nat} {c:CB} {z0:Value} {me0:Goroutine} {Z7 m7:Nat} {en:Bool} {a45:Act} {v8:List Item} {md:FrameMode} {x:Int}
  (hg:Rg S B w0 w Bs R) (hc:R.cl[i]? =some c) (hx:(c.st=true/\x=0)\/(c.st=false/\en=true/\x=1)\/(c.st=false/\en=false/\x=2)) (hA:X1 w Z7 #[.p c.cb] 106 (0,0)) (hE:X1 w m7 #[.bool en] 4 (0,0)) (X9:0<g) (hX0:X.C2 0=some ⟨R.yb,z0,me0⟩) (hdn:X.dn=0) (ob0:X.J4=some ⟨R.rb,8⟩)
  (hmd:md= .returning\/∃v Z4,md= .panicking ({v,recovered:=false} :: Z4)/\Z4.dropWhile (!·.goexit)=[]) (sg0:a45.defers={target:=.fn (.func 112) (db0 Z7 m7),args:=#[]} :: [dcall 111 #[.pointer (some ⟨R.rb,8,none⟩)]])
  (E8:∀w',Rg S B w0 w' Bs {R with ends:=R.ends.set i x,cl:=R.cl.set i {c with wt:=false}}->Fin prog Post (X.pass g 0 none) 0 (Go.Conc.served me0 (.i (i:Int))) w') :
  Fin prog Post X g (G {(baseD 82).at a45 v8 with mode:=md} [D8 prog]) w:=by
 refine(di0 prog Post X g).ctl rfl rfl (fun w=>ln0 (f:=112) (fn:=Try.f112) (caps:=db0 Z7 m7) (args:=#[]) (ds:=[dcall 111 #[.pointer (some ⟨R.rb,8,none⟩)]]) (by rcases hmd with rfl|⟨_,_,rfl,_⟩ <;> simp) sg0 func112 ez1 rfl) ?_;rcases hx with⟨h1,rfl⟩|⟨h1,rfl,rfl⟩|⟨h1,rfl,rfl⟩
 ·exact Lg0 hg hc h1 hA hE X9 hX0 hdn ob0 hmd rfl E8
 ·exact Lh0 (en:=true) hg hc h1 hA hE X9 hX0 hdn ob0 hmd rfl E8
 ·exact Li0 (en:=false) hg hc h1 hA hE X9 hX0 hdn ob0 hmd rfl E8
theorem qh0 {Post:Value->World->Prop} {X:Gh} {g:Nat} {S:Nat->Prop} {B:Nat} {w0:World} {Bs:Nat} {R:Rn} {w:World} {i:Nat} {c:CB} {z0:Value} {me0:Goroutine} {Z7 m7:Nat} {en:Bool} {a45:Act} {v8:List Item} {md:FrameMode} {x:Int}
  (hg:Rg S B w0 w Bs R) (hc:R.cl[i]? =some c) (hx:(c.st=true/\x=0)\/(c.st=false/\en=true/\x=1)\/(c.st=false/\en=false/\x=2)) (hA:X1 w Z7 #[.p c.cb] 106 (0,0)) (hE:X1 w m7 #[.bool en] 4 (0,0)) (X9:0<g) (hX0:X.C2 0=some ⟨R.yb,z0,me0⟩) (hdn:X.dn=0) (ob0:X.J4=some ⟨R.rb,8⟩)
  (hmd:md= .returning\/∃v Z4,md= .panicking ({v,recovered:=false} :: Z4)/\Z4.dropWhile (!·.goexit)=[]) (sg0:a45.defers={target:=.fn (.func 112) (db0 Z7 m7),args:=#[]} :: [dcall 111 #[.pointer (some ⟨R.rb,8,none⟩)]])
  (E8:∀w',Rg S B w0 w' Bs {R with ends:=R.ends.set i x,cl:=R.cl.set i {c with wt:=false}}->(∃en,X1 w' m7 #[.bool en] 4 (0,0))->Fin prog Post (X.pass g 0 none) 0 (Go.Conc.served me0 (.i (i:Int))) w') :
  Fin prog Post X g (G {(baseD 82).at a45 v8 with mode:=md} [D8 prog]) w:=by
 refine Lk0 hg.m.rg hc hx hA hE X9 hX0 hdn ob0 hmd sg0 fun w' Y8=>E8 w' (hg.then Y8) ⟨en,?_⟩;exact(Y8.md.block m7 hE.lt (hg.m.Vv0 hE (by decide))).trans hE
set_option maxRecDepth 20000 in
theorem Ll0 {Post:Value->World->Prop} {X:Gh} {g:Nat} {w:World} {Bs:Nat} {R:Rn} {i:Nat} {c:CB} {f:FuncId} {fn:Func} {caps:Array Value} (hf:prog.funcs[f]? =some fn) (hbd:fn.body.isSome=true) (hnm:(fn.name== "runtime.NumGoroutine")=false)
  (hM:D4 w Bs R) (hc:R.cl[i]? =some c)
  (W5:∀w1 top Z7 m7,Below w.heap.size w w1->w.heap.size <=Z7->w.heap.size <=m7->X1 w1 Z7 #[.p c.cb] 106 (0,0)->X1 w1 m7 #[.bool false] 4 (0,0)->Lj0 top Z7 m7 R.rb c.cb->Fin prog Post X g (G (Frame.enter prog f (#[] ++ #[.p c.cb]++caps) .normal) top) w1) :
  Fin prog Post X g (born prog (dcall 82 #[.p c.cb,.func (.func f) #[] caps])) w:=by
 refine(di0 prog Post X g).ctl rfl rfl (fun w=>Gt0 func82 lb1 rfl) ?_;letI:Ctx prog:=R2 prog (g==0);have hZ:Ctx.Zs prog (Fin prog Post X g):=j6;have hb:=bkd 82;refine(?_:ZA (Fin prog Post X g) 15 (baseD 82) [D8 prog] (Vc.bf0 #[.p c.cb,.func (.func f) #[] caps]) [.code (Try.f82.body.getD .skip)] w) _ (l8 _ _ rfl);refine U8 ?_;refine L.box (cs:=#[.p c.cb]) rfl rfl (fun w1 Z7 FA=>?_);refine U173 ?_;refine L.alloc (cs:=#[.bool false]) zr4 rfl (fun w2 m7 FE=>?_);refine L.pu 0 [.bool false] #[.bool false] sz4 FE.blk (fun w3 hE N3 A2=>?_);refine U2 ?_;have V7:Below w.heap.size w w1:=FA.below;have lA:w.heap.size <=Z7:=by have:=FA.here;omega
 have lE:w.heap.size <=m7:=by have:=FE.here;have:=V7.size;omega
 have H3:Below w.heap.size w w2:=O0 V7 FE.below;have hb3:Below w.heap.size w w3:=G4 H3 H3.size N3 lE;have hA:X1 w3 Z7 #[.p c.cb] 106 (0,0):=(G3 (FA.blk.j0 FE.below)).other N3 (X1.ne (G3 (FA.blk.j0 FE.below)) (G3 FE.blk) (by decide));have hM3:=hM.j0 hb3;refine ZA.zd ?_;refine U370 ?_;refine ZD.va hZ hb (i:=0) (rest:=[1,2,3,4,5,6]) rfl rfl (B0 rfl underlying106 rfl (hA.q0 0 (v:=.p c.cb) rfl)) ?_;refine ZD.va hZ hb (i:=1) rfl rfl (K1 rfl) ?_;refine ZD.va hZ hb (i:=2) rfl rfl (E0 rfl underlying197 rfl Ko0 (by decide)) ?_;refine ZD.va hZ hb (i:=3) rfl rfl (B0 rfl underlying150 rfl ((hM3.blk i c hc).q0 1 (v:=.p R.rb) rfl)) ?_;refine ZD.va hZ hb (i:=4) rfl rfl (K1 rfl) ?_;refine ZD.va hZ hb (i:=5) rfl rfl (E0 rfl underlying162 rfl Vk0 (by decide)) ?_;refine ZD.defer hZ hb (i:=6) (vs:=#[.pointer (some ⟨R.rb,8,none⟩)]) rfl (Wg.O9 (vl:=[.pointer (some ⟨R.rb,8,none⟩)]) rfl) ?_;refine ZD.H4 hZ ?_;refine U370 ?_;refine ZD.va hZ hb (i:=0) (rest:=[1]) rfl rfl (A8 (l:=[.tmp 2,.tmp 4]) (vs:=[.p Z7,.p m7]) rfl) ?_;refine ZD.Yx0 hZ hb (i:=1) (caps:=db0 Z7 m7) rfl rfl ?_;refine ZD.H4 hZ ?_;refine U370 ?_;refine ZD.va hZ hb (i:=0) (rest:=[1,2]) rfl rfl (Je0 rfl) ?_;refine ZD.va hZ hb (i:=1) rfl rfl (B0 rfl underlying106 rfl (hA.q0 0 (v:=.p c.cb) rfl)) ?_;refine ZD.call hZ hb (i:=2) rfl (cb0 (first:=#[]) (cap:=caps) (args:=#[.p c.cb]) rfl (Wg.O9 (vl:=[.p c.cb]) rfl) hf hbd hnm) (fun a ha=>?_);refine W5 w3 _ Z7 m7 hb3 lA lE hA hE ⟨?_⟩;clear W5 hb3 H3 V7 hM3 hA hE N3 A2 FA FE;intro Post X g S B w0 Bs R' w i c' z0 me0 fr e x hg I8 hc hcb hA hE hS hx X9 hX0 hdn N3 E8 hl;rw[<- hcb]at hA;have fu1:X.J4=some ⟨R'.rb,8⟩:=by rw[I8];exact N3
 letI:Ctx prog:=R2 prog (g==0);have hZ:Ctx.Zs prog (Fin prog Post X g):=j6;cases e with
 |outgrown=>exact hx.elim
 |panicked ch=>
  obtain⟨⟨v,Z4,rfl,ho⟩,hx⟩:=hx;refine eu0 (di0 _ _ _ _) hl ?_;rw[Frame.raise_at];exact qh0 (en:=false) hg hc (by rcases hx with h|h;exact .inl h;exact .inr (.inr ⟨h.1,rfl,h.2⟩)) hA hE X9 hX0 hdn fu1 (.inr ⟨v,Z4,rfl,ho⟩) (by rw[I8];exact ha.defers) E8
 |returned v=>
  refine aq0 (di0 _ _ _ _) hl ?_;have H9:∀(ops:Array Oper) (k:List Item) (o:Oper),ops[2]? =some o->((baseD 82).at a (.inRegion ops [2]::k)).finish v=(baseD 82).at (a.put o.dst v) (.inRegion ops []::k):=fun ops k o ho=>by rw[Frame.finish_at,ho];rfl
  rw[H9 _ _ _ rfl];refine(?_:ZD (Fin prog Post X g) 15 (baseD 82) [D8 prog] _ _ _ w) _ (ha.put rfl v);refine ZD.H4 hZ ?_;refine ZD.region hZ ?_;refine ZD.st hZ hb (i:=0) (rest:=[]) rfl (rr0 (v:=.bool true) (p:=⟨m7,0,none⟩) (v0:=.bool false) rfl rfl sz4 rfl (hE.q0 0 rfl) (by rw[hE.frozen];rfl)) ?_;rw[ed0 hE];refine ZD.H4 hZ ?_;intro a5 ha5;refine(di0 prog Post X g).ctl rfl rfl (fun _=>stepG_end) ?_;exact qh0 (en:=true) (hg.side hE (by decide) hS) hc (by rcases hx with h|h;exact .inl h;exact .inr (.inl ⟨h.1,rfl,h.2⟩)) (hA.other (N2 _ _ _ _ _) (X1.ne hA hE (by decide))) (H5 hE _ _ _) X9 hX0 hdn fu1 (.inl rfl) (by rw[I8];exact ha5.defers) E8
end
section
attribute [local irreducible] KK
def By0 (cs:List Frame) (me:Goroutine):Prop:=∀Z,@Ctx.Zs prog (R2 prog true) Z->∀(u:World) (v:Value),(∀fr,fr.fn=56->Leaves prog fr u (.returned (.tuple #[]))->Z (G fr cs) u)->Z (Go.Conc.served me v) u
theorem fv1 (x0:Int) (x1:Int) (x2:Int) (x3:Int):prog.built 79 [(0,.i x0),(1,.agg #[.i x1,.i x2,.i x3])]=some #[.i x0,.i x1,.i x2,.i x3]:=by kernel_rfl
set_option maxRecDepth 20000 in
theorem Lm0 {Post:Value->World->Prop} {X:Gh} {g:Nat} {S:Nat->Prop} {B:Nat} {w0:World} {Bs:Nat} {R:Rn} {w:World} {i:Nat} {c:CB} {cs:List Frame} {z1:Value} {me1:Goroutine}
  (hg:Rg S B w0 w Bs R) (J5:Bs <=w.heap.size) (hc:R.cl[i]? =some c) (hrm:R.evs.length <=1000000) (hpm:c.E2 <=1000000) (hum:R.used <=1000000)
  (X9:g≠0) (hX0:X.C2 g=some ⟨c.rc,z1,me1⟩) (hdn:X.dn=0) (S4:X.stay 0=[(⟨R.rb,7,none⟩,.chan (some R.yb))]) (hsh:X.chs R.yb/\∀i s2,i≠g->X.C2 i=some s2->s2.ch≠R.yb)
  (N7:∀w' a n me0,Rg S B w0 w' Bs {R with ea:=a,ec:=n,evs:=R.evs ++ [(i,c.sp)],used:=R.used+1,cl:=R.cl.set i {c with E2:=c.E2+1,wt:=false}}->By0 cs me0->Fin prog Post (X.pass 0 g (some ⟨R.yb,.i 0,me0⟩)) g (Go.Conc.served me1 (.bool true)) w') :
  Fin prog Post X 0 (G (Frame.enter prog 56 #[.p R.rb,.p c.cb] .normal) cs) w:=by
 letI:Ctx prog:=R2 prog true;rw[enter_at _ func56 rfl];refine(?_:ZA (Fin prog Post X 0) 52 (base 56) cs (Vc.bf0 #[.p R.rb,.p c.cb]) [.code (Try.f56.body.getD .skip)] w) _ (l8 _ _ rfl);have hZ:Ctx.Zs prog (Fin prog Post X 0):=j6;have hb:=P1 56;refine ZA.seq hZ ?_;refine U180 ?_;intro hR hC;refine W.fl 17 [15,16] [0,1,2,3,4,5,6,7,8,9,10,11,12,13,14,15,16] (fun w'=>X1 w' R.rb #[.slice R.ca R.cl.length R.cc,.slice R.ea R.evs.length R.ec,.slice R.na R.j2.length R.nc,.slice (pt R.eb) R.m R.m,.slice (pt R.wb) R.m R.m,.bool R.stuck,.i (R.used:Int),.chan (some R.yb)] 162 (7,8)/\X1 w' c.cb #[.i (i:Int),.p R.rb,.chan (some c.rc),.i c.sp.kind,.i c.sp.obj,.i c.sp.num,c.rf,c.df,.i (c.E2:Int),.bool c.wt,.bool c.st] 197 (0,3)) (by kernel_rfl) (by kernel_rfl) (by kernel_rfl) (by kernel_rfl) (by kernel_rfl) (⟨hR.j0 (Below.refl w.heap.size w).drew,hC.j0 (Below.refl w.heap.size w).drew⟩) ?_;have Y2:Below w.heap.size w w.drew:=(Below.refl w.heap.size w).drew;have J5:=Nat.le_trans J5 Y2.size;have hg:=hg.j0 Y2;have hR:=hR.j0 Y2;have hC:=hC.j0 Y2;clear Y2;generalize w.drew=w at *;refine U350 ?_;refine F.va rfl rfl (fun w' J0=>(E0 rfl underlying162 rfl da0 (by decide))) ?_;refine F.va rfl rfl (fun w' J0=>(E0 rfl underlying40 rfl pj0 (by decide))) ?_;refine F.va rfl rfl (fun w' J0=>(B0 rfl underlying36 rfl (J0.1.q0 1 (v:=.slice R.ea R.evs.length R.ec) rfl))) ?_;refine U24 ?_;refine F.va rfl rfl (fun w' J0=>(E0 rfl underlying197 rfl c5 (by decide))) ?_;refine F.va rfl rfl (fun w' J0=>(B0 rfl underlying3 rfl (J0.2.q0 0 (v:=.i (i:Int)) rfl))) ?_;refine U24 ?_;refine F.va rfl rfl (fun w' J0=>(E0 rfl underlying197 rfl k8 (by decide))) ?_;refine F.va rfl rfl (fun w' J0=>(Q0 (cs:=[.i c.sp.kind,.i c.sp.obj,.i c.sp.num]) rfl underlying77 rfl k8 rfl (J0.2.B4 rfl))) ?_;refine F.va rfl rfl (fun w' J0=>(Z1 (parts:=[(0,.tmp 13),(1,.tmp 17)]) rfl (fv1 (i:Int) c.sp.kind c.sp.obj c.sp.num))) ?_;refine F.A9 rfl rfl ?_;refine L.Q7 (cs:=#[.i (i:Int),.i c.sp.kind,.i c.sp.obj,.i c.sp.num]) rfl rfl underlying36 Gn0 rfl ⟨_,ea1⟩ (by decide) (fun w b19 F19=>?_);have J5:=Nat.le_trans J5 F19.below.size;have hg:=hg.j0 F19.below;have hR:=hR.j0 F19.below;have hC:=hC.j0 F19.below;have Rn0:=F19.blk;refine L.nil ⟨rfl,⟨hR,hC⟩,?_⟩;refine F.A9 rfl rfl ?_;refine L.z6 (B:=Bs) (m:=1) rfl rfl underlying36 eb1 rfl (by decide) hg.m.evs (news:=[.i (i:Int),.i c.sp.kind,.i c.sp.obj,.i c.sp.num]) rfl (fun j u hj=>by
  rw[Addr.add_lit]
  match j,hj with
  |0,hj=>cases hj;exact Rn0.q0 0 rfl
  |1,hj=>cases hj;exact Rn0.q0 1 rfl
  |2,hj=>cases hj;exact Rn0.q0 2 rfl
  |3,hj=>cases hj;exact Rn0.q0 3 rfl) (fun u hu=>by simp only[List.mem_cons,List.not_mem_nil,or_false]at hu;rcases hu with rfl|rfl|rfl|rfl <;> rfl) (by omega) (by omega) J5 (fun a20 c20 w2 hO N3 hli=>?_)
 have hR:=R3 hR N3 (A7 hg.m.evs (by decide));have hC:=R3 hC N3 (A7 hg.m.evs (by decide));refine L.nil ⟨rfl,⟨hR,hC⟩,?_⟩;refine U15 ?_;refine U138 ?_;refine L.va (E0 rfl underlying40 rfl pj0 (by decide)) ?_;refine L.lg1 (o:=0) (v:=undef) hg (i,c.sp) N3 hO hli rfl rfl pj0 (fun w hg=>?_)
 try clear N3
 refine L.nil ?_
 try clear hR
 try clear hC
 refine U185 ?_;refine U8 ?_;refine U338 ?_;refine L.va (E0 rfl underlying40 rfl c5 (by decide)) ?_;refine L.va (B0 rfl underlying3 rfl (hg.m.run.q0 6 (v:=.i (R.used:Int)) rfl)) ?_;refine L.va (gk0 rfl rfl (by omega)) ?_;refine U138 ?_;refine L.va (E0 rfl underlying40 rfl c5 (by decide)) ?_;refine L.stR (o:=6) (vs:=[.i ((R.used+1:Nat):Int)]) hg R.stuck (R.used+1) rfl rfl rfl c5 rfl rfl (by decide) rfl (fun w hg N3=>?_)
 try clear N3
 refine U173 ?_;refine U45 ?_;refine L.va (E0 rfl underlying197 rfl c5 (by decide)) ?_;refine L.va (B0 rfl underlying3 rfl ((hg.m.blk i c hc).q0 8 (v:=.i (c.E2:Int)) rfl)) ?_;refine L.va (gk0 rfl rfl (by omega)) ?_;refine L.va (K1 rfl) ?_;refine L.va (E0 rfl underlying197 rfl c5 (by decide)) ?_;refine L.stC (i:=i) (o:=8) (vs:=[.i ((c.E2+1:Nat):Int)]) hg {c with E2:=c.E2+1} hc rfl rfl rfl rfl c5 rfl rfl (by decide) rfl (fun w hg N3=>?_)
 try clear N3
 refine U2 ?_;refine U36 ?_;refine U54 ?_;refine L.stC (i:=i) (o:=9) (vs:=[.bool false]) hg {{c with E2:=c.E2+1} with wt:=false} (S6 hc) rfl rfl rfl rfl sz4 rfl rfl (by decide) rfl (fun w hg N3=>?_)
 try clear N3
 refine U70 ?_;refine ZA.upto hZ hb 4 rfl rfl (R:=fun e' w'=>ZA _ _ _ _ e' _ w') ?_ (fun _ _ h=>h);refine U606 ?_;refine L.va (B0 rfl underlying195 rfl ((hg.m.blk i _ (S6 (S6 hc))).q0 2 (v:=.chan (some c.rc)) rfl)) ?_;refine U2 ?_;refine ZA.give (i:=4) (rest:=[]) (s:=⟨c.rc,z1,me1⟩) (j:=g) (st:=[(⟨R.rb,7,none⟩,.chan (some R.yb))]) (K:=fun s=>s.ch=R.yb/\s.z= .i 0/\By0 cs s.me) (ft:=60) hb rfl rfl rfl hX0 X9 hdn S4 ?_ ?_ ?_
 ·have hY:=se0 (P:=prog) (main:=true) (l:=[((⟨R.rb,7,none⟩:Addr),Value.chan (some R.yb))]) (K:=fun s=>s.ch=R.yb/\s.z= .i 0/\By0 cs s.me);refine U362 ?_;refine U315 ?_;refine U294 ?_;refine S0.C2 (E:=3) (z:=.i 0) hb underlying151 zr3 rfl (fun me hs=>⟨rfl,rfl,?_⟩) rfl;intro Z hZ w v hK;refine hs.go ?_;letI:Ctx prog:=R2 prog true;refine ZA.H4 hZ ?_;refine ZA.done hZ ?_;exact ZA.leaves (fn:=Try.f56) (f:=56) rfl func56 rfl (fun fr h8 h9=>hK fr h8 h9)
 ·rintro s2 ⟨h1,_,_⟩;rw[h1];exact hsh
 ·rintro⟨ch,z,me⟩ ⟨h1,h2,h3⟩;cases h1;cases h2;exact N7 _ _ _ me (by simpa using hg) h3
end
section
attribute [local irreducible] KK
noncomputable def endLoop:Code:=match Try.f58.body with|some (.seq (.seq _ (.block _ (.loop c))) _)=>c|_=>.skip
noncomputable def Ej0:Code:=match Try.f58.body with|some (.seq _ c)=>c|_=>.skip
structure Ro0 (rb0 m:Nat) (ca:Option Addr) (cc:Nat) (Bs:Nat) (Post:Value->World->Prop) (cs:List Frame) (J:Nat->Gh->Rn->World->Prop):Prop where
 mem:∀i X R w,J i X R w->D4 w Bs R/\R.rb=rb0/\R.cl.length=m/\R.ca=ca/\R.cc=cc
 skip:∀i X R w c,J i X R w->R.cl[i]? =some c->c.wt=false->J (i+1) X R w
 stop:∀i X R w c,J i X R w->R.cl[i]? =some c->c.wt=true->∃g z1 me1,g≠0/\X.C2 g=some ⟨c.rc,z1,me1⟩/\X.dn=0/\X.stay 0=[(⟨R.rb,7,none⟩,.chan (some R.yb))]/\(X.chs R.yb/\∀i s2,i≠g->X.C2 i=some s2->s2.ch≠R.yb) /\
  ∀w' me0,Rg R.fp w.heap.size w w' Bs {R with I4:=R.I4.set i c.sp}->(∀X' R' u v,J (i+1) X' R' u->Fin prog Post X' 0 (Go.Conc.served me0 v) u)->Fin prog Post (X.pass 0 g (some ⟨R.yb,.i 0,me0⟩)) g (Go.Conc.served me1 (.bool false)) w'
 fin:∀X R w,J m X R w->(∀i,X.C2 i=none)/\X.J4=some ⟨rb0,8⟩/\X.pend=0/\X.dn=0/\X.cap<2147483648/\∀fr,fr.fn=58->Leaves prog fr w (.returned (.tuple #[]))->Fin prog Post {X with pend:=0,cap:=0,dn:=0} 0 (G fr cs) w
set_option maxRecDepth 20000 in
theorem Ln0 {rb0 m:Nat} {ca:Option Addr} {cc:Nat} {Bs:Nat} {Post:Value->World->Prop} {cs:List Frame} {J:Nat->Gh->Rn->World->Prop} (hE:Ro0 rb0 m ca cc Bs Post cs J) {X:Gh} {R:Rn} {w:World} (hJ:J m X R w) {e:Env} (s0:e 0= .p rb0):ZA (Fin prog Post X 0) 43 (base 58) cs e [.code Ej0] w:=by
 obtain⟨hM,hrb,hm,hca,hcc⟩:=hE.mem _ _ _ _ hJ;obtain⟨hno,N3,hp,hdn,rf0,hK⟩:=hE.fin _ _ _ hJ;letI:Ctx prog:=R2 prog true;refine U246 ?_;intro hZ hb;rw[<- hrb]at s0;rw[L0 s0];clear s0;refine ZA.upto hZ hb 3 rfl rfl (R:=fun e' w'=>ZA _ _ _ _ e' _ w') ?_ (fun _ _ h=>h);refine U367 ?_;refine U605 ?_;refine ZA.call (i:=3) (rest:=[]) hZ hb (f:=83) (args:=#[.pointer (some ⟨R.rb,8,none⟩)]) rfl rfl (X4 rfl func83 rfl lc1 rfl) (fun a ha=>?_);rw[hrb];refine Fin.wait (G:=⟨rb0,8⟩) (K:=fun g'=>g'=_) N3 hno hp hdn (Ys0 ⟨rb0,8⟩ (fun g'=>g'=_) rfl X.cap rf0) (fun g' Y8=>?_);subst Y8;refine ZA.home (i:=3) rfl rfl ha ?_;have hZ':Ctx.Zs prog (Fin prog Post {X with pend:=0,cap:=0,dn:=0} 0):=j6;refine ZA.H4 hZ' ?_;refine ZA.done hZ' ?_;exact ZA.leaves (fn:=Try.f58) (f:=58) rfl func58 rfl hK
set_option maxRecDepth 20000 in
theorem Lo0 {rb0 m:Nat} {ca:Option Addr} {cc:Nat} {Bs:Nat} {Post:Value->World->Prop} {cs:List Frame} {J:Nat->Gh->Rn->World->Prop} (hE:Ro0 rb0 m ca cc Bs Post cs J) (hm1:m <=1000):∀(k i:Nat),i+k=m->∀X R w,J i X R w->∀e:Env,e 0= .p rb0->e 7= .slice ca m cc->e 8= .i (m:Int)->e 9= .i (i:Int)->ZA (Fin prog Post X 0) 43 (base 58) cs e [.code endLoop,.inLoop endLoop,.inBlock 0,.code Ej0] w:=by
 intro k
 induction k with
 |zero=>
  intro i hk X R w hJ e s0 s7 s8 s9;obtain⟨hM,hrb,hm,hca,hcc⟩:=hE.mem _ _ _ _ hJ;letI:Ctx prog:=R2 prog true;refine U246 ?_;intro hZ hb;rw[<- hrb]at s0;rw[<- hca,<- hm,<- hcc]at s7;rw[<- hm]at s8;refine U228 ?_;refine ZA.seq hZ ?_;obtain rfl:i=R.cl.length:=by omega
  refine U186 ?_;refine U459 ?_;refine U336 ?_;exact Ln0 hE (by rw[<- hm];exact hJ) (by rw[<- hrb];rfl)
 |succ k ih=>
  intro i hk X R w hJ e s0 s7 s8 s9;obtain⟨hM,hrb,hm,hca,hcc⟩:=hE.mem _ _ _ _ hJ;letI:Ctx prog:=R2 prog true;refine U246 ?_;intro hZ hb;rw[<- hrb]at s0;rw[<- hca,<- hm,<- hcc]at s7;rw[<- hm]at s8;refine U228 ?_;have D2:i<R.cl.length:=by omega
  obtain⟨c,hc⟩:∃c,R.cl[i]? =some c:=⟨_,List.getElem?_eq_getElem D2⟩
  refine U174 ?_;refine U342 ?_;refine U117 ?_;refine L.va (K2 rfl) ?_;refine U483 ?_;refine L.va (gj0 rfl) ?_;refine U379 ?_;refine U36 ?_;refine U533 ?_;refine U2 ?_;by_cases hwt:c.wt=false
  ·refine ZA.G5 hZ (rb hwt) ?_;refine ZA.skip hZ ?_;refine ZA.inBlock hZ ?_;refine U166 ?_;exact ih (i+1) (by omega) X R w (hE.skip i X R w c hJ hc hwt) _ (by rw[<- hrb];rfl) (by rw[<- hca,<- hm,<- hcc];rfl) (by rw[<- hm];rfl) rfl
  ·have hwt:c.wt=true:=by simpa using hwt
   refine ZA.Y5 hZ (rb hwt) ?_;obtain⟨g,z1,me1,X9,hX0,hdn,S4,hsh,N7⟩:=hE.stop i X R w c hJ hc hwt;have hg:=hM.rg;refine ZA.seq hZ ?_;refine U180 ?_;intro hR hC;refine W.jc0 11 (fun w'=>Below w.heap.size w w') (by kernel_rfl) (by kernel_rfl) (by kernel_rfl) (by kernel_rfl) ((Below.refl w.heap.size w).drew) ?_;refine U6 ?_;refine D.va (fun w' J0=>(E0 rfl underlying162 rfl da0 (by decide))) ?_;refine D.va (fun w' J0=>(E0 rfl underlying40 rfl Gm0 (by decide))) ?_;refine D.va (fun w' J0=>(B0 rfl underlying38 rfl ((hR.j0 J0).q0 4 (v:=.slice (pt R.wb) R.m R.m) rfl))) ?_;refine D.va (fun w' J0=>(K2 rfl)) ?_;refine U6 ?_;refine D.va (fun w' J0=>(E0 rfl underlying197 rfl k8 (by decide))) ?_;refine D.va (fun w' J0=>(Q0 (cs:=[.i c.sp.kind,.i c.sp.obj,.i c.sp.num]) rfl underlying77 rfl k8 rfl ((hC.j0 J0).B4 rfl))) ?_;refine D.va (fun w' J0=>o4 (i:=i) rfl rfl underlying38 k8 (Nat.lt_of_lt_of_le D2 hM.lcl)) ?_;refine U179 ?_;intro w D1 hg;have hR:=hR.j0 D1;have hC:=hC.j0 D1;clear D1;refine L.stW (i:=i) (z:=c.sp) hg (Nat.lt_of_lt_of_le D2 hM.lcl) rfl rfl k8 (fun w hg N3=>?_);clear N3;refine L.nil ?_
   try clear hR
   try clear hC
   refine U185 ?_;refine ZA.seq hZ ?_;refine ZA.upto hZ hb 4 rfl rfl (R:=fun e' w'=>ZA _ _ _ _ e' _ w') ?_ (fun _ _ h=>h);refine U606 ?_;refine L.va (B0 rfl underlying195 rfl ((hg.m.blk i c hc).q0 2 (v:=.chan (some c.rc)) rfl)) ?_;refine U2 ?_;refine ZA.give (i:=4) (rest:=[]) (s:=⟨c.rc,z1,me1⟩) (j:=g) (st:=[(⟨R.rb,7,none⟩,.chan (some R.yb))]) (K:=fun s=>s.ch=R.yb/\s.z= .i 0/\∀X' R' u v,J (i+1) X' R' u->Fin prog Post X' 0 (Go.Conc.served s.me v) u) (ft:=60) hb rfl rfl rfl hX0 X9 hdn S4 ?_ ?_ ?_
   ·have hY:=se0 (P:=prog) (main:=true) (l:=[((⟨R.rb,7,none⟩:Addr),Value.chan (some R.yb))]) (K:=fun s=>s.ch=R.yb/\s.z= .i 0/\∀X' R' u v,J (i+1) X' R' u->Fin prog Post X' 0 (Go.Conc.served s.me v) u);refine U362 ?_;refine U315 ?_;refine U294 ?_;refine S0.C2 (E:=3) (z:=.i 0) hb underlying151 zr3 rfl (fun me hs=>⟨rfl,rfl,?_⟩) rfl;intro X R' w v hJ';refine hs.go ?_;have hZ:Ctx.Zs prog (Fin prog Post X 0):=j6;refine U359 ?_;refine U166 ?_;exact ih (i+1) (by omega) X R' w hJ' _ (by rw[<- hrb];rfl) (by rw[<- hca,<- hm,<- hcc];rfl) (by rw[<- hm];rfl) rfl
   ·rintro s2 ⟨h1,_,_⟩;rw[h1];exact hsh
   ·rintro⟨ch,z,me⟩ ⟨h1,h2,h3⟩;cases h1;cases h2;exact N7 _ me hg h3
set_option maxRecDepth 20000 in
theorem Ek0 {rb0 m:Nat} {ca:Option Addr} {cc:Nat} {Bs:Nat} {Post:Value->World->Prop} {cs:List Frame} {J:Nat->Gh->Rn->World->Prop} (hE:Ro0 rb0 m ca cc Bs Post cs J) (hm1:m <=1000) {X:Gh} {R:Rn} {w:World} (hJ:J 0 X R w):Fin prog Post X 0 (G (Frame.enter prog 58 #[.p rb0] .normal) cs) w:=by
 obtain⟨hM,hrb,hm,hca,hcc⟩:=hE.mem _ _ _ _ hJ;letI:Ctx prog:=R2 prog true;refine U246 ?_;intro hZ hb;rw[enter_at _ func58 rfl];rw[<- hrb];refine(?_:ZA (Fin prog Post X 0) 43 (base 58) cs (Vc.bf0 #[.p R.rb]) [.code (Try.f58.body.getD .skip)] w) _ (l8 _ _ rfl);refine ZA.seq hZ ?_;refine U8 ?_;refine U45 ?_;refine U469 ?_;refine U339 ?_;refine U2 ?_;refine U371 ?_;exact Lo0 hE hm1 m 0 (by omega) X R w hJ _ (by rw[<- hrb];rfl) (by rw[<- hca,<- hm,<- hcc];rfl) (by rw[<- hm];rfl) rfl
end
end Go.Vy.Sc
end
section
namespace Go.Vy
open Go Go.Conc Go.Yc Go.RowKit
open Go.Vc Go.Wg
def ChanAt (w:World) (b:Nat):Prop:=w.heap[b]? =some (.chan 0 #[] false 0 0 false)
section
variable {w w':World}{b:Nat}
theorem ChanAt.lt (h:ChanAt w b):b<w.heap.size:=(Array.getElem?_eq_some_iff.1 h).1
theorem ChanAt.j0 (h:ChanAt w b) (hb:Below w.heap.size w w'):ChanAt w' b:=(hb.block b h.lt).trans h
theorem ChanAt.grown {row:Option Nat} (h:ChanAt w b) (hg:w.grownBy w' row) (hr:∀r,row=some r->∃cs T f,X1 w r cs T f):ChanAt w' b :=
 (hg.block b h.lt fun e=>by
  obtain⟨cs,T,f,h'⟩:=hr b e.symm;unfold ChanAt at h;unfold X1 at h';rw[h]at h';cases h').trans h
end
theorem L.makeChan {P:Program} [Ctx P] {n:Nat} {Q:Exit->Env->World->Prop} {e:Env} {w:World} {ops:Array Oper} {rest:List Oper} {d:Nat} {ty:TypeId} {ps:String} {af:Array Edge} {T E:TypeId} {x:Operand} {dd:ChanDir} (hx:ev e x= .int .i64 0) (hT:P.underlying T=some (.chan dd E)) (hi:∃z,(P.info? E).map (·.size)=some z)
  (k:∀w1,Below w.heap.size w w1->ChanAt w1 w.heap.size->w1.heap.size=w.heap.size+1->L P n ops Q rest (upd e d (.chan (some w.heap.size))) w1):L P n ops Q (⟨some d,.makeChan T x,ty,ps,af,none⟩::rest) e w:=by
 obtain⟨z,hz⟩:=hi;obtain⟨i,hi,_⟩:=Option.map_eq_some_iff.1 hz;refine L.va (v:=.chan (some w.heap.size)) (w':=w.alloc (.chan 0 #[] false 0 0 false)) (.j1 (I2 rfl _) rfl rfl fun τ d'=>?_) (k _ ((Below.refl _ _).alloc (Nat.le_refl _) _) (by unfold ChanAt;show(w.heap.push _)[_]? =_;simp) (by show(w.heap.push _).size=_;simp));have:=run_makeChan (P:=P) (w:=P2 w τ d') hT hi .i64 0 (by decide) (by simp);show _=Result.ok (Next.value (.chan (some (P2 w τ d').heap.size))) ((P2 w τ d').alloc (.chan 0 #[] false 0 0 false));simp only[execOp,hx];have h2:((0:Nat):Int)=0:=rfl;rw[h2]at this;simp[this]
section
variable {P:Program}{Post:Value->World->Prop}{X:Gh}{h n:Nat}{b:Frame}{cs:List Frame}{e:Env}{k:List Item}{w:World}
theorem ZA.freeze {bb:Nat} {cells:Array Value} {T:TypeId} {f:Nat×Nat} (hl:kf0 X bb) (hB:X1 w bb cells T (0,0)) (hz:ZA (Fin P Post (X.lower bb) h) n b cs e k (n2 w bb cells T f)):ZA (Fin P Post X h) n b cs e k w :=
 fun a ha=>Fin.freeze (f:=(0,0)) (f':=f) hl hB (fun i hi=>by unfold inR at hi;omega) (hz a ha)
def sh0 (X:Gh) (rb yb off:Nat):Gh:=⟨X.C2,Go.ConcN.upd X.stay 0 [(⟨rb,off-1,none⟩,.chan (some yb))],some ⟨rb,off⟩,X.J4.toList++X.old,X.w5,fun c=>X.chs c\/c=yb,fun k=>(X.low k\/k=yb)\/k=rb,X.L6,X.cap,X.pend,X.dn,X.n⟩
theorem ZA.begin {rb yb:Nat} {c8:Array Value} {T:TypeId} (rf0:X.cap=0) (hU:X.co0 rb) (hUy:X.co0 yb) (hpr:X.L6 rb= .all) (hpy:X.L6 yb= .all) (J8:ChanAt w yb) (hB:V0 w rb (c8 ++ #[.int .u64 0,.int .u32 0]) T) (h0:0<c8.size) (hy:c8[c8.size-1]? =some (.chan (some yb)))
  (hz:ZA (Fin P Post (sh0 X rb yb c8.size) 0) n b cs e k (n2 (l3 w yb nothing) rb c8 T (c8.size-1,c8.size))):ZA (Fin P Post X 0) n b cs e k w:=by
 have C3:yb≠rb:=by
  intro e;subst e;unfold ChanAt at J8;unfold V0 at hB;rw[J8]at hB;cases hB
 intro a ha;refine Fin.chan (b:=yb) (k:=0) (hUy.gp0 (Nat.le_refl _)) (fun hl=>absurd (hUy.low _ hl) (Nat.lt_irrefl _)) hpy J8 ?_;have hB1:(l3 w yb nothing).heap[rb]? =some (.cells (c8 ++ #[.int .u64 0,.int .u32 0]) T (0,0)):=by rw[N6 _ _ C3];exact hB
 refine Fin.Xa0 (f':=(c8.size-1,c8.size)) (b:=rb) rf0 ?_ ?_ hpr hB1 h0 ?_
 ·have hl:=hU.gp0 (Nat.le_refl rb);exact⟨hl.stay,hl.w5,fun h=>h.elim hl.chs fun h=>C3 h.symm,hl.J4⟩
 ·intro h;rcases h with h|h
  ·exact absurd (hU.low _ h) (Nat.lt_irrefl _)
  ·exact C3 h.symm
 have hB2:(l3 (l3 w yb nothing) rb (.cells c8 T (c8.size-1,c8.size))).heap[rb]? =some (.cells c8 T (c8.size-1,c8.size)):=G7 _ hB1;refine Fin.stay (l:=[(⟨rb,c8.size-1,none⟩,.chan (some yb))]) (fun p hp=>?_) (hz a ha);obtain rfl:p=(⟨rb,c8.size-1,none⟩,.chan (some yb)):=by simpa using hp
 exact⟨X1.cell (f:=(c8.size-1,c8.size)) hB2 hy,by rw[X1.frozen (f:=(c8.size-1,c8.size)) hB2];simp;omega⟩
end
end Go.Vy
end
section
namespace Go.Vy.Sc
open Go Go.Conc Go.Yc Go.RowKit Go.Proofs Go.Proofs.Ytgadhljgilblbaa Try
open Go.Vc Go.Wg
section
attribute [local irreducible] KK
noncomputable def El0:Code:=match Try.f54.body with|some (.seq _ (.block _ (.loop c)))=>c|_=>.skip
def sp0:Stp:=⟨0,0,0⟩
abbrev Q4 (cb rc:Nat):CB:=⟨cb,rc,sp0,.nilFunc,.nilFunc,0,false,false⟩
structure Yy0 (rb0 m:Nat) (ba:Option Addr) (fv:Nat->Value) (Bs:Nat) (Post:Value->World->Prop) (cs:List Frame) (J:Nat->Gh->Rn->World->Prop):Prop where
 sl:SL ba m
 fn:∀i,i<m->fv i= .nilFunc\/∃f fn caps,fv i= .func (.func f) #[] caps/\prog.funcs[f]? =some fn/\fn.body.isSome=true/\(fn.name== "runtime.NumGoroutine")=false
 mem:∀i X R w,J i X R w->D4 w Bs R/\R.rb=rb0/\R.cl.length=i/\R.m=m/\Bs <=w.heap.size/\X.co0 w.heap.size/\∀j,j<m->w.cell? ⟨ab ba,ao ba+j*1,none⟩=some (fv j)
 nil:∀i X R w w' a n cb rc,i<m->J i X R w->fv i= .nilFunc->w.heap.size <=cb->w.heap.size <=rc->Rg R.fp w.heap.size w w' Bs {R with ca:=a,cc:=n,cl:=R.cl ++ [Q4 cb rc],ends:=R.ends.set i 1}->J (i+1) (X.lower cb) {R with ca:=a,cc:=n,cl:=R.cl ++ [Q4 cb rc],ends:=R.ends.set i 1} w'
 go:∀i X R w w' a n cb rc,i<m->J i X R w->fv i≠.nilFunc->w.heap.size <=cb->w.heap.size <=rc->cb≠rc->ChanAt w' rc->Rg R.fp w.heap.size w w' Bs {R with ca:=a,cc:=n,cl:=R.cl ++ [Q4 cb rc]} ->
  X.J4=some ⟨rb0,8⟩/\X.pend=0/\X.cap<65536/\X.dn=0/\X.stay 0=[(⟨R.rb,7,none⟩,.chan (some R.yb))]/\(X.chs R.yb/\∀i s2,X.C2 i=some s2->s2.ch≠R.yb) /\
  ∀me0,(∀X' R' u v,J (i+1) X' R' u->Fin prog Post X' 0 (Go.Conc.served me0 v) u)->Fin prog Post (Gh.hire {X.lower cb with pend:=1,cap:=X.cap+1,dn:=0} ⟨R.yb,.i 0,me0⟩) X.n (born prog (dcall 82 #[.p cb,fv i])) w'
 fin:∀X R w,J m X R w->∀fr,fr.fn=54->Leaves prog fr w (.returned (.tuple #[]))->Fin prog Post X 0 (G fr cs) w
theorem fw1 (x0:Int) (x1:Option Addr) (x2:Option Nat):prog.built 197 [(0,.i x0),(1,.pointer x1),(2,.chan x2)]=some #[.i x0,.pointer x1,.chan x2,.i 0,.i 0,.i 0,.nilFunc,.nilFunc,.i 0,.bool false,.bool false]:=by kernel_rfl
set_option maxRecDepth 20000 in
theorem Lp0 {rb0 m:Nat} {ba:Option Addr} {fv:Nat->Value} {Bs:Nat} {Post:Value->World->Prop} {cs:List Frame} {J:Nat->Gh->Rn->World->Prop} (hE:Yy0 rb0 m ba fv Bs Post cs J) (hm1:m <=1000) {bc:Nat}:∀(k i:Nat),i+k=m->∀X R w1,J i X R w1->∀e:Env,e 0= .p rb0->e 7= .slice ba m bc->e 8= .i (m:Int)->e 9= .i (i:Int)->ZA (Fin prog Post X 0) 50 (base 54) cs e [.code El0,.inLoop El0,.inBlock 0] w1:=by
 intro k
 induction k with
 |zero=>
  intro i hk X R w1 hJ e s0 s7 s8 s9;obtain⟨hM,hrb,hlen,hRm,J5,hU,ef0⟩:=hE.mem _ _ _ _ hJ;letI:Ctx prog:=R2 prog true;refine U387 ?_;intro hZ hb;rw[<- hrb]at s0;refine U228 ?_;have hg:=hM.rg;refine U174 ?_;refine U336 ?_;refine ZA.done hZ ?_;obtain rfl:i=m:=by omega
  exact ZA.leaves (fn:=Try.f54) (f:=54) rfl func54 rfl (hE.fin X R w1 hJ)
 |succ k ih=>
  intro i hk X R w1 hJ e s0 s7 s8 s9;obtain⟨hM,hrb,hlen,hRm,J5,hU,ef0⟩:=hE.mem _ _ _ _ hJ;letI:Ctx prog:=R2 prog true;refine U387 ?_;intro hZ hb;rw[<- hrb]at s0;refine U228 ?_;have hg:=hM.rg;have D2:i<m:=by omega
  refine U174 ?_;refine U342 ?_;refine U117 ?_;refine L.va (K2 rfl) ?_;refine L.va (u4 (i:=i) rfl rfl underlying105 Vh0 hE.sl D2) ?_;refine L.va (B0 (v:=fv i) rfl underlying108 rfl (ef0 i D2)) ?_;refine L.va (gj0 rfl) ?_;refine L.va nb0 ?_;refine U173 ?_;refine L.va (K2 rfl) ?_;refine L.va (Y3 rfl) ?_;refine L.makeChan rfl underlying195 ⟨_,sz4⟩ (fun w2 D1 J8 fx1=>?_);obtain⟨rc,hrc⟩:∃rc,rc=w1.heap.size:=⟨_,rfl⟩
  have lrc:w1.heap.size <=rc:=Nat.le_of_eq hrc.symm;rw[<- hrc]at J8⊢;have hg:=hg.j0 D1;refine L.va (Z1 (parts:=[(0,.tmp 14),(1,.tmp 15),(2,.tmp 16)]) rfl (fw1 (i:Int) ((pt R.rb)) (some rc))) ?_;refine L.box (cs:=(Q4 0 rc).cells R.rb i) rfl rfl (fun w3 cb F=>?_);have lcb:w1.heap.size <=cb:=by have:=F.here;have:=D1.size;omega
  have C3:cb≠rc:=by have:=F.here;omega
  have hg:=hg.j0 F.below;have J8:=J8.j0 F.below;have hX:=G3 F.blk;have J5:=Nat.le_trans J5 (Nat.le_trans D1.size F.below.size);clear F D1;refine U379 ?_;have hfb:∀k,R.fp k->k≠cb:=fun k hk e=>by have:=hM.lt hk;omega
  refine ZA.freeze (f:=(0,3)) (hU.gp0 lcb) hX ?_;have hg:=hg.fresh ((Q4 0 rc).cells R.rb i) 197 (0,3) hfb lcb;have J8:ChanAt (n2 w3 cb ((Q4 0 rc).cells R.rb i) 197 (0,3)) rc:=J8.grown (N2 _ _ _ _ _) (fun r e=>by cases e;exact⟨_,_,_,hX⟩);have hX:X1 (n2 w3 cb ((Q4 0 rc).cells R.rb i) 197 (0,3)) cb ((Q4 cb rc).cells R.rb R.cl.length) 197 (0,3):=by rw[hlen];exact H5 hX _ _ _
  rw[<- m6 (w:=w3) (b:=cb) (cs:=(Q4 0 rc).cells R.rb i) (T:=197) (f:=(0,3))]at J5;generalize n2 w3 cb ((Q4 0 rc).cells R.rb i) 197 (0,3)=w at *;have hZ:Ctx.Zs prog (Fin prog Post (X.lower cb) 0):=j6;refine U36 ?_;refine U45 ?_;refine L.va (E0 rfl underlying162 rfl ut0 (by decide)) ?_;refine L.va (B0 rfl underlying152 rfl (hg.m.run.q0 0 (v:=.slice R.ca R.cl.length R.cc) rfl)) ?_;refine L.va (Y3 rfl) ?_;refine L.Q7 (cs:=#[.p cb]) rfl rfl underlying152 uq0 rfl ⟨_,Vg0⟩ (by decide) (fun w b25 F25=>?_);have J5:=Nat.le_trans J5 F25.below.size;have hg:=hg.j0 F25.below;have J8:=J8.j0 F25.below;have hX:=hX.j0 F25.below;have ko0:=F25.blk;have hX0:=hX;have hR:=hg.m.run;refine L.z6 (B:=Bs) (m:=1) rfl rfl underlying152 Kk0 rfl (by decide) hg.m.cls (news:=[.p cb]) rfl (fun j u hj=>by
   rw[Addr.add_lit]
   match j,hj with
   |0,hj=>cases hj;exact ko0.q0 0 rfl) (fun u hu=>by simp only[List.mem_cons,List.not_mem_nil,or_false]at hu;subst hu;rfl) (by omega) (by omega) J5 (fun a26 c26 w2 hO N3 hli=>?_)
  have J8:=J8.grown N3 (Rk0 hg.m.cls);have hX:=True.intro;have hR:=R3 hR N3 (A7 hg.m.cls (by decide));refine L.va (K1 rfl) ?_;refine L.va (E0 rfl underlying162 rfl ut0 (by decide)) ?_;refine L.lh1 hg (Q4 cb rc) hX0 (.inr lcb) (by rw[hlen,hRm];exact D2) N3 hO hli rfl rfl ut0 (fun w hg fy1=>?_);have J8:=J8.grown fy1 (fun r e=>by cases e;exact⟨_,_,_,hR⟩);clear fy1 N3 hO hli;refine U70 ?_;refine ZA.seq hZ ?_;by_cases ty0:fv i= .nilFunc
  ·refine ZA.W hZ hb ?_;refine U152 ?_;refine L.va (an0 (v:=fv i) (b:=true) rfl (.inl ⟨ty0,rfl⟩) rfl underlying108 ⟨_,_,_,rfl⟩) ?_;refine U243 ?_;refine U8 ?_;refine U338 ?_;refine L.va (E0 rfl underlying40 rfl O8 (by decide)) ?_;refine L.va (B0 rfl underlying23 rfl (hg.m.run.q0 3 (v:=.slice (pt R.eb) R.m R.m) rfl)) ?_;refine L.va (K2 rfl) ?_;refine L.va (o4 (i:=i) rfl rfl underlying23 c5 (by rw[hRm];exact D2)) ?_;refine L.stE (i:=i) hg (by show i<R.m;rw[hRm];exact D2) rfl rfl c5 (fun w hg N3=>?_);clear N3;refine U2 ?_;refine ZA.exit hZ rfl ?_;refine U166 ?_;exact ih (i+1) (by omega) _ _ w (hE.nil i X R w1 w _ _ cb rc D2 hJ ty0 lcb lrc hg) _ (by rw[<- hrb];rfl) rfl rfl rfl
  ·refine ZA.W hZ hb ?_;refine U152 ?_;obtain⟨f,fn,caps,hfv,hff,hbd,hnm⟩:=(hE.fn i D2).resolve_left ty0;refine L.va (an0 (v:=fv i) (b:=false) rfl (.inr ⟨_,_,_,hfv,rfl⟩) rfl underlying108 ⟨_,_,_,rfl⟩) ?_;refine U114 ?_;refine U108 ?_;obtain⟨Py0,Dl0,rf0,hdn,S4,hsh,hgo⟩:=hE.go i X R w1 w _ _ cb rc D2 hJ ty0 lcb lrc C3 J8 hg;refine ZA.upto hZ hb 3 rfl rfl (R:=fun e' w'=>ZA _ _ _ _ e' _ w') ?_ (fun _ _ h=>h);refine U367 ?_;refine U605 ?_;refine ZA.call (i:=3) (rest:=[]) hZ hb (f:=81) (args:=#[.pointer (some ⟨R.rb,8,none⟩),.i 1]) rfl rfl (W1 rfl rfl func81 rfl et1 rfl) (fun a ha=>?_);have hXe:X.lower cb={X.lower cb with dn:=0}:=by show X.lower cb={X.lower cb with dn:=0};cases X;simp only[Gh.lower]at hdn⊢;subst hdn;rfl
   rw[hXe,hrb];refine Fin.Qe0 (G:=⟨rb0,8⟩) (X:=X.lower cb) (K:=fun g'=>g'=_) Py0 Dl0 rf0 (fun g' Y8=>?_) _ _ _ (fn1 ⟨rb0,8⟩ (fun g'=>g'=_) rfl);subst Y8;refine ZA.home (i:=3) rfl rfl ha ?_;have hZ:Ctx.Zs prog (Fin prog Post {X.lower cb with pend:=1,cap:=(X.lower cb).cap+1,dn:=0} 0):=j6;refine U153 ?_;refine ZA.upto hZ hb 2 rfl rfl (R:=fun e' w'=>ZA _ _ _ _ e' _ w') ?_ (fun _ _ h=>h);refine U150 ?_;refine L.va ew0 ?_;refine U2 ?_;refine ZA.spawn (i:=2) (rest:=[]) (gr:=⟨rb0,8⟩) (vs:=#[.p cb,fv i]) (st:=[(⟨R.rb,7,none⟩,.chan (some R.yb))]) (K:=fun s=>s.ch=R.yb/\s.z= .i 0/\∀X' R' u v,J (i+1) X' R' u->Fin prog Post X' 0 (Go.Conc.served s.me v) u) (ft:=60) hb rfl (Wg.O9 (vl:=[.p cb,fv i]) rfl) rfl rfl Py0 S4 ?_ ?_ ?_
   ·have hY:=se0 (P:=prog) (main:=true) (l:=[((⟨R.rb,7,none⟩:Addr),Value.chan (some R.yb))]) (K:=fun s=>s.ch=R.yb/\s.z= .i 0/\∀X' R' u v,J (i+1) X' R' u->Fin prog Post X' 0 (Go.Conc.served s.me v) u);refine U362 ?_;refine U315 ?_;refine U294 ?_;refine S0.C2 (E:=3) (z:=.i 0) hb underlying151 zr3 rfl (fun me hs=>⟨rfl,rfl,?_⟩) rfl;intro X' R' w v hJ';refine hs.go ?_;have hZ:Ctx.Zs prog (Fin prog Post X' 0):=j6;refine U359 ?_;refine U166 ?_;exact ih (i+1) (by omega) X' R' w hJ' _ (by rw[<- hrb];rfl) rfl rfl rfl
   ·rintro s2 ⟨h1,_,_⟩;rw[h1];exact hsh
   ·rintro⟨ch,z,me⟩ ⟨h1,h2,h3⟩;cases h1;cases h2;exact hgo me h3
set_option maxRecDepth 20000 in
theorem Rp0 {rb0 m:Nat} {ba:Option Addr} {fv:Nat->Value} {Bs:Nat} {Post:Value->World->Prop} {cs:List Frame} {J:Nat->Gh->Rn->World->Prop} (hE:Yy0 rb0 m ba fv Bs Post cs J) (hm1:m <=1000) {bc:Nat} {X:Gh} {R:Rn} {w:World} (hJ:J 0 X R w):Fin prog Post X 0 (G (Frame.enter prog 54 #[.p rb0,.slice ba m bc] .normal) cs) w:=by
 obtain⟨hM,hrb,hlen,hRm,J5,hU,ef0⟩:=hE.mem _ _ _ _ hJ;letI:Ctx prog:=R2 prog true;refine U387 ?_;intro hZ hb;rw[enter_at _ func54 rfl];rw[<- hrb];have hg:=hM.rg;refine(?_:ZA (Fin prog Post X 0) 50 (base 54) cs (Vc.bf0 #[.p R.rb,.slice ba m bc]) [.code (Try.f54.body.getD .skip)] w) _ (l8 _ _ rfl);refine U8 ?_;refine U225 ?_;refine L.va (K2 rfl) ?_;refine U2 ?_;refine U371 ?_;exact Lp0 hE hm1 m 0 (by omega) X R w hJ _ (by rw[<- hrb];rfl) rfl rfl rfl
end
section
attribute [local irreducible] KK
noncomputable def Em0:Code:=match Try.f27.body with|some (.seq _ (.seq _ (.seq _ (.seq _ (.seq _ (.seq _ (.seq _ (.seq (.seq _ (.block _ (.loop c))) _))))))))=>c|_=>.skip
noncomputable def si0:Code:=match Try.f27.body with|some (.seq _ (.seq _ (.seq _ (.seq _ (.seq _ (.seq _ (.seq _ (.seq _ c))))))))=>c|_=>.skip
def rn0 (rb yb eb wb m:Nat):Rn:=⟨rb,yb,eb,wb,m,none,0,[],none,0,[],none,0,[],List.replicate m 0,List.replicate m sp0,false,0⟩
def W7 (e:Int) (n:Nat):Nat:=(e%(n:Int)).toNat
theorem kp0 (e:Int) {n:Nat} (hn:0<n):W7 e n<n:=by
 refine U642 ?_;intro h1 h2;unfold W7;omega
theorem fz1 (e:Int) {n:Nat} (hn:0<n):(e.tmod (n:Int)+(n:Int)).tmod (n:Int)=((W7 e n:Nat):Int):=by
 refine U642 ?_;intro h1 h2;have h3:-(n:Int)<e.tmod (n:Int):=by
  have:=Int.lt_tmod_of_pos e (b:=(n:Int)) (by omega);omega
 have h4:((W7 e n:Nat):Int)=e%(n:Int):=by unfold W7;omega
 rw[h4,Int.tmod_eq_emod_of_nonneg (by omega),Int.add_emod_right];rw[Int.tmod_eq_emod];split
 ·simp
 ·rw[Int.sub_emod,Int.emod_emod];have:(((n:Int).natAbs:Int))%(n:Int)=0:=by simp
  rw[this,Int.sub_zero,Int.emod_emod]
theorem Rq0 (e:Int) {n:Nat} (hn:0<n) (h:n <=1000):-1000 <=e.tmod (n:Int)/\e.tmod (n:Int) <=1000:=by
 have h1:=Int.lt_tmod_of_pos e (b:=(n:Int)) (by omega);have h2:=Int.tmod_lt_of_pos e (b:=(n:Int)) (by omega);omega
structure Lq0 (rb0 m sn tb:Nat) (ba sa:Option Addr) (fv:Nat->Value) (sc:Nat->Int) (Bs:Nat) (Post:Value->World->Prop) (JB J2 JE:Nat->Gh->Rn->World->Prop) (rr:Nat->Nat->Bool):Prop where
 beg:∀cs,(∀X R w,JB m X R w->∀fr,fr.fn=54->Leaves prog fr w (.returned (.tuple #[]))->Fin prog Post X 0 (G fr cs) w)->Yy0 rb0 m ba fv Bs Post cs JB
 b2s:∀X R w,JB m X R w->J2 0 X R w
 ssl:SL sa sn
 mem:∀n X R w,J2 n X R w->D4 w Bs R/\R.rb=rb0/\R.cl.length=m/\Bs <=w.heap.size/\R.evs.length <=1000000/\R.used <=1000000/\(∀(i:Nat) (c:CB),R.cl[i]? =some c->c.E2 <=1000000)/\∀j,j<sn->w.cell? ⟨ab sa,ao sa+j*1,none⟩=some (.i (sc j))
 j0:∀n X R w w',J2 n X R w->Below w.heap.size w w'->J2 n X R w'
 rdy:∀n X R w,J2 n X R w->∀(i:Nat) (c:CB),R.cl[i]? =some c->c.wt=true->@sd0 (R2 prog true) w c.rf (rr n i)
 pick:∀n X R w i c,J2 n X R w->n<sn->(rdl R.cl (rr n) m)[W7 (sc n) (rdl R.cl (rr n) m).length]? =some i->R.cl[i]? =some c->∃g z1 me1,g≠0/\X.C2 g=some ⟨c.rc,z1,me1⟩/\X.dn=0/\X.stay 0=[(⟨R.rb,7,none⟩,.chan (some R.yb))]/\(X.chs R.yb/\∀i s2,i≠g->X.C2 i=some s2->s2.ch≠R.yb) /\
  ∀w' a nn me0,Rg R.fp w.heap.size w w' Bs {R with ea:=a,ec:=nn,evs:=R.evs ++ [(i,c.sp)],used:=R.used+1,cl:=R.cl.set i {c with E2:=c.E2+1,wt:=false}}->(∀X' R' u v,J2 (n+1) X' R' u->Fin prog Post X' 0 (Go.Conc.served me0 v) u)->Fin prog Post (X.pass 0 g (some ⟨R.yb,.i 0,me0⟩)) g (Go.Conc.served me1 (.bool true)) w'
 toE:∀n X R w w' b,J2 n X R w->(n=sn\/rdl R.cl (rr n) m=[])->b=(R.cl.any (·.wt)&&(rdl R.cl (rr n) m).isEmpty)->Rg R.fp w.heap.size w w' Bs {R with stuck:=b}->JE 0 X {R with stuck:=b} w'
 en:∀ca cc cs,(∀X R w,JE m X R w->R.ca=ca->R.cc=cc->∀fr,fr.fn=58->Leaves prog fr w (.returned (.tuple #[]))->Fin prog Post {X with pend:=0,cap:=0,dn:=0} 0 (G fr cs) w)->Ro0 rb0 m ca cc Bs Post cs (fun i X R w=>JE i X R w/\R.ca=ca/\R.cc=cc)
 lk1:∀X R w,JE m X R w->D4 w Bs R/\R.rb=rb0/\X1 w tb #[.slice none 0 0,.slice none 0 0,.slice none 0 0,.slice none 0 0,.bool false,.i 0] 40 (0,0)
abbrev Rr0 (R:Rn):Value:=.agg #[.slice R.ea R.evs.length R.ec,.slice R.na R.j2.length R.nc,.slice (pt R.eb) R.m R.m,.slice (pt R.wb) R.m R.m,.bool R.stuck,.i (R.used:Int)]
structure Rs0 (m tb:Nat) (Post:Value->World->Prop) (cs:List Frame) (JE:Nat->Gh->Rn->World->Prop):Prop where
 ret:∀X R w w' fr,JE m X R w->w.grownBy w' (some tb)->fr.fn=27->Leaves prog fr w' (.returned (.tuple #[Rr0 R,.i 0]))->Fin prog Post {X with pend:=0,cap:=0,dn:=0} 0 (G fr cs) w'
theorem oc0 {Z:Goroutine->World->Prop} {n:Nat} {cs:List Frame} {e:Env} {w:World} {t u b:Nat} {T E:TypeId} {fn:Func} {f:FuncId} {cells:Array Value} {d:TypeDesc} {v:Value} (hf:prog.funcs[f]? =some fn) (hr:fn.results=#[.cell t T,.tmp u]) (he:e t= .p b) (hu0:e u=v) (hT:prog.underlying T=some d) (hu:cp0 d=false) (hB:V0 w b cells E) (hs:(prog.info? T).map (·.size)=some cells.size)
  (h:∀fr,fr.fn=f->Leaves prog fr w (.returned (.tuple #[.agg cells,v]))->Z (G fr cs) w):ZR Z n (base f) cs e w:=by
 intro todo a ha;letI:Ctx prog:=R2 prog true;have h1:ends prog fn (fun v' w'=>v'= .tuple #[.agg cells,v]/\w'=w) .ret e w:=ends.dq0 (.inr rfl) hr he hT hu hs hB ⟨by rw[hu0],rfl⟩;obtain⟨_,v',h2,h3,h4⟩:=h1;subst h3;refine h _ rfl ⟨rfl,ha.defers,rfl,fn,hf,?_⟩;exact h2 _ ha.get
noncomputable def Rt0:Code:=match si0 with| .seq _ (.seq _ c)=>c|_=>.skip
theorem Lr0 {l:List Nat} (n:Nat) (h:l.length=n:=by rfl):decide (((n:Nat):Int)=0)=l.isEmpty:=by
 subst h;cases l <;> simp
 omega
theorem Yz0 {cl:List CB} {r:Nat->Bool} {m j i:Nat} (h:(rdl cl r m)[j]? =some i):∃c,cl[i]? =some c:=by
 have:=List.mem_of_getElem? h;simp only[rdl,List.mem_filter,Bool.and_eq_true]at this;cases hc:cl[i]? with
 |none=>rw[hc]at this;simp at this
 |some c=>exact⟨c,rfl⟩
theorem Ls0 {cl:List CB} {r:Nat->Bool} {m j i:Nat} {c:CB} (h:(rdl cl r m)[j]? =some i) (hc:cl[i]? =some c):((rdl cl r m).map (La0 cl))[j]? =some (.p c.cb):=by
 rw[List.getElem?_map,h];simp[La0,hc]
set_option maxRecDepth 20000 in
theorem Ru0 {rb0 m sn tb:Nat} {ba sa:Option Addr} {fv:Nat->Value} {sc:Nat->Int} {Bs:Nat} {Post:Value->World->Prop} {cs:List Frame} {JB J2 JE:Nat->Gh->Rn->World->Prop} {rr:Nat->Nat->Bool} (hE:Lq0 rb0 m sn tb ba sa fv sc Bs Post JB J2 JE rr) (hT:Rs0 m tb Post cs JE) {X:Gh} {R:Rn} {w:World} (hJ:JE m X R w) {e:Env} {ops:Array Oper} (s6:e 6= .p rb0) (s4:e 4= .p tb):ZA (Fin prog Post {X with pend:=0,cap:=0,dn:=0} 0) 83 (base 27) cs e [.inRegion ops [],.code Rt0] w:=by
 obtain⟨hM,hrb,hT0⟩:=hE.lk1 _ _ _ hJ;letI:Ctx prog:=R2 prog true;have hZ:Ctx.Zs prog (Fin prog Post {X with pend:=0,cap:=0,dn:=0} 0):=j6;have hb:=P1 27;rw[<- hrb]at s6;rw[L0 s6,L0 s4];clear s6 s4;refine ZA.H4 hZ ?_;refine U8 ?_;refine U338 ?_;refine L.va (Q0 (cs:=[.slice R.ea R.evs.length R.ec,.slice R.na R.j2.length R.nc,.slice (pt R.eb) R.m R.m,.slice (pt R.wb) R.m R.m,.bool R.stuck,.i (R.used:Int)]) rfl underlying40 rfl da0 rfl (hM.run.B4 rfl)) ?_;refine L.put (b:=tb) (o:=0) (s:=6) (vs:=[.slice R.ea R.evs.length R.ec,.slice R.na R.j2.length R.nc,.slice (pt R.eb) R.m R.m,.slice (pt R.wb) R.m R.m,.bool R.stuck,.i (R.used:Int)]) #[.slice R.ea R.evs.length R.ec,.slice R.na R.j2.length R.nc,.slice (pt R.eb) R.m R.m,.slice (pt R.wb) R.m R.m,.bool R.stuck,.i (R.used:Int)] rfl rfl rfl da0 rfl rfl hT0 (Nat.le_of_ble_eq_true rfl) rfl (fun w2 hB N3 A2=>?_);refine U378 ?_;refine ZA.ret hZ ?_;exact oc0 (u:=5) (v:=.i 0) func27 rfl rfl rfl underlying40 rfl hB da0 (fun fr h8 h9=>hT.ret X R w w2 fr hJ N3 h8 h9)
set_option maxRecDepth 20000 in
theorem ux0 {rb0 m sn tb:Nat} {ba sa:Option Addr} {fv:Nat->Value} {sc:Nat->Int} {Bs:Nat} {Post:Value->World->Prop} {cs:List Frame} {JB J2 JE:Nat->Gh->Rn->World->Prop} {rr:Nat->Nat->Bool} (hE:Lq0 rb0 m sn tb ba sa fv sc Bs Post JB J2 JE rr) (hT:Rs0 m tb Post cs JE) (hm1:m <=16) (_hs1:sn <=1000000) {n:Nat} {X:Gh} {R:Rn} {w:World} (hJ:J2 n X R w) (hn:n=sn\/rdl R.cl (rr n) m=[]) {e:Env} (s6:e 6= .p rb0) (s4:e 4= .p tb):ZA (Fin prog Post X 0) 83 (base 27) cs e [.code si0] w:=by
 obtain⟨hM,hrb,hlen,J5,hev,hus,hpk,ef0⟩:=hE.mem _ _ _ _ hJ;letI:Ctx prog:=R2 prog true;refine U247 ?_;intro hZ hb;rw[<- hrb]at s6;rw[L0 s6,L0 s4];clear s6 s4;have hg:=hM.rg;refine U36 ?_;refine L.va (Y3 rfl) ?_;refine L.call (X4 rfl func57 rfl ks1 rfl) (Bq0 R Bs w hM (by omega)) ?_;rintro _ w1 ⟨rfl,hw⟩;refine U10 ?_;by_cases Rv0:R.cl.any (·.wt)=true
 ·rw[Rv0];refine U244 ?_;refine L.call (X4 rfl func55 rfl es1 rfl) (qf0 R Bs w hM (by omega) (rr n) (hE.rdy n X R w hJ)) ?_;rintro _ w2 ⟨la,lc,rfl,hO,D1⟩;rw[hlen];have hg:=hg.j0 D1;refine L.on rfl ?_;refine L.va (V4 rfl underlying152 rfl) ?_;refine L.on rfl ?_;refine L.va (S1 rfl rfl) ?_;refine L.va (e7 rfl) ?_;refine U615 ?_;refine L.stR (o:=5) (vs:=[.bool (decide ((((rdl R.cl (rr n) m).length:Nat):Int)=0))]) hg (decide ((((rdl R.cl (rr n) m).length:Nat):Int)=0)) R.used rfl rfl rfl sz4 rfl rfl (by decide) rfl (fun w hg N3=>?_);clear N3;refine U2 ?_;have hJE:=hE.toE n X R _ w _ hJ hn (by rw[Rv0,Bool.true_and];exact Lr0 _) hg;refine ZA.seq hZ ?_;refine ZA.upto hZ hb 1 rfl rfl (R:=fun e' w'=>ZA _ _ _ _ e' _ w') ?_ (fun _ _ h=>h);refine U150 ?_;refine U553 ?_;intro a ha;rw[hrb];refine Ek0 (hE.en R.ca R.cc _ (fun X' R' u hJ' hca hcc fr h8 h9=>?_)) (by omega) ⟨hJE,rfl,rfl⟩;exact U555
 ·rw[show R.cl.any (·.wt)=false by simpa using Rv0];refine U376 ?_;refine L.va (O6 rfl) ?_;refine U615 ?_;refine L.stR (o:=5) (vs:=[.bool false]) hg false R.used rfl rfl rfl sz4 rfl rfl (by decide) rfl (fun w hg N3=>?_);clear N3;refine U2 ?_;have hJE:=hE.toE n X R _ w _ hJ hn (by rw[show R.cl.any (·.wt)=false by simpa using Rv0];rfl) hg;refine ZA.seq hZ ?_;refine ZA.upto hZ hb 1 rfl rfl (R:=fun e' w'=>ZA _ _ _ _ e' _ w') ?_ (fun _ _ h=>h);refine U150 ?_;refine U553 ?_;intro a ha;rw[hrb];refine Ek0 (hE.en R.ca R.cc _ (fun X' R' u hJ' hca hcc fr h8 h9=>?_)) (by omega) ⟨hJE,rfl,rfl⟩;exact U555
set_option maxRecDepth 20000 in
theorem Lt0 {rb0 m sn tb:Nat} {ba sa:Option Addr} {fv:Nat->Value} {sc:Nat->Int} {Bs:Nat} {Post:Value->World->Prop} {cs:List Frame} {JB J2 JE:Nat->Gh->Rn->World->Prop} {rr:Nat->Nat->Bool} (hE:Lq0 rb0 m sn tb ba sa fv sc Bs Post JB J2 JE rr) (hT:Rs0 m tb Post cs JE) (hm1:m <=16) (hs1:sn <=1000000) {scp:Nat}:∀(k n:Nat),n+k=sn->∀X R w,J2 n X R w->∀e:Env,e 6= .p rb0->e 39= .slice sa sn scp->e 40= .i (sn:Int)->e 41= .i (n:Int)->e 4= .p tb->e 1= .slice sa sn scp->ZA (Fin prog Post X 0) 83 (base 27) cs e [.code Em0,.inLoop Em0,.inBlock 0,.code si0] w:=by
 intro k
 induction k with
 |zero=>
  intro n hk X R w hJ e s6 s39 s40 s41 s4 s1;obtain⟨hM,hrb,hlen,J5,hev,hus,hpk,ef0⟩:=hE.mem _ _ _ _ hJ;letI:Ctx prog:=R2 prog true;refine U247 ?_;intro hZ hb;rw[<- hrb]at s6;refine U548 ?_;refine U174 ?_;refine U336 ?_;obtain rfl:n=sn:=by omega
  exact ux0 hE hT hm1 hs1 hJ (.inl rfl) (by rw[<- hrb];rfl) rfl
 |succ k ih=>
  intro n hk X R w hJ e s6 s39 s40 s41 s4 s1;obtain⟨hM,hrb,hlen,J5,hev,hus,hpk,ef0⟩:=hE.mem _ _ _ _ hJ;letI:Ctx prog:=R2 prog true;refine U247 ?_;intro hZ hb;rw[<- hrb]at s6;refine U548 ?_;have D2:n<sn:=by omega
  refine U174 ?_;refine U342 ?_;refine U117 ?_;refine L.va (u4 (i:=n) rfl rfl underlying23 c5 hE.ssl D2) ?_;refine L.va (B0 (v:=.i (sc n)) rfl underlying3 rfl (ef0 n D2)) ?_;refine U378 ?_;refine U36 ?_;refine L.call (X4 rfl func55 rfl es1 rfl) (qf0 R Bs w hM (by omega) (rr n) (hE.rdy n X R w hJ)) ?_;rintro _ w2 ⟨la,lc,rfl,hO,D1⟩;rw[hlen]at hO⊢;have hJ:=hE.j0 n X R w w2 hJ D1;clear hM J5 ef0 D1;clear hev hus hpk;obtain⟨hM,_,_,J5,hev,hus,hpk,ef0⟩:=hE.mem _ _ _ _ hJ;refine L.va (nc0 rfl) ?_;refine U70 ?_;refine U8 ?_;refine U619 ?_;refine L.va (S1 rfl rfl) ?_;refine U2 ?_;by_cases hnl:(rdl R.cl (rr n) m).length=0
  ·refine ZA.Y5 hZ (rb (decide_eq_true (by omega))) ?_;refine ZA.exit hZ rfl ?_;exact ux0 hE hT hm1 hs1 hJ (.inr (List.eq_nil_of_length_eq_zero hnl)) (by rw[<- hrb];rfl) rfl
  ·refine ZA.G5 hZ (rb (decide_eq_false (by omega))) ?_;refine ZA.skip hZ ?_;refine U8 ?_;refine U619 ?_;refine U378 ?_;have hln:(rdl R.cl (rr n) m).length <=16:=Nat.le_trans (Bo0 m) hm1;have htb:=Rq0 (sc n) (n:=(rdl R.cl (rr n) m).length) (by omega) (by omega);have hpl:=kp0 (sc n) (n:=(rdl R.cl (rr n) m).length) (by omega);obtain⟨i,hi⟩:∃i,(rdl R.cl (rr n) m)[W7 (sc n) (rdl R.cl (rr n) m).length]? =some i:=⟨_,List.getElem?_eq_getElem hpl⟩
   obtain⟨c,hc⟩:=Yz0 hi;refine ZA.upto hZ hb 11 rfl rfl (R:=fun e' w'=>ZA _ _ _ _ e' _ w') ?_ (fun _ _ h=>h);refine U150 ?_;refine U56 ?_;refine L.va (K2 rfl) ?_;refine L.va (pw0 rfl rfl (by omega)) ?_;refine L.va (K2 rfl) ?_;refine L.va (ex0 rfl rfl (by omega)) ?_;refine L.va (K2 rfl) ?_;refine L.va (v:=.i ((W7 (sc n) (rdl R.cl (rr n) m).length:Nat):Int)) (by rw[<- fz1 (sc n) (n:=(rdl R.cl (rr n) m).length) (by omega)];exact pw0 rfl rfl (by omega)) ?_;refine L.va (u4 (i:=W7 (sc n) (rdl R.cl (rr n) m).length) rfl rfl underlying152 uq0 hO.sl hpl) ?_;refine L.va (B0 (v:=.p c.cb) rfl underlying106 rfl (by rw[hO.off,Nat.zero_add,Nat.mul_one];exact hO.cell (Ls0 hi hc))) ?_;refine U2 ?_;obtain⟨g,z1,me1,X9,hX0,hdn,S4,hsh,N7⟩:=hE.pick n X R w2 i c hJ D2 hi hc;refine ZA.call (i:=11) (rest:=[]) hZ hb (f:=56) (args:=#[.p R.rb,.p c.cb]) rfl rfl (W1 rfl rfl func56 rfl kr1 rfl) (fun a ha=>?_);refine Lm0 hM.rg J5 hc hev (hpk i c hc) hus X9 hX0 hdn S4 hsh (fun w' a' nn me0 hg hme=>N7 w' a' nn me0 hg (fun X' R' u v hJ'=>hme _ j6 u v fun fr h8 h9=>?_));refine ZA.back (di0 prog Post X' 0) (i:=11) rfl rfl ha h9 ?_;have hZ:Ctx.Zs prog (Fin prog Post X' 0):=j6;refine U359 ?_;refine U166 ?_;exact ih (n+1) (by omega) X' R' u hJ' _ (by rw[<- hrb];rfl) rfl rfl rfl rfl rfl
end
section
attribute [local irreducible] KK
theorem Lu0 (m:Nat):(Array.replicate (m*1) (Value.i 0))=((List.replicate m (0:Int)).map (Value.int .i64)).toArray:=by
 rw[Nat.mul_one];apply Array.toList_inj.1;simp
theorem Lv0 (m:Nat):(Array.replicate (m*3) (Value.i 0))=((List.replicate m sp0).flatMap spC).toArray:=by
 apply Array.toList_inj.1;simp only[Array.toList_replicate]
 induction m with
 |zero=>rfl
 |succ m ih=>
  rw[List.replicate_succ,List.flatMap_cons,<- ih,Nat.succ_mul,Nat.add_comm (m*3) 3,<- List.replicate_append_replicate];rfl
structure Vw0 (w0 w:World) (rb yb eb wb tb m:Nat):Prop where
 mem:D4 w w0.heap.size (rn0 rb yb eb wb m)
 low:Below w0.heap.size w0 w
 le:w0.heap.size <=rb/\w0.heap.size <=yb/\w0.heap.size <=eb/\w0.heap.size <=wb/\w0.heap.size <=tb
 yb:w.heap[yb]? =some nothing
 tb:X1 w tb #[.slice none 0 0,.slice none 0 0,.slice none 0 0,.slice none 0 0,.bool false,.i 0] 40 (0,0)
theorem ga1 (x0:Option Nat):prog.built 162 [(2,.chan x0)]=some #[.slice none 0 0,.slice none 0 0,.slice none 0 0,.slice none 0 0,.slice none 0 0,.bool false,.i 0,.chan x0,.int .u64 0,.int .u32 0]:=by kernel_rfl
set_option maxRecDepth 20000 in
theorem Rw0 {ba sa:Option Addr} {m bc sn scp:Nat} {fv:Nat->Value} {sc:Nat->Int} {Post:Value->World->Prop} {cs:List Frame} {X:Gh} {w0:World} (hm1:m <=16) (hs1:sn <=262144) (hU:X.co0 w0.heap.size) (hpl:∀b,w0.heap.size <=b->X.L6 b= .all) (rf0:X.cap=0)
  (gb1:∀w4 rb yb eb wb tb,Vw0 w0 w4 rb yb eb wb tb m->∃JB J2 JE rr,Lq0 rb m sn tb ba sa fv sc w0.heap.size Post JB J2 JE rr/\Rs0 m tb Post cs JE/\JB 0 (sh0 X rb yb 8) (rn0 rb yb eb wb m) w4) :
  Fin prog Post X 0 (G (Frame.enter prog 27 #[.slice ba m bc,.slice sa sn scp] .normal) cs) w0:=by
 letI:Ctx prog:=R2 prog true;refine U247 ?_;intro hZ hb;rw[enter_at _ func27 rfl];refine(?_:ZA (Fin prog Post X 0) 83 (base 27) cs (Vc.bf0 #[.slice ba m bc,.slice sa sn scp]) [.code (Try.f27.body.getD .skip)] w0) _ (l8 _ _ rfl);have hb0:Below w0.heap.size w0 w0:=Below.refl _ _;refine U8 ?_;refine L.alloc (cs:=#[.slice none 0 0,.slice none 0 0,.slice none 0 0,.slice none 0 0,.bool false,.i 0]) Ki0 rfl (fun w b4 F4=>?_);have lt4:=F4.lq hb0.size;have hb0:=O0 hb0 F4.below;have B1:=F4.blk;refine L.va (gj0 rfl) ?_;refine U70 ?_;refine U8 ?_;refine U225 ?_;refine L.va (it0 rfl rfl) ?_;refine U628 ?_;refine U108 ?_;refine U8 ?_;refine U41 ?_;refine L.va (it0 rfl rfl) ?_;refine U628 ?_;refine ZA.skip hZ ?_;refine U8 ?_;refine L.makeChan rfl underlying151 ⟨_,c5⟩ (fun w1 D1 J8 Za0=>?_);obtain⟨yb,hyb⟩:∃yb,yb=w.heap.size:=⟨_,rfl⟩
 have Zb0:w0.heap.size <=yb:=by rw[hyb];exact hb0.size
 rw[<- hyb]at J8⊢;have hb0:=O0 hb0 D1;have B1:=B1.j0 D1;clear D1 Za0 hyb
 rename World=>w
 refine L.va (Z1 (parts:=[(2,.tmp 19)]) rfl (ga1 (some yb))) ?_;refine L.box (cs:=#[.slice none 0 0,.slice none 0 0,.slice none 0 0,.slice none 0 0,.slice none 0 0,.bool false,.i 0,.chan (some yb),.int .u64 0,.int .u32 0]) rfl rfl (fun w b21 F21=>?_);have Lw0:=F21.lq hb0.size;have hb0:=O0 hb0 F21.below;have B1:=B1.j0 F21.below;have J8:=J8.j0 F21.below;have cg0:=F21.blk;refine U379 ?_;refine U36 ?_;refine U225 ?_;refine L.make (m:=m) rfl rfl underlying23 in3 (z0:=.i 0) rfl (by decide) (by omega) (by omega) (fun w b25 F25=>?_);have ll1:=F25.lq hb0.size;have hb0:=O0 hb0 F25.below;have B1:=B1.j0 F25.below;have J8:=J8.j0 F25.below;have cg0:=cg0.j0 F25.below;have ko0:=F25.blk;have ko0:V0 w b25 (Array.replicate (m*1) (.i 0)) 3:=ko0;refine U138 ?_;refine L.va (E0 rfl underlying40 rfl O8 (by decide)) ?_;refine L.pu 3 [.slice (pt b25) m m] #[.slice none 0 0,.slice none 0 0,.slice none 0 0,.slice (pt b25) m m,.slice none 0 0,.bool false,.i 0,.chan (some yb),.int .u64 0,.int .u32 0] O8 cg0 (fun w G0 hg A2=>?_);refine U603 ?_;intro B1 J8;have ko0:=ko0.other hg (V0.ne ko0 cg0 (by decide));have hb0:=G4 hb0 hb0.size hg Lw0;have Y1:=True.intro;have cg0:=G0;clear Y1;refine U2 ?_;refine U36 ?_;refine U225 ?_;refine L.make (m:=m) rfl rfl underlying38 dz1 (z0:=.i 0) rfl (by decide) (by omega) (by omega) (fun w b32 F32=>?_);have Rx0:=F32.lq hb0.size;have hb0:=O0 hb0 F32.below;have B1:=B1.j0 F32.below;have J8:=J8.j0 F32.below;have cg0:=cg0.j0 F32.below;have ko0:=ko0.j0 F32.below;have ga0:=F32.blk;have ga0:V0 w b32 (Array.replicate (m*3) (.i 0)) 77:=ga0;refine U138 ?_;refine L.va (E0 rfl underlying40 rfl Gm0 (by decide)) ?_;refine L.pu 4 [.slice (pt b32) m m] #[.slice none 0 0,.slice none 0 0,.slice none 0 0,.slice (pt b25) m m,.slice (pt b32) m m,.bool false,.i 0,.chan (some yb),.int .u64 0,.int .u32 0] Gm0 cg0 (fun w G0 hg A2=>?_);refine U603 ?_;intro B1 J8;have ko0:=ko0.other hg (V0.ne ko0 cg0 (by decide));have ga0:=ga0.other hg (V0.ne ga0 cg0 (by decide));have hb0:=G4 hb0 hb0.size hg Lw0;have Y1:=True.intro;have cg0:=G0;clear Y1;refine U2 ?_;have cg0:V0 w b21 (#[.slice none 0 0,.slice none 0 0,.slice none 0 0,.slice (pt b25) m m,.slice (pt b32) m m,.bool false,.i 0,.chan (some yb)] ++ #[.int .u64 0,.int .u32 0]) 162:=cg0;have C3:yb≠b21:=fun e=>by subst e;unfold ChanAt at J8;unfold V0 at cg0;rw[J8]at cg0;cases cg0
 refine ZA.begin rf0 (hU.mono Lw0) (hU.mono Zb0) (hpl _ Lw0) (hpl _ Zb0) J8 cg0 (Nat.zero_lt_succ _) rfl ?_;show ZA (Fin prog Post (sh0 X b21 yb 8) 0) _ _ _ _ _ (n2 (l3 w yb nothing) b21 _ _ (7,8));have hX:X.co0 w0.heap.size:=hU;have hap:∀(b:Nat) (cs:Array Value) (T:TypeId),V0 w b cs T->T≠162->X1 (n2 (l3 w yb nothing) b21 #[.slice none 0 0,.slice none 0 0,.slice none 0 0,.slice (pt b25) m m,.slice (pt b32) m m,.bool false,.i 0,.chan (some yb)] 162 (7,8)) b cs T (0,0):=fun b cs T h hT=>by
  have h1:b≠b21:=V0.ne h cg0 hT;have h2:yb≠b:=fun e=>by subst e;unfold ChanAt at J8;unfold V0 at h;rw[J8]at h;cases h
  unfold X1;rw[j8 h1,N6 _ _ h2];exact h
 have lm1:Vw0 w0 (n2 (l3 w yb nothing) b21 #[.slice none 0 0,.slice none 0 0,.slice none 0 0,.slice (pt b25) m m,.slice (pt b32) m m,.bool false,.i 0,.chan (some yb)] 162 (7,8)) b21 yb b25 b32 b4 m:=by
  have A2:b21<(l3 w yb nothing).heap.size:=by have:=cg0.lt;simpa [l3]using this
  refine⟨⟨?_,Own.nil _ _ _ _,Own.nil _ _ _ _,Own.nil _ _ _ _,?_,?_,by simp[rn0],by simp[rn0],Nat.zero_le _,fun i c hc=>by simp[rn0]at hc⟩,⟨hb0.os,hb0.tape,hb0.output,by rw[m6];simpa [l3]using hb0.size,fun k hk=>?_⟩,⟨Lw0,Zb0,ll1,Rx0,lt4⟩,?_,hap _ _ _ B1 (by decide)⟩
  ·simp[X1,n2,A2,rn0,Rn.cells]
  ·have:=hap _ _ _ ko0 (by decide);rw[Lu0]at this;exact this
  ·have:=hap _ _ _ ga0 (by decide);rw[Lv0]at this;exact this
  ·rw[j8 (by omega),N6 _ _ (by omega)];exact hb0.block k hk
  ·rw[j8 C3];exact G7 w J8
 obtain⟨JB,J2,JE,rr,hE,hT,hJ0⟩:=gb1 _ _ _ _ _ _ lm1;generalize n2 (l3 w yb nothing) b21 #[.slice none 0 0,.slice none 0 0,.slice none 0 0,.slice (pt b25) m m,.slice (pt b32) m m,.bool false,.i 0,.chan (some yb)] 162 (7,8)=w4 at *;have hZ:Ctx.Zs prog (Fin prog Post (sh0 X b21 yb 8) 0):=j6;refine ZA.seq hZ ?_;refine ZA.upto hZ hb 2 rfl rfl (R:=fun e' w'=>ZA _ _ _ _ e' _ w') ?_ (fun _ _ h=>h);refine U150 ?_;refine L.va (w7 rfl) ?_;refine U2 ?_;refine ZA.call (i:=2) (rest:=[]) hZ hb (f:=54) (args:=#[.p b21,.slice ba m bc]) rfl rfl (W1 rfl rfl func54 rfl kq1 rfl) (fun a ha=>?_);refine Rp0 (hE.beg _ (fun X' R' u hJ' fr h8 h9=>?_)) (by omega) hJ0;have hZ:Ctx.Zs prog (Fin prog Post X' 0):=j6;refine ZA.back (di0 prog Post X' 0) (i:=2) rfl rfl ha h9 ?_;refine U153 ?_;refine U8 ?_;refine U41 ?_;refine L.va (K2 rfl) ?_;refine U2 ?_;refine U371 ?_;exact Lt0 hE hT hm1 (by omega) sn 0 (by omega) X' R' u (hE.b2s _ _ _ hJ') _ rfl rfl rfl rfl rfl rfl
end
end Go.Vy.Sc
end
section
namespace Go.Vy.Sc
open Go Go.Conc Go.Yc Go.RowKit Go.Proofs Go.Proofs.Ytgadhljgilblbaa Try
open Go.Vc Go.Wg
attribute [local irreducible] KK
structure Sys where
 S:Type
 L:Type
 m:Nat
 s0:S
 nil:Nat->Bool
 stp:Nat->L->Stp
 rdy:Nat->L->S->Bool
 beg:Nat->S->dt0 S L
 go:Nat->L->S->dt0 S L
 le:Nat->Gm->Gm->Prop
 Inv:S->Gm->World->(Nat->Prop)->Prop
 lb:Nat
 pl:Nat->p7
structure PR (Y:Sys) where
 s:Y.S
 ft:List (Y.L ⊕ Nat)
 evs:List (Nat×Stp)
 j2:List (Nat×Nat×Nte)
 outs:List (dt0 Y.S Y.L)
 who:List (Option Nat)
 used:Nat
def tell (i n:Nat) (l:List Nte):List (Nat×Nat×Nte):=l.map fun k=>(n,i,k)
namespace Sys
section
variable (Y:Sys)
def p0:PR Y:=⟨Y.s0,[],[],[],[],[],0⟩
def bgn (p:PR Y):PR Y:=if Y.nil p.ft.length then{p with ft:=p.ft ++ [.inr 1]} else
 {p with s:=(Y.beg p.ft.length p.s).s,ft:=p.ft ++ [(Y.beg p.ft.length p.s).W3],j2:=p.j2++tell p.ft.length p.evs.length (Y.beg p.ft.length p.s).j2,outs:=p.outs ++ [Y.beg p.ft.length p.s],who:=p.who ++ [none]}
def N4:Nat->PR Y
 |0=>Y.p0
 |n+1=>Y.bgn (N4 n)
def o5 (p:PR Y) (i:Nat):PR Y:=match p.ft[i]? with
 |some (.inl l)=>{p with s:=(Y.go i l p.s).s,ft:=p.ft.set i (Y.go i l p.s).W3,evs:=p.evs ++ [(i,Y.stp i l)],j2:=p.j2++tell i (p.evs.length+1) (Y.go i l p.s).j2,outs:=p.outs ++ [Y.go i l p.s],who:=p.who ++ [some i],used:=p.used+1}
 |_=>p
def j9 (p:PR Y) (i:Nat):Bool:=match p.ft[i]? with
 |some (.inl l)=>Y.rdy i l p.s
 |_=>false
def rds (p:PR Y):List Nat:=(List.range Y.m).filter (Y.j9 p)
def step (p:PR Y) (e:Int):PR Y:=match(Y.rds p)[W7 e (Y.rds p).length]? with
 |some i=>Y.o5 p i
 |none=>p
def pn (sc:Nat->Int):Nat->PR Y
 |0=>Y.N4 Y.m
 |n+1=>Y.step (pn sc n) (sc n)
def o0:dt0 Y.S Y.L:=⟨Y.s0,[],.inr 0⟩
def W4 (q:PR Y) (t:Nat):dt0 Y.S Y.L:=(q.outs[t]?).getD Y.o0
def sAt (q:PR Y):Nat->Y.S
 |0=>Y.s0
 |t+1=>(Y.W4 q t).s
def E2 (q:PR Y) (i t:Nat):Nat:=(q.who.take (t+1)).count (some i)
structure Le (p q:PR Y):Prop where
 outs:p.outs <+: q.outs
 who:p.who <+: q.who
theorem Le.refl (p:PR Y):Y.Le p p:=⟨List.prefix_refl _,List.prefix_refl _⟩
variable {Y}
theorem Le.trans {p q r:PR Y} (h:Y.Le p q) (h':Y.Le q r):Y.Le p r:=⟨h.outs.trans h'.outs,h.who.trans h'.who⟩
theorem Zc0 (p:PR Y):Y.Le p (Y.bgn p):=by
 unfold bgn;split
 ·exact⟨List.prefix_refl _,List.prefix_refl _⟩
 ·exact⟨List.prefix_append _ _,List.prefix_append _ _⟩
theorem Ry0 (p:PR Y) (i:Nat):Y.Le p (Y.o5 p i):=by
 unfold o5;split
 ·exact⟨List.prefix_append _ _,List.prefix_append _ _⟩
 ·exact Le.refl Y p
theorem le_step (p:PR Y) (e:Int):Y.Le p (Y.step p e):=by
 unfold step;split
 ·exact Ry0 p _
 ·exact Le.refl Y p
theorem Rz0 {n k:Nat}:Y.Le (Y.N4 n) (Y.N4 (n+k)):=by
 induction k with
 |zero=>exact Le.refl Y _
 |succ k ih=>exact ih.trans (Zc0 _)
theorem Vx0 {sc:Nat->Int} {n k:Nat}:Y.Le (Y.pn sc n) (Y.pn sc (n+k)):=by
 induction k with
 |zero=>exact Le.refl Y _
 |succ k ih=>exact ih.trans (le_step _ _)
structure Ok (p:PR Y):Prop where
 s:p.s=Y.sAt p p.outs.length
 who:p.who.length=p.outs.length
 used:p.evs.length=p.used
theorem Zd0 {p q:PR Y} (h:Y.Le p q) {t:Nat} (ht:t <=p.outs.length):Y.sAt q t=Y.sAt p t:=by
 cases t with
 |zero=>rfl
 |succ t=>
  obtain⟨l,hl⟩:=h.outs;show(Y.W4 q t).s=(Y.W4 p t).s;unfold W4;rw[<- hl,List.getElem?_append_left (by omega)]
theorem gc1:Ok (Y.p0):=⟨rfl,rfl,rfl⟩
theorem En0 (p:PR Y) (o:dt0 Y.S Y.L) {q:PR Y} (hq:q.outs=p.outs ++ [o]):Y.sAt q (p.outs.length+1)=o.s:=by
 show(Y.W4 q p.outs.length).s=o.s;unfold W4;rw[hq];simp
theorem Ok.bgn {p:PR Y} (h:Ok p):Ok (Y.bgn p):=by
 unfold Sys.bgn;split
 ·exact⟨h.s,h.who,h.used⟩
 ·refine⟨?_,by simp[h.who],h.used⟩;simp only[List.length_append,List.length_cons,List.length_nil,Nat.zero_add];exact(En0 p _ rfl).symm
theorem Ok.o5 {p:PR Y} (h:Ok p) (i:Nat):Ok (Y.o5 p i):=by
 unfold Sys.o5;split
 ·refine⟨?_,by simp[h.who],by simp[h.used]⟩;simp only[List.length_append,List.length_cons,List.length_nil,Nat.zero_add];exact(En0 p _ rfl).symm
 ·exact h
theorem Ok.step {p:PR Y} (h:Ok p) (e:Int):Ok (Y.step p e):=by
 unfold Sys.step;split
 ·exact h.o5 _
 ·exact h
theorem sj0:∀n,Ok (Y.N4 n)
 |0=>gc1
 |n+1=>(sj0 n).bgn
theorem uy0 (sc:Nat->Int):∀n,Ok (Y.pn sc n)
 |0=>sj0 _
 |n+1=>(uy0 sc n).step _
theorem Sa0 {p q:PR Y} (h:Ok p) (hl:Y.Le p q):Y.sAt q p.outs.length=p.s:=by rw[Zd0 hl (Nat.le_refl _),h.s]
theorem Lx0 {p q:PR Y} {o:dt0 Y.S Y.L} {p':PR Y} (hp:p'.outs=p.outs ++ [o]) (hl:Y.Le p' q):Y.W4 q p.outs.length=o:=by
 obtain⟨l,hl⟩:=hl.outs;unfold W4;rw[<- hl,hp,List.append_assoc,List.getElem?_append_right (Nat.le_refl _)];simp
theorem S5:∀n,(Y.N4 n).ft.length=n
 |0=>rfl
 |n+1=>by
  show(Y.bgn (Y.N4 n)).ft.length=n+1;unfold bgn;split <;> simp[S5 n]
theorem Ly0 (p:PR Y) (i:Nat):(Y.o5 p i).ft.length=p.ft.length:=by
 unfold o5;split <;> simp
theorem Lz0 (p:PR Y) (e:Int):(Y.step p e).ft.length=p.ft.length:=by
 unfold step;split
 ·exact Ly0 p _
 ·rfl
def Reach (Y:Sys) (p:PR Y):Prop:=(∃n,n <=Y.m/\p=Y.N4 n)\/∃sc n,p=Y.pn sc n
theorem w8 (sc:Nat->Int):∀n,(Y.pn sc n).ft.length=Y.m
 |0=>S5 _
 |n+1=>(Lz0 _ _).trans (w8 sc n)
end
end Sys
structure LeOk (Y:Sys):Prop where
 refl:∀i a,Y.le i a a
 trans:∀i a b c,Y.le i a b->Y.le i b c->Y.le i a c
noncomputable def Sys.cfg (Y:Sys) (fb:Nat->FuncId) (q:PR Y) (w0:World) (i cb:Nat) (top:List Frame):N9 prog where
 S:=Y.S
 L:=Y.L
 stp:=Y.stp i
 rdy:=Y.rdy i
 go:=Y.go i
 out:=Y.W4 q
 R5:=Y.sAt q
 E2:=Y.E2 q i
 le:=Y.le i
 gu:=fun a b=>∀j,j≠i->Y.le j a b
 Inv:=Y.Inv
 At:=fun t l=>t <=300000/\∃p:PR Y,Y.Reach p/\p.outs.length=t/\p.s=Y.sAt q t/\p.ft[i]? =some (.inl l)
 BAt:=fun t=>t <=300000/\∃p:PR Y,Y.Reach p/\p.outs.length=t/\p.s=Y.sAt q t/\p.ft.length=i
 num:=i
 ptr:=cb
 base:=w0
 lk0:=97
 Vf0:=none
 j7:=53
 Jy0:=none
 Jz0:=fb i
 top:=top
structure Geo where
 gm:Gm
 gi:Nat->Nat
 ab:Nat->Nat
 eb:Nat->Nat
 top:Nat->List Frame
 pv:Nat->Nat->Prop
section
variable (Y:Sys)(fb:Nat->FuncId)(q:PR Y)(w0:World)(Γ:Geo)(X:Gh)(R:Rn)(w:World)
structure Wt (j:Nat) (c:CB) (l:Y.L):Prop where
 wt:c.wt=true
 st:c.st=false
 sp:c.sp=Y.stp j l
 he:X1 w (Γ.eb j) #[.bool false] 4 (0,0)
 node:∃(me:Goroutine) (cs:List Frame) (wn:World) (mn:Gm) (Fn:Nat->Prop) (Rdo:World->World->Prop),X.C2 (Γ.gi j)=some ⟨c.rc,.bool false,me⟩/\oa0 cs c.cb c.df me/\(Y.cfg fb q w0 j c.cb (Γ.top j)).du0 wn mn Fn c.rf l/\FnV prog c.df /\
  (∀b,Γ.pv j b↔b<wn.heap.size/\wn.heap[b]? ≠some nothing/\¬Fn b)/\(∀b,Γ.pv j b->w.heap[b]? =wn.heap[b]?)/\wn.os=w0.os/\wn.output=w0.output/\wn.heap.size <=w.heap.size/\Y.le j mn Γ.gm /\
  (∀u F',(Y.cfg fb q w0 j c.cb (Γ.top j)).Goes wn mn Fn l u F'->Gh0 prog (Y.cfg fb q w0 j c.cb (Γ.top j)).S7 c.df u (Rdo u)) /\
  (∀u F' u2,(Y.cfg fb q w0 j c.cb (Γ.top j)).Goes wn mn Fn l u F'->Rdo u u2->u2.tape=u.tape->∀fr,fr.fn=97->Leaves prog fr u2 (.returned (.tuple #[]))->o9 (Y.cfg fb q w0 j c.cb (Γ.top j)) (G fr cs) u2) /\
  (∀u F',(Y.cfg fb q w0 j c.cb (Γ.top j)).cv0 wn mn Fn u F'->gh u 2=1->∀fr ch,fr.fn=97->z7 ch->Leaves prog fr u (.panicked ch)->o9 (Y.cfg fb q w0 j c.cb (Γ.top j)) (G fr cs) u)
structure Ck (j:Nat) (c:CB):Prop where
 top:Lj0 (Γ.top j) (Γ.ab j) (Γ.eb j) R.rb c.cb
 ha:X1 w (Γ.ab j) #[.p c.cb] 106 (0,0)
 he:∃en,X1 w (Γ.eb j) #[.bool en] 4 (0,0)
 dd0:0<Γ.gi j/\Γ.gi j<X.n
 stay:X.stay (Γ.gi j)=[(⟨c.cb,2,none⟩,.chan (some c.rc))]
 ch:X.chs c.rc
def Cl1 (j:Nat) (c:CB) (f:Y.L ⊕ Nat):Prop :=
 (Y.nil j=true/\f= .inr 1/\c.wt=false/\R.ends[j]? =some 1)\/(Y.nil j=false/\match f with
  | .inl l=>Wt Y fb q w0 Γ X w j c l
  | .inr x=>c.wt=false/\R.ends[j]? =some (x:Int)/\X.C2 (Γ.gi j)=none)
variable (Mn:Nat->Option Obj)
structure Ze0:Prop where
 le:Y.lb <=w0.heap.size
 low:∀b,X.low b->Y.lb <=b
 pl:X.L6=Y.pl
structure Fix (hold:Option Nat) (ft:Nat->Option (Y.L ⊕ Nat)):Prop where
 mem:D4 w w0.heap.size R
 m:R.m=Y.m
 cl:∀j c,R.cl[j]? =some c->some j≠hold->∃f,ft j=some f/\Cl1 Y fb q w0 Γ X R w j c f
 ck:∀j c,R.cl[j]? =some c->Y.nil j=false->Ck Γ X R w j c
 fpB:∀b,R.fp b->w0.heap.size <=b
 side:∀j,j<R.cl.length->Y.nil j=false->w0.heap.size <=Γ.ab j/\w0.heap.size <=Γ.eb j/\¬R.fp (Γ.ab j)/\¬R.fp (Γ.eb j)
 pv:∀j b,Γ.pv j b->b<w.heap.size/\¬R.fp b/\¬Mn b≠none/\(∀k,k<R.cl.length->Y.nil k=false->b≠Γ.ab k/\b≠Γ.eb k)/\∀k,k≠j->¬Γ.pv k b
 mn:∀b,Mn b≠none->w.heap[b]? =Mn b/\¬R.fp b/\∀k,k<R.cl.length->Y.nil k=false->b≠Γ.ab k/\b≠Γ.eb k
 od0:0<X.n
 os:hold=none->w.os=w0.os
 output:hold=none->w.output=w0.output
 size:w0.heap.size <=w.heap.size
 J4:X.J4=some ⟨R.rb,8⟩
 lp0:X.stay 0=[(⟨R.rb,7,none⟩,.chan (some R.yb))]
 chy:X.chs R.yb
 O4:∀g s,g≠0->X.C2 g=some s->∃j c,R.cl[j]? =some c/\Y.nil j=false/\g=Γ.gi j/\s.ch=c.rc/\some j≠hold
 Cd0:∀j k,j<R.cl.length->k<R.cl.length->Y.nil j=false->Y.nil k=false->Γ.gi j=Γ.gi k->j=k
 qi0:∀j k,j<R.cl.length->k<R.cl.length->Y.nil j=false->Y.nil k=false->Γ.eb j=Γ.eb k->j=k
 Gx0:∀j k c d,R.cl[j]? =some c->R.cl[k]? =some d->Y.nil j=false->Y.nil k=false->c.rc=d.rc->j=k
 ry:∀j c,R.cl[j]? =some c->Y.nil j=false->c.rc≠R.yb
 dn:X.dn=0
 pend:X.pend=0
 cap:X.cap <=R.cl.length
 under:X.co0 w.heap.size
 L6:∀b,w.heap.size <=b->X.L6 b= .all
 oe0:hold=none->X.C2 0=none
 base:Ze0 Y w0 X
end
section
variable {Y:Sys}{fb:Nat->FuncId}{q:PR Y}{Γ Γ':Geo}{X X':Gh}{R R':Rn}{w w':World}{Mn:Nat->Option Obj}{w0:World}{hold:Option Nat}{ft:Nat->Option (Y.L ⊕ Nat)}
def Kept (Y:Sys) (Γ:Geo) (R:Rn) (Mn:Nat->Option Obj) (b:Nat):Prop:=Mn b≠none\/(∃k,k<R.cl.length/\Y.nil k=false/\(b=Γ.ab k\/b=Γ.eb k))\/∃j,Γ.pv j b
theorem Wt.o5 {j:Nat} (hle:∀a b c,Y.le j a b->Y.le j b c->Y.le j a c) (hgm:Y.le j Γ.gm Γ'.gm) {c:CB} {l:Y.L} (h:Wt Y fb q w0 Γ X w j c l) (hb:∀b,Γ.pv j b->w'.heap[b]? =w.heap[b]?) (A2:w.heap.size <=w'.heap.size) (hs:X'.C2 (Γ.gi j)=X.C2 (Γ.gi j)) (he:w'.heap[Γ.eb j]? =w.heap[Γ.eb j]?) (hge:Γ'.eb j=Γ.eb j) (hg:Γ'.gi j=Γ.gi j) (ht:Γ'.top j=Γ.top j) (hp:Γ'.pv j=Γ.pv j):Wt Y fb q w0 Γ' X' w' j c l:=by
 obtain⟨h1,h2,h3,h4,me,cs,wn,mn,Fn,Rdo,a1,a2,a3,a4,a5,a6,a7,a8,a9,ale,a10,a11,a12⟩:=h;refine⟨h1,h2,h3,by rw[hge];exact he.trans h4,me,cs,wn,mn,Fn,Rdo,?_⟩;rw[hg,ht,hp,hs];exact⟨a1,a2,a3,a4,a5,fun b hb'=>(hb b hb').trans (a6 b hb'),a7,a8,Nat.le_trans a9 A2,hle _ _ _ ale hgm,a10,a11,a12⟩
theorem Cl1.o5 {j:Nat} (hle:∀a b c,Y.le j a b->Y.le j b c->Y.le j a c) (hgm:Y.le j Γ.gm Γ'.gm) {c:CB} {f:Y.L ⊕ Nat} (h:Cl1 Y fb q w0 Γ X R w j c f) (hb:∀b,Γ.pv j b->w'.heap[b]? =w.heap[b]?) (A2:w.heap.size <=w'.heap.size) (hs:Y.nil j=false->X'.C2 (Γ.gi j)=X.C2 (Γ.gi j)) (heb:Y.nil j=false->w'.heap[Γ.eb j]? =w.heap[Γ.eb j]?) (hge:Γ'.eb j=Γ.eb j) (hg:Γ'.gi j=Γ.gi j) (ht:Γ'.top j=Γ.top j) (hp:Γ'.pv j=Γ.pv j) (he:R'.ends[j]? =R.ends[j]?):Cl1 Y fb q w0 Γ' X' R' w' j c f:=by
 rcases h with⟨h1,h2,h3,h4⟩|⟨h1,h2⟩
 ·exact .inl ⟨h1,h2,h3,by rw[he];exact h4⟩
 ·refine .inr ⟨h1,?_⟩;cases f with
  |inl l=>exact Wt.o5 hle hgm h2 hb A2 (hs h1) (heb h1) hge hg ht hp
  |inr x=>exact⟨h2.1,by rw[he];exact h2.2.1,by rw[hg,hs h1];exact h2.2.2⟩
theorem Fix.o5 (hY:LeOk Y) (h:Fix Y fb q w0 Γ X R w Mn hold ft) (hM:D4 w' w0.heap.size R') (hrb:R'.rb=R.rb) (hyb:R'.yb=R.yb) (hm:R'.m=R.m) (hfp:∀b,R'.fp b->R.fp b\/w.heap.size <=b) (hlen:R'.cl.length=R.cl.length)
  (N7:∀j c',R'.cl[j]? =some c'->∃c,R.cl[j]? =some c/\c'.cb=c.cb/\c'.rc=c.rc/\(some j≠hold->c'=c/\R'.ends[j]? =R.ends[j]?)) (A2:w.heap.size <=w'.heap.size) (bx0:∀b,b<w.heap.size->¬R.fp b->Kept Y Γ R Mn b->w'.heap[b]? =w.heap[b]?\/∃i en,hold=some i/\i<R.cl.length/\Y.nil i=false/\b=Γ.eb i/\X1 w' b #[.bool en] 4 (0,0)) (hos:hold=none->w'.os=w.os/\w'.output=w.output) :
  Fix Y fb q w0 Γ X R' w' Mn hold ft:=by
 have lt:∀j c',R'.cl[j]? =some c'->j<R.cl.length:=fun j c' hc=>by rw[<- hlen];exact(List.getElem?_eq_some_iff.1 hc).1
 have hpv:∀j b,Γ.pv j b->w'.heap[b]? =w.heap[b]?:=fun j b hb=>by
  have hp:=h.pv j b hb;rcases bx0 b hp.1 hp.2.1 (.inr (.inr ⟨j,hb⟩))with z|⟨i,en,_,z1,z2,z3,_⟩
  ·exact z
  ·exact absurd z3 (hp.2.2.2.1 i z1 z2).2
 have heb:∀j,j<R.cl.length->Y.nil j=false->w'.heap[Γ.eb j]? =w.heap[Γ.eb j]?\/(hold=some j/\∃en,X1 w' (Γ.eb j) #[.bool en] 4 (0,0)):=fun j hj hn=>by
  obtain⟨en,he⟩:=(h.ck j _ (List.getElem?_eq_getElem hj) hn).he;rcases bx0 _ he.lt (h.side j hj hn).2.2.2 (.inr (.inl ⟨j,hj,hn,.inr rfl⟩))with z|⟨i,en,z0,z1,z2,z3,z4⟩
  ·exact .inl z
  ·obtain rfl:=h.qi0 j i hj z1 hn z2 z3;exact .inr ⟨z0,en,z4⟩
 have ln1:∀j,j<R.cl.length->Y.nil j=false->some j≠hold->w'.heap[Γ.eb j]? =w.heap[Γ.eb j]?:=fun j hj hn hh=>by
  rcases heb j hj hn with z|⟨z,_⟩
  ·exact z
  ·exact absurd z.symm hh
 refine⟨hM,hm.trans h.m,fun j c' hc hj=>?_,fun j c' hc hn=>?_,fun b hb=>?_,fun j hj hn=>?_,fun j b hb=>?_,fun b hb=>?_,h.od0,fun z=>(hos z).1.trans (h.os z),fun z=>(hos z).2.trans (h.output z),Nat.le_trans h.size A2,by rw[hrb];exact h.J4,by rw[hrb,hyb];exact h.lp0,by rw[hyb];exact h.chy,fun g s hg hs=>?_,by rw[hlen];exact h.Cd0,by rw[hlen];exact h.qi0,fun j k c d hc hd hn hk e=>?_,fun j c' hc hn=>?_,h.dn,h.pend,by rw[hlen];exact h.cap,h.under.mono A2,fun b hb=>h.L6 b (Nat.le_trans A2 hb),h.oe0,h.base⟩
 ·obtain⟨c,hc0,_,_,h4⟩:=N7 j c' hc;obtain⟨rfl,h5⟩:=h4 hj;obtain⟨f,hf,h6⟩:=h.cl j c' hc0 hj;exact⟨f,hf,h6.o5 (hY.trans _) (hY.refl _ Γ.gm) (fun b hb=>hpv j b hb) A2 (fun _=>rfl) (fun hn=>ln1 j (lt j c' hc) hn hj) rfl rfl rfl rfl h5⟩
 ·obtain⟨c,hc0,hcb,hrc,_⟩:=N7 j c' hc;have hk:=h.ck j c hc0 hn;have hs:=h.side j (lt j c' hc) hn;refine⟨by rw[hrb,hcb];exact hk.top,?_,?_,hk.dd0,by rw[hcb,hrc];exact hk.stay,by rw[hrc];exact hk.ch⟩
  ·rw[hcb];rcases bx0 _ hk.ha.lt hs.2.2.1 (.inr (.inl ⟨j,lt j c' hc,hn,.inl rfl⟩))with z|⟨i,en,_,z1,z2,z3,_⟩
   ·exact z.trans hk.ha
   ·obtain⟨en',he'⟩:=(h.ck i _ (List.getElem?_eq_getElem z1) z2).he;exact absurd z3 (X1.ne hk.ha he' (by decide))
  ·rcases heb j (lt j c' hc) hn with z|⟨_,z⟩
   ·obtain⟨en',he'⟩:=hk.he;exact⟨en',z.trans he'⟩
   ·exact z
 ·rcases hfp b hb with z|z
  ·exact h.fpB b z
  ·exact Nat.le_trans h.size z
 ·rw[hlen]at hj;have hs:=h.side j hj hn;obtain⟨c,hc⟩:∃c,R.cl[j]? =some c:=⟨_,List.getElem?_eq_getElem hj⟩
  have hk:=h.ck j c hc hn;exact⟨hs.1,hs.2.1,fun z=>by rcases hfp _ z with y|y;exact hs.2.2.1 y;have:=hk.ha.lt;omega,fun z=>by rcases hfp _ z with y|y;exact hs.2.2.2 y;have:=hk.he.choose_spec.lt;omega⟩
 ·have hp:=h.pv j b hb;exact⟨Nat.lt_of_lt_of_le hp.1 A2,fun z=>by rcases hfp _ z with y|y;exact hp.2.1 y;have:=hp.1;omega,hp.2.2.1,by rw[hlen];exact hp.2.2.2.1,hp.2.2.2.2⟩
 ·have hm':=h.mn b hb;have D2:b<w.heap.size:=by
   rcases Nat.lt_or_ge b w.heap.size with z|z
   ·exact z
   ·exact absurd (hm'.1.symm.trans (Array.getElem?_eq_none z)) hb
  refine⟨?_,fun z=>by rcases hfp b z with y|y;exact hm'.2.1 y;omega,by rw[hlen];exact hm'.2.2⟩;rcases bx0 b D2 hm'.2.1 (.inl hb)with z|⟨i,en,_,z1,z2,z3,_⟩
  ·exact z.trans hm'.1
  ·exact absurd z3 (hm'.2.2 i z1 z2).2
 ·obtain⟨j,c,h1,h2,h3,h4,h5⟩:=h.O4 g s hg hs;have hj:j<R'.cl.length:=by rw[hlen];exact(List.getElem?_eq_some_iff.1 h1).1
  obtain⟨c',V8⟩:∃c',R'.cl[j]? =some c':=⟨_,List.getElem?_eq_getElem hj⟩
  obtain⟨c2,e1,_,e3,_⟩:=N7 j c' V8;rw[h1]at e1;obtain rfl:=Option.some.inj e1;exact⟨j,c',V8,h2,h3,by rw[e3];exact h4,h5⟩
 ·obtain⟨c2,e1,_,e3,_⟩:=N7 j c hc;obtain⟨d2,f1,_,f3,_⟩:=N7 k d hd;exact h.Gx0 j k c2 d2 e1 f1 hn hk (by rw[<- e3,<- f3];exact e)
 ·obtain⟨c2,e1,_,e3,_⟩:=N7 j c' hc;rw[e3,hyb];exact h.ry j c2 e1 hn
end
end Go.Vy.Sc
end
section
namespace Go.Vy.Sc
open Go Go.Conc Go.Yc Go.RowKit Go.Proofs Go.Proofs.Ytgadhljgilblbaa Try
open Go.Vc Go.Wg
section
attribute [local irreducible] KK
structure of0 (Y:Sys):Prop extends LeOk Y where
 loc:∀s m (w w':World) F,Y.Inv s m w F->(∀b,F b->w'.heap[b]? =w.heap[b]?)->Y.Inv s m w' F
 vis:∀s m (w:World) F,Y.Inv s m w F->∀b,F b->b<w.heap.size/\w.heap[b]? ≠some nothing
section
variable {Y:Sys}{fb:Nat->FuncId}{q:PR Y}{Γ:Geo}{X:Gh}{R:Rn}{w:World}{Mn:Nat->Option Obj}{w0:World}{ft:Nat->Option (Y.L ⊕ Nat)}{i:Nat}
theorem fr0 {h j:Nat} {sh:Option w6} {g:Nat} (h1:g≠h) (h2:g≠j):(X.pass h j sh).C2 g=X.C2 g:=by
 show Go.ConcN.upd (Go.ConcN.upd X.C2 j none) h sh g=_;rw[Go.ConcN.upd_ne _ _ h1,Go.ConcN.upd_ne _ _ h2]
theorem R9 {h j:Nat} {sh:Option w6}:(X.pass h j sh).C2 h=sh:=Go.ConcN.upd_same _ _ _
theorem lq0 {h j:Nat} {sh:Option w6} (hj:j≠h):(X.pass h j sh).C2 j=none:=by
 show Go.ConcN.upd (Go.ConcN.upd X.C2 j none) h sh j=_;rw[Go.ConcN.upd_ne _ _ hj,Go.ConcN.upd_same]
def Geo.put (Γ:Geo) (i:Nat) (N:Nat->Prop):Geo:={Γ with pv:=fun j b=>if j=i then N b else Γ.pv j b}
def Geo.ma0 (Γ:Geo) (i:Nat) (N:Nat->Prop) (m:Gm):Geo:={Γ.put i N with gm:=m}
theorem jh0 {N:Nat->Prop} {m:Gm} {j:Nat} (h:j≠i):(Γ.ma0 i N m).pv j=Γ.pv j:=by funext b;simp[Geo.ma0,Geo.put,h]
theorem sk0 {N:Nat->Prop} {j:Nat} (h:j≠i):(Γ.put i N).pv j=Γ.pv j:=by funext b;simp[Geo.put,h]
theorem Fix.back (hY:LeOk Y) {m:Gm} (hm:∀j,j≠i->Y.le j Γ.gm m) (h:Fix Y fb q w0 Γ X R w Mn (some i) ft) (hn:Y.nil i=false) {c:CB} (hc:R.cl[i]? =some c) {N:Nat->Prop} (hN:∀b,N b->b<w.heap.size/\¬R.fp b/\¬Kept Y Γ R Mn b) {sh:Option w6} (hsh:∀s,sh=some s->s.ch=c.rc) {f:Y.L ⊕ Nat}
  (hf:Cl1 Y fb q w0 (Γ.ma0 i N m) (X.pass (Γ.gi i) 0 sh) R w i c f) (hos:w.os=w0.os/\w.output=w0.output):Fix Y fb q w0 (Γ.ma0 i N m) (X.pass (Γ.gi i) 0 sh) R w Mn none (fun j=>if j=i then some f else ft j):=by
 have hi:=(List.getElem?_eq_some_iff.1 hc).1;have hg:=(h.ck i c hc hn).dd0;have X9:Γ.gi i≠0:=by omega
 refine⟨h.mem,h.m,fun j c' V8 _=>?_,fun j c' V8 hn'=>?_,h.fpB,h.side,fun j b hb=>?_,h.mn,h.od0,fun _=>hos.1,fun _=>hos.2,h.size,h.J4,h.lp0,h.chy,fun g s Y8 hs=>?_,h.Cd0,h.qi0,h.Gx0,h.ry,h.dn,h.pend,h.cap,⟨h.under.stay,h.under.w5,h.under.chs,h.under.J4,h.under.low⟩,h.L6,fun _=>lq0 X9.symm,⟨h.base.le,h.base.low,h.base.pl⟩⟩
 ·by_cases hj:j=i
  ·subst hj;rw[hc]at V8;obtain rfl:=Option.some.inj V8;exact⟨f,by simp,hf⟩
  ·obtain⟨f',h1,h2⟩:=h.cl j c' V8 (by simpa using hj);have hjl:=(List.getElem?_eq_some_iff.1 V8).1;refine⟨f',by simp[hj,h1],h2.o5 (Γ':=Γ.ma0 i N m) (hY.trans _) (hm j hj) (fun _ _=>rfl) (Nat.le_refl _) (fun y8=>fr0 (fun e=>hj (h.Cd0 j i hjl hi y8 hn e)) ?_) (fun _=>rfl) rfl rfl rfl (jh0 hj) rfl⟩;have:=(h.ck j c' V8 y8).dd0;omega
 ·have:=h.ck j c' V8 hn';exact⟨this.top,this.ha,this.he,this.dd0,this.stay,this.ch⟩
 ·by_cases hj:j=i
  ·subst hj;have hb':N b:=by simpa [Geo.ma0,Geo.put]using hb
   obtain⟨h1,h2,h3⟩:=hN b hb';refine⟨h1,h2,fun z=>h3 (.inl z),fun k hk hnk=>⟨fun e=>h3 (.inr (.inl ⟨k,hk,hnk,.inl e⟩)),fun e=>h3 (.inr (.inl ⟨k,hk,hnk,.inr e⟩))⟩,fun k hk hp=>?_⟩;rw[jh0 hk]at hp;exact h3 (.inr (.inr ⟨k,hp⟩))
  ·rw[jh0 hj]at hb;obtain⟨h1,h2,h3,h4,h5⟩:=h.pv j b hb;refine⟨h1,h2,h3,h4,fun k hk hp=>?_⟩;by_cases J9:k=i
   ·subst J9;have hb':N b:=by simpa [Geo.ma0,Geo.put]using hp
    exact(hN b hb').2.2 (.inr (.inr ⟨j,hb⟩))
   ·rw[jh0 J9]at hp;exact h5 k hk hp
 ·by_cases hgi:g=Γ.gi i
  ·subst hgi;rw[R9]at hs;exact⟨i,c,hc,hn,rfl,hsh s hs,by simp⟩
  ·rw[fr0 hgi Y8]at hs;obtain⟨j,c',h1,h2,h3,h4,_⟩:=h.O4 g s Y8 hs;exact⟨j,c',h1,h2,h3,h4,by simp⟩
theorem Fix.gd1 (hY:LeOk Y) (h:Fix Y fb q w0 Γ X R w Mn none ft) (hn:Y.nil i=false) {c:CB} (hc:R.cl[i]? =some c) {s0:w6}:Fix Y fb q w0 (Γ.put i fun _=>False) (X.pass 0 (Γ.gi i) (some s0)) R w Mn (some i) ft:=by
 have hi:=(List.getElem?_eq_some_iff.1 hc).1;have hg:=(h.ck i c hc hn).dd0;have X9:Γ.gi i≠0:=by omega
 refine⟨h.mem,h.m,fun j c' V8 hj'=>?_,fun j c' V8 hn'=>?_,h.fpB,h.side,fun j b hb=>?_,h.mn,h.od0,fun z=>by simp at z,fun z=>by simp at z,h.size,h.J4,h.lp0,h.chy,fun g s Y8 hs=>?_,h.Cd0,h.qi0,h.Gx0,h.ry,h.dn,h.pend,h.cap,⟨h.under.stay,h.under.w5,h.under.chs,h.under.J4,h.under.low⟩,h.L6,(fun z=>by simp at z),⟨h.base.le,h.base.low,h.base.pl⟩⟩
 ·have hj:j≠i:=by simpa using hj'
  obtain⟨f',h1,h2⟩:=h.cl j c' V8 (by simp);have hjl:=(List.getElem?_eq_some_iff.1 V8).1;refine⟨f',h1,h2.o5 (Γ':=Γ.put i fun _=>False) (hY.trans _) (hY.refl _ Γ.gm) (fun _ _=>rfl) (Nat.le_refl _) (fun y8=>fr0 ?_ (fun e=>hj (h.Cd0 j i hjl hi y8 hn e))) (fun _=>rfl) rfl rfl rfl (sk0 hj) rfl⟩;have:=(h.ck j c' V8 y8).dd0;omega
 ·have:=h.ck j c' V8 hn';exact⟨this.top,this.ha,this.he,this.dd0,this.stay,this.ch⟩
 ·by_cases hj:j=i
  ·subst hj;simp[Geo.put]at hb
  ·rw[sk0 hj]at hb;obtain⟨h1,h2,h3,h4,h5⟩:=h.pv j b hb;refine⟨h1,h2,h3,h4,fun k hk hp=>?_⟩;by_cases J9:k=i
   ·subst J9;simp[Geo.put]at hp
   ·rw[sk0 J9]at hp;exact h5 k hk hp
 ·by_cases hgi:g=Γ.gi i
  ·subst hgi;rw[lq0 X9]at hs;cases hs
  ·rw[fr0 Y8 hgi]at hs;obtain⟨j,c',h1,h2,h3,h4,_⟩:=h.O4 g s Y8 hs;refine⟨j,c',h1,h2,h3,h4,?_⟩;intro e;obtain rfl:j=i:=by simpa using e
   exact hgi h3
structure Main (Y:Sys) (fb:Nat->FuncId) (q:PR Y) (w0:World) (Γ:Geo) (X:Gh) (R:Rn) (w:World) (Mn:Nat->Option Obj) (ft:Nat->Option (Y.L ⊕ Nat)) (s:Y.S):Prop where
 fix:Fix Y fb q w0 Γ X R w Mn none ft
 inv:∃F,Y.Inv s Γ.gm w F/\∀b,F b->¬R.fp b/\¬Kept Y Γ R Mn b
def kq0 {L:Type} (e:List Int) (i:Nat):L ⊕ Nat->List Int
 | .inl _=>e
 | .inr x=>e.set i (x:Int)
def Rel (R0 R':Rn) (i:Nat) (j2:List (Nat×Nat×Nte)) (ends:List Int):Prop:=∃na nc c c',R0.cl[i]? =some c/\c'.E2=c.E2/\R'={R0 with na:=na,nc:=nc,j2:=j2,cl:=R0.cl.set i c',ends:=ends}
structure p9 (Y:Sys) (fb:Nat->FuncId) (q:PR Y) (w0:World) (Γ:Geo) (X:Gh) (Mn:Nat->Option Obj) (ft:Nat->Option (Y.L ⊕ Nat)) (i t at_ cb:Nat) (n0:List (Nat×Nat×Nte)) (R0 R:Rn) (H:Hid) (v:World):Prop where
 fix:Fix Y fb q w0 Γ X R (over H v) Mn (some i) ft
 w5:y7 H v
 no:∀b o,H b=some o->v.heap[b]? =some nothing
 all:∀b,(R.fp b\/Kept Y Γ R Mn b)->H b≠none
 tq:gh v 0=t
 gmq:gm v=Γ.gm
 atq:R.evs.length=at_
 cl:∃c,R.cl[i]? =some c/\c.cb=cb/\((gh v 2=0/\c.st=false/\R.j2=n0++tell i at_ ((Y.W4 q t).j2.take (gh v 1))/\c.E2=Y.E2 q i t)\/(gh v 2=1/\c.st=true/\R.j2=n0))
 rel:∃na nc j2,R={R0 with na:=na,nc:=nc,j2:=j2}
 nil:Y.nil i=false
 he:X1 (over H v) (Γ.eb i) #[.bool false] 4 (0,0)
theorem p9.il {Y:Sys} {fb:Nat->FuncId} {q:PR Y} {w0:World} {Γ:Geo} {X:Gh} {Mn:Nat->Option Obj} {ft:Nat->Option (Y.L ⊕ Nat)} {i t at_ cb:Nat} {n0:List (Nat×Nat×Nte)} {R0 R:Rn} {H:Hid} {v:World} (h:p9 Y fb q w0 Γ X Mn ft i t at_ cb n0 R0 R H v):i<R.cl.length:=by
 obtain⟨c,hc,_⟩:=h.cl;exact(List.getElem?_eq_some_iff.1 hc).1
theorem Eo0 {H:Hid} {v:World} {b:Nat} {o:Obj} (w5:y7 H v) (h:H b=some o):(over H v).heap[b]? =some o:=K9 h (w5.gone b o h).lt
theorem uz0 {v v':World} (he:Evo v v') {b:Nat} (h:v.heap[b]? =some nothing):v'.heap[b]? =some nothing:=by
 obtain⟨y,hy,hk⟩:=he.obj _ _ h;obtain⟨c,rfl,h1,_⟩:=z8 hk;have:c=#[]:=by simpa using h1
 subst this;exact hy
theorem p9.evo {Y:Sys} (hY:LeOk Y) {fb:Nat->FuncId} {q:PR Y} {w0:World} {Γ:Geo} {X:Gh} {Mn:Nat->Option Obj} {ft:Nat->Option (Y.L ⊕ Nat)} {i t at_ cb:Nat} {n0:List (Nat×Nat×Nte)} {R0 R:Rn} {H:Hid} {v v':World} (h:p9 Y fb q w0 Γ X Mn ft i t at_ cb n0 R0 R H v) (he:Evo v v') (ht:v'.tape=v.tape):p9 Y fb q w0 Γ X Mn ft i t at_ cb n0 R0 R H v':=by
 have ge1:=h.w5.evo he;have hk:∀b,(R.fp b\/Kept Y Γ R Mn b)->(over H v').heap[b]? =(over H v).heap[b]?:=fun b hb=>by
  cases hh:H b with
  |none=>exact absurd hh (h.all b hb)
  |some o=>rw[Eo0 ge1 hh,Eo0 h.w5 hh]
 refine⟨h.fix.o5 hY (h.fix.mem.congr fun b hb=>hk b (.inl hb)) rfl rfl rfl (fun b hb=>.inl hb) rfl (fun j c hc=>⟨c,hc,rfl,rfl,fun _=>⟨rfl,rfl⟩⟩) (by rw[T4,T4];exact he.size) (fun b _ _ hb=>.inl (hk b (.inr hb))) (fun z=>by cases z),ge1,fun b o hb=>uz0 he (h.no b o hb),h.all,by rw[K3 ht];exact h.tq,by rw[L7 ht];exact h.gmq,h.atq,?_,h.rel,h.nil,(hk _ (.inr (.inr (.inl ⟨i,h.il,h.nil,.inr rfl⟩)))).trans h.he⟩;rw[K3 ht,K3 ht];exact h.cl
end
end
section
attribute [local irreducible] KK
theorem Fix.P2 {Y:Sys} (hY:LeOk Y) {fb:Nat->FuncId} {q:PR Y} {Γ:Geo} {X:Gh} {R:Rn} {w:World} {Mn:Nat->Option Obj} {w0:World} {ft:Nat->Option (Y.L ⊕ Nat)} {hold:Option Nat} (h:Fix Y fb q w0 Γ X R w Mn hold ft) (τ:Tape) (d:Nat):Fix Y fb q w0 Γ X R (Yc.P2 w τ d) Mn hold ft :=
 h.o5 hY (h.mem.congr fun _ _=>rfl) rfl rfl rfl (fun _b hb=>.inl hb) rfl (fun _j c hc=>⟨c,hc,rfl,rfl,fun _=>⟨rfl,rfl⟩⟩) (Nat.le_refl _) (fun _ _ _ _=>.inl rfl) (fun _=>⟨rfl,rfl⟩)
theorem qj0 {v:Value} (h:FnV prog v):v.cells=#[v]/\v.oneCell'=true:=by
 rcases h with rfl|⟨f,caps,rfl,_⟩ <;> exact⟨rfl,rfl⟩
theorem N9.du0.fnV {K:N9 prog} {w:World} {m:Gm} {F:Nat->Prop} {rf:Value} {l:K.L} (h:K.du0 w m F rf l):FnV prog rf:=by
 rcases h with⟨h,_⟩|⟨f,caps,h,_⟩
 ·exact .inl h
 ·exact .inr ⟨f,caps,h⟩
theorem va0 {fr:Frame} {w w':World} {v:Value} {fn:Func} (hf:prog.funcs[fr.fn]? =some fn) (hr:fn.results=#[]\/∃t,fn.results=#[.tmp t]) (hv:fn.results=#[]->v= .tuple #[]) (h:Leaves prog fr w (.returned v)) (hnv:Y6 w):Leaves prog fr w' (.returned v):=by
 obtain⟨h1,h2,h3,fn',h4,h5⟩:=h;rw[hf]at h4;obtain rfl:=Option.some.inj h4;refine⟨h1,h2,h3,fn,hf,?_⟩;rcases hr with hr|⟨t,hr⟩
 ·rw[hv hr];exact K7 (fun w=>results_none hr _ _ w) (fun w=>events_results_none hr _ _)
 ·obtain⟨x',es,h6,_⟩:=h5 w.tape w.drawn _ w hnv.sim;have h7:=results_tmp hr fr.tmps prog w;rw[Sem.runT_eq]at h6;have h8:=(Prod.mk.inj h6).1;rw[h7]at h8;injection h8 with h9 h10
  rw[<- h9];exact K7 (fun w=>results_tmp hr _ _ w) (fun w=>events_results_tmp hr _ _)
section
variable {Y:Sys}{fb:Nat->FuncId}{q:PR Y}{Γ:Geo}{X:Gh}{R R0:Rn}{w:World}{Mn:Nat->Option Obj}{w0:World}{ft:Nat->Option (Y.L ⊕ Nat)}{i t at_ cb:Nat}{n0:List (Nat×Nat×Nte)}
theorem Fix.Sb0 (h:Fix Y fb q w0 Γ X R w Mn (some i) ft) {b:Nat} (hb:R.fp b\/Kept Y Γ R Mn b):b<w.heap.size:=by
 rcases hb with hb|hb|⟨k,hk,hn,hb⟩|⟨j,hb⟩
 ·exact h.mem.lt hb
 ·rcases Nat.lt_or_ge b w.heap.size with z|z
  ·exact z
  ·exact absurd ((h.mn b hb).1.symm.trans (Array.getElem?_eq_none z)) hb
 ·have:=h.ck k _ (List.getElem?_eq_getElem hk) hn;rcases hb with rfl|rfl
  ·exact this.ha.lt
  ·exact this.he.choose_spec.lt
 ·exact(h.pv j b hb).1
theorem p9.enter (hY:LeOk Y) (V:Nat->Prop) [DecidablePred V] {τ:Tape} {d:Nat} (fix:Fix Y fb q w0 Γ X R w Mn (some i) ft) (hV:∀b,(R.fp b\/Kept Y Γ R Mn b)->¬V b) (nv:Y6 w) (h1:gh (Yc.P2 (P3 V w) τ d) 0=t) (hgm:gm (Yc.P2 (P3 V w) τ d)=Γ.gm) (h2:R.evs.length=at_)
  (h3:∃c,R.cl[i]? =some c/\c.cb=cb/\((gh (Yc.P2 (P3 V w) τ d) 2=0/\c.st=false/\R.j2=n0++tell i at_ ((Y.W4 q t).j2.take (gh (Yc.P2 (P3 V w) τ d) 1))/\c.E2=Y.E2 q i t)\/(gh (Yc.P2 (P3 V w) τ d) 2=1/\c.st=true/\R.j2=n0)))
  (h4:∃na nc j2,R={R0 with na:=na,nc:=nc,j2:=j2}) (hn:Y.nil i=false) (he:X1 w (Γ.eb i) #[.bool false] 4 (0,0)):p9 Y fb q w0 Γ X Mn ft i t at_ cb n0 R0 R (M8 V w) (Yc.P2 (P3 V w) τ d):=by
 refine⟨?_,(np0 nv).P2 τ d,fun b o hb=>?_,fun b hb=>?_,h1,hgm,h2,h3,h4,hn,?_⟩
 ·rw[L8,jd0];exact fix.P2 hY τ d
 ·by_cases hv:V b
  ·simp[M8,hv]at hb
  ·simp only[M8,hv,if_false]at hb;exact gu0 hv (Array.getElem?_eq_some_iff.1 hb).1
 ·have hv:=hV b hb;have D2:=fix.Sb0 hb;simp only[M8,hv,if_false];rw[Array.getElem?_eq_getElem D2];simp
 ·rw[L8,jd0];exact he
def After (Y:Sys) (fb:Nat->FuncId) (q:PR Y) (w0:World) (Mn:Nat->Option Obj) (ft:Nat->Option (Y.L ⊕ Nat)) (i t:Nat) (n0:List (Nat×Nat×Nte)) (R0:Rn) (st:Bool) (Γ':Geo) (X':Gh) (R':Rn) (w':World):Prop :=
 (st=false/\Main Y fb q w0 Γ' X' R' w' Mn (fun j=>if j=i then some (Y.W4 q t).W3 else ft j) (Y.W4 q t).s/\Rel R0 R' i (n0++tell i R0.evs.length (Y.W4 q t).j2) (kq0 R0.ends i (Y.W4 q t).W3)) \/
 (st=true/\Main Y fb q w0 Γ' X' R' w' Mn (fun j=>if j=i then some (.inr 0) else ft j) (Y.sAt q t)/\Rel R0 R' i n0 (R0.ends.set i 0))
theorem p9.Zf0 {H:Hid} {v:World} (h:p9 Y fb q w0 Γ X Mn ft i t at_ cb n0 R0 R H v) {b:Nat} (hb:v.heap[b]? ≠some nothing):H b=none/\¬R.fp b/\¬Kept Y Γ R Mn b:=by
 have hn:H b=none:=by
  cases hh:H b with
  |none=>rfl
  |some o=>exact absurd (h.no b o hh) hb
 exact⟨hn,fun z=>h.all b (.inl z) hn,fun z=>h.all b (.inr z) hn⟩
theorem p9.chs {H:Hid} {v:World} (h:p9 Y fb q w0 Γ X Mn ft i t at_ cb n0 R0 R H v) (hn:Y.nil i=false) {c:CB} (hc:R.cl[i]? =some c):∀g s2,g≠0->X.C2 g=some s2->s2.ch≠c.rc:=by
 intro g s2 hg hs e;obtain⟨j,d,h1,h2,h3,h4,h5⟩:=h.fix.O4 g s2 hg hs;have:=h.fix.Gx0 j i d c h1 hc h2 hn (h4.symm.trans e);subst this;exact h5 rfl
theorem p9.home (hY:of0 Y) {H:Hid} {v w':World} (h:p9 Y fb q w0 Γ X Mn ft i t at_ cb n0 R0 R H v) (hn:Y.nil i=false) {c c':CB} {ends:List Int} {S:Nat->Prop} {B:Nat} (hc:R.cl[i]? =some c) (gf1:c'.cb=c.cb) (lo1:c'.rc=c.rc) (_hc'p:c'.E2=c.E2) (hg:Rg S B (over H v) w' w0.heap.size {R with cl:=R.cl.set i c',ends:=ends}) (hB:B=(over H v).heap.size) (hS:∀k,S k->R.fp k\/(k=Γ.eb i)) (lp1:∃en,X1 w' (Γ.eb i) #[.bool en] 4 (0,0)) (Ma0:∀j,j≠i->ends[j]? =R.ends[j]?)
  (F:Nat->Prop) {s:Y.S} {m:Gm} (hm:∀j,j≠i->Y.le j (gm v) m) (hinv:Y.Inv s m v F) (hos:v.os=w0.os/\v.output=w0.output) {sh:Option w6} (hsh:∀s,sh=some s->s.ch=c'.rc) {f:Y.L ⊕ Nat} {N:Nat->Prop} (hN:∀b,N b->v.heap[b]? ≠some nothing/\b<v.heap.size/\¬F b) (hf:(∀b,v.heap[b]? ≠some nothing->b<v.heap.size->w'.heap[b]? =v.heap[b]?)->Cl1 Y fb q w0 (Γ.ma0 i N m) (X.pass (Γ.gi i) 0 sh) {R with cl:=R.cl.set i c',ends:=ends} w' i c' f) :
  Main Y fb q w0 (Γ.ma0 i N m) (X.pass (Γ.gi i) 0 sh) {R with cl:=R.cl.set i c',ends:=ends} w' Mn (fun j=>if j=i then some f else ft j) s/\(∃na nc,{R with cl:=R.cl.set i c',ends:=ends}={R0 with na:=na,nc:=nc,j2:=R.j2,cl:=R0.cl.set i c',ends:=ends}):=by
 subst hB;have J7:=(List.getElem?_eq_some_iff.1 hc).1;have Vy0:∀b,b<(over H v).heap.size->¬R.fp b->b≠Γ.eb i->w'.heap[b]? =(over H v).heap[b]?:=fun b hb hf he=>hg.md.block b hb fun hs=>(hS b hs).elim hf he;have S9:∀b,v.heap[b]? ≠some nothing->b<v.heap.size->w'.heap[b]? =v.heap[b]?:=fun b hb D2=>by
  obtain⟨h1,h2,h3⟩:=h.Zf0 hb;rw[Vy0 b (by rw[T4];exact D2) h2 (fun e=>h3 (.inr (.inl ⟨i,J7,hn,.inr e⟩))),k6 v h1]
 have hfp:∀b,Rn.fp {R with cl:=R.cl.set i c',ends:=ends} b->R.fp b:=fun b hb=>Rn.Eg0 (R:=R) hc gf1 hb;have hK:∀b,Kept Y Γ {R with cl:=R.cl.set i c',ends:=ends} Mn b↔Kept Y Γ R Mn b:=fun b=>by simp[Kept]
 have gg1:=h.fix.o5 hY.toLeOk (R':={R with cl:=R.cl.set i c',ends:=ends}) (w':=w') hg.m rfl rfl rfl (fun b hb=>.inl (hfp b hb)) (by simp) (fun j d hd=>by
  have O5:(R.cl.set i c')[j]? =some d:=hd;rw[List.getElem?_set]at O5;by_cases hj:i=j
  ·subst hj;rw[if_pos rfl,if_pos J7]at O5;obtain rfl:=Option.some.inj O5;exact⟨c,hc,gf1,lo1,fun z=>absurd rfl z⟩
  ·rw[if_neg hj]at O5;exact⟨d,O5,rfl,rfl,fun _=>⟨rfl,Ma0 j (Ne.symm hj)⟩⟩) hg.md.size (fun b hb hf _=>by
   by_cases he:b=Γ.eb i
   ·subst he;obtain⟨en,he⟩:=lp1;exact .inr ⟨i,en,rfl,J7,hn,rfl,he⟩
   ·exact .inl (Vy0 b hb hf he)) (fun z=>by cases z)
 have V8:Rn.cl {R with cl:=R.cl.set i c',ends:=ends}=R.cl.set i c':=rfl;have hci:(Rn.cl {R with cl:=R.cl.set i c',ends:=ends})[i]? =some c':=by rw[V8];simp[J7]
 have gh1:=gg1.back hY.toLeOk (m:=m) (by rw[<- h.gmq];exact hm) hn hci (N:=N) (fun b hb=>by
  obtain⟨h1,h2,h3⟩:=hN b hb;obtain⟨h4,h5,h6⟩:=h.Zf0 h1;refine⟨Nat.lt_of_lt_of_le h2 (by have:=hg.md.size;rw[T4]at this;exact this),fun z=>h5 (hfp b z),fun z=>h6 ((hK b).1 z)⟩) hsh (hf S9) ⟨hg.md.os.trans hos.1,hg.md.output.trans hos.2⟩
 refine⟨⟨gh1,F,hY.loc _ _ v w' F hinv fun b hb=>?_,fun b hb=>?_⟩,?_⟩
 ·have:=hY.vis _ _ v F hinv b hb;exact S9 b this.2 this.1
 ·have hv:=hY.vis _ _ v F hinv b hb;obtain⟨h4,h5,h6⟩:=h.Zf0 hv.2;refine⟨fun z=>h5 (hfp b z),fun z=>?_⟩;rcases z with z|z|⟨j,z⟩
  ·exact h6 (.inl z)
  ·exact h6 ((hK b).1 (.inr (.inl z)))
  ·by_cases hj:j=i
   ·subst hj;have:N b:=by simpa [Geo.ma0,Geo.put]using z
    exact(hN b this).2.2 hb
   ·rw[jh0 hj]at z;exact h6 (.inr (.inr ⟨j,z⟩))
 ·obtain⟨na,nc,j2,rfl⟩:=h.rel;exact⟨na,nc,rfl⟩
end
end
section
attribute [local irreducible] KK
section
variable {Y:Sys}{fb:Nat->FuncId}{q:PR Y}{Γ:Geo}{X:Gh}{R R0:Rn}{Mn:Nat->Option Obj}{w0:World}{ft:Nat->Option (Y.L ⊕ Nat)}{i t at_ cb:Nat}{n0:List (Nat×Nat×Nte)}{H:Hid}{v:World}
theorem p9.dd0 (h:p9 Y fb q w0 Γ X Mn ft i t at_ cb n0 R0 R H v):0<Γ.gi i:=(h.fix.ck i _ (List.getElem?_eq_getElem h.il) h.nil).dd0.1
theorem p9.gi1 (h:p9 Y fb q w0 Γ X Mn ft i t at_ cb n0 R0 R H v) {b:Nat} (hb:H b=none):¬R.fp b/\¬Kept Y Γ R Mn b:=⟨fun z=>h.all b (.inl z) hb,fun z=>h.all b (.inr z) hb⟩
theorem p9.again (hY:LeOk Y) (h:p9 Y fb q w0 Γ X Mn ft i t at_ cb n0 R0 R H v) {w':World} {R':Rn} {τ:Tape} {d:Nat} (hg:Rg R.fp (over H v).heap.size (over H v) w' w0.heap.size R') (V:Nat->Prop) [DecidablePred V] (hV:∀b,V b↔(H b=none/\¬R'.fp b)) (nv:Y6 w') (hR:∃na nc j2,R'={R with na:=na,nc:=nc,j2:=j2})
  (h1:gh (Yc.P2 (P3 V w') τ d) 0=t) (hgm:gm (Yc.P2 (P3 V w') τ d)=gm v) (h3:∃c,R'.cl[i]? =some c/\c.cb=cb/\((gh (Yc.P2 (P3 V w') τ d) 2=0/\c.st=false/\R'.j2=n0++tell i at_ ((Y.W4 q t).j2.take (gh (Yc.P2 (P3 V w') τ d) 1))/\c.E2=Y.E2 q i t)\/(gh (Yc.P2 (P3 V w') τ d) 2=1/\c.st=true/\R'.j2=n0))) :
  p9 Y fb q w0 Γ X Mn ft i t at_ cb n0 R0 R' (M8 V w') (Yc.P2 (P3 V w') τ d)/\Xq0 v (Yc.P2 (P3 V w') τ d):=by
 obtain⟨na,nc,j2,rfl⟩:=hR;have hkb:∀b,b<(over H v).heap.size->¬R.fp b->w'.heap[b]? =(over H v).heap[b]?:=fun b hb hf=>hg.md.block b hb hf;have lx0:=h.fix.o5 hY (R':={R with na:=na,nc:=nc,j2:=j2}) (w':=w') hg.m rfl rfl rfl hg.fp rfl (fun j c hc=>⟨c,hc,rfl,rfl,fun _=>⟨rfl,rfl⟩⟩) hg.md.size (fun b hb hf _=>.inl (hkb b hb hf)) (fun z=>by cases z);have heL:=h.he.lt;have heF:¬R.fp (Γ.eb i):=(h.fix.side i h.il h.nil).2.2.2;refine⟨p9.enter hY V lx0 (fun b hb hv=>?_) nv h1 (hgm.trans h.gmq) h.atq h3 ?_ h.nil ((hkb _ heL heF).trans h.he),⟨?_,?_,?_,fun b hb=>?_⟩⟩
 ·obtain⟨h4,h5⟩:=(hV b).1 hv;rcases hb with hb|hb
  ·exact h5 hb
  ·exact h.all b (.inr hb) h4
 ·obtain⟨a,c,n,e⟩:=h.rel;exact⟨na,nc,j2,by rw[e]⟩
 ·exact hg.md.os
 ·exact hg.md.output
 ·show v.heap.size <=(P3 V w').heap.size;rw[n9,<- T4 H v];exact hg.md.size
 ·show(P3 V w').heap[b]? =v.heap[b]?;have hb':b<(over H v).heap.size:=by rw[T4];exact hb
  cases hh:H b with
  |none=>
   have hf:=h.gi1 hh;have hf':¬Rn.fp {R with na:=na,nc:=nc,j2:=j2} b:=fun z=>(hg.fp b z).elim hf.1 (Nat.not_le_of_lt hb');rw[ao0 _ ((hV b).2 ⟨hh,hf'⟩),hkb b hb' hf.1,k6 v hh]
  |some o=>
   rw[gu0 (fun z=>by rw[((hV b).1 z).1]at hh;cases hh) (Nat.lt_of_lt_of_le hb' hg.md.size),h.no b o hh]
theorem p9.number {Post:Value->World->Prop} {cs:List Frame} (h:p9 Y fb q w0 Γ X Mn ft i t at_ cb n0 R0 R H v) (k:∀fr,fr.fn=53->Leaves prog fr v (.returned (.i (i:Nat)))->fz0 prog Post X (Γ.gi i) H (G fr cs) v) :
  fz0 prog Post X (Γ.gi i) H (G (Frame.enter prog 53 #[.p cb] .normal) cs) v:=by
 intro hH;obtain⟨c,hc,hcb,_⟩:=h.cl;have hB:=h.fix.mem.blk i c hc;refine ak0 _ _ fun nv=>?_;subst hcb;refine @Lc0 (R2 prog (Γ.gi i==0)) R.rb i c (over H v) hB _ j6 cs fun e w' fr he hf hl=>?_;cases e with
 |returned x=>
  obtain⟨rfl,rfl⟩:=he;exact k fr hf (va0 (by rw[hf];exact func53) (.inr ⟨_,rfl⟩) (fun z=>by cases z) hl nv) hH
 |panicked ch=>exact he.elim
 |outgrown=>exact he.elim
theorem ia0 {Post:Value->World->Prop} {z0:Value} {me0:Goroutine} {st:Bool} (hY:of0 Y) (hX0:X.C2 0=some ⟨R0.yb,z0,me0⟩) (_hnt:n0.length+(Y.W4 q t).j2.length <=1000000000)
  (E8:∀Γ' X' R' w',After Y fb q w0 Mn ft i t n0 R0 st Γ' X' R' w'->Fin prog Post X' 0 (Go.Conc.served me0 (.i (i:Int))) w') {g:Goroutine} {v:World} (hp:o9 (Y.cfg fb q w0 i cb (Γ.top i)) g v) :
  ∀H R,p9 Y fb q w0 Γ X Mn ft i t at_ cb n0 R0 R H v->(∀c,R.cl[i]? =some c->c.st=st)->fz0 prog Post X (Γ.gi i) H g v:=by
 induction hp with
 |own hr g' u' d' hf hk ih=>
  intro H R h S4;have X9:(Γ.gi i==0)=false:=by have:=h.dd0;simp;omega
  refine no0 hr fun τ d=>⟨g' τ d,u' τ d,by rw[X9];exact hf τ d,fun he=>cu0 (ih τ d H R (h.evo hY.toLeOk ⟨he.size,he.obj⟩ rfl) S4)⟩
 |ign h0 ih=>
  intro H R h S4;exact Ei0.2 _ _ fun hv=>ih hv H R h S4
 | @number cs v k ih=>
  intro H R h S4;exact h.number fun fr hf hl=>ih fr hf hl H R h S4
 |E2 hfn=>cases hfn
 | @again cs v s rf df h2 hs k ih=>
  intro H R h S4 hH;obtain⟨c,hc,hcb,N7⟩:=h.cl;have hB:=h.fix.mem.blk i c hc;have mo0:c.st=true/\R.j2=n0:=by
   rcases N7 with N7|N7
   ·have:=N7.1;omega
   ·exact N7.2
  have X9:(Γ.gi i==0)=false:=by have:=h.dd0;simp;omega
  obtain⟨s0,rfl⟩:=hs;subst hcb;refine Bv0 (Z:=Fin prog Post X (Γ.gi i)) (by have:=@j6 prog Post X (Γ.gi i);rw[X9]at this;exact this) hB mo0.1 fun w' fr ch hb hf hr hl=>?_;refine ak0 _ _ fun nv=>?_;haveI:DecidablePred fun b=>H b=none/\¬R.fp b:=fun _=>Classical.propDecidable _;have hg:Rg R.fp (over H v).heap.size (over H v) w' w0.heap.size R:=h.fix.mem.rg.j0 hb;have htp:w'.tape=v.tape:=hb.tape;obtain⟨h5,h6⟩:=h.again hY.toLeOk (τ:=w'.tape) (d:=w'.drawn) hg (fun b=>H b=none/\¬R.fp b) (fun _=>Iff.rfl) nv ⟨R.na,R.nc,R.j2,rfl⟩ ((K3 htp 0).trans h.tq) (L7 htp) ⟨c,hc,rfl,.inr ⟨(K3 htp 2).trans h2,mo0⟩⟩;exact mj0 (fun b=>H b=none/\¬R.fp b) (ih _ fr ch h6 htp hf hr hl _ R h5 S4)
 |note hfn=>cases hfn
 | @step cs v s rf df l m F ht hs hr hdf Rdo hdo go stop ihg ihs=>
  intro H R h S4 hH;obtain⟨c,hc,hcb,N7⟩:=h.cl;have htq:=h.tq;have hn:=h.nil;have h2:gh v 2=0:=ht.on;have vb0:c.st=false/\R.j2=n0++tell i at_ ((Y.W4 q t).j2.take (gh v 1))/\c.E2=Y.E2 q i t:=by
   rcases N7 with N7|N7
   ·exact N7.2
   ·have:=N7.1;omega
  have Vz0:(Y.W4 q t).W3= .inl l:=by rw[<- htq];exact ht.W3
  have lq1:gh v 1=(Y.W4 q t).j2.length:=by rw[<- htq];exact ht.j2
  have hinv:Y.Inv (Y.W4 q t).s m v F:=by rw[<- htq];exact ht.inv
  have hck:=h.fix.ck i c hc hn;have J7:=h.il;obtain⟨na,nc,j2,pk0⟩:=h.rel;have hyb:R.yb=R0.yb:=by rw[pk0]
  have hR0:R0.cl=R.cl:=by rw[pk0]
  have Zg0:R0.evs=R.evs:=by rw[pk0]
  subst hcb hs;refine step_fin (Bs:=w0.heap.size) h.fix.mem.rg hc vb0.1 (qj0 (N9.du0.fnV hr)) (qj0 hdf) (by have:=h.dd0;omega) (by rw[hyb];exact hX0) h.fix.dn hck.stay ⟨hck.ch,h.chs hn hc⟩ fun w' me hg hme=>?_;have hef:=(h.fix.side i J7 hn).2.2.2;have heb:X1 w' (Γ.eb i) #[.bool false] 4 (0,0):=(hg.md.block _ h.he.lt hef).trans h.he;obtain⟨h7,h8⟩:=h.home hY hn (c':={c with sp:=Y.stp i l,rf:=rf,df:=df,wt:=true}) (ends:=R.ends) hc rfl rfl rfl hg rfl (fun k hk=>.inl hk) ⟨_,heb⟩ (fun _ _=>rfl) F ht.le hinv ⟨ht.os,ht.output⟩ (sh:=some ⟨c.rc,.bool false,me⟩) (fun s e=>by cases e;rfl) (f:=.inl l)
   (N:=fun b=>b<v.heap.size/\v.heap[b]? ≠some nothing/\¬F b) (fun b hb=>⟨hb.2.1,hb.1,hb.2.2⟩) (fun S9=>.inr ⟨hn,rfl,vb0.1,rfl,heb,me,cs,v,m,F,Rdo,R9,hme,hr,hdf,fun b=>by simp[Geo.ma0,Geo.put],fun b hb=>by
    have hb':b<v.heap.size/\v.heap[b]? ≠some nothing/\¬F b:=by simpa [Geo.ma0,Geo.put]using hb
    exact S9 b hb'.2.1 hb'.1,ht.os,ht.output,by have:=hg.md.size;rw[T4]at this;exact this,hY.refl _ _,hdo,go,stop⟩)
  rw[<- Vz0]at h7;obtain⟨a,b,e⟩:=h8;refine E8 _ _ _ _ (.inl ⟨(S4 c hc).symm.trans vb0.1,h7,a,b,c,{c with sp:=Y.stp i l,rf:=rf,df:=df,wt:=true},by rw[hR0];exact hc,rfl,e.trans ?_⟩)
  ·rw[Vz0,show kq0 R0.ends i (Sum.inl l:Y.L ⊕ Nat)=R.ends from by rw[pk0];rfl,vb0.2.1,lq1,List.take_length,Zg0,h.atq]
 | @done fr v e F hf hl hd=>
  intro H R h S4 hH;obtain⟨c,hc,hcb,N7⟩:=h.cl;have htq:=h.tq;have hn:=h.nil;have hck:=h.fix.ck i c hc hn;have J7:=h.il;obtain⟨na,nc,j2,pk0⟩:=h.rel;have hyb:R.yb=R0.yb:=by rw[pk0]
  have hR0:R0.cl=R.cl:=by rw[pk0]
  have Zg0:R0.evs=R.evs:=by rw[pk0]
  have hsd:=h.fix.side i J7 hn;have hlen:R.ends.length=R.m:=h.fix.mem.eo0;have him:i<R.ends.length:=by have:=h.fix.mem.lcl;omega
  have key:∀x:Nat,ft1 c (x:Int) e->((st=false/\(Y.W4 q t).W3= .inr x/\gh v 1=(Y.W4 q t).j2.length/\∃m,(∀j,j≠i->Y.le j (gm v) m)/\Y.Inv (Y.W4 q t).s m v F)\/(st=true/\x=0/\∃m,(∀j,j≠i->Y.le j (gm v) m)/\Y.Inv (Y.sAt q t) m v F))->v.os=w0.os->v.output=w0.output->Fin prog Post X (Γ.gi i) (G fr (Γ.top i)) (over H v):=by
   intro x hx hk hos W8;have hg:Rg (fun b=>R.fp b\/b=Γ.eb i) (over H v).heap.size (over H v) (over H v) w0.heap.size R:=⟨h.fix.mem,ho0.refl _ _ _,fun k hk=>.inl (.inl hk),Nat.le_refl _⟩
   refine hck.top.leave (x:Int) hg rfl hc rfl hck.ha h.he (.inl (.inr rfl)) hx h.dd0 (by rw[hyb];exact hX0) h.fix.dn h.fix.J4 (fun w' Y8 heb=>?_) (lj0 hH hl);have Ma0:∀j,j≠i->(R.ends.set i (x:Int))[j]? =R.ends[j]?:=fun j hj=>by rw[List.getElem?_set_ne (Ne.symm hj)]
   have hmk:∀s m,(∀j,j≠i->Y.le j (gm v) m)->Y.Inv s m v F->_:=fun s m hm hs=>h.home hY hn (c':={c with wt:=false}) (ends:=R.ends.set i (x:Int)) hc rfl rfl rfl Y8 rfl (fun k hk=>hk) heb Ma0 F hm hs ⟨hos,W8⟩ (sh:=none) (fun s e=>by cases e) (f:=.inr x) (N:=fun _=>False) (fun b hb=>hb.elim) (fun S9=>.inr ⟨hn,rfl,by simp[him],R9⟩);rcases hk with⟨h1,h2,h3,m,hm,h4⟩|⟨h1,h2,m,hm,h3⟩
   ·have mo0:c.st=false:=(S4 c hc).trans h1;have vb0:R.j2=n0++tell i at_ ((Y.W4 q t).j2.take (gh v 1)):=by
     rcases N7 with N7|N7
     ·exact N7.2.2.1
     ·rw[mo0]at N7;exact absurd N7.2.1 (by decide)
    obtain⟨h7,a,b,e'⟩:=hmk _ m hm h4;rw[<- h2]at h7;refine E8 _ _ _ _ (.inl ⟨h1,h7,a,b,c,{c with wt:=false},by rw[hR0];exact hc,rfl,e'.trans ?_⟩)
    ·rw[h2,show kq0 R0.ends i (Sum.inr x:Y.L ⊕ Nat)=R.ends.set i (x:Int)from by rw[pk0];rfl,vb0,h3,List.take_length,Zg0,h.atq]
   ·have mo0:c.st=true:=(S4 c hc).trans h1;have vb0:R.j2=n0:=by
     rcases N7 with N7|N7
     ·rw[mo0]at N7;exact absurd N7.2.1 (by decide)
     ·exact N7.2.2
    obtain⟨h7,a,b,e'⟩:=hmk _ m hm h3;subst h2;refine E8 _ _ _ _ (.inr ⟨h1,h7,a,b,c,{c with wt:=false},by rw[hR0];exact hc,rfl,e'.trans ?_⟩)
    ·rw[show R0.ends.set i 0=R.ends.set i ((0:Nat):Int)from by rw[pk0];rfl,vb0]
  have Zh0:gh v 2=0->c.st=false:=fun z=>by rcases N7 with N7|N7;exact N7.2.1;have:=N7.1;omega
  have Sc0:gh v 2=1->c.st=true:=fun z=>by rcases N7 with N7|N7;have:=N7.1;omega;exact N7.2.1
  have N0:∀(x:Nat) m,(Y.cfg fb q w0 i cb (Γ.top i)).Told v m F (.inr x)->(st=false/\(Y.W4 q t).W3= .inr x/\gh v 1=(Y.W4 q t).j2.length/\∃m,(∀j,j≠i->Y.le j (gm v) m)/\Y.Inv (Y.W4 q t).s m v F):=fun x m ht=>
   ⟨(S4 c hc).symm.trans (Zh0 ht.on),by rw[<- htq];exact ht.W3,by rw[<- htq];exact ht.j2,m,ht.le,by rw[<- htq];exact ht.inv⟩
  cases e with
  |outgrown=>exact hd.elim
  |returned x=>
   rcases hd with⟨m,ht⟩|⟨h2,h3,h4,h5⟩
   ·exact key 1 (.inr ⟨Zh0 ht.on,rfl⟩) (.inl (N0 1 m ht)) ht.os ht.output
   ·exact key 0 (.inl ⟨Sc0 h2,rfl⟩) (.inr ⟨(S4 c hc).symm.trans (Sc0 h2),rfl,by rw[<- htq];exact h3⟩) h4 h5
  |panicked ch=>
   obtain⟨hra,⟨m,ht⟩|⟨h2,h3,h4,h5⟩⟩:=hd
   ·exact key 2 ⟨hra,.inr ⟨Zh0 ht.on,rfl⟩⟩ (.inl (N0 2 m ht)) ht.os ht.output
   ·exact key 0 ⟨hra,.inl ⟨Sc0 h2,rfl⟩⟩ (.inr ⟨(S4 c hc).symm.trans (Sc0 h2),rfl,by rw[<- htq];exact h3⟩) h4 h5
end
end
section
attribute [local irreducible] KK
def r6 {α:Type} (f:Nat->α) (i:Nat) (x:α):Nat->α:=fun j=>if j=i then x else f j
theorem J3 {α:Type} {f:Nat->α} {i:Nat} {x:α} {j:Nat} (h:j≠i):r6 f i x j=f j:=by simp[r6,h]
theorem Z2 {α:Type} {f:Nat->α} {i:Nat} {x:α}:r6 f i x i=x:=by simp[r6]
def Geo.add (Γ:Geo) (i g a e:Nat) (top:List Frame):Geo:=⟨Γ.gm,r6 Γ.gi i g,r6 Γ.ab i a,r6 Γ.eb i e,r6 Γ.top i top,r6 Γ.pv i fun _=>False⟩
def vc0 (X:Gh) (cb rc:Nat) (s:w6):Gh :=
 {((Gh.hire {X.lower cb with pend:=1,cap:=X.cap+1,dn:=0} s).lower rc)with chs:=fun c=>X.chs c\/c=rc,stay:=Go.ConcN.upd X.stay X.n [(⟨cb,2,none⟩,.chan (some rc))]}
section
variable {Y:Sys}{fb:Nat->FuncId}{q:PR Y}{Γ:Geo}{X:Gh}{R:Rn}{w w1:World}{Mn:Nat->Option Obj}{w0:World}{ft:Nat->Option (Y.L ⊕ Nat)}{i:Nat}
theorem m8 {α:Type} {l:List α} {x y:α} {j:Nat} (h:(l ++ [x])[j]? =some y):l[j]? =some y\/(j=l.length/\x=y):=by
 rcases Nat.lt_trichotomy j l.length with z|z|z
 ·rw[List.getElem?_append_left z]at h;exact .inl h
 ·subst z;simp at h;exact .inr ⟨rfl,h⟩
 ·rw[List.getElem?_eq_none (by simp;omega)]at h;cases h
theorem Fix.Zi0 (hY:LeOk Y) (h:Fix Y fb q w0 Γ X R w Mn none ft) (hn:Y.nil i=true) (hi:R.cl.length=i) {cb rc:Nat} {a:Option Addr} {n:Nat} (him:i<R.m) (hcb:w.heap.size <=cb) (hg:Rg R.fp w.heap.size w w1 w0.heap.size {R with ca:=a,cc:=n,cl:=R.cl ++ [Q4 cb rc],ends:=R.ends.set i 1}) (hft:ft i=none) :
  Fix Y fb q w0 Γ (X.lower cb) {R with ca:=a,cc:=n,cl:=R.cl ++ [Q4 cb rc],ends:=R.ends.set i 1} w1 Mn none (fun j=>if j=i then some (.inr 1) else ft j):=by
 have D2:∀b,b<w.heap.size->¬R.fp b->w1.heap[b]? =w.heap[b]?:=hg.md.block;have hle:∀j,j<(R.cl ++ [Q4 cb rc]).length->Y.nil j=false->j<R.cl.length:=fun j hj y8=>by
  rw[List.length_append,List.length_singleton]at hj;rcases Nat.lt_or_ge j R.cl.length with z|z
  ·exact z
  ·have:j=i:=by omega
   rw[this,hn]at y8;cases y8
 have hold:∀j c,(R.cl ++ [Q4 cb rc])[j]? =some c->Y.nil j=false->R.cl[j]? =some c:=fun j c hc y8=>by
  rcases m8 hc with z|⟨z,_⟩
  ·exact z
  ·rw[z,hi,hn]at y8;cases y8
 have C3:R.ends.length=R.m:=h.mem.eo0;have hfp:∀b,Rn.fp {R with ca:=a,cc:=n,cl:=R.cl ++ [Q4 cb rc],ends:=R.ends.set i 1} b->R.fp b\/w.heap.size <=b:=hg.fp;have hnf:∀b,b<w.heap.size->¬R.fp b->¬Rn.fp {R with ca:=a,cc:=n,cl:=R.cl ++ [Q4 cb rc],ends:=R.ends.set i 1} b:=fun b hb hf z=>(hfp b z).elim hf (Nat.not_le_of_lt hb);refine⟨hg.m,h.m,fun j c hc _=>?_,fun j c hc y8=>?_,fun b hb=>?_,fun j hj y8=>?_,fun j b hb=>?_,fun b hb=>?_,h.od0,fun z=>hg.md.os.trans (h.os z),fun z=>hg.md.output.trans (h.output z),Nat.le_trans h.size hg.md.size,h.J4,h.lp0,h.chy,fun g s Y8 hs=>?_,fun j k hj hk y8 hnk=>h.Cd0 j k (hle j hj y8) (hle k hk hnk) y8 hnk,fun j k hj hk y8 hnk=>h.qi0 j k (hle j hj y8) (hle k hk hnk) y8 hnk,fun j k c d hc hd y8 hnk=>h.Gx0 j k c d (hold j c hc y8) (hold k d hd hnk) y8 hnk,fun j c hc y8=>h.ry j c (hold j c hc y8) y8,h.dn,h.pend,?_,?_,fun b hb=>h.L6 b (Nat.le_trans hg.md.size hb),h.oe0,⟨h.base.le,fun b hb=>hb.elim (h.base.low b) fun e=>by have:=h.base.le;have:=h.size;omega,h.base.pl⟩⟩
 ·rcases m8 hc with z|⟨z,rfl⟩
  ·have hjl:=(List.getElem?_eq_some_iff.1 z).1;obtain⟨f,h1,h2⟩:=h.cl j c z (by simp);have S2:j≠i:=by omega
   refine⟨f,by simp[S2,h1],h2.o5 (Γ':=Γ) (hY.trans _) (hY.refl _ Γ.gm) (fun b hb=>D2 b (h.pv j b hb).1 (h.pv j b hb).2.1) hg.md.size (fun _=>rfl) (fun y8=>?_) rfl rfl rfl rfl (by show(R.ends.set i 1)[j]? =_;rw[List.getElem?_set_ne (Ne.symm S2)])⟩;exact D2 _ (h.ck j c z y8).he.choose_spec.lt (h.side j hjl y8).2.2.2
  ·rw[hi]at z;subst z;refine⟨.inr 1,by simp,.inl ⟨hn,rfl,rfl,?_⟩⟩;show(R.ends.set j 1)[j]? =some 1;simp[C3,him]
 ·have V8:=hold j c hc y8;have hk:=h.ck j c V8 y8;have hjl:=(List.getElem?_eq_some_iff.1 V8).1;have hs:=h.side j hjl y8;refine⟨hk.top,(D2 _ hk.ha.lt hs.2.2.1).trans hk.ha,?_,hk.dd0,hk.stay,hk.ch⟩;obtain⟨en,he⟩:=hk.he;exact⟨en,(D2 _ he.lt hs.2.2.2).trans he⟩
 ·rcases hfp b hb with z|z
  ·exact h.fpB b z
  ·exact Nat.le_trans h.size z
 ·have hjl:=hle j hj y8;have hs:=h.side j hjl y8;have hk:=h.ck j _ (List.getElem?_eq_getElem hjl) y8;exact⟨hs.1,hs.2.1,hnf _ hk.ha.lt hs.2.2.1,hnf _ hk.he.choose_spec.lt hs.2.2.2⟩
 ·have hp:=h.pv j b hb;exact⟨Nat.lt_of_lt_of_le hp.1 hg.md.size,hnf b hp.1 hp.2.1,hp.2.2.1,fun k hk hnk=>hp.2.2.2.1 k (hle k hk hnk) hnk,hp.2.2.2.2⟩
 ·have hm:=h.mn b hb;have hb':b<w.heap.size:=by
   rcases Nat.lt_or_ge b w.heap.size with z|z
   ·exact z
   ·exact absurd (hm.1.symm.trans (Array.getElem?_eq_none z)) hb
  exact⟨(D2 b hb' hm.2.1).trans hm.1,hnf b hb' hm.2.1,fun k hk hnk=>hm.2.2 k (hle k hk hnk) hnk⟩
 ·obtain⟨j,c,h1,h2⟩:=h.O4 g s Y8 hs;have hjl:=(List.getElem?_eq_some_iff.1 h1).1;exact⟨j,c,by show(R.cl ++ [Q4 cb rc])[j]? =some c;rw[List.getElem?_append_left hjl];exact h1,h2⟩
 ·show X.cap <=(R.cl ++ [Q4 cb rc]).length;have:=h.cap;simp;omega
 ·have hu:=h.under.mono hg.md.size;have N7:cb<w1.heap.size:=(hg.m.blk i (Q4 cb rc) (by show(R.cl ++ [Q4 cb rc])[i]? =_;rw[<- hi];simp)).lt;exact⟨hu.stay,hu.w5,hu.chs,hu.J4,fun b hb=>by
   rcases hb with z|rfl
   ·exact hu.low b z
   ·exact N7⟩
theorem Fix.hire (hY:LeOk Y) (h:Fix Y fb q w0 Γ X R w Mn none ft) (hn:Y.nil i=false) (hi:R.cl.length=i) {cb rc Z7 m7:Nat} {a:Option Addr} {n:Nat} {top:List Frame} {s:w6} (hs:s.ch=R.yb) (hM:D4 w1 w0.heap.size {R with ca:=a,cc:=n,cl:=R.cl ++ [Q4 cb rc]}) (A2:w.heap.size <=w1.heap.size) (_hos:w1.os=w.os/\w1.output=w.output)
  (D2:∀b,b<w.heap.size->¬R.fp b->w1.heap[b]? =w.heap[b]?) (hfp:∀b,Rn.fp {R with ca:=a,cc:=n,cl:=R.cl ++ [Q4 cb rc]} b->R.fp b\/w.heap.size <=b) (hcb:w.heap.size <=cb) (hrc:w.heap.size <=rc/\rc<w1.heap.size) (hab:w.heap.size <=Z7) (heb:w.heap.size <=m7) (hA:X1 w1 Z7 #[.p cb] 106 (0,0)) (hE:X1 w1 m7 #[.bool false] 4 (0,0))
  (hnA:¬Rn.fp {R with ca:=a,cc:=n,cl:=R.cl ++ [Q4 cb rc]} Z7) (hnE:¬Rn.fp {R with ca:=a,cc:=n,cl:=R.cl ++ [Q4 cb rc]} m7) (hT:Lj0 top Z7 m7 R.rb cb) :
  Fix Y fb q w0 (Γ.add i X.n Z7 m7 top) (vc0 X cb rc s) {R with ca:=a,cc:=n,cl:=R.cl ++ [Q4 cb rc]} w1 Mn (some i) ft:=by
 have hle:∀j,j<(R.cl ++ [Q4 cb rc]).length->j≠i->j<R.cl.length:=fun j hj S2=>by
  rw[List.length_append,List.length_singleton]at hj;omega
 have hold:∀j c,(R.cl ++ [Q4 cb rc])[j]? =some c->j≠i->R.cl[j]? =some c:=fun j c hc S2=>by
  rcases m8 hc with z|⟨z,_⟩
  ·exact z
  ·exact absurd (z.trans hi) S2
 have G0:∀c,(R.cl ++ [Q4 cb rc])[i]? =some c->c=Q4 cb rc:=fun c hc=>by
  rw[<- hi]at hc;simp at hc;exact hc.symm
 have hnf:∀b,b<w.heap.size->¬R.fp b->¬Rn.fp {R with ca:=a,cc:=n,cl:=R.cl ++ [Q4 cb rc]} b:=fun b hb hf z=>(hfp b z).elim hf (Nat.not_le_of_lt hb);have hgi:∀{j},j≠i->(Γ.add i X.n Z7 m7 top).gi j=Γ.gi j:=fun hj=>J3 hj;have Mb0:(Γ.add i X.n Z7 m7 top).gi i=X.n:=Z2;have Sd0:∀{j},j≠i->(Γ.add i X.n Z7 m7 top).ab j=Γ.ab j:=fun hj=>J3 hj;have Se0:(Γ.add i X.n Z7 m7 top).ab i=Z7:=Z2;have sl0:∀{j},j≠i->(Γ.add i X.n Z7 m7 top).eb j=Γ.eb j:=fun hj=>J3 hj;have vd0:(Γ.add i X.n Z7 m7 top).eb i=m7:=Z2;have htn:∀{j},j≠i->(Γ.add i X.n Z7 m7 top).top j=Γ.top j:=fun hj=>J3 hj;have hti:(Γ.add i X.n Z7 m7 top).top i=top:=Z2;have hpn:∀{j},j≠i->(Γ.add i X.n Z7 m7 top).pv j=Γ.pv j:=fun hj=>J3 hj;have hpi:(Γ.add i X.n Z7 m7 top).pv i=fun _=>False:=Z2;have p6:∀j,j<R.cl.length->Y.nil j=false->Γ.gi j≠X.n:=fun j hj y8 e=>by
  have:=(h.ck j _ (List.getElem?_eq_getElem hj) y8).dd0;omega
 have c7:∀g,g≠0->(vc0 X cb rc s).C2 g=X.C2 g:=fun g hg=>Go.ConcN.upd_ne _ _ hg;have Mc0:∀g,g≠X.n->(vc0 X cb rc s).stay g=X.stay g:=fun g hg=>Go.ConcN.upd_ne _ _ hg;have Md0:∀b,b<w.heap.size->(∀k,k<R.cl.length->Y.nil k=false->b≠Γ.ab k/\b≠Γ.eb k)->∀k,k<(R.cl ++ [Q4 cb rc]).length->Y.nil k=false->b≠(Γ.add i X.n Z7 m7 top).ab k/\b≠(Γ.add i X.n Z7 m7 top).eb k:=fun b hb hk k hkl hnk=>by
  by_cases J9:k=i
  ·rw[J9,Se0,vd0];constructor <;> omega
  ·rw[Sd0 J9,sl0 J9];exact hk k (hle k hkl J9) hnk
 refine⟨hM,h.m,fun j c hc hj=>?_,fun j c hc y8=>?_,fun b hb=>?_,fun j hj y8=>?_,fun j b hb=>?_,fun b hb=>?_,Nat.succ_pos _,(fun z=>by cases z),(fun z=>by cases z),Nat.le_trans h.size A2,h.J4,?_,.inl h.chy,fun g s' Y8 hs'=>?_,fun j k hj hk y8 hnk=>?_,fun j k hj hk y8 hnk=>?_,fun j k c d hc hd y8 hnk=>?_,fun j c hc y8=>?_,rfl,rfl,?_,?_,fun b hb=>h.L6 b (Nat.le_trans A2 hb),(fun z=>by cases z),⟨h.base.le,fun b hb=>?_,h.base.pl⟩⟩
 ·have S2:j≠i:=fun e=>hj (by rw[e]);have z:=hold j c hc S2;have hjl:=(List.getElem?_eq_some_iff.1 z).1;obtain⟨f,h1,h2⟩:=h.cl j c z (by simp);refine⟨f,h1,h2.o5 (Γ':=Γ.add i X.n Z7 m7 top) (hY.trans _) (hY.refl _ Γ.gm) (fun b hb=>D2 b (h.pv j b hb).1 (h.pv j b hb).2.1) A2 (fun y8=>?_) (fun y8=>?_) (sl0 S2) (hgi S2) (htn S2) (hpn S2) rfl⟩
  ·have:=(h.ck j c z y8).dd0;exact c7 _ (by omega)
  ·exact D2 _ (h.ck j c z y8).he.choose_spec.lt (h.side j hjl y8).2.2.2
 ·by_cases S2:j=i
  ·subst S2;obtain rfl:=G0 c hc;refine⟨by rw[hti,Se0,vd0];exact hT,by rw[Se0];exact hA,⟨false,by rw[vd0];exact hE⟩,⟨by rw[Mb0];exact h.od0,by rw[Mb0];exact Nat.lt_succ_self _⟩,by rw[Mb0];exact Go.ConcN.upd_same _ _ _,.inr rfl⟩
  ·have z:=hold j c hc S2;have hk:=h.ck j c z y8;have hjl:=(List.getElem?_eq_some_iff.1 z).1;have hs:=h.side j hjl y8;refine⟨by rw[htn S2,Sd0 S2,sl0 S2];exact hk.top,by rw[Sd0 S2];exact(D2 _ hk.ha.lt hs.2.2.1).trans hk.ha,?_,⟨by rw[hgi S2];exact hk.dd0.1,by rw[hgi S2];exact Nat.lt_succ_of_lt hk.dd0.2⟩,by rw[hgi S2,Mc0 _ (p6 j hjl y8)];exact hk.stay,.inl hk.ch⟩;obtain⟨en,he⟩:=hk.he;exact⟨en,by rw[sl0 S2];exact(D2 _ he.lt hs.2.2.2).trans he⟩
 ·rcases hfp b hb with z|z
  ·exact h.fpB b z
  ·exact Nat.le_trans h.size z
 ·by_cases S2:j=i
  ·subst S2;rw[Se0,vd0];exact⟨Nat.le_trans h.size hab,Nat.le_trans h.size heb,hnA,hnE⟩
  ·have hjl:=hle j hj S2;have hs:=h.side j hjl y8;have hk:=h.ck j _ (List.getElem?_eq_getElem hjl) y8;rw[Sd0 S2,sl0 S2];exact⟨hs.1,hs.2.1,hnf _ hk.ha.lt hs.2.2.1,hnf _ hk.he.choose_spec.lt hs.2.2.2⟩
 ·by_cases S2:j=i
  ·subst S2;rw[hpi]at hb;exact hb.elim
  ·rw[hpn S2]at hb;have hp:=h.pv j b hb;refine⟨Nat.lt_of_lt_of_le hp.1 A2,hnf b hp.1 hp.2.1,hp.2.2.1,Md0 b hp.1 hp.2.2.2.1,fun k hk hkp=>?_⟩;by_cases J9:k=i
   ·subst J9;rw[hpi]at hkp;exact hkp
   ·rw[hpn J9]at hkp;exact hp.2.2.2.2 k hk hkp
 ·have hm:=h.mn b hb;have hb':b<w.heap.size:=by
   rcases Nat.lt_or_ge b w.heap.size with z|z
   ·exact z
   ·exact absurd (hm.1.symm.trans (Array.getElem?_eq_none z)) hb
  exact⟨(D2 b hb' hm.2.1).trans hm.1,hnf b hb' hm.2.1,Md0 b hb' hm.2.2⟩
 ·rw[Mc0 0 (by have:=h.od0;omega)];exact h.lp0
 ·rw[c7 g Y8]at hs';obtain⟨j,c,h1,h2,h3,h4,_⟩:=h.O4 g s' Y8 hs';have hjl:=(List.getElem?_eq_some_iff.1 h1).1;have S2:j≠i:=by omega
  exact⟨j,c,by show(R.cl ++ [Q4 cb rc])[j]? =some c;rw[List.getElem?_append_left hjl];exact h1,h2,by rw[hgi S2];exact h3,h4,fun e=>S2 (Option.some.inj e)⟩
 ·intro e;by_cases S2:j=i <;> by_cases J9:k=i
  ·rw[S2,J9]
  ·rw[S2,Mb0,hgi J9]at e;exact absurd e.symm (p6 k (hle k hk J9) hnk)
  ·rw[J9,Mb0,hgi S2]at e;exact absurd e (p6 j (hle j hj S2) y8)
  ·rw[hgi S2,hgi J9]at e;exact h.Cd0 j k (hle j hj S2) (hle k hk J9) y8 hnk e
 ·have hlo:∀j,j<R.cl.length->Y.nil j=false->Γ.eb j<w.heap.size:=fun j hj y8=>(h.ck j _ (List.getElem?_eq_getElem hj) y8).he.choose_spec.lt;intro e;by_cases S2:j=i <;> by_cases J9:k=i
  ·rw[S2,J9]
  ·rw[S2,vd0,sl0 J9]at e;have:=hlo k (hle k hk J9) hnk;omega
  ·rw[J9,vd0,sl0 S2]at e;have:=hlo j (hle j hj S2) y8;omega
  ·rw[sl0 S2,sl0 J9]at e;exact h.qi0 j k (hle j hj S2) (hle k hk J9) y8 hnk e
 ·have hlo:∀j c,R.cl[j]? =some c->Y.nil j=false->c.rc<w.heap.size:=fun j c hc y8=>h.under.chs _ (h.ck j c hc y8).ch;intro e;by_cases S2:j=i <;> by_cases J9:k=i
  ·rw[S2,J9]
  ·subst S2;obtain rfl:=G0 c hc;have:=hlo k d (hold k d hd J9) hnk;have e:rc=d.rc:=e;omega
  ·subst J9;obtain rfl:=G0 d hd;have:=hlo j c (hold j c hc S2) y8;have e:c.rc=rc:=e;omega
  ·exact h.Gx0 j k c d (hold j c hc S2) (hold k d hd J9) y8 hnk e
 ·by_cases S2:j=i
  ·subst S2;obtain rfl:=G0 c hc;have:=h.under.chs _ h.chy;show rc≠R.yb;omega
  ·exact h.ry j c (hold j c hc S2) y8
 ·show X.cap+1 <=(R.cl ++ [Q4 cb rc]).length;have:=h.cap;simp;omega
 ·have hu:=h.under.mono A2;have N7:cb<w1.heap.size:=(hM.blk i (Q4 cb rc) (by show(R.cl ++ [Q4 cb rc])[i]? =_;rw[<- hi];simp)).lt;refine⟨fun g p hp=>?_,hu.w5,fun b hb=>?_,hu.J4,fun b hb=>?_⟩
  ·by_cases hg:g=X.n
   ·subst hg;have hp':p∈Go.ConcN.upd X.stay X.n [((⟨cb,2,none⟩:Addr),Value.chan (some rc))] X.n:=hp;rw[Go.ConcN.upd_same]at hp';simp at hp';rw[hp'];exact N7
   ·rw[Mc0 g hg]at hp;exact hu.stay g p hp
  ·rcases hb with z|rfl
   ·exact hu.chs b z
   ·exact hrc.2
  ·rcases hb with(z|rfl)|rfl
   ·exact hu.low b z
   ·exact N7
   ·exact hrc.2
 ·have h1:=h.base.le;have h2:=h.size;rcases hb with(z|rfl)|rfl
  ·exact h.base.low b z
  ·omega
  ·omega
end
end
end Go.Vy.Sc
end
