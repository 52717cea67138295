/- What the claim leans on, part 3. Laws. -/
import Derived.Test.YtinppmaojmdmhaaGreatKC2
import Derived.Test.YtinppmaojmdmhaaGreatRows
import Derived.KernelRfl
import Derived.Conc.SmallLaws
set_option linter.unusedVariables false
section
namespace Go.Vy
open Go Go.Conc Go.Yc Go.RowKit
open Go.Vc
section
variable {P:Program}[Ctx P]{Z:Goroutine->World->Prop}{Q:Exit->Act->World->Prop}{ops:Array Oper}{b:Frame}{k:List Item}{cs:List Frame}
theorem Cj0 (hZ:Ctx.Zs P Z) (hb:b.kind≠.early) (hk:∀ch a' w',Q (.panic ch) a' w'->Bu0 Z b k cs (.panic ch) a' w') {i:Nat} {rest:List Nat} {o:Oper} {a:Act} {w:World} (ho:ops[i]? =some o)
  (h:if Region.wanted o (yielded ops a.tmps) then qk0 P o a w (fun a w=>Z (G (b.at a (.inRegion ops rest::k)) cs) w) Q else Z (G (b.at (a.put o.dst undef) (.inRegion ops rest::k)) cs) w):Z (G (b.at a (.inRegion ops (i::rest)::k)) cs) w:=by
 cases hw:Region.wanted o (yielded ops a.tmps)with
 |false=>
  rw[hw]at h;exact(Ctx.cl Z hZ).ctl rfl rfl (fun w=>stepG_unwanted ho hw) h
 |true=>
  rw[hw,if_pos rfl]at h;have ck0:∀v,(b.at a (.inRegion ops (i::rest)::k)).finish v=b.at (a.put o.dst v) (.inRegion ops rest::k):=by
   intro v;rw[Frame.finish_at,ho];rfl
  have Iz0:(b.kind==CallKind.early)=false:=by simpa using hb
  refine(Ctx.cl Z hZ).own _ _ rfl fun τ d=>?_;obtain⟨r,w',hr,hK⟩:=h τ d;have fol:∀g',g'.status= .running->(∀x x' es,(execOp a.eval o).runT P x #[]=(r.res x',es)->stepG P (Ctx.main P) (G (b.at a (.inRegion ops (i::rest)::k)) cs) x= .go g' x' (seen P b.fn es))->b6 P (Ctx.main P) (G (b.at a (.inRegion ops (i::rest)::k)) cs) (O2 w τ d) g' w':=by
   intro g' K9 hs;refine⟨K9,fun ρ x hx=>?_⟩;obtain⟨h1,x',es,h2,h3,h4⟩:=hr ρ x hx;exact⟨h1,x',_,hs x x' es h2,h3,fun e he=>h4 e (mem_seen he)⟩
  have split:∀x x' es,(execOp a.eval o).runT P x #[]=(r.res x',es)->(execOp a.eval o).run P x=r.res x'/\(execOp a.eval o).events P x #[]=es:=fun x x' es h=>by
   rw[Sem.runT_eq]at h;exact Prod.mk.inj h
  cases r with
  |val v=>
   refine⟨G (b.at (a.put o.dst v) (.inRegion ops rest::k)) cs,w',w.drawn,fol _ rfl fun x x' es h=>?_,hK⟩;obtain⟨h1,h2⟩:=split x x' es h;rw[stepG_value ho hw hb h1,listed,h2]
  |skip=>
   refine⟨G (b.at (a.put o.dst undef) (.inRegion ops rest::k)) cs,w',w.drawn,fol _ rfl fun x x' es h=>?_,hK⟩;obtain⟨h1,h2⟩:=split x x' es h;rw[stepG_none ho hw hb h1,listed,h2]
  |enter f args=>
   refine⟨G (Frame.enter P f args .normal) (b.at a (.inRegion ops (i::rest)::k)::cs),w',w.drawn,fol _ rfl fun x x' es h=>?_,hK Z hZ _ fun e w'' fr he hf hl=>?_⟩
   ·obtain⟨h1,h2⟩:=split x x' es h;rw[stepG_enter ho hw hb h1,listed,h2]
   ·cases e with
    |returned v=>
     refine U499 ?_;exact he
    |panicked chain=>
     refine U487 ?_;exact hk _ _ _ he _
    |outgrown=>exact he.elim
  |panic v=>
   refine⟨G {b.at a (.inRegion ops (i::rest)::k)with mode:=.panicking [{v,recovered:=false}]} cs,w',w.drawn,fol _ rfl fun x x' es h=>?_,hk _ _ _ hK _⟩;obtain⟨h1,h2⟩:=split x x' es h;have h1':(execOp a.eval o).run P x= .halt (.panic v) x':=h1;rw[stepG_oper ho hw];simp[stepG.apply,h1',h2,G,Frame.at,Iz0,GStep.after,Frame.raise]
theorem id0 (hZ:Ctx.Zs P Z) (hb:b.kind≠.early) {suf:List Nat} (hk:∀ch a' w',Q (.panic ch) a' w'->Bu0 Z b k cs (.panic ch) a' w') (hn:∀a' w',Q .normal a' w'->Z (G (b.at a' (.inRegion ops suf::k)) cs) w') :
  ∀(pre:List Nat) (a:Act) (w:World),wpOps P ops Q pre a w->Z (G (b.at a (.inRegion ops (pre++suf)::k)) cs) w
 | [],a,w,h=>hn a w h
 |i::pre,a,w,h=>by
  unfold wpOps at h;cases ho:ops[i]? with
  |none=>rw[ho]at h;exact h.elim
  |some o=>
   rw[ho]at h;simp only at h;refine Cj0 hZ hb hk ho ?_;show if _ then qk0 P o a w (fun a w=>Z (G (b.at a (.inRegion ops (pre++suf)::k)) cs) w) Q else _
   by_cases hw:Region.wanted o (yielded ops a.tmps)=true
   ·rw[if_pos hw]at h⊢;exact hw0 (fun a w h=>id0 hZ hb hk hn pre a w h) (fun _ _ _ z=>z) h
   ·rw[if_neg hw]at h⊢;exact id0 hZ hb hk hn pre _ _ h
def ZA [Go.Vc.T3] (Z:Goroutine->World->Prop) (n:Nat) (b:Frame) (cs:List Frame) (e:Env) (todo:List Item) (w:World):Prop:=∀a,Rep n a e->Z (G (b.at a todo) cs) w
variable {n:Nat}{e:Env}{w:World}
theorem ZA.c [Go.Vc.T3] (hZ:Ctx.Zs P Z) {todo mi0:List Item} (hs:∀a w,stepG P (Ctx.main P) (G (b.at a todo) cs) w= .go (G (b.at a mi0) cs) w #[]) (h:ZA Z n b cs e mi0 w):ZA Z n b cs e todo w :=
 fun a ha=>(Ctx.cl Z hZ).ctl rfl rfl (hs a) (h a ha)
theorem ZA.seq [Go.Vc.T3] (hZ:Ctx.Zs P Z) {x y:Code} (h:ZA Z n b cs e (.code x :: .code y::k) w):ZA Z n b cs e (.code (.seq x y)::k) w:=ZA.c hZ (fun _ _=>stepG_seq) h
theorem ZA.skip [Go.Vc.T3] (hZ:Ctx.Zs P Z) (h:ZA Z n b cs e k w):ZA Z n b cs e (.code .skip::k) w:=ZA.c hZ (fun _ _=>stepG_skip) h
theorem ZA.block [Go.Vc.T3] (hZ:Ctx.Zs P Z) {id:Nat} {c:Code} (h:ZA Z n b cs e (.code c :: .inBlock id::k) w):ZA Z n b cs e (.code (.block id c)::k) w:=ZA.c hZ (fun _ _=>stepG_block) h
theorem ZA.loop [Go.Vc.T3] (hZ:Ctx.Zs P Z) {c:Code} (h:ZA Z n b cs e (.code c :: .inLoop c::k) w):ZA Z n b cs e (.code (.loop c)::k) w:=ZA.c hZ (fun _ _=>stepG_loop) h
theorem ZA.inBlock [Go.Vc.T3] (hZ:Ctx.Zs P Z) {id:Nat} (h:ZA Z n b cs e k w):ZA Z n b cs e (.inBlock id::k) w:=ZA.c hZ (fun _ _=>stepG_inBlock) h
theorem ZA.inLoop [Go.Vc.T3] (hZ:Ctx.Zs P Z) {c:Code} (h:ZA Z n b cs e (.code c :: .inLoop c::k) w):ZA Z n b cs e (.inLoop c::k) w:=ZA.c hZ (fun _ _=>stepG_inLoop) h
theorem ZA.exit [Go.Vc.T3] (hZ:Ctx.Zs P Z) {id:Nat} {k':List Item} (hk:exitTo id k=some k') (h:ZA Z n b cs e k' w):ZA Z n b cs e (.code (.exit id)::k) w:=ZA.c hZ (fun _ _=>stepG_exit hk) h
theorem ZA.cond [Go.Vc.T3] (hZ:Ctx.Zs P Z) {c:Operand} {x y:Code} {t:Bool} (hc:ev e c= .bool t) (h:ZA Z n b cs e (.code (if t then x else y)::k) w):ZA Z n b cs e (.code (.cond c x y)::k) w :=
 fun a ha=>(Ctx.cl Z hZ).ctl rfl rfl (fun _=>stepG_cond (by rw[ha.eval];exact hc)) (h a ha)
theorem ZA.D4 [Go.Vc.T3] (hZ:Ctx.Zs P Z) (h:ZA Z n b cs e k w):ZA Z n b cs e (.inRegion ops []::k) w:=ZA.c hZ (fun _ _=>stepG_region_end) h
def ZR [Go.Vc.T3] (Z:Goroutine->World->Prop) (n:Nat) (b:Frame) (cs:List Frame) (e:Env) (w:World):Prop:=∀todo,∀a,Rep n a e->Z (G {b.at a todo with mode:=.returning} cs) w
theorem ZA.ret [Go.Vc.T3] (hZ:Ctx.Zs P Z) (h:ZR Z n b cs e w):ZA Z n b cs e (.code .ret::k) w:=fun a ha=>(Ctx.cl Z hZ).ctl rfl rfl (fun _=>stepG_ret') (h _ a ha)
theorem ZA.done [Go.Vc.T3] (hZ:Ctx.Zs P Z) (h:ZR Z n b cs e w):ZA Z n b cs e [] w:=fun a ha=>(Ctx.cl Z hZ).ctl rfl rfl (fun _=>stepG_end) (h _ a ha)
theorem ZA.piece [Go.Vc.T3] (hZ:Ctx.Zs P Z) (hb:b.kind≠.early) {c:Code} {R:Env->World->Prop} (h:W P n c (cx0 R fun _ _ _=>False) e w) (hk:∀e' w',R e' w'->ZA Z n b cs e' k w'):ZA Z n b cs e (.code c::k) w:=by
 intro a ha;refine h a ha Z hZ b k cs hb fun x a' w' hx=>?_;obtain⟨e',r,hq⟩:=hx;cases x with
 |normal=>exact hk e' w' hq a' r
 |exit _=>exact hq.elim
 |goto _=>exact hq.elim
 |ret=>exact hq.elim
 |panic _=>exact hq.elim
 |outgrown=>exact hq.elim
theorem jc0:∀(l:List Oper) (k:Nat) (a:Act) (w:World),(∀j,j<l.length->l[j]? =ops[k+j]?)->wpList P ops Q l a w->wpOps P ops Q (List.range' k l.length) a w
 | [],_,_,_,_,h=>h
 |o::l,k,a,w,hj,h=>by
  have h0:ops[k]? =some o:=by simpa using(hj 0 (by simp)).symm
  have ih:=fun a w=>jc0 l (k+1) a w (fun j hl=>by have:=hj (j+1) (by simpa using hl);simpa [Nat.add_assoc,Nat.add_comm 1 j]using this);rw[List.length_cons,List.range'_succ];unfold wpOps;rw[h0];unfold wpList at h;by_cases hw:Region.wanted o (yielded ops a.tmps)=true
  ·simp only[if_pos hw]at h⊢;exact hw0 ih (fun _ _ _ z=>z) h
  ·simp only[if_neg hw]at h⊢;exact ih _ _ h
theorem ZA.upto [Go.Vc.T3] (hZ:Ctx.Zs P Z) (hb:b.kind≠.early) (kk:Nat) {id:Nat} {l:List Oper} {R:Env->World->Prop} (hB:Qj0 n l=true) (hkl:Nat.ble kk l.length=true) (h:L P n l.toArray (cx0 R fun _ _ _=>False) (l.take kk) e w)
  (hk:∀e' w',R e' w'->ZA Z n b cs e' (.inRegion l.toArray (List.range' kk (l.length-kk))::k) w'):ZA Z n b cs e (.code (.region id l.toArray false)::k) w:=by
 intro a ha;have hle:kk <=l.length:=Nat.le_of_ble_eq_true hkl;refine(Ctx.cl Z hZ).ctl rfl rfl (fun _=>stepG_region) ?_;have h1:=h (fun o ho=>List.all_eq_true.1 hB o (List.mem_of_mem_take ho)) a ha;have h2:=jc0 (l.take kk) 0 a w (fun j hj=>by
  rw[List.getElem?_take_of_lt (by simp at hj;omega)];simp) h1
 have h3:(l.take kk).length=kk:=by simp;omega
 rw[h3]at h2;have h4:List.range l.toArray.size=List.range' 0 kk++List.range' kk (l.length-kk):=by
  have:=List.range'_append_1 (s:=0) (m:=kk) (n:=l.length-kk);rw[Nat.zero_add]at this;rw[List.range_eq_range',List.size_toArray,this];congr 1;omega
 rw[h4];exact id0 hZ hb (fun ch a' w' hx=>by obtain⟨_,_,hx⟩:=hx;exact hx.elim) (fun a' w' hx=>by
  obtain⟨e',r,hq⟩:=hx;exact hk e' w' hq a' r) _ a w h2
theorem Xo0 [Go.Vc.T3] {V:(Nat->Bool)->Prop} {J:(Nat->Bool)->World->Prop} (WP:List Nat->Act->World->Prop) (do1:∀i σ o a w,ops[i]? =some o->(if Region.wanted o (yielded ops a.tmps) then qk0 P o a w (WP σ) Q else WP σ (a.put o.dst undef) w)->WP (i::σ) a w) (h:Ord n ops) {e0:Env} {vals:Nat->Value} {k:Nat} (hk:k<ops.size) (Ju0:∀i o,i<k->ops[i]? =some o->Loc P ops V J i o (EE e0 ops.toList vals i) (vals i))
  (cl0:∀D,V D->∀i,k <=i->i<ops.size->D i=true->∀j,j<i->D j=true)
  (hQ:∀a w D,Rep n a (EE e0 ops.toList vals k)->(∀i,i<k->D i=true)->J D w->WP (List.range' k (ops.size-k)) a w) :
  ∀{listed:Array Bool} {σ:List Nat},Lin ops listed σ->(∀τ ρ,σ=τ++ρ->V (fun j=>listed.getD j false ||τ.contains j)) ->
   ∀(a:Act) (e:Env) (w:World),listed.size=ops.size->(∀j,k <=j->listed.getD j false=false)->Rep n a e->Mid ops e0 vals listed e->J (fun j=>listed.getD j false) w->WP σ a w:=by
 intro listed σ n5
 induction n5 with
 | @nil listed hr=>
  intro _ a e w hs hkf ha hm hJ;have:=ib0 h hs hr k (by omega);rw[hkf k (Nat.le_refl _)]at this;cases this
 | @cons listed i σ hi hl ih=>
  intro hV a e w hs hkf ha hm hJ;have hi0:=hi;obtain⟨h1,o,ho,S5⟩:=mem_ready.1 hi;have hio:i<ops.size:=(Array.getElem?_eq_some_iff.1 ho).1;have X7:i<listed.size:=by omega
  have hDi:(fun j=>listed.getD j false) i=false:=by
   show listed.getD i false=false;simp only[Array.getD_eq_getD_getElem?,X7,Array.getElem?_eq_getElem,Option.getD_some]at h1⊢;exact h1
  have hVD:V (fun j=>listed.getD j false):=by
   have:=hV [] (i::σ) rfl;have e1:(fun j=>listed.getD j false ||([]:List Nat).contains j)=fun j=>listed.getD j false:=funext fun j=>by simp
   rw[e1]at this;exact this
  have hVD:V (fun j=>listed.getD j false)/\V (Q5 (fun j=>listed.getD j false) i):=by
   refine⟨hVD,?_⟩;have:=hV [i] σ rfl;have e1:(fun j=>listed.getD j false ||([i]:List Nat).contains j)=Q5 (fun j=>listed.getD j false) i:=funext fun j=>by
    unfold Q5;by_cases hj:j=i
    ·simp[hj]
    ·simp[hj]
   rw[e1]at this;exact this
  by_cases hik:k <=i
  ·have r9:∀j,j<i->listed.getD j false=true:=fun j hj=>by
    have:=cl0 _ hVD.2 i hik hio (by simp[Q5]) j hj;unfold Q5 at this;rw[if_neg (by omega)]at this;exact this
   have hki:i=k:=by
    rcases Nat.lt_or_ge k i with h3|h3
    ·have:=r9 k h3;rw[hkf k (Nat.le_refl _)]at this;cases this
    ·omega
   subst hki;refine U482 ?_;intro hσ;have he:e=EE e0 ops.toList vals i:=by
    funext t;have hlz:∀j:Nat,ops.toList[j]? =ops[j]?:=fun j=>by rw[Array.getElem?_toList]
    by_cases hex:∃(j:Nat) (p:Oper),j<i/\ops[j]? =some p/\p.dst=some t
    ·obtain⟨j,p,hj,hp,hd⟩:=hex;exact U371
    ·rw[hm.ny0 t (fun j p hp hd=>by
      rcases Nat.lt_or_ge j i with h3|h3
      ·exact absurd ⟨j,p,h3,hp,hd⟩ hex
      ·exact hkf j h3)]
     exact(jr0 e0 ops.toList vals t _ (fun j p hj hp hd=>hex ⟨j,p,hj,by rw[<- hlz];exact hp,hd⟩)).symm
   subst he;exact hQ a w _ ha r9 hJ
  ·have hlk:=nz0 h hm ho S5;refine U315 ?_;intro hex hwa;have hV':∀τ ρ,σ=τ++ρ->V (fun j=>(listed.setIfInBounds i true).getD j false ||τ.contains j):=by
    intro τ ρ hσ;have:=hV (i::τ) ρ (by rw[hσ];rfl);have e1:(fun j=>listed.getD j false ||(i::τ).contains j)=fun j=>(listed.setIfInBounds i true).getD j false ||τ.contains j:=by
     funext j;by_cases hj:i=j
     ·subst hj;simp[X7]
     ·rw[getD_set_ne false hj];simp[Ne.symm hj]
    rw[e1]at this;exact this
   have next:∀w',J (Q5 (fun j=>listed.getD j false) i) w'->WP σ (a.put o.dst (vals i)) w':=by
    intro w' hJ';refine ih hV' _ _ w' (by simp[hs]) (fun j hj=>by rw[getD_set_ne false (by omega)];exact hkf j hj) (ha.put (h.dst i o ho) (vals i)) (hm.step h ho X7) ?_;rw[js0 X7];exact hJ'
   refine do1 i σ o a w ho ?_;rw[z5 ha,hwa];rcases Ju0 i o (by omega) ho with⟨hw,hl⟩|⟨hw,hv,hl⟩
   ·rw[if_pos hw];have y7:=hl (fun j=>listed.getD j false) w hDi hVD S5 hJ;rw[<- hex,<- ha.eval]at y7;exact oh0 y7 next
   ·rw[if_neg (by rw[hw];simp)];exact U462
theorem ZA.Jv0 [Go.Vc.T3] (hZ:Ctx.Zs P Z) (hb:b.kind≠.early) {k':List Item} {id:Nat} {l:List Oper} (k:Nat) (hm:P.follows .mixedOrders=true) (hB:yu0 n l.toArray=true) (hA:od0 l k=true) (hk:Nat.blt k l.length=true)
  (h:∀V:(Nat->Bool)->Prop,(∀D D',V D->V D'->(∀k,D k=true->D' k=true)\/(∀k,D' k=true->D k=true))->(∀D,V D->∀i o,l[i]? =some o->D i=true->R5 o D) ->
   ∃J:(Nat->Bool)->World->Prop,J (fun _=>false) w.drew/\JL P l.toArray V J (fun e'=>∀D w',(∀i,i<k->D i=true)->J D w'->ZA Z n b cs e' (.inRegion l.toArray (List.range' k (l.length-k))::k') w') 0 (l.take k) e):ZA Z n b cs e (.code (.region id l.toArray true)::k') w:=by
 intro a ha;have ho:=Bw0 hB;have hkl:k<l.length:=by rw[Nat.blt_eq]at hk;exact hk
 refine(Ctx.cl Z hZ).own _ _ rfl fun τ d=>?_;refine⟨G (b.at a (.inRegion l.toArray (Region.schedule (P.follows .mixedOrders) l.toArray (τ d (.order b.fn id)))::k')) cs,{O2 w τ d with drawn:=d+1},w.drawn+1,⟨rfl,fun ρ x hx=>⟨⟨Nat.le_refl _,fun _ o ho=>⟨o,ho,o4.refl o⟩⟩,{x with drawn:=x.drawn+1},#[],?_,?_,fun e he=>by simp at he⟩⟩,?_⟩
 ·rw[stepG_region_draw,hx.tape,hx.drawn];rfl
 ·exact⟨hx.os,hx.output,hx.tape,by show x.drawn+1=d+1;rw[hx.drawn];rfl,hx.size,hx.obj,hx.new,hx.e8⟩
 show Z (G (b.at a (.inRegion l.toArray (Region.schedule (P.follows .mixedOrders) l.toArray (τ d (.order b.fn id)))::k')) cs) w.drew;generalize τ d (.order b.fn id)=t;simp only[Region.schedule,hm,Bool.true_or,if_true];have n5:=iv0 l.toArray l.toArray.size t (Array.replicate l.toArray.size false) (by simp) (by simp);unfold Region.linearise;generalize Region.linearise.go .any l.toArray l.toArray.size t (Array.replicate l.toArray.size false) []=σ at n5⊢;have fk0:=ff0 n5 (fun i o _ hi=>by rw[J0]at hi;cases hi) (by simp);have db0:∀D,Pre σ D->∀i o,l[i]? =some o->D i=true->R5 o D:=by
  rintro D ⟨τ,ρ,hσ,hD⟩ i o hi hDi x hx hb;have:=fk0 τ ρ hσ i o (by simpa using hi) (.inr ((hD i).1 hDi)) x hx hb;rcases this with h1|h1
  ·rw[J0]at h1;cases h1
  ·exact(hD _).2 h1
 obtain⟨J,hJ,hjl⟩:=h (Pre σ) (fun D D' h1 h2=>h1.chain h2) db0;obtain⟨vals,h1,h2⟩:=JL.collect (l.take k) 0 e hjl;have hEE:∀j,j <=k->EE e (l.take k) vals j=EE e l vals j:=by
  intro j
  induction j with
  |zero=>intro _;rfl
  |succ j ih=>
   intro hj;simp only[EE,ih (by omega)];rw[List.getElem?_take_of_lt (by omega)]
 have M1:(l.take k).length=k:=by simp;omega
 refine Xo0 (Q:=fun _ _ _=>False) (fun σ a w=>Z (G (b.at a (.inRegion l.toArray σ::k')) cs) w) (fun i σ o a w ho h=>Cj0 hZ hb (fun _ _ _ hx=>hx.elim) ho h) (V:=Pre σ) (J:=J) ho (e0:=e) (vals:=vals) (k:=k) (by simpa using hkl) (fun i o' hi ho'=>?_) (fun D hD i hki X7=>oe0 hA db0 hD i hki (by simpa using X7)) (fun a' w' D ha' hD hJ'=>?_) n5 ?_ a e _ (by simp) (fun j _=>J0 _ _) ha ⟨fun j o t _ _ hl=>?_,fun t _=>rfl⟩ ?_
 ·have:=h1 i o' (by rw[List.getElem?_take_of_lt hi];simpa using ho');rw[hEE i (by omega)]at this;simpa using this
 ·rw[M1,hEE k (Nat.le_refl _)]at h2;have h6:l.toArray.size-k=l.length-k:=by simp
  rw[h6];exact h2 D w' hD hJ' a' (by simpa using ha')
 ·intro τ ρ hσ;exact⟨τ,ρ,hσ,fun k=>by show((Array.replicate l.toArray.size false).getD k false ||τ.contains k)=true↔_;rw[J0];simp⟩
 ·rw[J0]at hl;cases hl
 ·have:(fun k=>(Array.replicate l.toArray.size false).getD k false)=fun _=>false:=funext fun k=>J0 _ _;rw[this];exact hJ
theorem ZA.mf0 [Go.Vc.T3] (hZ:Ctx.Zs P Z) (hb:b.kind≠.early) {k':List Item} {id:Nat} {l:List Oper} (k:Nat) (Cl:World->Prop) (hm:P.follows .mixedOrders=true) (hB:yu0 n l.toArray=true) (hA:od0 l k=true) (hk:Nat.blt k l.length=true)
  (hC:Cl w.drew) (h:QL P l.toArray Cl (fun e'=>∀w',Cl w'->ZA Z n b cs e' (.inRegion l.toArray (List.range' k (l.length-k))::k') w') 0 (l.take k) e):ZA Z n b cs e (.code (.region id l.toArray true)::k') w:=by
 refine ZA.Jv0 hZ hb k hm hB hA hk fun V _ _=>⟨fun _=>Cl,hC,?_⟩
 have mono:∀(l':List Oper) (i:Nat) (e:Env),JL P l.toArray V (fun _=>Cl) (fun e'=>∀w',Cl w'->ZA Z n b cs e' (.inRegion l.toArray (List.range' k (l.length-k))::k') w') i l' e->JL P l.toArray V (fun _=>Cl) (fun e'=>∀(D:Nat->Bool) w',(∀i,i<k->D i=true)->Cl w'->ZA Z n b cs e' (.inRegion l.toArray (List.range' k (l.length-k))::k') w') i l' e:=by
  intro l'
  induction l' with
  |nil=>exact fun i e h _ w' _ hw=>h w' hw
  |cons o l' ih=>exact fun i e ⟨v,h1,h2⟩=>⟨v,h1,ih _ _ h2⟩
 exact mono _ 0 e (h V)
end
def I1 (w:World) (b:Nat) (cs:Array Value) (T:TypeId) (f:Nat×Nat):Prop:=w.heap[b]? =some (.cells cs T f)
section
variable {w w':World}{b o:Nat}{cs:Array Value}{T:TypeId}{f:Nat×Nat}{v:Value}
theorem D3 (h:K0 w b cs T):I1 w b cs T (0,0):=h
theorem I1.lt (h:I1 w b cs T f):b<w.heap.size:=(Array.getElem?_eq_some_iff.1 h).1
theorem I1.cell (h:I1 w b cs T f) (hv:cs[o]? =some v):w.cell? ⟨b,o,none⟩=some v:=by
 unfold I1 at h;simp[World.cell?,h,hv]
theorem I1.q0 (h:I1 w b cs T f) (o:Nat) {v:Value} (hv:cs[o]? =some v):w.cell? ⟨b,o,none⟩=some v:=h.cell hv
theorem I1.X6 (h:I1 w b cs T f) {o:Nat} {l:List Value} (hl:(cs.toList.drop o).take l.length=l):∀(j:Nat) (v:Value),l[j]? =some v->w.cell? ⟨b,o+j,none⟩=some v:=by
 intro j v hj;refine h.cell ?_;have M1:j<l.length:=(List.getElem?_eq_some_iff.1 hj).1;rw[<- hl,List.getElem?_take_of_lt M1,List.getElem?_drop]at hj;simpa using hj
theorem I1.frozen (h:I1 w b cs T f) (o:Nat):w.frozen? ⟨b,o,none⟩=(decide (f.1 <=o)&&decide (o<f.2)):=by
 unfold I1 at h;obtain⟨lo,hi⟩:=f;simp[World.frozen?,h]
theorem I1.j0 (h:I1 w b cs T f) (hb:Below w.heap.size w w'):I1 w' b cs T f:=(hb.block b h.lt).trans h
theorem I1.other {b':Nat} (h:I1 w b cs T f) (hg:w.grownBy w' (some b')) (k4:b≠b'):I1 w' b cs T f:=(hg.block b h.lt (by simpa using k4)).trans h
theorem I1.grown {row:Option Nat} (h:I1 w b cs T f) (hg:w.grownBy w' row) (k4:some b≠row):I1 w' b cs T f:=(hg.block b h.lt k4).trans h
theorem I1.ne {b':Nat} {C6:Array Value} {T':TypeId} {f':Nat×Nat} (h:I1 w b cs T f) (h':I1 w b' C6 T' f') (hT:T≠T'):b≠b':=by
 intro hb;subst hb;unfold I1 at h h';rw[h]at h';exact hT (by cases h';rfl)
end
def K1 (w:World) (b:Nat) (cs:Array Value) (T:TypeId) (f:Nat×Nat):World:={w with heap:=w.heap.setIfInBounds b (.cells cs T f)}
section
variable {w:World}{b:Nat}{cs C6:Array Value}{T T':TypeId}{f:Nat×Nat}
theorem n6:(K1 w b cs T f).heap.size=w.heap.size:=by simp[K1]
theorem j5 (h:I1 w b cs T f) (C6:Array Value) (T':TypeId) (f':Nat×Nat):I1 (K1 w b C6 T' f') b C6 T' f':=by
 have:=h.lt;simp[I1,K1,this]
theorem x8 {k:Nat} (h:k≠b):(K1 w b cs T f).heap[k]? =w.heap[k]?:=by
 simp only[K1];rw[Array.getElem?_setIfInBounds_ne (Ne.symm h)]
theorem Y1 (w:World) (b:Nat) (cs:Array Value) (T:TypeId) (f:Nat×Nat):w.grownBy (K1 w b cs T f) (some b) :=
 ⟨rfl,rfl,rfl,Nat.le_of_eq n6.symm,fun k _ hk=>x8 (fun e=>hk (by rw[e]))⟩
theorem ga0 {o:Nat} (h:I1 w b cs T f) (v:Value):w.setCell ⟨b,o,none⟩ v=K1 w b (cs.setIfInBounds o v) T f:=by
 have hl:=h.lt;have hg:w.heap[b]= .cells cs T f:=by have:=h;unfold I1 at this;rw[Array.getElem?_eq_getElem hl]at this;exact Option.some.inj this
 simp only[World.setCell,K1];congr 1;apply Array.ext_getElem?;intro i;by_cases hi:i=b
 ·subst hi;rw[Array.getElem?_modify,if_pos rfl,Array.getElem?_eq_getElem hl,hg];simp[hl]
 ·rw[Array.getElem?_modify,Array.getElem?_setIfInBounds_ne (Ne.symm hi),if_neg (Ne.symm hi)]
theorem rc0 (w:World) (b:Nat) (cs C6:Array Value) (T:TypeId) (f:Nat×Nat):K1 (K1 w b cs T f) b C6 T f=K1 w b C6 T f:=by
 simp[K1]
theorem xa0 (h:I1 w b cs T f):K1 w b cs T f=w:=by
 have hl:=h.lt;have hg:w.heap[b]= .cells cs T f:=by have:=h;unfold I1 at this;rw[Array.getElem?_eq_getElem hl]at this;exact Option.some.inj this
 have:w.heap.setIfInBounds b (.cells cs T f)=w.heap:=by
  apply Array.ext_getElem?;intro i;by_cases hi:i=b
  ·subst hi;simp[hl,hg]
  ·rw[Array.getElem?_setIfInBounds_ne (Ne.symm hi)]
 simp only[K1,this]
end
theorem ba0 {P:Program} (b:Nat) (T:TypeId) (f:Nat×Nat):∀(vs:List Value) (o i:Nat) (cs:Array Value) (w:World),I1 w b cs T f->o+i+vs.length <=cs.size->(o+i+vs.length <=f.1\/f.2 <=o+i)->(∀v∈vs,v.oneCell'=true) ->
  (storeCells ⟨b,o,none⟩ vs i).run P w= .ok () (K1 w b (setRow cs (o+i) vs) T f)
 | [],o,i,cs,w,h,_,_,_=>by simp[storeCells,setRow,xa0 h]
 |v::vs,o,i,cs,w,h,hl,hf,h1=>by
  have ha:Addr.add ⟨b,o,none⟩ i=⟨b,o+i,none⟩:=by
   unfold Addr.add;split
   ·rename_i h0;simp[]
   ·rfl
  have M1:o+i<cs.size:=by simp only[List.length_cons]at hl;omega
  have hc:=h.cell (Array.getElem?_eq_getElem M1);have hfr:w.frozen? ⟨b,o+i,none⟩=false:=by
   rw[h.frozen];simp only[List.length_cons]at hf;rw[Bool.and_eq_false_iff];rcases hf with hf|hf
   ·exact .inl (decide_eq_false (by omega))
   ·exact .inr (decide_eq_false (by omega))
  have ih:=ba0 (P:=P) b T f vs o (i+1) (cs.setIfInBounds (o+i) v) (K1 w b (cs.setIfInBounds (o+i) v) T f) (j5 h _ _ _) (by simp only[List.length_cons]at hl;simp;omega) (by simp only[List.length_cons]at hf;omega) (fun u hu=>h1 u (List.mem_cons_of_mem _ hu));rw[rc0]at ih;simp only[storeCells,Sem.run_bind,ha,run_store P w _ v .plain (h1 v List.mem_cons_self),hc,hfr,Bool.false_eq_true,if_false,Result.andThen_ok,ga0 h v];rw[ih];rfl
section
variable {P:Program}[Ctx P]{n:Nat}{ops:Array Oper}{Q:Exit->Env->World->Prop}{rest:List Oper}{e:Env}{w:World}{ty:TypeId}{ps:String}{af:Array Edge}{x y:Operand}{T:TypeId}
theorem L.Ck0 [Go.Vc.T3] {b o s:Nat} {cs:Array Value} {vs:List Value} {E:TypeId} {f:Nat×Nat} {v:Value} (C6:Array Value) (hx:ev e x= .pointer (some ⟨b,o,none⟩)) (hy:ev e y=v) (hvs:v.cells.toList=vs) (hs:(P.info? T).map (·.size)=some s) (hl:vs.length=s) (h1:vs.all Value.oneCell'=true) (hB:I1 w b cs E f) (ho:o+s <=cs.size) (hf:o+s <=f.1\/f.2 <=o) (hcs:setRow cs o vs=C6)
  (k:L P n ops Q rest e (K1 w b C6 E f)):L P n ops Q (⟨none,.store T x y,ty,ps,af,none⟩::rest) e w:=by
 have Wz0:v.cells=vs.toArray:=by rw[<- hvs]
 have h1':∀u∈vs,u.oneCell'=true:=fun u hu=>List.all_eq_true.1 h1 u hu;rw[<- hcs]at k;refine L.st (w':=K1 w b (setRow cs o vs) E f) (.O0 (P1 rfl _) rfl rfl fun τ d=>?_) k;have:=ba0 (P:=P) b E f vs o 0 cs (O2 w τ d) hB (by simp;omega) (by simp;omega) h1';show _=Result.ok Next.skip (K1 (O2 w τ d) b (setRow cs o vs) E f);simp[execOp,Instr.storeAt,hx,hy,Instr.sureAddr,storeVar,Go.Vc.run_sizeOf hs,Wz0,hl,this]
end
section
variable {P:Program}[Ctx P]{n:Nat}{Q:Exit->Env->World->Prop}{e:Env}{w:World}{ops:Array Oper}{rest:List Oper}
variable {d:Nat}{ty:TypeId}{ps:String}{af:Array Edge}{T E:TypeId}{x y:Operand}
theorem L.fr0 [Go.Vc.T3] {B s bytes m c':Nat} {a:Option Addr} {k c:Nat} {xs news:List Value} {zv:Value} {ad:Addr} (hx:ev e x= .slice a k c) (hy:ev e y= .slice (some ad) m c') (hT:P.underlying T=some (.slice E))
  (hi:(P.info? E).map (fun i=>(i.zero,i.size,i.bytes))=some (some zv,s,bytes)) (hz:zv.cells.size=s) (hs:0<s) (be0:Own w B E s a k c xs)
  (hl:news.length=m*s) (dd0:∀(j:Nat) u,news[j]? =some u->w.cell? (ad.add j)=some u) (h1:∀u∈news,u.oneCell'=true) (zj0:k+m <=9223372036854775807) (hb:(k+m)*bytes <=140737488355328) (hB:B <=w.heap.size)
  (h:∀a' c2 w',Own w' B E s a' (k+m) c2 (xs++news)->w.grownBy w' (Value.ownBlock (.slice a k c))->(a'≠none->(a≠none/\ab a'=ab a)\/w.heap.size <=ab a')->L P n ops Q rest (upd e d (.slice a' (k+m) c2)) w') :
  L P n ops Q (⟨some d,.call ⟨.builtin .append,#[x,y],#[T,T]⟩,ty,ps,af,none⟩::rest) e w:=by
 cases a with
 |none=>
  have h0:k=0/\c=0/\xs=[]:=by
   have hln:=be0.1;rcases be0.2 with⟨hv,h0⟩|⟨g,cap,cur,hv,_⟩
   ·cases hv;exact⟨rfl,rfl,by
     rw[Nat.zero_mul]at hln;exact List.eq_nil_of_length_eq_zero hln⟩
   ·cases hv
  obtain⟨rfl,rfl,rfl⟩:=h0;refine L.bo0 hx hy hT hi hz hs (Own.nil w w.heap.size E s) (fun h=>by cases h) hl (fun ad' e=>by cases e;exact dd0) h1 zj0 hb (Nat.le_refl _) fun a' c2 w' hO hg _ _=>?_;refine h a' c2 w' (hO.down hB) hg fun ha=>.inr ?_;exact(hO.row ha).choose_spec.2.1
 |some a0=>
  have ha0:∃b,a0=⟨b,0,none⟩:=by
   rcases be0.2 with⟨hv,_⟩|⟨g,cap,cur,hv,_⟩
   ·cases hv
   ·cases hv;exact⟨g,rfl⟩
  obtain⟨b,rfl⟩:=ha0;refine L.Qq0 hx hy hT hi hz hs be0 hl dd0 h1 zj0 hb hB fun b' c2 w' hO hg hw=>?_;refine h _ c2 w' hO hg fun _=>?_;rcases hw with⟨rfl,_⟩|⟨rfl,_⟩
  ·exact .inl ⟨by simp,rfl⟩
  ·exact .inr (Nat.le_refl _)
end
structure jd0 (S:Nat->Prop) (B:Nat) (w w':World):Prop where
 os:w'.os=w.os
 tape:w'.tape=w.tape
 output:w'.output=w.output
 size:w.heap.size <=w'.heap.size
 block:∀k,k<B->¬S k->w'.heap[k]? =w.heap[k]?
section
variable {S:Nat->Prop}{B:Nat}{w w1 w2:World}
theorem jd0.refl (S:Nat->Prop) (B:Nat) (w:World):jd0 S B w w:=⟨rfl,rfl,rfl,Nat.le_refl _,fun _ _ _=>rfl⟩
theorem jd0.trans (h:jd0 S B w w1) (h':jd0 S B w1 w2):jd0 S B w w2:=⟨h'.os.trans h.os,h'.tape.trans h.tape,h'.output.trans h.output,Nat.le_trans h.size h'.size,fun k hk hs=>(h'.block k hk hs).trans (h.block k hk hs)⟩
theorem jd0.below (h:jd0 S B w w1) (hb:Below w1.heap.size w1 w2) (hB:B <=w1.heap.size):jd0 S B w w2:=h.trans ⟨hb.os,hb.tape,hb.output,hb.size,fun k hk _=>hb.block k (by omega)⟩
theorem jd0.grown {row:Option Nat} (h:jd0 S B w w1) (hg:w1.grownBy w2 row) (hB:B <=w1.heap.size) (hr:∀r,row=some r->S r\/B <=r):jd0 S B w w2 :=
 h.trans ⟨hg.os,hg.tape,hg.output,hg.size,fun k hk hs=>hg.block k (by omega) (fun e=>by rcases hr k e.symm with z|z;exact hs z;omega)⟩
theorem Own.congr {E:TypeId} {s n c:Nat} {a:Option Addr} {xs:List Value} (h:Own w B E s a n c xs) (he:a≠none->w1.heap[ab a]? =w.heap[ab a]?):Own w1 B E s a n c xs:=by
 refine⟨h.1,?_⟩;rcases h.2 with h1|⟨g,cap,cur,hv,hb,hg,h2⟩
 ·exact .inl h1
 ·refine .inr ⟨g,cap,cur,hv,hb,?_,h2⟩;cases hv;exact(he (by simp)).trans hg
end
end Go.Vy
end
section
namespace Go.Proofs.YtinppmaojmdmhaaGreat
theorem sz1:(Tryz.prog.info? 1).map (·.size)=some 1:=by kernel_rfl
theorem sz2:(Tryz.prog.info? 2).map (·.size)=some 1:=by kernel_rfl
theorem zr2:(Tryz.prog.info? 2).bind (·.zero)=some (.int .i64 0):=by kernel_rfl
theorem sz3:(Tryz.prog.info? 3).map (·.size)=some 1:=by kernel_rfl
theorem zr3:(Tryz.prog.info? 3).bind (·.zero)=some (.int .i64 0):=by kernel_rfl
theorem in3:(Tryz.prog.info? 3).map (fun i=>(i.zero,i.size,i.bytes))=some (some (.int .i64 0),1,8):=by kernel_rfl
theorem sz4:(Tryz.prog.info? 4).map (·.size)=some 1:=by kernel_rfl
theorem zr4:(Tryz.prog.info? 4).bind (·.zero)=some (.bool false):=by kernel_rfl
theorem sz5:(Tryz.prog.info? 5).map (·.size)=some 1:=by kernel_rfl
theorem zr5:(Tryz.prog.info? 5).bind (·.zero)=some (.int .u8 0):=by kernel_rfl
theorem sz9:(Tryz.prog.info? 9).map (·.size)=some 1:=by kernel_rfl
theorem Xp0:(Tryz.prog.info? 22).map (·.size)=some 1:=by kernel_rfl
theorem Ra0:(Tryz.prog.info? 27).map (·.size)=some 1:=by kernel_rfl
theorem dp1:(Tryz.prog.info? 36).map (·.size)=some 1:=by kernel_rfl
theorem Cl0:(Tryz.prog.info? 37).map (·.size)=some 1:=by kernel_rfl
theorem Rb0:(Tryz.prog.info? 41).map (·.size)=some 1:=by kernel_rfl
theorem Xq0:(Tryz.prog.info? 42).map (·.size)=some 1:=by kernel_rfl
theorem Xr0:(Tryz.prog.info? 43).map (·.size)=some 1:=by kernel_rfl
theorem ld0:(Tryz.prog.info? 45).map (·.size)=some 6:=by kernel_rfl
theorem Rc0:(Tryz.prog.info? 45).bind (·.zero)=some (.agg #[.slice none 0 0,.slice none 0 0,.slice none 0 0,.slice none 0 0,.bool false,.int .i64 0]):=by kernel_rfl
theorem jn1:(Tryz.prog.info? 63).map (·.size)=some 4:=by kernel_rfl
theorem jo1:(Tryz.prog.info? 63).bind (·.zero)=some (.agg #[.int .i64 0,.int .i64 0,.int .i64 0,.string ByteArray.empty]):=by kernel_rfl
theorem jp1:(Tryz.prog.info? 63).map (fun i=>(i.zero,i.size,i.bytes))=some (some (.agg #[.int .i64 0,.int .i64 0,.int .i64 0,.string ByteArray.empty]),4,40):=by kernel_rfl
theorem xb0:(Tryz.prog.info? 65).map (·.size)=some 3:=by kernel_rfl
theorem jq1:(Tryz.prog.info? 65).map (fun i=>(i.zero,i.size,i.bytes))=some (some (.agg #[.int .i64 0,.int .i64 0,.int .i64 0]),3,24):=by kernel_rfl
theorem jr1:(Tryz.prog.info? 67).map (·.size)=some 4:=by kernel_rfl
theorem js1:(Tryz.prog.info? 67).bind (·.zero)=some (.agg #[.int .i64 0,.int .i64 0,.int .i64 0,.int .i64 0]):=by kernel_rfl
theorem jt1:(Tryz.prog.info? 67).map (fun i=>(i.zero,i.size,i.bytes))=some (some (.agg #[.int .i64 0,.int .i64 0,.int .i64 0,.int .i64 0]),4,32):=by kernel_rfl
theorem kd0:(Tryz.prog.info? 71).map (·.size)=some 1:=by kernel_rfl
theorem Xs0:(Tryz.prog.info? 71).bind (·.zero)=some (.pointer none):=by kernel_rfl
theorem Kp0:(Tryz.prog.info? 71).map (fun i=>(i.zero,i.size,i.bytes))=some (some (.pointer none),1,8):=by kernel_rfl
theorem dq1:(Tryz.prog.info? 72).map (·.size)=some 1:=by kernel_rfl
theorem ju1:(Tryz.prog.info? 72).bind (·.zero)=some (.nilFunc):=by kernel_rfl
theorem jv1:(Tryz.prog.info? 72).map (fun i=>(i.zero,i.size,i.bytes))=some (some (.nilFunc),1,8):=by kernel_rfl
theorem Xt0:(Tryz.prog.info? 85).map (·.size)=some 3:=by kernel_rfl
theorem jw1:(Tryz.prog.info? 85).bind (·.zero)=some (.agg #[.int .i64 0,.int .i64 0,.string ByteArray.empty]):=by kernel_rfl
theorem dr1:(Tryz.prog.info? 86).map (·.size)=some 1:=by kernel_rfl
theorem jx1:(Tryz.prog.info? 86).bind (·.zero)=some (.slice none 0 0):=by kernel_rfl
theorem Xu0:(Tryz.prog.info? 87).map (·.size)=some 1:=by kernel_rfl
theorem ds1:(Tryz.prog.info? 88).map (·.size)=some 64:=by kernel_rfl
theorem Kq0:(Tryz.prog.info? 89).map (·.size)=some 1:=by kernel_rfl
theorem dt1:(Tryz.prog.info? 90).map (·.size)=some 64:=by kernel_rfl
theorem oo0:(Tryz.prog.info? 95).map (·.size)=some 1:=by kernel_rfl
theorem J7:(Tryz.prog.info? 97).map (·.size)=some 3:=by kernel_rfl
theorem Cm0:(Tryz.prog.info? 97).bind (·.zero)=some (.agg #[.slice none 0 0,.int .i64 0,.int .i64 0]):=by kernel_rfl
theorem zm0:(Tryz.prog.info? 123).map (·.size)=some 1:=by kernel_rfl
theorem Up0:(Tryz.prog.info? 123).bind (·.zero)=some (.pointer none):=by kernel_rfl
theorem Kr0:(Tryz.prog.info? 123).map (fun i=>(i.zero,i.size,i.bytes))=some (some (.pointer none),1,8):=by kernel_rfl
theorem du1:(Tryz.prog.info? 124).map (·.size)=some 1:=by kernel_rfl
theorem Uq0:(Tryz.prog.info? 125).map (·.size)=some 1:=by kernel_rfl
theorem Ks0:(Tryz.prog.info? 127).map (·.size)=some 4:=by kernel_rfl
theorem uq0:(Tryz.prog.info? 140).map (·.size)=some 1:=by kernel_rfl
theorem ur0:(Tryz.prog.info? 142).map (·.size)=some 1:=by kernel_rfl
theorem Kt0:(Tryz.prog.info? 143).map (·.size)=some 1:=by kernel_rfl
theorem Ur0:(Tryz.prog.info? 145).map (·.size)=some 2:=by kernel_rfl
theorem Us0:(Tryz.prog.info? 157).map (·.size)=some 1:=by kernel_rfl
theorem op0:(Tryz.prog.info? 162).map (·.size)=some 2:=by kernel_rfl
theorem dv1:(Tryz.prog.info? 166).bind (·.zero)=some (.agg #[.pointer none,.pointer none,.pointer none,.pointer none]):=by kernel_rfl
theorem Ey0:(Tryz.prog.info? 169).map (·.size)=some 1:=by kernel_rfl
theorem Ut0:(Tryz.prog.info? 170).map (·.size)=some 1:=by kernel_rfl
theorem Ku0:(Tryz.prog.info? 171).map (·.size)=some 1:=by kernel_rfl
theorem dw1:(Tryz.prog.info? 189).map (·.size)=some 1:=by kernel_rfl
theorem ek0:(Tryz.prog.info? 195).map (·.size)=some 1:=by kernel_rfl
theorem dx1:(Tryz.prog.info? 195).bind (·.zero)=some (.slice none 0 0):=by kernel_rfl
theorem mj0:(Tryz.prog.info? 195).map (fun i=>(i.zero,i.size,i.bytes))=some (some (.slice none 0 0),1,24):=by kernel_rfl
theorem Uu0:(Tryz.prog.info? 246).map (·.size)=some 1:=by kernel_rfl
theorem nm0:(Tryz.f0.name== "runtime.NumGoroutine")=false:=by kernel_rfl
theorem nm1:(Tryz.f1.name== "runtime.NumGoroutine")=false:=by kernel_rfl
theorem nm2:(Tryz.f2.name== "runtime.NumGoroutine")=false:=by kernel_rfl
theorem nm3:(Tryz.f3.name== "runtime.NumGoroutine")=false:=by kernel_rfl
theorem jy1:(Tryz.f11.name== "runtime.NumGoroutine")=false:=by kernel_rfl
theorem dy1:(Tryz.f12.name== "runtime.NumGoroutine")=false:=by kernel_rfl
theorem dz1:(Tryz.f13.name== "runtime.NumGoroutine")=false:=by kernel_rfl
theorem ea1:(Tryz.f15.name== "runtime.NumGoroutine")=false:=by kernel_rfl
theorem Xv0:(Tryz.f16.name== "runtime.NumGoroutine")=false:=by kernel_rfl
theorem eb1:(Tryz.f17.name== "runtime.NumGoroutine")=false:=by kernel_rfl
theorem jz1:(Tryz.f19.name== "runtime.NumGoroutine")=false:=by kernel_rfl
theorem Xw0:(Tryz.f26.name== "runtime.NumGoroutine")=false:=by kernel_rfl
theorem Xx0:(Tryz.f27.name== "runtime.NumGoroutine")=false:=by kernel_rfl
theorem Rd0:(Tryz.f28.name== "runtime.NumGoroutine")=false:=by kernel_rfl
theorem ec1:(Tryz.f29.name== "runtime.NumGoroutine")=false:=by kernel_rfl
theorem Xy0:(Tryz.f30.name== "runtime.NumGoroutine")=false:=by kernel_rfl
theorem Xz0:(Tryz.f31.name== "runtime.NumGoroutine")=false:=by kernel_rfl
theorem ka1:(Tryz.f37.name== "runtime.NumGoroutine")=false:=by kernel_rfl
theorem kb1:(Tryz.f38.name== "runtime.NumGoroutine")=false:=by kernel_rfl
theorem Re0:(Tryz.f39.name== "runtime.NumGoroutine")=false:=by kernel_rfl
theorem kc1:(Tryz.f40.name== "runtime.NumGoroutine")=false:=by kernel_rfl
theorem kd1:(Tryz.f41.name== "runtime.NumGoroutine")=false:=by kernel_rfl
theorem ke1:(Tryz.f48.name== "runtime.NumGoroutine")=false:=by kernel_rfl
theorem kf1:(Tryz.f49.name== "runtime.NumGoroutine")=false:=by kernel_rfl
theorem Ya0:(Tryz.f50.name== "runtime.NumGoroutine")=false:=by kernel_rfl
theorem ed1:(Tryz.f51.name== "runtime.NumGoroutine")=false:=by kernel_rfl
theorem ee1:(Tryz.f52.name== "runtime.NumGoroutine")=false:=by kernel_rfl
theorem Cn0:(Tryz.f53.name== "runtime.NumGoroutine")=false:=by kernel_rfl
theorem ef1:(Tryz.f54.name== "runtime.NumGoroutine")=false:=by kernel_rfl
theorem kg1:(Tryz.f55.name== "runtime.NumGoroutine")=false:=by kernel_rfl
theorem eg1:(Tryz.f56.name== "runtime.NumGoroutine")=false:=by kernel_rfl
theorem kh1:(Tryz.f57.name== "runtime.NumGoroutine")=false:=by kernel_rfl
theorem ki1:(Tryz.f58.name== "runtime.NumGoroutine")=false:=by kernel_rfl
theorem kj1:(Tryz.f59.name== "runtime.NumGoroutine")=false:=by kernel_rfl
theorem eh1:(Tryz.f60.name== "runtime.NumGoroutine")=false:=by kernel_rfl
theorem kk1:(Tryz.f62.name== "runtime.NumGoroutine")=false:=by kernel_rfl
theorem kl1:(Tryz.f64.name== "runtime.NumGoroutine")=false:=by kernel_rfl
theorem km1:(Tryz.f68.name== "runtime.NumGoroutine")=false:=by kernel_rfl
theorem Yb0:(Tryz.f69.name== "runtime.NumGoroutine")=false:=by kernel_rfl
theorem mv0:(Tryz.f70.name== "runtime.NumGoroutine")=false:=by kernel_rfl
theorem Kv0:(Tryz.f71.name== "runtime.NumGoroutine")=false:=by kernel_rfl
theorem kn1:(Tryz.f72.name== "runtime.NumGoroutine")=false:=by kernel_rfl
theorem ko1:(Tryz.f73.name== "runtime.NumGoroutine")=false:=by kernel_rfl
theorem ei1:(Tryz.f74.name== "runtime.NumGoroutine")=false:=by kernel_rfl
theorem ej1:(Tryz.f75.name== "runtime.NumGoroutine")=false:=by kernel_rfl
theorem kp1:(Tryz.f76.name== "runtime.NumGoroutine")=false:=by kernel_rfl
theorem ek1:(Tryz.f77.name== "runtime.NumGoroutine")=false:=by kernel_rfl
theorem kq1:(Tryz.f78.name== "runtime.NumGoroutine")=false:=by kernel_rfl
theorem kr1:(Tryz.f79.name== "runtime.NumGoroutine")=false:=by kernel_rfl
theorem ks1:(Tryz.f80.name== "runtime.NumGoroutine")=false:=by kernel_rfl
theorem el1:(Tryz.f90.name== "runtime.NumGoroutine")=false:=by kernel_rfl
theorem kt1:(Tryz.f91.name== "runtime.NumGoroutine")=false:=by kernel_rfl
theorem ku1:(Tryz.f92.name== "runtime.NumGoroutine")=false:=by kernel_rfl
theorem Rf0:(Tryz.f93.name== "runtime.NumGoroutine")=false:=by kernel_rfl
theorem kv1:(Tryz.f94.name== "runtime.NumGoroutine")=false:=by kernel_rfl
theorem em1:(Tryz.f96.name== "runtime.NumGoroutine")=false:=by kernel_rfl
theorem en1:(Tryz.f97.name== "runtime.NumGoroutine")=false:=by kernel_rfl
theorem Kw0:(Tryz.f98.name== "runtime.NumGoroutine")=false:=by kernel_rfl
theorem kw1:(Tryz.f99.name== "runtime.NumGoroutine")=false:=by kernel_rfl
theorem Uv0:(Tryz.f100.name== "runtime.NumGoroutine")=false:=by kernel_rfl
theorem Uw0:(Tryz.f101.name== "runtime.NumGoroutine")=false:=by kernel_rfl
theorem eo1:(Tryz.f102.name== "runtime.NumGoroutine")=false:=by kernel_rfl
theorem Kx0:(Tryz.f103.name== "runtime.NumGoroutine")=false:=by kernel_rfl
theorem ep1:(Tryz.f104.name== "runtime.NumGoroutine")=false:=by kernel_rfl
theorem eq1:(Tryz.f105.name== "runtime.NumGoroutine")=false:=by kernel_rfl
theorem er1:(Tryz.f106.name== "runtime.NumGoroutine")=false:=by kernel_rfl
theorem es1:(Tryz.f107.name== "runtime.NumGoroutine")=false:=by kernel_rfl
theorem Ky0:(Tryz.f108.name== "runtime.NumGoroutine")=false:=by kernel_rfl
theorem oq0:(Tryz.f109.name== "runtime.NumGoroutine")=false:=by kernel_rfl
theorem Ux0:(Tryz.f110.name== "runtime.NumGoroutine")=false:=by kernel_rfl
theorem Uy0:(Tryz.f114.name== "runtime.NumGoroutine")=false:=by kernel_rfl
theorem et1:(Tryz.f115.name== "runtime.NumGoroutine")=false:=by kernel_rfl
theorem Kz0:(Tryz.f116.name== "runtime.NumGoroutine")=false:=by kernel_rfl
theorem eu1:(Tryz.f117.name== "runtime.NumGoroutine")=false:=by kernel_rfl
theorem ev1:(Tryz.f119.name== "runtime.NumGoroutine")=false:=by kernel_rfl
theorem ew1:(Tryz.f120.name== "runtime.NumGoroutine")=false:=by kernel_rfl
theorem ex1:(Tryz.f122.name== "runtime.NumGoroutine")=false:=by kernel_rfl
theorem ey1:(Tryz.f123.name== "runtime.NumGoroutine")=false:=by kernel_rfl
theorem ez1:(Tryz.f124.name== "runtime.NumGoroutine")=false:=by kernel_rfl
theorem La0:(Tryz.f126.name== "runtime.NumGoroutine")=false:=by kernel_rfl
theorem Uz0:(Tryz.f127.name== "runtime.NumGoroutine")=false:=by kernel_rfl
theorem fa1:(Tryz.f128.name== "runtime.NumGoroutine")=false:=by kernel_rfl
theorem Va0:(Tryz.f132.name== "runtime.NumGoroutine")=false:=by kernel_rfl
theorem fb1:(Tryz.f134.name== "runtime.NumGoroutine")=false:=by kernel_rfl
theorem fc1:(Tryz.f135.name== "runtime.NumGoroutine")=false:=by kernel_rfl
theorem Vb0:(Tryz.f137.name== "runtime.NumGoroutine")=false:=by kernel_rfl
theorem Lb0:(Tryz.f138.name== "runtime.NumGoroutine")=false:=by kernel_rfl
theorem fd1:(Tryz.f139.name== "runtime.NumGoroutine")=false:=by kernel_rfl
theorem fe1:(Tryz.f140.name== "runtime.NumGoroutine")=false:=by kernel_rfl
theorem Lc0:(Tryz.f150.name== "runtime.NumGoroutine")=false:=by kernel_rfl
theorem ff1:(Tryz.f151.name== "runtime.NumGoroutine")=false:=by kernel_rfl
theorem fg1:(Tryz.f153.name== "runtime.NumGoroutine")=false:=by kernel_rfl
theorem fh1:(Tryz.f154.name== "runtime.NumGoroutine")=false:=by kernel_rfl
theorem Vc0:(Tryz.f206.name== "runtime.NumGoroutine")=false:=by kernel_rfl
theorem fi1:(Tryz.f207.name== "runtime.NumGoroutine")=false:=by kernel_rfl
theorem Vd0:(Tryz.f208.name== "runtime.NumGoroutine")=false:=by kernel_rfl
theorem Ld0:(Tryz.f209.name== "runtime.NumGoroutine")=false:=by kernel_rfl
theorem fj1:(Tryz.f210.name== "runtime.NumGoroutine")=false:=by kernel_rfl
theorem Ve0:(Tryz.f211.name== "runtime.NumGoroutine")=false:=by kernel_rfl
theorem fk1:(Tryz.f212.name== "runtime.NumGoroutine")=false:=by kernel_rfl
theorem Vf0:(Tryz.f213.name== "runtime.NumGoroutine")=false:=by kernel_rfl
theorem Vg0:(Tryz.f214.name== "runtime.NumGoroutine")=false:=by kernel_rfl
theorem Vh0:(Tryz.f215.name== "runtime.NumGoroutine")=false:=by kernel_rfl
end Go.Proofs.YtinppmaojmdmhaaGreat
end
section
namespace Go.Proofs.YtinppmaojmdmhaaGreat
open Go.Conc Go.Yc Go.Wg
open Go.Vc (Env upd H3 ev N5 j3)
section
attribute [local irreducible] KK
theorem or0 (d:Nat):deafBehind d #[(⟨.mark .disable,false,true⟩:Event)]=d+1:=rfl
theorem df0 (d:Nat):deafBehind (d+1) #[(⟨.mark .enable,false,true⟩:Event)]=d:=rfl
theorem cb0 (d:Nat) {m:Mark} (h:(match m with| .disable| .enable=>false|_=>true)=true):deafBehind d #[(⟨.mark m,false,true⟩:Event)]=d:=by cases m <;> first|rfl|cases h
theorem add1 (v:Nat) (h:v<2147483648):IntKind.u64.wrap (((v*4294967296+0:Nat):Int)+1)=((v*4294967296+1:Nat):Int):=by rw[IntKind.wrap_u64];omega
theorem fl1:Extern.find Tryz.f107=some (Extern.Race.marked .releaseMerge):=by kernel_rfl
theorem fm1:Extern.find Tryz.f115=some (Extern.Race.marked .read):=by kernel_rfl
theorem fn1:Extern.find Tryz.f123=some (Extern.Race.marked .write):=by kernel_rfl
theorem fo1:Extern.find Tryz.f120=some (Extern.Race.marked .acquire):=by kernel_rfl
theorem Le0:Extern.find Tryz.f108=some (fun _=>do mark .disable;pure Extern.Race.none_):=by kernel_rfl
theorem os0:Extern.find Tryz.f109=some (fun _=>do mark .enable;pure Extern.Race.none_):=by kernel_rfl
theorem Vi0:Extern.find Tryz.f110=some (fun _=>pure (.bool false)):=by kernel_rfl
theorem Vj0:Extern.find Tryz.f137=some (Extern.Atomic.update (Op.intArith .add) .u64 true):=by kernel_rfl
theorem Lf0:Extern.find Tryz.f138=some (Extern.Atomic.loadT (.int .u64)):=by kernel_rfl
theorem fp1:Extern.find Tryz.f139=some Extern.Atomic.storeT:=by kernel_rfl
theorem fq1:Extern.find Tryz.f140=some (Extern.Atomic.casT (.int .u64)):=by kernel_rfl
theorem fr1:Extern.find Tryz.f119=some Extern.Sync.semrelease:=by kernel_rfl
theorem fs1:Extern.find Tryz.f124=some Extern.Sync.semacquire:=by kernel_rfl
theorem Vk0:(Tryz.prog.info? 143).map (fun i=>decide (i.size=0))=some false:=by kernel_rfl
theorem Vl0:(Tryz.prog.info? 145).map (fun i=>decide (i.size=0))=some false:=by kernel_rfl
set_option maxRecDepth 20000 in
theorem Rg0 (gr:j7) {c:Frame} {cs:List Frame} (hcm:c.mode= .returning) {N:Nat} (hT:QuitsD Tryz.prog N 0 (Conc.G c cs)):∃n,Lt Tryz.prog gr n 0 (Conc.G ((baseD 62).at {tmps:=#[.pointer (some ⟨gr.blk,gr.off,none⟩)]++Array.replicate (Tryz.f62.ntmps-1) undef,defers:=[]} [.code (Tryz.f62.body.getD .skip)]) (c::cs)):=by
 refine⟨N+500,(?_:At (fun m d g=>Lt Tryz.prog gr m d g) (N+500) 4 (baseD 62) (c::cs) [] 0 (Wg.ax0 #[.pointer (some ⟨gr.blk,gr.off,none⟩)]) [.code (Tryz.f62.body.getD .skip)]) _ (ef0 _ _ rfl)⟩;refine At.region (J3 _ gr) ?_;refine M0.val (J3 _ gr) (bkd _) rfl (v:=.pointer (some ⟨gr.blk,gr.off,none⟩)) (L0 rfl) ?_;refine M0.call (J3 _ gr) (bkd _) [.pointer (some ⟨gr.blk,gr.off,none⟩),.i (-1)] 117 rfl Tryz.func60 eh1 rfl rfl rfl (fun cs1 l7=>?_);refine At.seq (J3 _ gr) ?_;refine At.w7 (J3 _ gr) rfl ?_;refine At.seq (J3 _ gr) ?_;refine U110 ?_;refine M0.val (J3 _ gr) (E1 _) rfl (v:=.i (-1)) (L0 rfl) ?_;refine M0.val (J3 _ gr) (E1 _) rfl (v:=.bool true) (ic0 (r:=true) rfl rfl (by decide)) ?_;refine M0.nil (J3 _ gr) ?_;refine At.w7 (J3 _ gr) rfl ?_;refine At.region (J3 _ gr) ?_;refine M0.val (J3 _ gr) (E1 _) rfl (v:=.pointer (some ⟨gr.blk,gr.off,none⟩)) (L0 rfl) ?_;refine M0.toUnsafe (dh1 _ gr) (E1 _) rfl rfl (.inl rfl) Tryz.underlying203 Tryz.underlying205 Vl0 ?_;refine M0.wz0 (J3 _ gr) (E1 _) .releaseMerge (by simp) rfl rfl Tryz.func107 es1 rfl rfl fl1 rfl ?_;rw[cb0 _ rfl];refine U304 ?_;refine M0.Et0 (J3 _ gr) (E1 _) .disable (by simp) rfl rfl Tryz.func108 Ky0 rfl rfl Le0 ?_;simp only[or0];refine M0.nil (J3 _ gr) ?_;refine At.region (J3 _ gr) ?_;refine M0.defer (J3 _ gr) (E1 _) [] rfl ?_;refine U304 ?_;refine M0.val (J3 _ gr) (E1 _) rfl (v:=.bool false) (j1 rfl) ?_;refine M0.nil (J3 _ gr) ?_;refine At.seq (J3 _ gr) ?_;refine U110 ?_;refine M0.un0 (J3 _ gr) (E1 _) (.bool false) rfl Tryz.func110 Ux0 rfl rfl Vi0 ?_;refine M0.nil (J3 _ gr) ?_;refine At.r6 (J3 _ gr) rfl ?_;refine At.skip (J3 _ gr) ?_;refine U110 ?_;refine U364 ?_;refine M0.val (J3 _ gr) (E1 _) rfl (v:=.pointer (some ⟨gr.blk,gr.off,none⟩)) (Y4 (s:=1) gr.off gr.off rfl Tryz.underlying145 rfl ur0 (by decide) rfl) ?_;refine M0.val (J3 _ gr) (E1 _) rfl (v:=.i (-1)) (L0 rfl) ?_;refine M0.val (J3 _ gr) (E1 _) rfl (v:=.int .u64 18446744073709551615) (X3 (r:=18446744073709551615) rfl Tryz.underlying3 Tryz.underlying140 (by decide)) ?_;refine M0.val (J3 _ gr) (E1 _) rfl (v:=.int .u64 18446744069414584320) (Kh0 (r:=18446744069414584320) rfl rfl (by decide) (by decide)) ?_;refine M0.call (J3 _ gr) (E1 _) [.pointer (some ⟨gr.blk,gr.off,none⟩),.int .u64 18446744069414584320] 10 rfl Tryz.func114 Uy0 rfl rfl rfl (fun cs2 hb2=>?_);refine U110 ?_;refine M0.val (J3 _ gr) (E1 _) rfl (v:=.int .u64 0) (j1 rfl) ?_;refine U304 ?_;refine U364 ?_;refine M0.val (J3 _ gr) (E1 _) rfl (v:=.pointer (some ⟨gr.blk,gr.off,none⟩)) (Y4 (s:=1) gr.off gr.off rfl Tryz.underlying142 rfl uq0 (by decide) rfl) ?_;refine M0.val (J3 _ gr) (E1 _) rfl (v:=.int .u64 18446744069414584320) (L0 rfl) ?_;refine M0.di1 (E1 _) rfl Tryz.func137 Vb0 rfl rfl Vj0 rfl rfl (fun v wt hwt hv k4=>?_) ?_
 ·by_cases hv0:0<v
  ·have hwc:wt=0\/wt=1:=by omega
   rcases hwc with rfl|rfl
   ·refine M0.val (B0 _) (E1 _) rfl (v:=.int .u64 (((v*4294967296+0:Nat):Int))) (j1 rfl) ?_;refine M0.nil (B0 _) ?_;refine At.ret (B0 _) (fun _=>?_);refine AtR.leave1 (B0 _) hb2 rfl Tryz.func114 rfl (.int .u64 (((v*4294967296+0:Nat):Int))) rfl ?_;refine M0.val (B0 _) (E1 _) rfl (v:=.int .u64 (((v*4294967296+0:Nat):Int))) (j1 rfl) ?_;refine U80 ?_;refine M0.val (B0 _) (E1 _) rfl (v:=.int .u64 (((v*4294967296+0:Nat):Int))) (L0 rfl) ?_;refine M0.val (B0 _) (E1 _) rfl (v:=.int .u64 0) (j8 (r:=0) rfl rfl (om0 v 0 (by omega) (by omega))) ?_;refine U102 ?_;refine U191 ?_;refine U420 ?_;refine M0.val (B0 _) (E1 _) rfl (v:=.int .u64 (((v:Nat):Int))) (gx0 (r:=((v:Nat):Int)) rfl rfl (by decide) (on0 v 0 (by omega))) ?_;refine U352 ?_;refine M0.nil (B0 _) ?_;refine U420 ?_;refine M0.val (B0 _) (E1 _) rfl (v:=.int .u64 0) (j8 (r:=0) rfl rfl (jb0 v 0 (by omega) (by omega))) ?_;refine U362 ?_;refine U80 ?_;refine U225 ?_;refine U223 ?_;refine U407 ?_;refine U267 ?_;refine U102 ?_;refine U237 ?_;refine U223 ?_;refine U377 ?_;refine U447 ?_;refine U278 ?_;refine At.ret (B0 _) (fun _=>?_);refine AtR.mark (B0 _) .enable (by simp) rfl Tryz.func109 oq0 rfl rfl os0 ?_;simp only[df0];refine U168 ?_;refine At.done (B0 _) (fun _=>?_);exact U167
   ·refine M0.val (B0 _) (E1 _) rfl (v:=.int .u64 (((v*4294967296+1:Nat):Int))) (j1 rfl) ?_;refine M0.nil (B0 _) ?_;refine At.ret (B0 _) (fun _=>?_);refine AtR.leave1 (B0 _) hb2 rfl Tryz.func114 rfl (.int .u64 (((v*4294967296+1:Nat):Int))) rfl ?_;refine M0.val (B0 _) (E1 _) rfl (v:=.int .u64 (((v*4294967296+1:Nat):Int))) (j1 rfl) ?_;refine U80 ?_;refine M0.val (B0 _) (E1 _) rfl (v:=.int .u64 (((v*4294967296+1:Nat):Int))) (L0 rfl) ?_;refine M0.val (B0 _) (E1 _) rfl (v:=.int .u64 0) (j8 (r:=0) rfl rfl (om0 v 1 (by omega) (by omega))) ?_;refine U102 ?_;refine U191 ?_;refine U421 ?_;refine M0.val (B0 _) (E1 _) rfl (v:=.int .u64 (((v:Nat):Int))) (gx0 (r:=((v:Nat):Int)) rfl rfl (by decide) (on0 v 1 (by omega))) ?_;refine U352 ?_;refine M0.nil (B0 _) ?_;refine U421 ?_;refine M0.val (B0 _) (E1 _) rfl (v:=.int .u64 1) (j8 (r:=1) rfl rfl (jb0 v 1 (by omega) (by omega))) ?_;refine M0.val (B0 _) (E1 _) rfl (v:=.int .u32 1) (X3 (r:=1) rfl Tryz.underlying140 Tryz.underlying143 (by decide)) ?_;refine M0.val (B0 _) (E1 _) rfl (v:=.int .u32 1) (j1 rfl) ?_;refine U80 ?_;refine U225 ?_;refine U223 ?_;refine U407 ?_;refine U105 ?_;refine M0.val (B0 _) (E1 _) rfl (v:=.int .u32 1) (L0 rfl) ?_;refine M0.val (B0 _) (E1 _) rfl (v:=.bool true) (y9 (r:=true) rfl rfl (by decide)) ?_;refine U225 ?_;refine U223 ?_;refine U377 ?_;refine U447 ?_;refine U278 ?_;refine At.ret (B0 _) (fun _=>?_);refine AtR.mark (B0 _) .enable (by simp) rfl Tryz.func109 oq0 rfl rfl os0 ?_;simp only[df0];refine U168 ?_;refine At.done (B0 _) (fun _=>?_);exact U167
  ·obtain rfl:v=0:=by omega
   obtain rfl:wt=0:=by omega
   refine M0.val (B0 _) (E1 _) rfl (v:=.int .u64 (((0*4294967296+0:Nat):Int))) (j1 rfl) ?_;refine M0.nil (B0 _) ?_;refine At.ret (B0 _) (fun _=>?_);refine AtR.leave1 (B0 _) hb2 rfl Tryz.func114 rfl (.int .u64 (((0*4294967296+0:Nat):Int))) rfl ?_;refine M0.val (B0 _) (E1 _) rfl (v:=.int .u64 (((0*4294967296+0:Nat):Int))) (j1 rfl) ?_;refine U80 ?_;refine M0.val (B0 _) (E1 _) rfl (v:=.int .u64 (((0*4294967296+0:Nat):Int))) (L0 rfl) ?_;refine M0.val (B0 _) (E1 _) rfl (v:=.int .u64 0) (j8 (r:=0) rfl rfl (om0 0 0 (by omega) (by omega))) ?_;refine U102 ?_;refine U191 ?_;refine U422 ?_;refine M0.val (B0 _) (E1 _) rfl (v:=.int .u64 (((0:Nat):Int))) (gx0 (r:=((0:Nat):Int)) rfl rfl (by decide) (on0 0 0 (by omega))) ?_;refine M0.val (B0 _) (E1 _) rfl (v:=.int .i32 (((0:Nat):Int))) (X3 (r:=((0:Nat):Int)) rfl Tryz.underlying140 Tryz.underlying21 (eh0 0 (by omega))) ?_;refine M0.val (B0 _) (E1 _) rfl (v:=.int .i32 (((0:Nat):Int))) (j1 rfl) ?_;refine M0.nil (B0 _) ?_;refine U422 ?_;refine M0.val (B0 _) (E1 _) rfl (v:=.int .u64 0) (j8 (r:=0) rfl rfl (jb0 0 0 (by omega) (by omega))) ?_;refine U362 ?_;refine U80 ?_;refine U225 ?_;refine U294 ?_;refine U438 ?_;refine M0.val (B0 _) (E1 _) rfl (v:=.bool false) (ic0 (r:=false) rfl rfl (by decide)) ?_;refine U244 ?_;refine U267 ?_;refine U102 ?_;refine U237 ?_;refine U294 ?_;refine U438 ?_;refine M0.val (B0 _) (E1 _) rfl (v:=.bool false) (fq0 (r:=false) rfl rfl (by decide)) ?_;refine M0.val (B0 _) (E1 _) rfl (v:=.bool false) (L0 rfl) ?_;refine M0.do0 (B0 _) (E1 _) rfl rfl (v:=.int .u32 0) (L0 rfl) ?_;refine M0.do0 (B0 _) (E1 _) rfl rfl (v:=.bool true) (de0 (r:=true) rfl rfl (by decide)) ?_;refine M0.val (B0 _) (E1 _) rfl (v:=.bool true) (eg0 rfl rfl) ?_;refine U278 ?_;refine At.ret (B0 _) (fun _=>?_);refine AtR.mark (B0 _) .enable (by simp) rfl Tryz.func109 oq0 rfl rfl os0 ?_;simp only[df0];refine U168 ?_;refine At.done (B0 _) (fun _=>?_);exact U167
 ·refine M0.val (Q0 _ gr 2) (E1 _) rfl (v:=.int .u64 (((0*4294967296+1:Nat):Int))) (j1 rfl) ?_;refine M0.nil (Q0 _ gr 2) ?_;refine At.ret (Q0 _ gr 2) (fun _=>?_);refine AtR.leave1 (Q0 _ gr 2) hb2 rfl Tryz.func114 rfl (.int .u64 (((0*4294967296+1:Nat):Int))) rfl ?_;refine M0.val (Q0 _ gr 2) (E1 _) rfl (v:=.int .u64 (((0*4294967296+1:Nat):Int))) (j1 rfl) ?_;refine M0.nil (Q0 _ gr 2) ?_;refine At.seq (Q0 _ gr 2) ?_;refine U257 ?_;refine M0.val (Q0 _ gr 2) (E1 _) rfl (v:=.int .u64 0) (j8 (r:=0) rfl rfl (om0 0 1 (by omega) (by omega))) ?_;refine M0.val (Q0 _ gr 2) (E1 _) rfl (v:=.bool false) (y9 (r:=false) rfl rfl (by decide)) ?_;refine U265 ?_;refine U162 ?_;refine U112 ?_;refine U257 ?_;refine M0.val (Q0 _ gr 2) (E1 _) rfl (v:=.int .u64 (((0:Nat):Int))) (gx0 (r:=((0:Nat):Int)) rfl rfl (by decide) (on0 0 1 (by omega))) ?_;refine M0.val (Q0 _ gr 2) (E1 _) rfl (v:=.int .i32 (((0:Nat):Int))) (X3 (r:=((0:Nat):Int)) rfl Tryz.underlying140 Tryz.underlying21 (eh0 0 (by omega))) ?_;refine M0.val (Q0 _ gr 2) (E1 _) rfl (v:=.int .i32 (((0:Nat):Int))) (j1 rfl) ?_;refine M0.nil (Q0 _ gr 2) ?_;refine U257 ?_;refine M0.val (Q0 _ gr 2) (E1 _) rfl (v:=.int .u64 1) (j8 (r:=1) rfl rfl (jb0 0 1 (by omega) (by omega))) ?_;refine M0.val (Q0 _ gr 2) (E1 _) rfl (v:=.int .u32 1) (X3 (r:=1) rfl Tryz.underlying140 Tryz.underlying143 (by decide)) ?_;refine M0.val (Q0 _ gr 2) (E1 _) rfl (v:=.int .u32 1) (j1 rfl) ?_;refine M0.nil (Q0 _ gr 2) ?_;refine U188 ?_;refine U394 ?_;refine U378 ?_;refine U265 ?_;refine U251 ?_;refine U162 ?_;refine U112 ?_;refine U437 ?_;refine M0.val (Q0 _ gr 2) (E1 _) rfl (v:=.bool false) (ic0 (r:=false) rfl rfl (by decide)) ?_;refine M0.nil (Q0 _ gr 2) ?_;refine U112 ?_;refine U188 ?_;refine M0.val (Q0 _ gr 2) (E1 _) rfl (v:=.int .u32 1) (L0 rfl) ?_;refine M0.val (Q0 _ gr 2) (E1 _) rfl (v:=.bool true) (y9 (r:=true) rfl rfl (by decide)) ?_;refine U394 ?_;refine U378 ?_;refine U265 ?_;refine U251 ?_;refine U162 ?_;refine U112 ?_;refine U437 ?_;refine M0.val (Q0 _ gr 2) (E1 _) rfl (v:=.bool false) (fq0 (r:=false) rfl rfl (by decide)) ?_;refine M0.val (Q0 _ gr 2) (E1 _) rfl (v:=.bool false) (L0 rfl) ?_;refine M0.do0 (Q0 _ gr 2) (E1 _) rfl rfl (v:=.int .u32 1) (L0 rfl) ?_;refine M0.do0 (Q0 _ gr 2) (E1 _) rfl rfl (v:=.bool false) (de0 (r:=false) rfl rfl (by decide)) ?_;refine U162 ?_;refine U112 ?_;refine U188 ?_;refine U360 ?_;refine M0.val (Q0 _ gr 2) (E1 _) rfl (v:=.pointer (some ⟨gr.blk,gr.off,none⟩)) (Y4 (s:=1) gr.off gr.off rfl Tryz.underlying145 rfl ur0 (by decide) rfl) ?_;refine M0.call (Q0 _ gr 2) (E1 _) [.pointer (some ⟨gr.blk,gr.off,none⟩)] 7 rfl Tryz.func116 Kz0 rfl rfl rfl (fun cs3 hb3=>?_);refine U146 ?_;refine M0.val (Q0 _ gr 2) (E1 _) rfl (v:=.int .u64 0) (j1 rfl) ?_;refine M0.nil (Q0 _ gr 2) ?_;refine U146 ?_;refine U360 ?_;refine M0.val (Q0 _ gr 2) (E1 _) rfl (v:=.pointer (some ⟨gr.blk,gr.off,none⟩)) (Y4 (s:=1) gr.off gr.off rfl Tryz.underlying142 rfl uq0 (by decide) rfl) ?_;refine M0.Qy0 (E1 _) rfl Tryz.func138 Lb0 rfl rfl Lf0 rfl ?_;refine M0.val (Q0 _ gr 1) (E1 _) rfl (v:=.int .u64 1) (j1 rfl) ?_;refine M0.nil (Q0 _ gr 1) ?_;refine At.ret (Q0 _ gr 1) (fun _=>?_);refine AtR.leave1 (Q0 _ gr 1) hb3 rfl Tryz.func116 rfl (.int .u64 1) rfl ?_;refine M0.val (Q0 _ gr 1) (E1 _) rfl (v:=.int .u64 (((0*4294967296+1:Nat):Int))) (L0 rfl) ?_;refine M0.val (Q0 _ gr 1) (E1 _) rfl (v:=.bool false) (y9 (r:=false) rfl rfl (by decide)) ?_;refine M0.nil (Q0 _ gr 1) ?_;refine At.r6 (Q0 _ gr 1) rfl ?_;refine At.skip (Q0 _ gr 1) ?_;refine At.seq (Q0 _ gr 1) ?_;refine At.region (Q0 _ gr 1) ?_;refine U361 ?_;refine M0.val (Q0 _ gr 1) (E1 _) rfl (v:=.pointer (some ⟨gr.blk,gr.off,none⟩)) (Y4 (s:=1) gr.off gr.off rfl Tryz.underlying145 rfl ur0 (by decide) rfl) ?_;refine M0.call (Q0 _ gr 1) (E1 _) [.pointer (some ⟨gr.blk,gr.off,none⟩),.int .u64 0] 9 rfl Tryz.func117 eu1 rfl rfl rfl (fun cs4 hb4=>?_);refine At.region (Q0 _ gr 1) ?_;refine U361 ?_;refine M0.val (Q0 _ gr 1) (E1 _) rfl (v:=.pointer (some ⟨gr.blk,gr.off,none⟩)) (Y4 (s:=1) gr.off gr.off rfl Tryz.underlying142 rfl uq0 (by decide) rfl) ?_;refine M0.val (Q0 _ gr 1) (E1 _) rfl (v:=.int .u64 0) (L0 rfl) ?_;refine M0.Kk0 (E1 _) rfl Tryz.func139 fd1 rfl rfl fp1 rfl rfl ?_;refine M0.nil (Q0 _ gr 0) ?_;refine At.done (Q0 _ gr 0) (fun _=>?_);refine AtR.leave0 (Q0 _ gr 0) hb4 rfl Tryz.func117 rfl ?_;refine M0.nil (Q0 _ gr 0) ?_;refine At.seq (Q0 _ gr 0) ?_;refine U489 ?_;refine M0.val (Q0 _ gr 0) (E1 _) rfl (v:=.bool false) (L0 rfl) ?_;refine M0.nil (Q0 _ gr 0) ?_;refine At.r6 (Q0 _ gr 0) rfl ?_;refine At.skip (Q0 _ gr 0) ?_;refine At.block (Q0 _ gr 0) ?_;refine At.loop (Q0 _ gr 0) ?_;refine At.seq (Q0 _ gr 0) ?_;refine U489 ?_;refine M0.val (Q0 _ gr 0) (E1 _) rfl (v:=.int .u32 1) (L0 rfl) ?_;refine M0.val (Q0 _ gr 0) (E1 _) rfl (v:=.bool true) (y9 (r:=true) rfl rfl (by decide)) ?_;refine M0.nil (Q0 _ gr 0) ?_;refine At.w7 (Q0 _ gr 0) rfl ?_;refine At.skip (Q0 _ gr 0) ?_;refine At.seq (Q0 _ gr 0) ?_;refine At.block (Q0 _ gr 0) ?_;refine At.region (Q0 _ gr 0) ?_;refine M0.val (Q0 _ gr 0) (E1 _) rfl (v:=.pointer (some ⟨gr.blk,gr.off,none⟩)) (L0 rfl) ?_;refine M0.val (Q0 _ gr 0) (E1 _) rfl (v:=.pointer (some ⟨gr.blk,gr.off,none⟩)) (p5 rfl) ?_;refine M0.val (Q0 _ gr 0) (E1 _) rfl (v:=.pointer (some ⟨gr.blk,gr.off+1,none⟩)) (Y4 (s:=1) gr.off (gr.off+1) rfl Tryz.underlying145 rfl Kt0 (by decide) rfl) ?_;refine M0.Xk0 (E1 _) rfl Tryz.func119 ev1 rfl rfl fr1 rfl ?_;refine M0.nil (B0 _) ?_;refine At.inBlock (B0 _) ?_;refine At.region (B0 _) ?_;refine M0.val (B0 _) (E1 _) rfl (v:=.int .u32 1) (L0 rfl) ?_;refine M0.val (B0 _) (E1 _) rfl (v:=.int .u32 0) (Xj0 (r:=0) rfl rfl (by decide)) ?_;refine M0.val (B0 _) (E1 _) rfl (v:=.int .u32 0) (j1 rfl) ?_;refine M0.nil (B0 _) ?_;refine At.inLoop (B0 _) ?_;refine U267 ?_;refine M0.val (B0 _) (E1 _) rfl (v:=.bool false) (y9 (r:=false) rfl rfl (by decide)) ?_;refine U329 ?_;refine At.exit (B0 _) rfl ?_;refine At.done (B0 _) (fun _=>?_);refine AtR.mark (B0 _) .enable (by simp) rfl Tryz.func109 oq0 rfl rfl os0 ?_;simp only[df0];refine U168 ?_;refine At.done (B0 _) (fun _=>?_);exact U167
set_option maxRecDepth 20000 in
theorem ft1 (gr:j7) (K:Goroutine->Prop) {c:Frame} {cs:List Frame} (hK:K (Conc.G (c.finish (.tuple #[])) cs)):Ir0 Tryz.prog gr K 500 0 (Conc.G (Frame.enter Tryz.prog 60 #[.pointer (some ⟨gr.blk,gr.off,none⟩),.i 1] .normal) (c::cs)):=by
 rw[enter_at _ Tryz.func60 rfl];refine(?_:At (Kl0 Tryz.prog gr K) 500 117 (base 60) (c::cs) [] 0 (Wg.ax0 #[.pointer (some ⟨gr.blk,gr.off,none⟩),.i 1]) [.code (Tryz.f60.body.getD .skip)]) _ (ef0 _ _ rfl);refine At.seq Z2 ?_;refine At.w7 Z2 rfl ?_;refine At.seq Z2 ?_;refine U63 ?_;refine M0.val Z2 (E1 _) rfl (v:=.i 1) (L0 rfl) ?_;refine M0.val Z2 (E1 _) rfl (v:=.bool false) (ic0 (r:=false) rfl rfl (by decide)) ?_;refine U513 ?_;refine At.skip Z2 ?_;refine U63 ?_;refine M0.Et0 Z2 (E1 _) .disable (by simp) (.inl rfl) rfl Tryz.func108 Ky0 rfl rfl Le0 ?_;simp only[or0];refine M0.nil Z2 ?_;refine At.region Z2 ?_;refine M0.defer Z2 (E1 _) [] rfl ?_;refine M0.nil Z2 ?_;refine U63 ?_;refine M0.val Z2 (E1 _) rfl (v:=.bool false) (j1 rfl) ?_;refine M0.nil Z2 ?_;refine At.seq Z2 ?_;refine U63 ?_;refine M0.un0 Z2 (E1 _) (.bool false) rfl Tryz.func110 Ux0 rfl rfl Vi0 ?_;refine U513 ?_;refine At.skip Z2 ?_;refine U63 ?_;refine U372 ?_;refine M0.val Z2 (E1 _) rfl (v:=.pointer (some ⟨gr.blk,gr.off,none⟩)) (Y4 (s:=1) gr.off gr.off rfl Tryz.underlying145 rfl ur0 (by decide) rfl) ?_;refine M0.val Z2 (E1 _) rfl (v:=.i 1) (L0 rfl) ?_;refine M0.val Z2 (E1 _) rfl (v:=.int .u64 1) (X3 (r:=1) rfl Tryz.underlying3 Tryz.underlying140 (by decide)) ?_;refine M0.val Z2 (E1 _) rfl (v:=.int .u64 4294967296) (Kh0 (r:=4294967296) rfl rfl (by decide) (by decide)) ?_;refine M0.call Z2 (E1 _) [.pointer (some ⟨gr.blk,gr.off,none⟩),.int .u64 4294967296] 10 rfl Tryz.func114 Uy0 rfl rfl rfl (fun cs1 l7=>?_);refine U63 ?_;refine M0.val Z2 (E1 _) rfl (v:=.int .u64 0) (j1 rfl) ?_;refine M0.nil Z2 ?_;refine U63 ?_;refine U372 ?_;refine M0.val Z2 (E1 _) rfl (v:=.pointer (some ⟨gr.blk,gr.off,none⟩)) (Y4 (s:=1) gr.off gr.off rfl Tryz.underlying142 rfl uq0 (by decide) rfl) ?_;refine M0.val Z2 (E1 _) rfl (v:=.int .u64 4294967296) (L0 rfl) ?_;refine M0.Qf0 (E1 _) rfl Tryz.func137 Vb0 rfl rfl Vj0 rfl rfl (fun v hv=>?_);rcases Nat.eq_zero_or_pos v with rfl|hv0
 ·refine M0.val P0 (E1 _) rfl (v:=.int .u64 ((((0+1)*4294967296+0:Nat):Int))) (j1 rfl) ?_;refine M0.nil P0 ?_;refine At.ret P0 (fun _=>?_);refine AtR.leave1 P0 l7 rfl Tryz.func114 rfl (.int .u64 ((((0+1)*4294967296+0:Nat):Int))) rfl ?_;refine M0.val P0 (E1 _) rfl (v:=.int .u64 ((((0+1)*4294967296+0:Nat):Int))) (j1 rfl) ?_;refine U122 ?_;refine M0.val P0 (E1 _) rfl (v:=.int .u64 ((((0+1)*4294967296+0:Nat):Int))) (L0 rfl) ?_;refine M0.val P0 (E1 _) rfl (v:=.int .u64 0) (j8 (r:=0) rfl rfl (om0 (0+1) 0 (by omega) (by omega))) ?_;refine U243 ?_;refine U74 ?_;refine U82 ?_;refine U424 ?_;refine M0.val P0 (E1 _) rfl (v:=.int .u64 ((((0+1):Nat):Int))) (gx0 (r:=(((0+1):Nat):Int)) rfl rfl (by decide) (on0 (0+1) 0 (by omega))) ?_;refine M0.val P0 (E1 _) rfl (v:=.int .i32 ((((0+1):Nat):Int))) (X3 (r:=(((0+1):Nat):Int)) rfl Tryz.underlying140 Tryz.underlying21 (eh0 (0+1) (by omega))) ?_;refine M0.val P0 (E1 _) rfl (v:=.int .i32 ((((0+1):Nat):Int))) (j1 rfl) ?_;refine M0.nil P0 ?_;refine U424 ?_;refine M0.val P0 (E1 _) rfl (v:=.int .u64 0) (j8 (r:=0) rfl rfl (jb0 (0+1) 0 (by omega) (by omega))) ?_;refine U370 ?_;refine U122 ?_;refine U405 ?_;refine U464 ?_;refine M0.do0 P0 (E1 _) rfl rfl (v:=.int .i32 ((((0+1):Nat):Int))) (L0 rfl) ?_;refine U373 ?_;refine M0.do0 P0 (E1 _) rfl rfl (v:=.bool true) (de0 (r:=true) rfl rfl (decide_eq_true (by omega))) ?_;refine U299 ?_;refine At.region P0 ?_;refine M0.val P0 (E1 _) rfl (v:=.pointer (some ⟨gr.blk,gr.off,none⟩)) (L0 rfl) ?_;refine M0.val P0 (E1 _) rfl (v:=.pointer (some ⟨gr.blk,gr.off,none⟩)) (p5 rfl) ?_;refine M0.val P0 (E1 _) rfl (v:=.pointer (some ⟨gr.blk,gr.off+1,none⟩)) (Y4 (s:=1) gr.off (gr.off+1) rfl Tryz.underlying145 rfl Kt0 (by decide) rfl) ?_;refine M0.toUnsafe Qz0 (E1 _) rfl rfl (.inr rfl) Tryz.underlying211 Tryz.underlying205 Vk0 ?_;refine M0.wz0 P0 (E1 _) .read (by simp) (.inr (.inl rfl)) rfl Tryz.func115 et1 rfl rfl fm1 rfl ?_;rw[cb0 _ rfl];refine U122 ?_;refine M0.val P0 (E1 _) rfl (v:=.int .i32 ((((0+1):Nat):Int))) (L0 rfl) ?_;refine U415 ?_;refine U113 ?_;refine U461 ?_;refine U74 ?_;refine U460 ?_;refine U74 ?_;refine U82 ?_;refine U113 ?_;refine M0.val P0 (E1 _) rfl (v:=.int .i32 ((((0+1):Nat):Int))) (L0 rfl) ?_;refine U386 ?_;refine U147 ?_;refine U299 ?_;refine At.ret P0 (fun _=>?_);refine AtR.mark P0 .enable (by simp) (.inl rfl) Tryz.func109 oq0 rfl rfl os0 ?_;simp only[df0];exact U494
 ·refine M0.val P0 (E1 _) rfl (v:=.int .u64 ((((v+1)*4294967296+0:Nat):Int))) (j1 rfl) ?_;refine M0.nil P0 ?_;refine At.ret P0 (fun _=>?_);refine AtR.leave1 P0 l7 rfl Tryz.func114 rfl (.int .u64 ((((v+1)*4294967296+0:Nat):Int))) rfl ?_;refine M0.val P0 (E1 _) rfl (v:=.int .u64 ((((v+1)*4294967296+0:Nat):Int))) (j1 rfl) ?_;refine U122 ?_;refine M0.val P0 (E1 _) rfl (v:=.int .u64 ((((v+1)*4294967296+0:Nat):Int))) (L0 rfl) ?_;refine M0.val P0 (E1 _) rfl (v:=.int .u64 0) (j8 (r:=0) rfl rfl (om0 (v+1) 0 (by omega) (by omega))) ?_;refine U243 ?_;refine U74 ?_;refine U82 ?_;refine U423 ?_;refine M0.val P0 (E1 _) rfl (v:=.int .u64 ((((v+1):Nat):Int))) (gx0 (r:=(((v+1):Nat):Int)) rfl rfl (by decide) (on0 (v+1) 0 (by omega))) ?_;refine M0.val P0 (E1 _) rfl (v:=.int .i32 ((((v+1):Nat):Int))) (X3 (r:=(((v+1):Nat):Int)) rfl Tryz.underlying140 Tryz.underlying21 (eh0 (v+1) (by omega))) ?_;refine M0.val P0 (E1 _) rfl (v:=.int .i32 ((((v+1):Nat):Int))) (j1 rfl) ?_;refine M0.nil P0 ?_;refine U423 ?_;refine M0.val P0 (E1 _) rfl (v:=.int .u64 0) (j8 (r:=0) rfl rfl (jb0 (v+1) 0 (by omega) (by omega))) ?_;refine U370 ?_;refine U122 ?_;refine U405 ?_;refine U464 ?_;refine M0.do0 P0 (E1 _) rfl rfl (v:=.int .i32 ((((v+1):Nat):Int))) (L0 rfl) ?_;refine U373 ?_;refine M0.do0 P0 (E1 _) rfl rfl (v:=.bool false) (de0 (r:=false) rfl rfl (decide_eq_false (by omega))) ?_;refine M0.val P0 (E1 _) rfl (v:=.bool false) (ap0 rfl rfl) ?_;refine U82 ?_;refine U439 ?_;refine U415 ?_;refine U113 ?_;refine U461 ?_;refine U74 ?_;refine U460 ?_;refine U74 ?_;refine U82 ?_;refine U439 ?_;refine U386 ?_;refine U147 ?_;refine U299 ?_;refine At.ret P0 (fun _=>?_);refine AtR.mark P0 .enable (by simp) (.inl rfl) Tryz.func109 oq0 rfl rfl os0 ?_;simp only[df0];exact U494
noncomputable def Vm0:Code:=match Tryz.f64.body with|some (.seq _ (.block _ (.loop c)))=>c|_=>.skip
set_option maxRecDepth 20000 in
theorem Gx0 (gr:j7) (K:Goroutine->Prop) {c:Frame} {cs:List Frame} (hK:K (Conc.G (c.finish (.tuple #[])) cs)):∀(V:Nat),V<2147483648->∀(e:Env),At (YWH Tryz.prog gr K none V) (500*V+500) 84 (base 64) (c::cs) [] 1 (upd e 0 (.pointer (some ⟨gr.blk,gr.off,none⟩))) [.code Vm0,.inLoop Vm0,.inBlock 0]:=by
 intro V
 induction V using Nat.strongRecOn with
 |_ V ih=>
 intro hV e;refine At.block T2 ?_;refine U44 ?_;refine U389 ?_;refine M0.call T2 (E1 _) [.pointer (some ⟨gr.blk,gr.off,none⟩)] 7 rfl Tryz.func116 Kz0 rfl rfl rfl (fun cs1 l7=>?_);refine U44 ?_;refine M0.val T2 (E1 _) rfl (v:=.int .u64 0) (j1 rfl) ?_;refine M0.nil T2 ?_;refine U44 ?_;refine U390 ?_;refine M0.Xm0 (E1 _) rfl Tryz.func138 Lb0 rfl rfl Lf0 rfl ?_ (fun v hv hv0=>?_)
 ·refine M0.val H2 (E1 _) rfl (v:=.int .u64 0) (j1 rfl) ?_;refine M0.nil H2 ?_;refine At.ret H2 (fun _=>?_);refine AtR.leave1 H2 l7 rfl Tryz.func116 rfl (.int .u64 0) rfl ?_;refine U263 ?_;refine U466 ?_;refine M0.val H2 (E1 _) rfl (v:=.int .u64 0) (gx0 (r:=0) rfl rfl (by decide) (by decide)) ?_;refine M0.val H2 (E1 _) rfl (v:=.int .i32 0) (X3 (r:=0) rfl Tryz.underlying140 Tryz.underlying21 (by decide)) ?_;refine M0.val H2 (E1 _) rfl (v:=.int .i32 0) (j1 rfl) ?_;refine M0.nil H2 ?_;refine U466 ?_;refine M0.val H2 (E1 _) rfl (v:=.int .u64 0) (j8 (r:=0) rfl rfl (by decide)) ?_;refine M0.val H2 (E1 _) rfl (v:=.int .u32 0) (X3 (r:=0) rfl Tryz.underlying140 Tryz.underlying143 (by decide)) ?_;refine M0.val H2 (E1 _) rfl (v:=.int .u32 0) (j1 rfl) ?_;refine U194 ?_;refine U43 ?_;refine M0.val H2 (E1 _) rfl (v:=.int .i32 0) (L0 rfl) ?_;refine M0.val H2 (E1 _) rfl (v:=.bool true) (de0 (r:=true) rfl rfl (by decide)) ?_;refine M0.nil H2 ?_;refine At.w7 H2 rfl ?_;refine At.seq H2 ?_;refine At.w7 H2 rfl ?_;refine U427 ?_;simp only[df0];refine M0.nil H2 ?_;refine U416 ?_;refine U365 ?_;rw[cb0 _ rfl];refine U194 ?_;refine U43 ?_;refine M0.val H2 (E1 _) rfl (v:=.int .u32 0) (L0 rfl) ?_;refine M0.val H2 (E1 _) rfl (v:=.bool true) (de0 (r:=true) rfl rfl (by decide)) ?_;refine M0.val H2 (E1 _) rfl (v:=.bool true) (L0 rfl) ?_;refine M0.do0 H2 (E1 _) rfl rfl (v:=.int .u64 0) (L0 rfl) ?_;refine M0.do0 H2 (E1 _) rfl rfl (v:=.int .u64 0) (j8 (r:=0) rfl rfl (by decide)) ?_;refine M0.do0 H2 (E1 _) rfl rfl (v:=.bool false) (y9 (r:=false) rfl rfl (by decide)) ?_;refine M0.val H2 (E1 _) rfl (v:=.bool false) (ap0 rfl rfl) ?_;refine M0.val H2 (E1 _) rfl (v:=.bool false) (L0 rfl) ?_;refine M0.off H2 rfl rfl ?_;refine M0.off H2 rfl rfl ?_;refine M0.val H2 (E1 _) rfl (v:=.bool false) (eg0 rfl rfl) ?_;refine M0.nil H2 ?_;refine At.r6 H2 rfl ?_;refine At.skip H2 ?_;refine At.ret H2 (fun _=>?_);exact U496
 ·refine M0.val T2 (E1 _) rfl (v:=.int .u64 (((v*4294967296+0:Nat):Int))) (j1 rfl) ?_;refine M0.nil T2 ?_;refine At.ret T2 (fun _=>?_);refine AtR.leave1 T2 l7 rfl Tryz.func116 rfl (.int .u64 (((v*4294967296+0:Nat):Int))) rfl ?_;refine M0.val T2 (E1 _) rfl (v:=.int .u64 (((v*4294967296+0:Nat):Int))) (j1 rfl) ?_;refine M0.nil T2 ?_;refine U430 ?_;refine M0.val T2 (E1 _) rfl (v:=.int .u64 (((v:Nat):Int))) (gx0 (r:=((v:Nat):Int)) rfl rfl (by decide) (on0 v 0 (by omega))) ?_;refine M0.val T2 (E1 _) rfl (v:=.int .i32 (((v:Nat):Int))) (X3 (r:=((v:Nat):Int)) rfl Tryz.underlying140 Tryz.underlying21 (eh0 v (by omega))) ?_;refine M0.val T2 (E1 _) rfl (v:=.int .i32 (((v:Nat):Int))) (j1 rfl) ?_;refine M0.nil T2 ?_;refine U430 ?_;refine M0.val T2 (E1 _) rfl (v:=.int .u64 0) (j8 (r:=0) rfl rfl (jb0 v 0 (by omega) (by omega))) ?_;refine M0.val T2 (E1 _) rfl (v:=.int .u32 0) (X3 (r:=0) rfl Tryz.underlying140 Tryz.underlying143 (by decide)) ?_;refine M0.val T2 (E1 _) rfl (v:=.int .u32 0) (j1 rfl) ?_;refine M0.nil T2 ?_;refine At.seq T2 ?_;refine U44 ?_;refine M0.val T2 (E1 _) rfl (v:=.int .i32 (((v:Nat):Int))) (L0 rfl) ?_;refine M0.val T2 (E1 _) rfl (v:=.bool false) (de0 (r:=false) rfl rfl (decide_eq_false (by omega))) ?_;refine M0.nil T2 ?_;refine At.r6 T2 rfl ?_;refine At.skip T2 ?_;refine U44 ?_;refine U389 ?_;refine M0.val T2 (E1 _) rfl (v:=.int .u64 (((v*4294967296+0:Nat):Int))) (L0 rfl) ?_;refine M0.val T2 (E1 _) rfl (v:=.int .u64 (((v*4294967296+0:Nat):Int))) (L0 rfl) ?_;refine M0.val T2 (E1 _) rfl (v:=.int .u64 (((v*4294967296+1:Nat):Int))) (Xi0 (r:=((v*4294967296+1:Nat):Int)) rfl rfl (add1 v (by omega))) ?_;refine M0.call T2 (E1 _) [.pointer (some ⟨gr.blk,gr.off,none⟩),.int .u64 (((v*4294967296+0:Nat):Int)),.int .u64 (((v*4294967296+1:Nat):Int))] 13 rfl Tryz.func122 ex1 rfl rfl rfl (fun cs2 hb2=>?_);refine U44 ?_;refine M0.val T2 (E1 _) rfl (v:=.bool false) (j1 rfl) ?_;refine M0.nil T2 ?_;refine U44 ?_;refine U390 ?_;refine M0.val T2 (E1 _) rfl (v:=.int .u64 (((v*4294967296+0:Nat):Int))) (L0 rfl) ?_;refine M0.val T2 (E1 _) rfl (v:=.int .u64 (((v*4294967296+1:Nat):Int))) (L0 rfl) ?_;refine M0.dm1 (vs:=v) (E1 _) rfl Tryz.func140 fe1 rfl rfl fq1 rfl rfl rfl ?_ (fun v2 hv2=>?_)
  ·refine M0.val G5 (E1 _) rfl (v:=.bool true) (j1 rfl) ?_;refine M0.nil G5 ?_;refine At.ret G5 (fun _=>?_);refine AtR.leave1 G5 hb2 rfl Tryz.func122 rfl (.bool true) rfl ?_;refine U514 ?_;refine At.seq G5 ?_;refine U193 ?_;refine M0.val G5 (E1 _) rfl (v:=.bool true) (L0 rfl) ?_;refine M0.do0 G5 (E1 _) rfl rfl (v:=.int .u32 0) (L0 rfl) ?_;refine M0.do0 G5 (E1 _) rfl rfl (v:=.bool true) (de0 (r:=true) rfl rfl (by decide)) ?_;refine M0.val G5 (E1 _) rfl (v:=.bool true) (ap0 rfl rfl) ?_;refine U514 ?_;refine At.region G5 ?_;refine U431 ?_;refine M0.toUnsafe dj1 (E1 _) rfl rfl (.inr rfl) Tryz.underlying211 Tryz.underlying205 Vk0 ?_;refine M0.wz0 G5 (E1 _) .write (by simp) (.inr (.inr rfl)) rfl Tryz.func123 ey1 rfl rfl fn1 rfl ?_;rw[cb0 _ rfl];refine M0.nil G5 ?_;refine U193 ?_;refine M0.val G5 (E1 _) rfl (v:=.bool false) (j1 rfl) ?_;refine M0.nil G5 ?_;refine At.seq G5 ?_;refine U193 ?_;refine M0.val G5 (E1 _) rfl (v:=.int .u64 (((v*4294967296+0:Nat):Int))) (L0 rfl) ?_;refine M0.val G5 (E1 _) rfl (v:=.int .u64 0) (j8 (r:=0) rfl rfl (om0 v 0 (by omega) (by omega))) ?_;refine M0.val G5 (E1 _) rfl (v:=.bool false) (y9 (r:=false) rfl rfl (by decide)) ?_;refine M0.val G5 (E1 _) rfl (v:=.bool false) (L0 rfl) ?_;refine M0.off G5 rfl rfl ?_;refine M0.val G5 (E1 _) rfl (v:=.bool false) (eg0 rfl rfl) ?_;refine M0.nil G5 ?_;refine At.r6 G5 rfl ?_;refine At.skip G5 ?_;refine U193 ?_;refine U431 ?_;refine M0.val G5 (E1 _) rfl (v:=.bool false) (L0 rfl) ?_;refine M0.dn1 (E1 _) rfl Tryz.func124 ez1 rfl rfl fs1 rfl ?_;refine M0.nil H2 ?_;refine U43 ?_;refine U374 ?_;refine M0.val H2 (E1 _) rfl (v:=.pointer (some ⟨gr.blk,gr.off,none⟩)) (Y4 (s:=1) gr.off gr.off rfl Tryz.underlying145 rfl ur0 (by decide) rfl) ?_;refine M0.call H2 (E1 _) [.pointer (some ⟨gr.blk,gr.off,none⟩)] 7 rfl Tryz.func116 Kz0 rfl rfl rfl (fun cs3 hb3=>?_);refine U43 ?_;refine U263 ?_;refine U43 ?_;refine U374 ?_;refine M0.val H2 (E1 _) rfl (v:=.pointer (some ⟨gr.blk,gr.off,none⟩)) (Y4 (s:=1) gr.off gr.off rfl Tryz.underlying142 rfl uq0 (by decide) rfl) ?_;refine M0.Xn0 (E1 _) rfl Tryz.func138 Lb0 rfl rfl Lf0 rfl ?_;refine U263 ?_;refine At.ret H2 (fun _=>?_);refine AtR.leave1 H2 hb3 rfl Tryz.func116 rfl (.int .u64 0) rfl ?_;refine M0.val H2 (E1 _) rfl (v:=.bool false) (y9 (r:=false) rfl rfl (by decide)) ?_;refine M0.val H2 (E1 _) rfl (v:=.bool false) (j1 rfl) ?_;refine U194 ?_;refine At.w7 H2 rfl ?_;refine U427 ?_;simp only[df0];refine M0.nil H2 ?_;refine U416 ?_;refine U365 ?_;rw[cb0 _ rfl];refine U194 ?_;refine U43 ?_;refine M0.val H2 (E1 _) rfl (v:=.bool false) (L0 rfl) ?_;refine M0.nil H2 ?_;refine At.r6 H2 rfl ?_;refine At.skip H2 ?_;refine At.ret H2 (fun _=>?_);exact U496
  ·refine M0.val T2 (E1 _) rfl (v:=.bool false) (j1 rfl) ?_;refine M0.nil T2 ?_;refine At.ret T2 (fun _=>?_);refine AtR.leave1 T2 hb2 rfl Tryz.func122 rfl (.bool false) rfl ?_;refine M0.nil T2 ?_;refine At.r6 T2 rfl ?_;refine At.skip T2 ?_;refine At.inBlock T2 ?_;refine At.inLoop T2 ?_;exact At.Km0 (At.Ex0 (fun e=>ih v2 (by omega) (by omega) e) rfl) (by omega)
set_option maxRecDepth 20000 in
theorem Yc0 (gr:j7) (K:Goroutine->Prop) {c:Frame} {cs:List Frame} (hK:K (Conc.G (c.finish (.tuple #[])) cs)) (V:Nat) (hV:V<2147483648):WH Tryz.prog gr (WE Tryz.prog gr K) (500*V+510) none V 0 (Conc.G (Frame.enter Tryz.prog 64 #[.pointer (some ⟨gr.blk,gr.off,none⟩)] .normal) (c::cs)):=by
 rw[enter_at _ Tryz.func64 rfl];refine(?_:At (YWH Tryz.prog gr K none V) (500*V+510) 84 (base 64) (c::cs) [] 0 (Wg.ax0 #[.pointer (some ⟨gr.blk,gr.off,none⟩)]) [.code (Tryz.f64.body.getD .skip)]) _ (ef0 _ _ rfl);refine At.seq T2 ?_;refine At.w7 T2 rfl ?_;refine At.region T2 ?_;refine M0.Et0 T2 (E1 _) .disable (by simp) (.inl rfl) rfl Tryz.func108 Ky0 rfl rfl Le0 ?_;simp only[or0];refine M0.nil T2 ?_;refine At.block T2 ?_;refine At.loop T2 ?_;exact At.Km0 (At.Ex0 (fun e=>Gx0 gr K hK V hV e) rfl) (by omega)
end
end Go.Proofs.YtinppmaojmdmhaaGreat
end
section
namespace Go.Vy.Sc
open Go Go.Conc Go.Yc Go.RowKit Go.Proofs Go.Proofs.YtinppmaojmdmhaaGreat Tryz
open Go.Vc
structure CB where
 cb:Nat
 rc:Nat
 sp:Stp
 rf:Value
 df:Value
 S1:Nat
 wt:Bool
 st:Bool
def CB.cells (rb i:Nat) (c:CB):Array Value:=#[.i (i:Int),.p rb,.chan (some c.rc),.i c.sp.kind,.i c.sp.obj,.i c.sp.num,c.rf,c.df,.i (c.S1:Int),.bool c.wt,.bool c.st]
def evC (x:Nat×Stp):List Value:=[.i (x.1:Int),.i x.2.kind,.i x.2.obj,.i x.2.num]
def ntC (x:Nat×Nat×Nte):List Value:=[.i (x.1:Int),.i (x.2.1:Int),.i x.2.2.kind,.string x.2.2.text]
def spC (s:Stp):List Value:=[.i s.kind,.i s.obj,.i s.num]
structure Rn where
 rb:Nat
 yb:Nat
 eb:Nat
 wb:Nat
 m:Nat
 ca:Option Addr
 cc:Nat
 cl:List CB
 ea:Option Addr
 ec:Nat
 evs:List (Nat×Stp)
 na:Option Addr
 nc:Nat
 nts:List (Nat×Nat×Nte)
 ends:List Int
 E9:List Stp
 stuck:Bool
 used:Nat
def Rn.cells (R:Rn):Array Value:=#[.slice R.ca R.cl.length R.cc,.slice R.ea R.evs.length R.ec,.slice R.na R.nts.length R.nc,.slice (pt R.eb) R.m R.m,.slice (pt R.wb) R.m R.m,.bool R.stuck,.i (R.used:Int),.chan (some R.yb)]
structure S4 (w:World) (Bs:Nat) (R:Rn):Prop where
 run:I1 w R.rb R.cells 173 (7,8)
 cls:Own w Bs 123 1 R.ca R.cl.length R.cc (R.cl.map fun c=>.p c.cb)
 evs:Own w Bs 67 4 R.ea R.evs.length R.ec (R.evs.flatMap evC)
 nts:Own w Bs 63 4 R.na R.nts.length R.nc (R.nts.flatMap ntC)
 ends:I1 w R.eb (R.ends.map (Value.int .i64)).toArray 3 (0,0)
 E9:I1 w R.wb (R.E9.flatMap spC).toArray 65 (0,0)
 gf0:R.ends.length=R.m
 le0:R.E9.length=R.m
 lcl:R.cl.length <=R.m
 blk:∀(i:Nat) (c:CB),R.cl[i]? =some c->I1 w c.cb (c.cells R.rb i) 248 (0,3)
def Rn.fp (R:Rn) (k:Nat):Prop:=k=R.rb\/k=R.eb\/k=R.wb\/(R.ca≠none/\k=ab R.ca)\/(R.ea≠none/\k=ab R.ea)\/(R.na≠none/\k=ab R.na)\/∃(i:Nat) (c:CB),R.cl[i]? =some c/\k=c.cb
section
variable {w w':World}{Bs:Nat}{R:Rn}
theorem S4.congr (h:S4 w Bs R) (he:∀k,R.fp k->w'.heap[k]? =w.heap[k]?):S4 w' Bs R :=
 ⟨(he _ (.inl rfl)).trans h.run,Own.congr h.cls fun ha=>he _ (.inr (.inr (.inr (.inl ⟨ha,rfl⟩)))),Own.congr h.evs fun ha=>he _ (.inr (.inr (.inr (.inr (.inl ⟨ha,rfl⟩))))),Own.congr h.nts fun ha=>he _ (.inr (.inr (.inr (.inr (.inr (.inl ⟨ha,rfl⟩)))))),
  (he _ (.inr (.inl rfl))).trans h.ends,(he _ (.inr (.inr (.inl rfl)))).trans h.E9,h.gf0,h.le0,h.lcl,fun i c hc=>(he _ (.inr (.inr (.inr (.inr (.inr (.inr ⟨i,c,hc,rfl⟩))))))).trans (h.blk i c hc)⟩
theorem S4.lt (h:S4 w Bs R) {k:Nat} (hk:R.fp k):k<w.heap.size:=by
 rcases hk with rfl|rfl|rfl|⟨ha,rfl⟩|⟨ha,rfl⟩|⟨ha,rfl⟩|⟨i,c,hc,rfl⟩
 ·exact h.run.lt
 ·exact h.ends.lt
 ·exact h.E9.lt
 ·exact h.cls.lt ha
 ·exact h.evs.lt ha
 ·exact h.nts.lt ha
 ·exact(h.blk i c hc).lt
theorem S4.j0 (h:S4 w Bs R) (hb:Below w.heap.size w w'):S4 w' Bs R:=h.congr fun k hk=>hb.block k (h.lt hk)
theorem N2 {b:Nat} {cs:Array Value} {T:TypeId} {f:Nat×Nat} {row:Option Nat} (h:I1 w b cs T f) (hg:w.grownBy w' row) (hr:∀r,row=some r->∃C6 T' f',I1 w r C6 T' f'/\T≠T'):I1 w' b cs T f :=
 h.grown hg fun e=>by
  obtain⟨C6,T',f',h',hT⟩:=hr b e.symm;exact h.ne h' hT rfl
theorem G4 {E:TypeId} {s n c:Nat} {a:Option Addr} {xs:List Value} {row:Option Nat} (h:Own w Bs E s a n c xs) (hg:w.grownBy w' row) (hr:∀r,row=some r->∃C6 T' f',I1 w r C6 T' f'/\E≠T'):Own w' Bs E s a n c xs :=
 Own.congr h fun ha=>by
  obtain⟨cur,hB,_⟩:=h.row ha;refine hg.block _ hB.lt fun e=>?_;obtain⟨C6,T',f',h',hT⟩:=hr (ab a) e.symm;exact I1.ne (f:=(0,0)) hB h' hT rfl
theorem S4.kx1 (h:S4 w Bs R) {i j:Nat} {c d:CB} (hc:R.cl[i]? =some c) (hd:R.cl[j]? =some d) (he:c.cb=d.cb):i=j:=by
 have h1:=h.blk i c hc;have h2:=h.blk j d hd;unfold I1 at h1 h2;rw[he,h2]at h1;have:=congrArg (fun o=>match o with|some (Obj.cells c _ _)=>c[0]? |_=>none) h1;simp[CB.cells]at this;omega
theorem Lg0 (l:List CB) (i:Nat) (c c':CB) (hc:l[i]? =some c) (he:c'.cb=c.cb):(l.set i c').map (fun c=>Value.p c.cb)=l.map fun c=>Value.p c.cb:=by
 apply List.ext_getElem?;intro j;rw[List.getElem?_map,List.getElem?_map,List.getElem?_set];by_cases hj:i=j
 ·subst hj;have M1:=(List.getElem?_eq_some_iff.1 hc).1;rw[List.getElem?_eq_getElem M1]at hc;obtain rfl:=Option.some.inj hc;simp[M1,he]
 ·simp[hj]
theorem Rn.Ez0 {i:Nat} {c c':CB} (hc:R.cl[i]? =some c) (he:c'.cb=c.cb) {k:Nat} (hk:Rn.fp {R with cl:=R.cl.set i c'} k):R.fp k:=by
 rcases hk with h|h|h|h|h|h|⟨j,d,hd,rfl⟩
 ·exact .inl h
 ·exact .inr (.inl h)
 ·exact .inr (.inr (.inl h))
 ·exact .inr (.inr (.inr (.inl h)))
 ·exact .inr (.inr (.inr (.inr (.inl h))))
 ·exact .inr (.inr (.inr (.inr (.inr (.inl h)))))
 ·refine .inr (.inr (.inr (.inr (.inr (.inr ?_)))));have k6:(R.cl.set i c')[j]? =some d:=hd;rw[List.getElem?_set]at k6;by_cases hj:i=j
  ·subst hj;rw[if_pos rfl]at k6;split at k6
   ·obtain rfl:=Option.some.inj k6;exact⟨i,c,hc,he⟩
   ·cases k6
  ·rw[if_neg hj]at k6;exact⟨j,d,k6,rfl⟩
theorem S4.Yd0 (h:S4 w Bs R) {i:Nat} {c:CB} (c':CB) (hc:R.cl[i]? =some c) (he:c'.cb=c.cb):S4 (K1 w c.cb (c'.cells R.rb i) 248 (0,3)) Bs {R with cl:=R.cl.set i c'}:=by
 have hg:=Y1 w c.cb (c'.cells R.rb i) 248 (0,3);have hb:=h.blk i c hc;have hr:∀T:TypeId,T≠248->∀r,some c.cb=some r->∃C6 T' f',I1 w r C6 T' f'/\T≠T':=fun T hT r e=>by cases e;exact⟨_,_,_,hb,hT⟩
 refine⟨?_,?_,G4 h.evs hg (hr _ (by decide)),G4 h.nts hg (hr _ (by decide)),N2 h.ends hg (hr _ (by decide)),N2 h.E9 hg (hr _ (by decide)),h.gf0,h.le0,by simpa using h.lcl,fun j d hd=>?_⟩
 ·have:=N2 h.run hg (hr _ (by decide));simpa [Rn.cells]using this
 ·have:=G4 h.cls hg (hr _ (by decide));show Own _ Bs _ 1 R.ca (R.cl.set i c').length R.cc ((R.cl.set i c').map _);rw[Lg0 R.cl i c c' hc he,List.length_set];exact this
 ·have k6:(R.cl.set i c')[j]? =some d:=hd;rw[List.getElem?_set]at k6;by_cases hj:i=j
  ·subst hj;rw[if_pos rfl]at k6;split at k6
   ·obtain rfl:=Option.some.inj k6;rw[he];exact j5 hb _ _ _
   ·cases k6
  ·rw[if_neg hj]at k6;exact(h.blk j d k6).other hg fun e=>hj (h.kx1 k6 hc e).symm
theorem S4.Ye0 (h:S4 w Bs R) (st:Bool) (us:Nat):S4 (K1 w R.rb (Rn.cells {R with stuck:=st,used:=us}) 173 (7,8)) Bs {R with stuck:=st,used:=us}:=by
 have hg:=Y1 w R.rb (Rn.cells {R with stuck:=st,used:=us}) 173 (7,8);have hr:∀T:TypeId,T≠173->∀r,some R.rb=some r->∃C6 T' f',I1 w r C6 T' f'/\T≠T':=fun T hT r e=>by cases e;exact⟨_,_,_,h.run,hT⟩
 exact⟨j5 h.run _ _ _,G4 h.cls hg (hr _ (by decide)),G4 h.evs hg (hr _ (by decide)),G4 h.nts hg (hr _ (by decide)),N2 h.ends hg (hr _ (by decide)),N2 h.E9 hg (hr _ (by decide)),h.gf0,h.le0,h.lcl,fun j d hd=>N2 (h.blk j d hd) hg (hr _ (by decide))⟩
theorem Rh0 {E:TypeId} {s n c:Nat} {a:Option Addr} {xs:List Value} (h:Own w Bs E s a n c xs):∀r,Value.ownBlock (.slice a n c)=some r->∃C6 T' f',I1 w r C6 T' f':=by
 intro r e;cases a with
 |none=>cases e
 |some ad=>
  obtain⟨cur,hB,_⟩:=h.row (by simp);cases e;exact⟨_,_,_,hB⟩
theorem q5 {E T:TypeId} {s n c:Nat} {a:Option Addr} {xs:List Value} (h:Own w Bs E s a n c xs) (hT:T≠E):∀r,Value.ownBlock (.slice a n c)=some r->∃C6 T' f',I1 w r C6 T' f'/\T≠T':=by
 intro r e;cases a with
 |none=>cases e
 |some ad=>
  obtain⟨cur,hB,_⟩:=h.row (by simp);cases e;exact⟨_,_,_,hB,hT⟩
theorem S4.Lh0 (h:S4 w Bs R) {w1:World} {a':Option Addr} {c':Nat} (x:Nat×Stp) (hg:w.grownBy w1 (Value.ownBlock (.slice R.ea R.evs.length R.ec))) (hO:Own w1 Bs 67 4 a' (R.evs.length+1) c' (R.evs.flatMap evC++evC x)) :
  S4 (K1 w1 R.rb (Rn.cells {R with ea:=a',ec:=c',evs:=R.evs ++ [x]}) 173 (7,8)) Bs {R with ea:=a',ec:=c',evs:=R.evs ++ [x]}:=by
 have A3:=N2 h.run hg (q5 h.evs (by decide));have hg2:=Y1 w1 R.rb (Rn.cells {R with ea:=a',ec:=c',evs:=R.evs ++ [x]}) 173 (7,8);have hr:∀T:TypeId,T≠173->∀r,some R.rb=some r->∃C6 T' f',I1 w1 r C6 T' f'/\T≠T':=fun T hT r e=>by cases e;exact⟨_,_,_,A3,hT⟩
 refine⟨j5 A3 _ _ _,G4 (G4 h.cls hg (q5 h.evs (by decide))) hg2 (hr _ (by decide)),?_,G4 (G4 h.nts hg (q5 h.evs (by decide))) hg2 (hr _ (by decide)),N2 (N2 h.ends hg (q5 h.evs (by decide))) hg2 (hr _ (by decide)),N2 (N2 h.E9 hg (q5 h.evs (by decide))) hg2 (hr _ (by decide)),h.gf0,h.le0,h.lcl,fun j d hd=>N2 (N2 (h.blk j d hd) hg (q5 h.evs (by decide))) hg2 (hr _ (by decide))⟩;have:=G4 hO hg2 (hr _ (by decide));simpa using this
theorem S4.Li0 (h:S4 w Bs R) {w1:World} {a':Option Addr} {c':Nat} (x:Nat×Nat×Nte) (hg:w.grownBy w1 (Value.ownBlock (.slice R.na R.nts.length R.nc))) (hO:Own w1 Bs 63 4 a' (R.nts.length+1) c' (R.nts.flatMap ntC++ntC x)) :
  S4 (K1 w1 R.rb (Rn.cells {R with na:=a',nc:=c',nts:=R.nts ++ [x]}) 173 (7,8)) Bs {R with na:=a',nc:=c',nts:=R.nts ++ [x]}:=by
 have A3:=N2 h.run hg (q5 h.nts (by decide));have hg2:=Y1 w1 R.rb (Rn.cells {R with na:=a',nc:=c',nts:=R.nts ++ [x]}) 173 (7,8);have hr:∀T:TypeId,T≠173->∀r,some R.rb=some r->∃C6 T' f',I1 w1 r C6 T' f'/\T≠T':=fun T hT r e=>by cases e;exact⟨_,_,_,A3,hT⟩
 refine⟨j5 A3 _ _ _,G4 (G4 h.cls hg (q5 h.nts (by decide))) hg2 (hr _ (by decide)),G4 (G4 h.evs hg (q5 h.nts (by decide))) hg2 (hr _ (by decide)),?_,N2 (N2 h.ends hg (q5 h.nts (by decide))) hg2 (hr _ (by decide)),N2 (N2 h.E9 hg (q5 h.nts (by decide))) hg2 (hr _ (by decide)),h.gf0,h.le0,h.lcl,fun j d hd=>N2 (N2 (h.blk j d hd) hg (q5 h.nts (by decide))) hg2 (hr _ (by decide))⟩;have:=G4 hO hg2 (hr _ (by decide));simpa using this
theorem S4.Lj0 (h:S4 w Bs R) {w1:World} {a':Option Addr} {c':Nat} (x:CB) (hx:I1 w x.cb (x.cells R.rb R.cl.length) 248 (0,3)) (hm:R.cl.length<R.m) (hg:w.grownBy w1 (Value.ownBlock (.slice R.ca R.cl.length R.cc))) (hO:Own w1 Bs 123 1 a' (R.cl.length+1) c' ((R.cl.map fun c=>.p c.cb) ++ [.p x.cb])) :
  S4 (K1 w1 R.rb (Rn.cells {R with ca:=a',cc:=c',cl:=R.cl ++ [x]}) 173 (7,8)) Bs {R with ca:=a',cc:=c',cl:=R.cl ++ [x]}:=by
 have A3:=N2 h.run hg (q5 h.cls (by decide));have hg2:=Y1 w1 R.rb (Rn.cells {R with ca:=a',cc:=c',cl:=R.cl ++ [x]}) 173 (7,8);have hr:∀T:TypeId,T≠173->∀r,some R.rb=some r->∃C6 T' f',I1 w1 r C6 T' f'/\T≠T':=fun T hT r e=>by cases e;exact⟨_,_,_,A3,hT⟩
 refine⟨j5 A3 _ _ _,?_,G4 (G4 h.evs hg (q5 h.cls (by decide))) hg2 (hr _ (by decide)),G4 (G4 h.nts hg (q5 h.cls (by decide))) hg2 (hr _ (by decide)),N2 (N2 h.ends hg (q5 h.cls (by decide))) hg2 (hr _ (by decide)),N2 (N2 h.E9 hg (q5 h.cls (by decide))) hg2 (hr _ (by decide)),h.gf0,h.le0,by simp;omega,fun j d hd=>?_⟩
 ·have:=G4 hO hg2 (hr _ (by decide));simpa using this
 ·have k6:(R.cl ++ [x])[j]? =some d:=hd;have hb:I1 w d.cb (d.cells R.rb j) 248 (0,3):=by
   rw[List.getElem?_append]at k6;split at k6
   ·exact h.blk j d k6
   ·rename_i M1;have hj:j=R.cl.length:=by
     rcases Nat.lt_or_ge (j-R.cl.length) 1 with z|z
     ·omega
     ·rw[List.getElem?_eq_none (by simpa using z)]at k6;cases k6
    subst hj;simp at k6;subst k6;exact hx
  exact N2 (N2 hb hg (q5 h.cls (by decide))) hg2 (hr _ (by decide))
theorem S4.G9 (h:S4 w Bs R) (i:Nat) (v:Int):S4 (K1 w R.eb ((R.ends.set i v).map (Value.int .i64)).toArray 3 (0,0)) Bs {R with ends:=R.ends.set i v}:=by
 have hg:=Y1 w R.eb ((R.ends.set i v).map (Value.int .i64)).toArray 3 (0,0);have hr:∀T:TypeId,T≠3->∀r,some R.eb=some r->∃C6 T' f',I1 w r C6 T' f'/\T≠T':=fun T hT r e=>by cases e;exact⟨_,_,_,h.ends,hT⟩
 exact⟨N2 h.run hg (hr _ (by decide)),G4 h.cls hg (hr _ (by decide)),G4 h.evs hg (hr _ (by decide)),G4 h.nts hg (hr _ (by decide)),j5 h.ends _ _ _,N2 h.E9 hg (hr _ (by decide)),by simpa using h.gf0,h.le0,h.lcl,fun j d hd=>N2 (h.blk j d hd) hg (hr _ (by decide))⟩
theorem S4.Yf0 (h:S4 w Bs R) (i:Nat) (v:Stp):S4 (K1 w R.wb ((R.E9.set i v).flatMap spC).toArray 65 (0,0)) Bs {R with E9:=R.E9.set i v}:=by
 have hg:=Y1 w R.wb ((R.E9.set i v).flatMap spC).toArray 65 (0,0);have hr:∀T:TypeId,T≠65->∀r,some R.wb=some r->∃C6 T' f',I1 w r C6 T' f'/\T≠T':=fun T hT r e=>by cases e;exact⟨_,_,_,h.E9,hT⟩
 exact⟨N2 h.run hg (hr _ (by decide)),G4 h.cls hg (hr _ (by decide)),G4 h.evs hg (hr _ (by decide)),G4 h.nts hg (hr _ (by decide)),N2 h.ends hg (hr _ (by decide)),j5 h.E9 _ _ _,h.gf0,by simpa using h.le0,h.lcl,fun j d hd=>N2 (h.blk j d hd) hg (hr _ (by decide))⟩
structure Rg (S:Nat->Prop) (B:Nat) (w0 w:World) (Bs:Nat) (R:Rn):Prop where
 m:S4 w Bs R
 md:jd0 S B w0 w
 fp:∀k,R.fp k->S k\/B <=k
 le:B <=w.heap.size
end
section
variable {S:Nat->Prop}{B:Nat}{w0 w w':World}{Bs:Nat}{R:Rn}
theorem S4.rg (h:S4 w Bs R):Rg R.fp w.heap.size w w Bs R:=⟨h,jd0.refl _ _ _,fun _ h=>.inl h,Nat.le_refl _⟩
theorem Rg.j0 (h:Rg S B w0 w Bs R) (hb:Below w.heap.size w w'):Rg S B w0 w' Bs R:=⟨h.m.j0 hb,h.md.below hb h.le,h.fp,Nat.le_trans h.le hb.size⟩
theorem Rg.fresh (h:Rg S B w0 w Bs R) {b:Nat} (cs:Array Value) (T:TypeId) (f:Nat×Nat) (hb:∀k,R.fp k->k≠b) (hB:B <=b):Rg S B w0 (K1 w b cs T f) Bs R :=
 ⟨h.m.congr fun k hk=>x8 (hb k hk),h.md.grown (Y1 w b cs T f) h.le (fun r e=>by cases e;exact .inr hB),h.fp,by rw[n6];exact h.le⟩
theorem Rg.put (h:Rg S B w0 w Bs R) {b:Nat} {cs:Array Value} {T:TypeId} {f:Nat×Nat} {R':Rn} (hb:R.fp b) (hm:S4 (K1 w b cs T f) Bs R') (hf:∀k,R'.fp k->R.fp k):Rg S B w0 (K1 w b cs T f) Bs R' :=
 ⟨hm,h.md.grown (Y1 w b cs T f) h.le (fun r e=>by cases e;exact h.fp _ hb),fun k hk=>h.fp k (hf k hk),by rw[n6];exact h.le⟩
theorem fu1 {i:Nat} {c:CB} (hc:R.cl[i]? =some c):R.fp c.cb:=.inr (.inr (.inr (.inr (.inr (.inr ⟨i,c,hc,rfl⟩)))))
theorem Rg.Yd0 (h:Rg S B w0 w Bs R) {i:Nat} {c:CB} (c':CB) (hc:R.cl[i]? =some c) (he:c'.cb=c.cb):Rg S B w0 (K1 w c.cb (c'.cells R.rb i) 248 (0,3)) Bs {R with cl:=R.cl.set i c'} :=
 h.put (fu1 hc) (h.m.Yd0 c' hc he) fun _ hk=>Rn.Ez0 hc he hk
theorem Rg.Ye0 (h:Rg S B w0 w Bs R) (st:Bool) (us:Nat):Rg S B w0 (K1 w R.rb (Rn.cells {R with stuck:=st,used:=us}) 173 (7,8)) Bs {R with stuck:=st,used:=us} :=
 h.put (.inl rfl) (h.m.Ye0 st us) fun _ hk=>hk
theorem Rg.G9 (h:Rg S B w0 w Bs R) (i:Nat) (v:Int):Rg S B w0 (K1 w R.eb ((R.ends.set i v).map (Value.int .i64)).toArray 3 (0,0)) Bs {R with ends:=R.ends.set i v} :=
 h.put (.inr (.inl rfl)) (h.m.G9 i v) fun _ hk=>hk
theorem Rg.Yf0 (h:Rg S B w0 w Bs R) (i:Nat) (v:Stp):Rg S B w0 (K1 w R.wb ((R.E9.set i v).flatMap spC).toArray 65 (0,0)) Bs {R with E9:=R.E9.set i v} :=
 h.put (.inr (.inr (.inl rfl))) (h.m.Yf0 i v) fun _ hk=>hk
def Gy0 (w:World) (a a':Option Addr):Prop:=a'≠none->(a≠none/\ab a'=ab a)\/w.heap.size <=ab a'
theorem xc0 {a:Option Addr} {n c r:Nat} (e:Value.ownBlock (.slice a n c)=some r):a≠none/\r=ab a:=by
 cases a with
 |none=>cases e
 |some ad=>exact⟨by simp,by cases e;rfl⟩
theorem Rg.app (h:Rg S B w0 w Bs R) {R':Rn} {row:Option Nat} {w1:World} (hg:w.grownBy w1 row) (hr:∀r,row=some r->R.fp r) (hb:R'.rb=R.rb) (hm:S4 (K1 w1 R.rb R'.cells 173 (7,8)) Bs R') (hf:∀k,R'.fp k->R.fp k\/w.heap.size <=k) :
  Rg S B w0 (K1 w1 R.rb R'.cells 173 (7,8)) Bs R' :=
 ⟨hm,(h.md.grown hg h.le fun r e=>h.fp r (hr r e)).grown (Y1 _ _ _ _ _) (Nat.le_trans h.le hg.size) (fun r e=>by cases e;exact h.fp _ (.inl rfl)),fun k hk=>by
  rcases hf k hk with z|z
  ·exact h.fp k z
  ·have:=h.le;exact .inr (by omega),by rw[n6];exact Nat.le_trans h.le hg.size⟩
theorem Rg.Lh0 (h:Rg S B w0 w Bs R) {w1:World} {a':Option Addr} {c':Nat} (x:Nat×Stp) (hg:w.grownBy w1 (Value.ownBlock (.slice R.ea R.evs.length R.ec))) (hO:Own w1 Bs 67 4 a' (R.evs.length+1) c' (R.evs.flatMap evC++evC x)) (hl:Gy0 w R.ea a') :
  Rg S B w0 (K1 w1 R.rb (Rn.cells {R with ea:=a',ec:=c',evs:=R.evs ++ [x]}) 173 (7,8)) Bs {R with ea:=a',ec:=c',evs:=R.evs ++ [x]} :=
 h.app (R':={R with ea:=a',ec:=c',evs:=R.evs ++ [x]}) hg (fun r e=>by obtain⟨h1,rfl⟩:=xc0 e;exact .inr (.inr (.inr (.inr (.inl ⟨h1,rfl⟩))))) rfl (h.m.Lh0 x hg hO) fun k hk=>by
  rcases hk with z|z|z|z|⟨z1,z2⟩|z|z
  ·exact .inl (.inl z)
  ·exact .inl (.inr (.inl z))
  ·exact .inl (.inr (.inr (.inl z)))
  ·exact .inl (.inr (.inr (.inr (.inl z))))
  ·rcases hl z1 with⟨y1,y2⟩|y
   ·exact .inl (.inr (.inr (.inr (.inr (.inl ⟨y1,by rw[z2];exact y2⟩)))))
   ·exact .inr (by rw[z2];exact y)
  ·exact .inl (.inr (.inr (.inr (.inr (.inr (.inl z))))))
  ·exact .inl (.inr (.inr (.inr (.inr (.inr (.inr z))))))
theorem Rg.Li0 (h:Rg S B w0 w Bs R) {w1:World} {a':Option Addr} {c':Nat} (x:Nat×Nat×Nte) (hg:w.grownBy w1 (Value.ownBlock (.slice R.na R.nts.length R.nc))) (hO:Own w1 Bs 63 4 a' (R.nts.length+1) c' (R.nts.flatMap ntC++ntC x)) (hl:Gy0 w R.na a') :
  Rg S B w0 (K1 w1 R.rb (Rn.cells {R with na:=a',nc:=c',nts:=R.nts ++ [x]}) 173 (7,8)) Bs {R with na:=a',nc:=c',nts:=R.nts ++ [x]} :=
 h.app (R':={R with na:=a',nc:=c',nts:=R.nts ++ [x]}) hg (fun r e=>by obtain⟨h1,rfl⟩:=xc0 e;exact .inr (.inr (.inr (.inr (.inr (.inl ⟨h1,rfl⟩)))))) rfl (h.m.Li0 x hg hO) fun k hk=>by
  rcases hk with z|z|z|z|z|⟨z1,z2⟩|z
  ·exact .inl (.inl z)
  ·exact .inl (.inr (.inl z))
  ·exact .inl (.inr (.inr (.inl z)))
  ·exact .inl (.inr (.inr (.inr (.inl z))))
  ·exact .inl (.inr (.inr (.inr (.inr (.inl z)))))
  ·rcases hl z1 with⟨y1,y2⟩|y
   ·exact .inl (.inr (.inr (.inr (.inr (.inr (.inl ⟨y1,by rw[z2];exact y2⟩))))))
   ·exact .inr (by rw[z2];exact y)
  ·exact .inl (.inr (.inr (.inr (.inr (.inr (.inr z))))))
theorem Rg.Lj0 (h:Rg S B w0 w Bs R) {w1:World} {a':Option Addr} {c':Nat} (x:CB) (hx:I1 w x.cb (x.cells R.rb R.cl.length) 248 (0,3)) (hxS:S x.cb\/B <=x.cb) (hm:R.cl.length<R.m) (hg:w.grownBy w1 (Value.ownBlock (.slice R.ca R.cl.length R.cc)))
  (hO:Own w1 Bs 123 1 a' (R.cl.length+1) c' ((R.cl.map fun c=>.p c.cb) ++ [.p x.cb])) (hl:Gy0 w R.ca a') :
  Rg S B w0 (K1 w1 R.rb (Rn.cells {R with ca:=a',cc:=c',cl:=R.cl ++ [x]}) 173 (7,8)) Bs {R with ca:=a',cc:=c',cl:=R.cl ++ [x]}:=by
 have h1:=h.m.Lj0 x hx hm hg hO;refine⟨h1,(h.md.grown hg h.le fun r e=>h.fp r (by obtain⟨h1,rfl⟩:=xc0 e;exact .inr (.inr (.inr (.inl ⟨h1,rfl⟩))))).grown (Y1 _ _ _ _ _) (Nat.le_trans h.le hg.size) (fun r e=>by cases e;exact h.fp _ (.inl rfl)),fun k hk=>?_,by rw[n6];exact Nat.le_trans h.le hg.size⟩;rcases hk with z|z|z|⟨z1,z2⟩|z|z|⟨i,d,hd,z⟩
 ·exact h.fp _ (.inl z)
 ·exact h.fp _ (.inr (.inl z))
 ·exact h.fp _ (.inr (.inr (.inl z)))
 ·rcases hl z1 with⟨y1,y2⟩|y
  ·exact h.fp _ (.inr (.inr (.inr (.inl ⟨y1,by rw[z2];exact y2⟩))))
  ·have:=h.le;exact .inr (by rw[z2];show B <=ab a';omega)
 ·exact h.fp _ (.inr (.inr (.inr (.inr (.inl z)))))
 ·exact h.fp _ (.inr (.inr (.inr (.inr (.inr (.inl z))))))
 ·have k6:(R.cl ++ [x])[i]? =some d:=hd;rw[List.getElem?_append]at k6;split at k6
  ·exact h.fp _ (.inr (.inr (.inr (.inr (.inr (.inr ⟨i,d,k6,z⟩))))))
  ·have hdx:d=x:=by
    have:=List.mem_of_getElem? k6;simpa using this
   subst hdx;rw[z];exact hxS
end
section
variable {w:World}{Bs:Nat}{R:Rn}
theorem Lk0 (hM:S4 w Bs R) {i:Nat} {c:CB} (hc:R.cl[i]? =some c):w.cell? ⟨ab R.ca,ao R.ca+i*1,none⟩=some (.p c.cb):=by
 rw[hM.cls.off,Nat.zero_add,Nat.mul_one];exact hM.cls.cell (by rw[List.getElem?_map,hc];rfl)
def rdl (cl:List CB) (r:Nat->Bool) (n:Nat):List Nat:=(List.range n).filter fun i=>(cl[i]?.any (·.wt))&&r i
def Ll0 (cl:List CB) (i:Nat):Value:=.pointer (some ⟨(cl[i]?.map (·.cb)).getD 0,0,none⟩)
theorem Lm0 {cl:List CB} {r:Nat->Bool} {i:Nat} {c:CB} (hc:cl[i]? =some c) (h:(c.wt&&r i)=false):rdl cl r (i+1)=rdl cl r i:=by
 unfold rdl;rw[List.range_succ,List.filter_append];simp[hc,h]
theorem Fa0 {cl:List CB} {r:Nat->Bool} {i:Nat} {c:CB} (hc:cl[i]? =some c) (h:(c.wt&&r i)=true):rdl cl r (i+1)=rdl cl r i ++ [i]:=by
 unfold rdl;rw[List.range_succ,List.filter_append];simp only[Bool.and_eq_true]at h;simp[hc,h.1,h.2]
theorem Co0 {cl:List CB} {r:Nat->Bool} (n:Nat):(rdl cl r n).length <=n:=by
 have:=List.length_filter_le (fun i=>(cl[i]?.any (·.wt))&&r i) (List.range n);simpa [rdl]using this
theorem fv1 {cl:List CB} {i:Nat} (h:∀(j:Nat) (c:CB),j<i->cl[j]? =some c->c.wt=false) (hi:cl.length <=i):cl.any (·.wt)=false:=by
 rw[List.any_eq_false];intro c hc;obtain⟨j,hj⟩:=List.mem_iff_getElem?.1 hc;have:=h j c (by have:=(List.getElem?_eq_some_iff.1 hj).1;omega) hj;simp[this]
def xd0 [Ctx prog] (w0:World) (rf:Value) (b:Bool):Prop :=
 (rf= .nilFunc/\b=true)\/∃f fn caps,rf= .func (.func f) #[] caps/\prog.funcs[f]? =some fn/\fn.body.isSome=true/\(fn.name== "runtime.NumGoroutine")=false/\∀u,Below w0.heap.size w0 u->C prog f caps u fun v u'=>v= .bool b/\Below u.heap.size u u'
end
section
variable [Ctx prog]{n:Nat}{Q:Exit->Env->World->Prop}{e:Env}{ops:Array Oper}{rest:List Oper}{ty:TypeId}{ps:String}{af:Array Edge}{T:TypeId}{x y:Operand}
variable {S:Nat->Prop}{B:Nat}{w0 w:World}{Bs:Nat}{R:Rn}
theorem L.stC {i:Nat} {c:CB} {o s:Nat} {v:Value} {vs:List Value} (hg:Rg S B w0 w Bs R) (c':CB) (hc:R.cl[i]? =some c) (he:c'.cb=c.cb) (hx:ev e x= .pointer (some ⟨c.cb,o,none⟩)) (hy:ev e y=v) (hvs:v.cells.toList=vs) (hs:(prog.info? T).map (·.size)=some s) (hl:vs.length=s) (h1:vs.all Value.oneCell'=true) (ho:3 <=o/\o+s <=11) (hcs:setRow (c.cells R.rb i) o vs=c'.cells R.rb i)
  (k:∀w1,Rg S B w0 w1 Bs {R with cl:=R.cl.set i c'}->w.grownBy w1 (some c.cb)->L prog n ops Q rest e w1):L prog n ops Q (⟨none,.store T x y,ty,ps,af,none⟩::rest) e w :=
 L.Ck0 (c'.cells R.rb i) hx hy hvs hs hl h1 (hg.m.blk i c hc) ho.2 (.inr ho.1) hcs (k _ (hg.Yd0 c' hc he) (Y1 _ _ _ _ _))
theorem L.stR {o s:Nat} {v:Value} {vs:List Value} (hg:Rg S B w0 w Bs R) (st:Bool) (us:Nat) (hx:ev e x= .pointer (some ⟨R.rb,o,none⟩)) (hy:ev e y=v) (hvs:v.cells.toList=vs) (hs:(prog.info? T).map (·.size)=some s) (hl:vs.length=s) (h1:vs.all Value.oneCell'=true) (ho:o+s <=7) (hcs:setRow R.cells o vs=Rn.cells {R with stuck:=st,used:=us})
  (k:∀w1,Rg S B w0 w1 Bs {R with stuck:=st,used:=us}->w.grownBy w1 (some R.rb)->L prog n ops Q rest e w1):L prog n ops Q (⟨none,.store T x y,ty,ps,af,none⟩::rest) e w :=
 L.Ck0 (Rn.cells {R with stuck:=st,used:=us}) hx hy hvs hs hl h1 hg.m.run (show o+s <=8 by omega) (.inl (show o+s <=7 by omega)) hcs (k _ (hg.Ye0 st us) (Y1 _ _ _ _ _))
theorem L.ky1 {o:Nat} {v:Value} {w1:World} {a':Option Addr} {c':Nat} (hg:Rg S B w0 w Bs R) (x':Nat×Stp) (V2:w.grownBy w1 (Value.ownBlock (.slice R.ea R.evs.length R.ec))) (hO:Own w1 Bs 67 4 a' (R.evs.length+1) c' (R.evs.flatMap evC++evC x')) (hli:Gy0 w R.ea a')
  (hx:ev e x= .pointer (some ⟨R.rb,1,none⟩)) (hy:ev e y= .slice a' (R.evs.length+1) c') (hs:(prog.info? T).map (·.size)=some 1)
  (k:∀w2,Rg S B w0 w2 Bs {R with ea:=a',ec:=c',evs:=R.evs ++ [x']}->L prog n ops Q rest e w2):L prog n ops Q (⟨none,.store T x y,ty,ps,af,none⟩::rest) e w1 :=
 L.Ck0 (Rn.cells {R with ea:=a',ec:=c',evs:=R.evs ++ [x']}) hx hy rfl hs rfl rfl (N2 hg.m.run V2 (q5 hg.m.evs (by decide))) (show 1+1 <=8 by omega) (.inl (show 1+1 <=7 by omega)) (by simp[Rn.cells,setRow,Value.cells]) (k _ (hg.Lh0 x' V2 hO hli))
theorem L.kz1 {o:Nat} {v:Value} {w1:World} {a':Option Addr} {c':Nat} (hg:Rg S B w0 w Bs R) (x':Nat×Nat×Nte) (V2:w.grownBy w1 (Value.ownBlock (.slice R.na R.nts.length R.nc))) (hO:Own w1 Bs 63 4 a' (R.nts.length+1) c' (R.nts.flatMap ntC++ntC x')) (hli:Gy0 w R.na a')
  (hx:ev e x= .pointer (some ⟨R.rb,2,none⟩)) (hy:ev e y= .slice a' (R.nts.length+1) c') (hs:(prog.info? T).map (·.size)=some 1)
  (k:∀w2,Rg S B w0 w2 Bs {R with na:=a',nc:=c',nts:=R.nts ++ [x']}->L prog n ops Q rest e w2):L prog n ops Q (⟨none,.store T x y,ty,ps,af,none⟩::rest) e w1 :=
 L.Ck0 (Rn.cells {R with na:=a',nc:=c',nts:=R.nts ++ [x']}) hx hy rfl hs rfl rfl (N2 hg.m.run V2 (q5 hg.m.nts (by decide))) (show 2+1 <=8 by omega) (.inl (show 2+1 <=7 by omega)) (by simp[Rn.cells,setRow,Value.cells]) (k _ (hg.Li0 x' V2 hO hli))
theorem L.la1 {w1:World} {a':Option Addr} {c':Nat} (hg:Rg S B w0 w Bs R) (x':CB) (hx0:I1 w x'.cb (x'.cells R.rb R.cl.length) 248 (0,3)) (hxS:S x'.cb\/B <=x'.cb) (hm:R.cl.length<R.m) (V2:w.grownBy w1 (Value.ownBlock (.slice R.ca R.cl.length R.cc)))
  (hO:Own w1 Bs 123 1 a' (R.cl.length+1) c' ((R.cl.map fun c=>.p c.cb) ++ [.p x'.cb])) (hli:Gy0 w R.ca a')
  (hx:ev e x= .p R.rb) (hy:ev e y= .slice a' (R.cl.length+1) c') (hs:(prog.info? T).map (·.size)=some 1)
  (k:∀w2,Rg S B w0 w2 Bs {R with ca:=a',cc:=c',cl:=R.cl ++ [x']}->w1.grownBy w2 (some R.rb)->L prog n ops Q rest e w2):L prog n ops Q (⟨none,.store T x y,ty,ps,af,none⟩::rest) e w1 :=
 L.Ck0 (Rn.cells {R with ca:=a',cc:=c',cl:=R.cl ++ [x']}) hx hy rfl hs rfl rfl (N2 hg.m.run V2 (q5 hg.m.cls (by decide))) (show 0+1 <=8 by omega) (.inl (show 0+1 <=7 by omega)) (by simp[Rn.cells,setRow,Value.cells]) (k _ (hg.Lj0 x' hx0 hxS hm V2 hO hli) (Y1 _ _ _ _ _))
end
section
theorem Gz0 (l:List Stp) (i:Nat) (s:Stp) (hi:i<l.length):setRow (l.flatMap spC).toArray (i*3) (spC s)=((l.set i s).flatMap spC).toArray:=by
 apply Array.toList_inj.1;have key:∀(l:List Stp) (i:Nat),i<l.length->(l.set i s).flatMap spC=(((l.flatMap spC).set (i*3) (.i s.kind)).set (i*3+1) (.i s.obj)).set (i*3+2) (.i s.num):=by
  intro l
  induction l with
  |nil=>intro i hi;simp at hi
  |cons a l ih=>
   intro i hi;cases i with
   |zero=>simp[spC,List.flatMap_cons]
   |succ i=>
    have:=ih i (by simpa using hi);simp only[List.set_cons_succ,List.flatMap_cons,spC,List.cons_append,List.nil_append];rw[show(i+1)*3=i*3+1+1+1 by omega];simp only[List.set_cons_succ];rw[this]
 rw[key l i hi];simp[setRow,spC]
end
section
variable [Ctx prog]{n:Nat}{Q:Exit->Env->World->Prop}{e:Env}{ops:Array Oper}{rest:List Oper}{ty:TypeId}{ps:String}{af:Array Edge}{T:TypeId}{x y:Operand}
variable {S:Nat->Prop}{B:Nat}{w0 w:World}{Bs:Nat}{R:Rn}
theorem L.stE {i:Nat} {z:Int} (hg:Rg S B w0 w Bs R) (hi:i<R.m) (hx:ev e x= .pointer (some ⟨R.eb,0+i*1,none⟩)) (hy:ev e y= .i z) (hs:(prog.info? T).map (·.size)=some 1)
  (k:∀w1,Rg S B w0 w1 Bs {R with ends:=R.ends.set i z}->w.grownBy w1 (some R.eb)->L prog n ops Q rest e w1):L prog n ops Q (⟨none,.store T x y,ty,ps,af,none⟩::rest) e w:=by
 refine L.Ck0 _ hx hy rfl hs rfl rfl hg.m.ends (by rw[Nat.zero_add,Nat.mul_one];simp[hg.m.gf0];omega) (.inr (by simp)) ?_ (k _ (hg.G9 i z) (Y1 _ _ _ _ _));rw[Nat.zero_add,Nat.mul_one];apply Array.toList_inj.1;simp[setRow,Value.cells,List.map_set]
theorem L.stW {i:Nat} {z:Stp} (hg:Rg S B w0 w Bs R) (hi:i<R.m) (hx:ev e x= .pointer (some ⟨R.wb,0+i*3,none⟩)) (hy:ev e y=kb0 z) (hs:(prog.info? T).map (·.size)=some 3)
  (k:∀w1,Rg S B w0 w1 Bs {R with E9:=R.E9.set i z}->w.grownBy w1 (some R.wb)->L prog n ops Q rest e w1):L prog n ops Q (⟨none,.store T x y,ty,ps,af,none⟩::rest) e w:=by
 have hln:(R.E9.flatMap spC).length=R.m*3:=by
  rw[<- hg.m.le0];generalize R.E9=l
  induction l with
  |nil=>rfl
  |cons a l ih=>simp only[List.flatMap_cons,List.length_append,ih,List.length_cons];simp[spC];omega
 refine L.Ck0 (vs:=spC z) _ hx hy rfl hs rfl rfl hg.m.E9 (by simp only[List.size_toArray,hln];omega) (.inr (by simp)) ?_ (k _ (hg.Yf0 i z) (Y1 _ _ _ _ _));rw[Nat.zero_add];exact Gz0 R.E9 i z (by rw[hg.m.le0];exact hi)
end
section
variable [Ctx prog]
end
section
theorem fw1 (x0:Int) (x1:Int) (x2:Int) (x3:ByteArray):prog.built 63 [(0,.i x0),(1,.i x1),(2,.i x2),(3,.string x3)]=some #[.i x0,.i x1,.i x2,.string x3]:=by kernel_rfl
end
section
variable [Ctx prog]
theorem Yg0 {S:Nat->Prop} {B:Nat} {w0:World} {Bs:Nat} (R:Rn) (w:World) (hg:Rg S B w0 w Bs R) (hBs:Bs <=w.heap.size) (i:Nat) (c:CB) (hc:R.cl[i]? =some c) (L2:c.st=false) (hrm:R.nts.length <=1000000000) (kind:Int) (text:ByteArray):C prog 74 #[.p c.cb,.i kind,.string text] w fun v w1=>v= .tuple #[]/\∃a n,Rg S B w0 w1 Bs {R with na:=a,nc:=n,nts:=R.nts ++ [(R.evs.length,i,⟨kind,text⟩)]}:=by
 refine C.enter (n:=42) func74 rfl rfl ?_;refine U6 ?_;refine U476 ?_;refine U88 ?_;refine L.va (E0 rfl underlying248 rfl sz4 (by decide)) ?_;refine L.on rfl ?_;refine L.va (A0 rfl underlying4 rfl ((hg.m.blk i c hc).q0 10 (v:=.bool c.st) rfl)) ?_;refine L.va (P6 rfl) ?_;refine U2 ?_;refine W.r6 (rb L2) ?_;refine U99 ?_;refine U0 ?_;refine U11 ?_;refine L.va (E0 rfl underlying248 rfl Ey0 (by decide)) ?_;refine L.va (A0 rfl underlying169 rfl ((hg.m.blk i c hc).q0 1 (v:=.p R.rb) rfl)) ?_;refine U73 ?_;refine U15 ?_;refine U91 ?_;intro hR hC;refine W.fl 19 [17,18] [0,1,2,3,4,5,6,7,8,9,10,11,12,13,14,15,16,17,18] (fun w'=>I1 w' R.rb #[.slice R.ca R.cl.length R.cc,.slice R.ea R.evs.length R.ec,.slice R.na R.nts.length R.nc,.slice (pt R.eb) R.m R.m,.slice (pt R.wb) R.m R.m,.bool R.stuck,.i (R.used:Int),.chan (some R.yb)] 173 (7,8)/\I1 w' c.cb #[.i (i:Int),.p R.rb,.chan (some c.rc),.i c.sp.kind,.i c.sp.obj,.i c.sp.num,c.rf,c.df,.i (c.S1:Int),.bool c.wt,.bool c.st] 248 (0,3)) (by kernel_rfl) (by kernel_rfl) (by kernel_rfl) (by kernel_rfl) (by kernel_rfl) (⟨hR.j0 (Below.refl w.heap.size w).drew,hC.j0 (Below.refl w.heap.size w).drew⟩) ?_;have S3:Below w.heap.size w w.drew:=(Below.refl w.heap.size w).drew;have hBs:=Nat.le_trans hBs S3.size;have hg:=hg.j0 S3;have hR:=hR.j0 S3;have hC:=hC.j0 S3;clear S3;generalize w.drew=w at *;refine U504 ?_;refine F.va rfl rfl (fun w' N1=>(E0 rfl underlying45 rfl Xq0 (by decide))) ?_;refine F.va rfl rfl (fun w' N1=>(A0 rfl underlying42 rfl (N1.1.q0 2 (v:=.slice R.na R.nts.length R.nc) rfl))) ?_;refine U30 ?_;refine U366 ?_;refine F.va rfl rfl (fun w' N1=>(u7 rfl underlying41 rfl)) ?_;refine U30 ?_;refine U381 ?_;refine F.va rfl rfl (fun w' N1=>(H4 rfl)) ?_;refine F.va rfl rfl (fun w' N1=>A5) ?_;refine F.va rfl rfl (fun w' N1=>(R2 (parts:=[(0,.tmp 30),(1,.tmp 34),(2,.tmp 35),(3,.tmp 36)]) rfl (fw1 (R.evs.length:Nat) (i:Int) kind text))) ?_;refine F.doo rfl rfl ?_;refine L.dm0 (cs:=#[.i (R.evs.length:Nat),.i (i:Int),.i kind,.string text]) rfl rfl underlying42 jn1 rfl ⟨_,jo1⟩ (by decide) (fun w b38 F38=>?_);have hBs:=Nat.le_trans hBs F38.below.size;have hg:=hg.j0 F38.below;have hR:=hR.j0 F38.below;have hC:=hC.j0 F38.below;have Ri0:=F38.blk;refine L.nil ⟨rfl,⟨hR,hC⟩,?_⟩;refine F.doo rfl rfl ?_;refine L.fr0 (B:=Bs) (m:=1) rfl rfl underlying42 jp1 rfl (by decide) hg.m.nts (news:=[.i (R.evs.length:Nat),.i (i:Int),.i kind,.string text]) rfl (fun j u hj=>by
  rw[Addr.add_lit]
  match j,hj with
  |0,hj=>cases hj;exact Ri0.q0 0 rfl
  |1,hj=>cases hj;exact Ri0.q0 1 rfl
  |2,hj=>cases hj;exact Ri0.q0 2 rfl
  |3,hj=>cases hj;exact Ri0.q0 3 rfl) (fun u hu=>by simp only[List.mem_cons,List.not_mem_nil,or_false]at hu;rcases hu with rfl|rfl|rfl|rfl <;> rfl) (by omega) (by omega) hBs (fun a39 c39 w2 hO V2 hli=>?_)
 have hR:=N2 hR V2 (q5 hg.m.nts (by decide));have hC:=N2 hC V2 (q5 hg.m.nts (by decide));refine L.nil ⟨rfl,⟨hR,hC⟩,?_⟩;refine U8 ?_;refine L.va (Z0 rfl) ?_;refine L.va (E0 rfl underlying45 rfl Xq0 (by decide)) ?_;refine L.kz1 (o:=0) (v:=undef) hg (R.evs.length,i,⟨kind,text⟩) V2 hO hli rfl rfl Xq0 (fun w hg=>?_);refine L.nil ?_
 try clear hR
 try clear hC
 refine U72 ?_;exact⟨rfl,_,_,hg⟩
theorem Cp0 (R:Rn) (Bs:Nat) (w0:World) (hM:S4 w0 Bs R) (hm:R.cl.length <=1000):C prog 79 #[.p R.rb] w0 fun v w1=>v= .bool (R.cl.any (·.wt))/\w1=w0:=by
 refine C.enter (n:=19) func79 rfl rfl ?_;refine U0 ?_;refine U7 ?_;refine U6 ?_;refine U172 ?_;refine U401 ?_;refine U48 ?_;refine W.loop (fun k e w=>∃(i:Nat),k=R.cl.length-i/\e 0= .p R.rb/\e 2= .bool false/\e 8= .slice R.ca R.cl.length (R.cc)/\e 9= .i (R.cl.length:Nat)/\e 10= .i (i:Int)/\i <=R.cl.length/\(∀(j:Nat) (c:CB),j<i->R.cl[j]? =some c->c.wt=false)/\w=w0) _ ⟨0,rfl,rfl,rfl,rfl,rfl,rfl,Nat.zero_le _,fun j c hj=>absurd hj (Nat.not_lt_zero _),rfl⟩ ?_;rintro k e w ⟨i,hk,s0,s2,s8,s9,s10,hi,hno,hw⟩;rw[V0 s0,V0 s2,V0 s8,V0 s9,V0 s10];clear s0 s2 s8 s9 s10;subst hw;refine U24 ?_;refine W.K6 rfl (fun h11=>?_) (fun h11=>?_)
 ·have M1:i<R.cl.length:=by omega
  obtain⟨c,hc⟩:∃c,R.cl[i]? =some c:=⟨_,List.getElem?_eq_getElem M1⟩
  refine U40 ?_;refine U400 ?_;refine U33 ?_;refine U436 ?_;refine U2 ?_;refine W.cond rfl (fun h17=>?_) (fun h17=>?_)
  ·refine W.seq ?_;refine W.region rfl ?_;refine U7 ?_;refine U9 ?_;exact⟨congrArg Value.bool (List.any_eq_true.2 ⟨c,List.mem_of_getElem? hc,h17⟩).symm,rfl⟩
  ·refine W.skip ?_;refine U115 ?_;refine U12 ?_;exact⟨_,by omega,⟨i+1,rfl,rfl,rfl,rfl,rfl,rfl,(by omega),(fun j d hj hd=>by
     rcases Nat.lt_or_ge j i with z|z
     ·exact hno j d z hd
     ·obtain rfl:j=i:=by omega
      rw[hc]at hd;obtain rfl:=Option.some.inj hd;exact h17),rfl⟩⟩
 ·refine W.exit ?_;refine U32 ?_;refine U7 ?_;refine U9 ?_;exact⟨congrArg Value.bool (fv1 hno (by omega)).symm,rfl⟩
theorem uu0 (R:Rn) (Bs:Nat) (w0:World) (hM:S4 w0 Bs R) (hm:R.cl.length <=1000) (r:Nat->Bool) (hrd:∀(i:Nat) (c:CB),R.cl[i]? =some c->c.wt=true->xd0 w0 c.rf (r i)):C prog 77 #[.p R.rb] w0 fun v w=>∃a cp,v= .slice a (rdl R.cl r R.cl.length).length cp/\Own w w0.heap.size 123 1 a (rdl R.cl r R.cl.length).length cp ((rdl R.cl r R.cl.length).map (Ll0 R.cl))/\Below w0.heap.size w0 w:=by
 refine C.enter (n:=39) func77 rfl rfl ?_;refine U1 ?_;intro hb;refine U202 ?_;refine U18 ?_;refine U6 ?_;refine U172 ?_;refine L.va (A0 rfl underlying171 rfl ((hM.j0 hb).run.q0 0 (v:=.slice R.ca R.cl.length R.cc) rfl)) ?_;refine L.va (u7 rfl underlying171 rfl) ?_;refine U48 ?_;refine W.loop (fun k e w=>∃(i:Nat),∃(a:Option Addr),∃(q:Nat),∃(cp:Nat),k=R.cl.length-i/\e 0= .p R.rb/\e 2= .slice none 0 0/\e 3= .slice a q cp/\e 9= .slice R.ca R.cl.length (R.cc)/\e 10= .i (R.cl.length:Nat)/\e 11= .i (i:Int)/\i <=R.cl.length/\q=(rdl R.cl r i).length/\Own w w0.heap.size 123 1 a q cp ((rdl R.cl r i).map (Ll0 R.cl))/\Below w0.heap.size w0 w) _ ⟨0,none,0,0,rfl,rfl,rfl,rfl,rfl,rfl,rfl,Nat.zero_le _,rfl,Own.nil _ _ _ _,hb⟩ ?_;rintro k e w ⟨i,a,q,cp,hk,s0,s2,s3,s9,s10,s11,hi,hq,hO,hb⟩;rw[V0 s0,V0 s2,V0 s3,V0 s9,V0 s10,V0 s11];clear s0 s2 s3 s9 s10 s11;refine U24 ?_;refine W.K6 rfl (fun h12=>?_) (fun h12=>?_)
 ·have M1:i<R.cl.length:=by omega
  obtain⟨c,hc⟩:∃c,R.cl[i]? =some c:=⟨_,List.getElem?_eq_getElem M1⟩
  obtain⟨cb,rc,sp,rf,df,pk,wt,st⟩:=c;refine U40 ?_;refine L.va (p9 (i:=i) rfl rfl underlying171 zm0 hM.cls.sl M1) ?_;refine L.va (A0 (v:=.p cb) rfl underlying123 rfl (Lk0 (hM.j0 hb) hc)) ?_;refine U15 ?_;refine W.seq ?_;cases wt with
  |false=>
   refine W.region rfl ?_;refine U59 ?_;refine L.va (A0 rfl underlying4 rfl (((hM.j0 hb).blk i _ hc).q0 9 (v:=.bool false) rfl)) ?_;refine U205 ?_;refine U25 ?_;refine U25 ?_;refine U25 ?_;refine U295 ?_;have hrl:=Lm0 (r:=r) hc rfl;show W _ _ _ _ _ _;refine W.r6 rfl ?_;refine W.skip ?_;refine U115 ?_;exact U399
  |true=>
   rcases hrd i _ hc rfl with⟨h1,h2⟩|⟨f,fn,caps,h1,hf,hbd,hnm,zn0⟩
   all_goals dsimp only at h1
   all_goals subst h1
   ·refine W.region rfl ?_;refine U425 ?_;refine U88 ?_;refine U269 ?_;refine L.va (A0 rfl underlying22 rfl (((hM.j0 hb).blk i _ hc).q0 6 (v:=.nilFunc) rfl)) ?_;refine L.on rfl ?_;refine L.va (bn0 (v:=.nilFunc) (b:=true) rfl (.inl ⟨rfl,rfl⟩) rfl underlying22 ⟨_,_,_,rfl⟩) ?_;refine L.on rfl ?_;refine U280 ?_;refine L.off rfl ?_;refine L.on rfl ?_;refine L.va (r7 rfl) ?_;refine U262 ?_;have hrl:=Fa0 (r:=r) hc h2;show W _ _ _ _ _ _;refine W.w7 rfl ?_;refine U314 ?_;refine U467 ?_;intro w b35 F35 hb;have hO:=hO.j0 F35.below;have Yh0:=F35.blk;have hOl:=Co0 (cl:=R.cl) (r:=r) i;refine L.bo0 (B:=w0.heap.size) (m:=1) rfl rfl underlying171 Kr0 rfl (by decide) hO (fun h=>by cases h) (news:=[.p cb]) rfl (fun ad had j u hj=>by
     cases had;rw[Addr.add_lit]
     match j,hj with
     |0,hj=>cases hj;exact Yh0.q0 0 rfl) (fun u hu=>by simp only[List.mem_cons,List.not_mem_nil,or_false]at hu;subst hu;rfl) (by omega) (by omega) hb.size (fun a2 cp2 w2 hO2 hg2 B1 _=>?_)
    have hb:=hb.trans B1
    rename World=>w
    refine L.va (oa0 rfl) ?_;refine U121 ?_;exact U367
   ·refine W.region rfl ?_;refine U425 ?_;refine U88 ?_;refine U269 ?_;refine U402 ?_;refine L.va (bn0 (v:=.func (.func f) #[] caps) (b:=false) rfl (.inr ⟨_,_,_,rfl,rfl⟩) rfl underlying22 ⟨_,_,_,rfl⟩) ?_;refine L.on rfl ?_;refine U88 ?_;refine U269 ?_;refine U402 ?_;refine L.call (gv0 rfl hf hbd hnm) (zn0 w hb) ?_;rintro _ w ⟨rfl,I2⟩;have hb:=G0 hb I2;have hO:=hO.j0 I2;refine L.on rfl ?_;refine L.va (P6 rfl) ?_;refine L.va (r7 rfl) ?_;refine U2 ?_;refine W.cond rfl (fun h32=>?_) (fun h32=>?_)
    ·have hrl:=Fa0 (r:=r) hc h32;refine U314 ?_;refine U467 ?_;intro w b35 F35 hb;have hO:=hO.j0 F35.below;have Yh0:=F35.blk;have hOl:=Co0 (cl:=R.cl) (r:=r) i;refine L.bo0 (B:=w0.heap.size) (m:=1) rfl rfl underlying171 Kr0 rfl (by decide) hO (fun h=>by cases h) (news:=[.p cb]) rfl (fun ad had j u hj=>by
      cases had;rw[Addr.add_lit]
      match j,hj with
      |0,hj=>cases hj;exact Yh0.q0 0 rfl) (fun u hu=>by simp only[List.mem_cons,List.not_mem_nil,or_false]at hu;subst hu;rfl) (by omega) (by omega) hb.size (fun a2 cp2 w2 hO2 hg2 B1 _=>?_)
     have hb:=hb.trans B1
     rename World=>w
     refine L.va (oa0 rfl) ?_;refine U121 ?_;exact U367
    ·have hrl:=Lm0 (r:=r) hc h32;refine W.skip ?_;refine U115 ?_;exact U399
 ·refine W.exit ?_;refine U32 ?_;refine L.va (bu0 rfl) ?_;refine U18 ?_;refine U9 ?_;obtain rfl:i=R.cl.length:=by omega
  subst hq;exact⟨a,cp,rfl,hO,hb⟩
end
end Go.Vy.Sc
end
section
namespace Go.Vy
open Go Go.Conc Go.Yc Go.RowKit
open Go.Vc Go.Wg
def YS (P:Program) (main:Bool) (l:go0) (K:q6->Prop):Nat->Nat->Goroutine->Prop:=fun m _ g=>∃s,K s/\Yc.Way P main l s m g
def okS (l:go0) (e:Event):Prop:=∃p∈l,e=⟨.cell p.1,false,false⟩
theorem xe0 {P:Program} {main:Bool} {l:go0} {K:q6->Prop}:HF P main (okS l) (YS P main l K) :=
 ⟨fun m d g g' es h1 h2 h3 h4 ⟨s,hk,hw⟩=>⟨s,hk,.inr ⟨(by
  rcases hw.status with⟨_,h⟩|⟨h,_⟩
  ·exact h
  ·rw[h2]at h;cases h),h1,g',es,h3,fun w _=>h4 w,hw⟩⟩⟩
def Sits (n:Nat) (b:Frame) (cs:List Frame) (e:Env) (dst:Option Nat) (todo:List Item) (me:Goroutine):Prop:=∀v,∃a,Rep n a (H3 e dst v)/\Go.Conc.served me v=G (b.at a todo) cs
theorem Sits.go {Z:Goroutine->World->Prop} {n:Nat} {b:Frame} {cs:List Frame} {e:Env} {dst:Option Nat} {todo:List Item} {me:Goroutine} (h:Sits n b cs e dst todo me) {v:Value} {w:World} (hz:ZA Z n b cs (H3 e dst v) todo w):Z (Go.Conc.served me v) w:=by
 obtain⟨a,ha,he⟩:=h v;rw[he];exact hz a ha
theorem lf0 {b:Frame} {a:Act} {k:List Item} {cs:List Frame} {ops:Array Oper} {i:Nat} {rest:List Nat} {o:Oper} (ho:ops[i]? =some o) (v:Value):Go.Conc.served (G (b.at a (.inRegion ops (i::rest)::k)) cs) v=G (b.at (a.put o.dst v) (.inRegion ops rest::k)) cs:=by
 have:(b.at a (.inRegion ops (i::rest)::k)).finish v=b.at (a.put o.dst v) (.inRegion ops rest::k):=by rw[Frame.finish_at,ho];rfl
 show({frame:=(b.at a (.inRegion ops (i::rest)::k)).finish v,callers:=cs,status:=.running,dying:=none}:Goroutine)=_;rw[this];rfl
section
variable {P:Program}{main:Bool}{st:go0}{K:q6->Prop}{ft n:Nat}{b:Frame}{cs:List Frame}{d:Nat}{e:Env}{k:List Item}{ops:Array Oper}{i:Nat}{l:List Oper}{dst:Option Nat}{ty:TypeId}{ps:String}{af:Array Edge}{T E:TypeId}{x y:Operand}
theorem M0.stay {p:Addr} {v:Value} {u:TypeDesc} (hk:b.kind≠.early) (hd:N5 n dst=true) (hp:(p,v)∈st) (hx:ev e x= .pointer (some p)) (hT:P.underlying T=some u) (hu:az0 u=true)
  (h:M0 (YS P main st K) ft n b cs [] d (H3 e dst v) ops (i+1) l k):M0 (YS P main st K) (ft+1) n b cs [] d e ops i (⟨dst,.load T x,ty,ps,af,none⟩::l) k:=by
 intro hl a ha;obtain⟨ho,y7⟩:=v5 hl;obtain⟨s,hs,hw⟩:=h y7 _ (ha.put hd v);have h0:0<ft:=by
  rcases hw.status with⟨_,h⟩|⟨h,_⟩
  ·exact h
  ·cases h
 refine⟨s,hs,.inr ⟨h0,rfl,_,seen P b.fn #[⟨.cell p,false,false⟩],fun ev' he=>⟨(p,v),hp,?_⟩,fun w N1=>?_,hw⟩⟩
 ·have:=mem_seen he;simpa using this
 ·have hc:=N1 (p,v) hp;show stepG P main (G (b.at a (.inRegion ops (i::List.range' (i+1) l.length)::k)) cs) w=_;rw[stepG_value ho (by rw[ha.yielded];rfl) hk (by rw[ha.eval];exact Go.Vc.A0 hx hT hu hc),listed];have he:∀es,(isAgg T).events P w es=es:=fun es=>by
   cases u <;> simp[isAgg,go_sem,run_underlying hT]
  have hq:(execOp a.eval ⟨dst,.load T x,ty,ps,af,none⟩).events P w #[]=#[⟨.cell p,false,false⟩]:=by
   rw[ha.eval];simp[execOp,Instr.loadAt,hx,Instr.sureAddr,loadVar,Go.Vc.bm0 hT,hu,hc,he]
  rw[hq]
theorem M0.O1 {c:Nat} {z:Value} {dd:ChanDir} (hk:b.kind≠.early) (hT:P.underlying T=some (.chan dd E)) (hz:(P.info? E).bind (·.zero)=some z) (hx:ev e x= .chan (some c))
  (hK:∀me,Sits n b cs e dst (.inRegion ops (List.range' (i+1) l.length)::k) me->K ⟨c,z,me⟩) (hd:N5 n dst=true):M0 (YS P main st K) (ft+1) n b cs [] d e ops i (⟨dst,.recv T x false,ty,ps,af,none⟩::l) k:=by
 intro hl a ha;obtain⟨ho,y7⟩:=v5 hl;refine⟨⟨c,z,G (b.at a (.inRegion ops (i::List.range' (i+1) l.length)::k)) cs⟩,hK _ fun v=>⟨a.put dst v,⟨(ha.put hd v).size,(ha.put hd v).defers,(ha.put hd v).get⟩,lf0 ho v⟩,.inl ⟨rfl,rfl,rfl,rfl,fun w=>?_⟩⟩;have hr:(execOp a.eval ⟨dst,.recv T x false,ty,ps,af,none⟩).run P w= .ok (.comm #[rcase c z] true (.recv false)) w:=by
  rw[ha.eval];obtain⟨inf,hi,hz'⟩:=Option.bind_eq_some_iff.1 hz;simp[execOp,hx,run_underlying hT,zeroValue,typeInfo,hi,hz',rcase,go_sem]
 show stepG P main (G (b.at a (.inRegion ops (i::List.range' (i+1) l.length)::k)) cs) w=_;have hq:(execOp a.eval ⟨dst,.recv T x false,ty,ps,af,none⟩).events P w #[]=#[]:=by
  rw[ha.eval];obtain⟨inf,hi,hz'⟩:=Option.bind_eq_some_iff.1 hz;simp[execOp,hx,run_underlying hT,zeroValue,typeInfo,hi,hz',go_sem]
 rw[stepG_comm ho (by rw[ha.yielded];rfl) hk hr,listed,hq,seen_none]
theorem uv0 {c:Nat} {v:Value} {a:Act} {rest:List Nat} (hk:b.kind≠.early) (ho:ops[i]? =some ⟨dst,.send x y,ty,ps,af,none⟩) (hx:a.eval x= .chan (some c)) (hy:a.eval y=v) (w:World) :
  stepG P main (G (b.at a (.inRegion ops (i::rest)::k)) cs) w= .comm (G (b.at a (.inRegion ops (i::rest)::k)) cs) #[scase c v (.tuple #[])] true .send w #[]:=by
 rw[stepG_comm (cases:=#[scase c v (.tuple #[])]) (blocking:=true) (shape:=.send) (w':=w) ho rfl hk (by simp[execOp,hx,hy,scase]),listed];have:(execOp a.eval ⟨dst,.send x y,ty,ps,af,none⟩).events P w #[]=#[]:=rfl;rw[this,seen_none]
theorem Ln0 {f:FuncId} {asx:Array Operand} {ats:Array TypeId} {a:Act} {rest:List Nat} (hk:b.kind≠.early) (ho:ops[i]? =some ⟨dst,.go {callee:=.value (.func f),args:=asx,argTypes:=ats},ty,ps,af,none⟩) (w:World) :
  stepG P main (G (b.at a (.inRegion ops (i::rest)::k)) cs) w= .spawn (G (b.at (a.put dst undef) (.inRegion ops rest::k)) cs) (born P (dcall f (asx.map a.eval))) w #[]:=by
 have ef:a.eval (.func f)= .func (.func f) #[] #[]:=rfl;have hr:(execOp a.eval ⟨dst,.go {callee:=.value (.func f),args:=asx,argTypes:=ats},ty,ps,af,none⟩).run P w= .ok (.spawn (dcall f (asx.map a.eval))) w:=by
  unfold execOp;simp[resolve,Deferred.ofValue,ef,dcall]
 have he:(execOp a.eval ⟨dst,.go {callee:=.value (.func f),args:=asx,argTypes:=ats},ty,ps,af,none⟩).events P w #[]=#[]:=by
  unfold execOp;simp[resolve,Deferred.ofValue,ef]
 rw[stepG_spawn ho rfl hk hr rfl,listed,he,seen_none]
end
section
variable {P:Program}{main:Bool}{b c:Frame}{a:Act}{k todo:List Item}{cs:List Frame}{w:World}{ops:Array Oper}{i:Nat}{rest:List Nat}{f:FuncId}{fn:Func}{args caps:Array Value}{ds:List Deferred}
theorem dg0 {md:FrameMode} {body:Code} (hmd:md≠.run) (hd:a.defers={target:=.fn (.func f) caps,args:=args} :: ds) (hf:P.funcs[f]? =some fn) (V3:(fn.name== "runtime.NumGoroutine")=false) (hb:fn.body=some body) :
  stepG P main (G {b.at a todo with mode:=md} cs) w= .go (G ((baseD f).at {tmps:=(args++caps)++Array.replicate (fn.ntmps-(args++caps).size) undef,defers:=[]} [.code body]) ({b.at ⟨a.tmps,ds⟩ todo with mode:=md} :: cs)) w #[]:=by
 have h1:¬fn.name= "runtime.NumGoroutine":=by simpa using V3
 rw[<- enter_atD (args++caps) hf hb];cases md with
 |run=>exact absurd rfl hmd
 |returning=>simp[G,stepG,unwind,callDeferred,Frame.at,hd,invoke,callFunc,hf,h1,hb,GStep.after,seen_none]
 |panicking ch=>simp[G,stepG,unwind,callDeferred,Frame.at,hd,invoke,callFunc,hf,h1,hb,GStep.after,seen_none]
theorem mk0 {ρ:Operand->Value} {dst:Option Nat} {ty:TypeId} {ps:String} {af:Array Edge}:((execOp ρ ⟨dst,.call {callee:=.builtin .recover,args:=#[],argTypes:=#[]},ty,ps,af,none⟩).run P w= .ok .recover w)/\(execOp ρ ⟨dst,.call {callee:=.builtin .recover,args:=#[],argTypes:=#[]},ty,ps,af,none⟩).events P w #[]=#[]:=by
 constructor <;> simp[execOp,resolve,invoke,builtin]
theorem mw0 {dst:Option Nat} {ty:TypeId} {ps:String} {af:Array Edge} (ho:ops[i]? =some ⟨dst,.call {callee:=.builtin .recover,args:=#[],argTypes:=#[]},ty,ps,af,none⟩) (hk:b.kind= .deferred) (hr:b.roundOf=none) (hc:c.mode= .returning) :
  stepG P main (G (b.at a (.inRegion ops (i::rest)::k)) (c::cs)) w= .go (G (b.at (a.put dst .nilIface) (.inRegion ops rest::k)) (c::cs)) w #[]:=by
 have ck0:(b.at a (.inRegion ops (i::rest)::k)).finish .nilIface=b.at (a.put dst .nilIface) (.inRegion ops rest::k):=by rw[Frame.finish_at,ho];rfl
 rw[stepG_oper ho rfl,<- ck0];simp[stepG.apply,mk0,G,Frame.at,hk,tryRecover,hc,GStep.after,seen_none]
theorem lg0 {dst:Option Nat} {ty:TypeId} {ps:String} {af:Array Edge} {v:Value} {j4:List PanicEntry} (ho:ops[i]? =some ⟨dst,.call {callee:=.builtin .recover,args:=#[],argTypes:=#[]},ty,ps,af,none⟩) (hk:b.kind= .deferred) (hr:b.roundOf=none) (hc:c.mode= .panicking ({v,recovered:=false} :: j4)) :
  stepG P main (G (b.at a (.inRegion ops (i::rest)::k)) (c::cs)) w= .go (G (b.at (a.put dst v) (.inRegion ops rest::k)) ({c with mode:=.panicking ({v,recovered:=true} :: j4)} :: cs)) w #[]:=by
 have ck0:(b.at a (.inRegion ops (i::rest)::k)).finish v=b.at (a.put dst v) (.inRegion ops rest::k):=by rw[Frame.finish_at,ho];rfl
 rw[stepG_oper ho rfl,<- ck0];simp[stepG.apply,mk0,G,Frame.at,hk,tryRecover,hc,GStep.after,seen_none]
theorem lh0 {v v':Value} {j4:List PanicEntry} (hn:b.kind= .deferred) (hd:a.defers=[]) (hf:P.funcs[b.fn]? =some fn) (hr:(results fn a.tmps).run P w= .ok v w) (he:(results fn a.tmps).events P w #[]=#[])
  (hc:c.mode= .panicking ({v:=v',recovered:=true} :: j4)) (ho:j4.dropWhile (!·.goexit)=[]) :
  stepG P main (G {b.at a todo with mode:=.returning} (c::cs)) w= .go (G {c with mode:=.returning} cs) w #[]:=by
 simp[G,stepG,unwind,doReturn,Frame.at,hn,hd,hf,hr,he,hc,ho,seen,GStep.after]
theorem zo0 {dst:Option Nat} {ty:TypeId} {ps:String} {af:Array Edge} {x:Operand} (ho:ops[i]? =some ⟨dst,.defer {callee:=.value x,args:=#[],argTypes:=#[]},ty,ps,af,none⟩) (hk:b.kind≠.early) (hx:a.eval x= .func (.func f) #[] caps) :
  stepG P main (G (b.at a (.inRegion ops (i::rest)::k)) cs) w= .go (G (b.at (Act.put ⟨a.tmps,{target:=.fn (.func f) caps,args:=#[]} :: a.defers⟩ dst undef) (.inRegion ops rest::k)) cs) w #[]:=by
 have hr:(execOp a.eval ⟨dst,.defer {callee:=.value x,args:=#[],argTypes:=#[]},ty,ps,af,none⟩).run P w= .ok (.defer {target:=.fn (.func f) caps,args:=#[]}) w:=by
  simp[execOp,resolve,Deferred.ofValue,hx]
 have he:(execOp a.eval ⟨dst,.defer {callee:=.value x,args:=#[],argTypes:=#[]},ty,ps,af,none⟩).events P w #[]=#[]:=by
  simp[execOp,resolve,Deferred.ofValue,hx]
 have ck0:(b.at ⟨a.tmps,{target:=.fn (.func f) caps,args:=#[]} :: a.defers⟩ (.inRegion ops (i::rest)::k)).finish undef=b.at (Act.put ⟨a.tmps,{target:=.fn (.func f) caps,args:=#[]} :: a.defers⟩ dst undef) (.inRegion ops rest::k):=by rw[Frame.finish_at,ho];rfl
 have hk':(b.kind==CallKind.early)=false:=by simpa using hk
 rw[stepG_oper ho rfl,<- ck0];simp[stepG.apply,hr,he,G,Frame.at,hk',GStep.after,seen_none]
def V8 (P:Program):Frame:={fn:=P.funcs.size,tmps:=#[],todo:=[],defers:=[],mode:=.panicking [goexitEntry],kind:=.normal,roundOf:=none}
theorem Ha0 {body:Code} (hf:P.funcs[f]? =some fn) (V3:(fn.name== "runtime.NumGoroutine")=false) (hb:fn.body=some body) :
  stepG P main (born P (dcall f args)) w= .go (G ((baseD f).at {tmps:=args++Array.replicate (fn.ntmps-args.size) undef,defers:=[]} [.code body]) [V8 P]) w #[]:=by
 have h1:¬fn.name= "runtime.NumGoroutine":=by simpa using V3
 rw[<- enter_atD args hf hb];simp[born,G,stepG,unwind,callDeferred,dcall,invoke,callFunc,hf,h1,hb,GStep.after,seen_none,V8];exact⟨rfl,rfl,rfl,rfl⟩
theorem Hb0 (hn:b.kind= .deferred) (hd:a.defers=[]) (hf:P.funcs[b.fn]? =some fn) {v:Value} (hr:(results fn a.tmps).run P w= .ok v w) (he:(results fn a.tmps).events P w #[]=#[]) :
  stepG P main (G {b.at a todo with mode:=.returning} [V8 P]) w= .go (G (V8 P) []) w #[]:=by
 simp[G,stepG,unwind,doReturn,Frame.at,hn,hd,hf,hr,he,seen,GStep.after,V8,goexitEntry]
theorem Hc0:stepG P main (G (V8 P) []) w= .go {frame:=V8 P,callers:=[],status:=.finished,dying:=none} w #[]:=by
 simp[G,stepG,unwind,V8,goexitEntry,Frame.catches]
end
section
variable {P:Program}[Ctx P]{Z:Goroutine->World->Prop}{Q:Exit->Act->World->Prop}{ops:Array Oper}{b:Frame}{k:List Item}{cs:List Frame}{n:Nat}{e:Env}{w:World}
theorem ZA.w7 [Go.Vc.T3] (hZ:Ctx.Zs P Z) {c:Operand} {x y:Code} (hc:ev e c= .bool true) (h:ZA Z n b cs e (.code x::k) w):ZA Z n b cs e (.code (.cond c x y)::k) w:=ZA.cond hZ (t:=true) hc h
theorem ZA.r6 [Go.Vc.T3] (hZ:Ctx.Zs P Z) {c:Operand} {x y:Code} (hc:ev e c= .bool false) (h:ZA Z n b cs e (.code y::k) w):ZA Z n b cs e (.code (.cond c x y)::k) w:=ZA.cond hZ (t:=false) hc h
theorem ZA.W [Go.Vc.T3] (hZ:Ctx.Zs P Z) (hb:b.kind≠.early) {c:Code} (h:Vy.W P n c (cx0 (fun e' w'=>ZA Z n b cs e' k w') fun _ _ _=>False) e w):ZA Z n b cs e (.code c::k) w:=ZA.piece hZ hb h fun _ _ h=>h
theorem ZA.panics [Go.Vc.T3] (hZ:Ctx.Zs P Z) (hb:b.kind≠.early) {c:Code} (h:Vy.W P n c (fun x e' w'=>∃ch,x= .panic ch/\∀a todo,Rep n a e'->Z (G {b.at a todo with mode:=.panicking ch} cs) w') e w):ZA Z n b cs e (.code c::k) w:=by
 intro a ha;refine h a ha Z hZ b k cs hb fun x a' w' hx=>?_;obtain⟨e',r,ch,rfl,hq⟩:=hx;exact fun todo=>hq a' todo r
theorem L.Lo0 [Go.Vc.T3] {x:Operand} {ty:TypeId} {ps:String} {af:Array Edge} {rest:List Oper} {Q:Exit->Env->World->Prop} {t:TypeId} {v0:Value} (hx:ev e x= .iface t v0) (k:Q (.panic [{v:=.iface t v0,recovered:=false}]) e w):L P n ops Q (⟨none,.panic x,ty,ps,af,none⟩::rest) e w:=by
 refine L.Wx0 rfl ⟨rfl,rfl,fun τ d ρ x' hs=>⟨Evo.refl _,x',#[],?_,hs,fun e he=>by simp at he⟩⟩ k;rw[Sem.runT_eq];have h1:(execOp (ev e) ⟨none,.panic x,ty,ps,af,none⟩).run P x'= .halt (.panic (.iface t v0)) x':=by simp[execOp,Instr.panic,hx]
 have h2:(execOp (ev e) ⟨none,.panic x,ty,ps,af,none⟩).events P x' #[]=#[]:=by simp[execOp,Instr.panic,hx]
 rw[h1,h2];rfl
end
section
variable {P:Program}{Z:Goroutine->World->Prop}{b:Frame}{cs:List Frame}{n:Nat}{e:Env}{w:World}
theorem ZA.leaves {fn:Func} {f:FuncId} (hb:b=base f) (hf:P.funcs[f]? =some fn) (hr:fn.results=#[]) (h:∀fr,fr.fn=f->Leaves P fr w (.returned (.tuple #[]))->Z (G fr cs) w):ZR Z n b cs e w:=by
 intro todo a ha;subst hb;refine h _ rfl ⟨rfl,ha.defers,rfl,fn,hf,R7 (fun w=>results_none hr _ P w) (fun w=>events_results_none hr _ _)⟩
end
section
variable {P:Program}[Ctx P]{Z:Goroutine->World->Prop}{ops:Array Oper}{b:Frame}{k:List Item}{cs:List Frame}{n:Nat}{e:Env}{w:World}
theorem ZA.call [Go.Vc.T3] (hZ:Ctx.Zs P Z) (hb:b.kind≠.early) {i:Nat} {rest:List Nat} {o:Oper} {f:FuncId} {args:Array Value} (ho:ops[i]? =some o) (hg:o.guard=none) (hr:Does P (execOp (ev e) o) w (.enter f args) w)
  (h:∀a,Rep n a e->Z (G (Frame.enter P f args .normal) (b.at a (.inRegion ops (i::rest)::k)::cs)) w):ZA Z n b cs e (.inRegion ops (i::rest)::k) w:=by
 intro a ha;have hw:Region.wanted o (yielded ops a.tmps)=true:=by
  obtain⟨d,op,ty,ps,af,g⟩:=o;cases hg;rfl
 refine(Ctx.cl Z hZ).own _ _ rfl fun τ d=>?_;refine⟨_,O2 w τ d,w.drawn,⟨rfl,fun ρ x hx=>?_⟩,h a ha⟩;obtain⟨h1,x',es,h2,h3,h4⟩:=hr.go τ d ρ x hx;rw[Sem.runT_eq]at h2;obtain⟨h5,h6⟩:=Prod.mk.inj h2;refine⟨h1,x',seen P b.fn es,?_,h3,fun e he=>h4 e (mem_seen he)⟩;have h5':(execOp a.eval o).run P x= .ok (.enter f args) x':=by rw[ha.eval];exact h5
 rw[stepG_enter ho hw hb h5',listed,ha.eval,h6]
theorem ZA.home [Go.Vc.T3] {i:Nat} {rest:List Nat} {o:Oper} (ho:ops[i]? =some o) (hd:N5 n o.dst=true) {v:Value} {w':World} {a:Act} (ha:Rep n a e) (h:ZA Z n b cs (H3 e o.dst v) (.inRegion ops rest::k) w'):Z (G ((b.at a (.inRegion ops (i::rest)::k)).finish v) cs) w':=by
 have ck0:(b.at a (.inRegion ops (i::rest)::k)).finish v=b.at (a.put o.dst v) (.inRegion ops rest::k):=by rw[Frame.finish_at,ho];rfl
 rw[ck0];exact h _ (ha.put hd v)
end
section
variable {P:Program}{ops:Array Oper}{b:Frame}{k:List Item}{cs:List Frame}{n:Nat}{e:Env}
theorem ZA.back [Go.Vc.T3] {Z':Goroutine->World->Prop} {main:Bool} (hZ':Cl P main Z') {i:Nat} {rest:List Nat} {o:Oper} (ho:ops[i]? =some o) (hd:N5 n o.dst=true) {v:Value} {w':World} {fr:Frame} {a:Act} (ha:Rep n a e) (hl:Leaves P fr w' (.returned v))
  (h:ZA Z' n b cs (H3 e o.dst v) (.inRegion ops rest::k) w'):Z' (G fr (b.at a (.inRegion ops (i::rest)::k)::cs)) w':=by
 refine br0 hZ' hl ?_;have ck0:(b.at a (.inRegion ops (i::rest)::k)).finish v=b.at (a.put o.dst v) (.inRegion ops rest::k):=by rw[Frame.finish_at,ho];rfl
 rw[ck0];exact h _ (ha.put hd v)
end
section
variable {P:Program}[Ctx P]
end
section
variable {P:Program}[Ctx P]{Z:Goroutine->World->Prop}{ops:Array Oper}{b c:Frame}{k:List Item}{cs:List Frame}{n:Nat}{e:Env}{w:World}{i:Nat}{rest:List Nat}{dst:Option Nat}{ty:TypeId}{ps:String}{af:Array Edge}
theorem ZA.Hd0 [Go.Vc.T3] (hZ:Ctx.Zs P Z) (ho:ops[i]? =some ⟨dst,.call {callee:=.builtin .recover,args:=#[],argTypes:=#[]},ty,ps,af,none⟩) (hd:N5 n dst=true) (hk:b.kind= .deferred) (hr:b.roundOf=none) (hc:c.mode= .returning) (h:ZA Z n b (c::cs) (H3 e dst .nilIface) (.inRegion ops rest::k) w):ZA Z n b (c::cs) e (.inRegion ops (i::rest)::k) w :=
 fun _a ha=>(Ctx.cl Z hZ).ctl rfl rfl (fun _w=>mw0 ho hk hr hc) (h _ (ha.put hd _))
theorem ZA.Cq0 [Go.Vc.T3] (hZ:Ctx.Zs P Z) {v:Value} {j4:List PanicEntry} (ho:ops[i]? =some ⟨dst,.call {callee:=.builtin .recover,args:=#[],argTypes:=#[]},ty,ps,af,none⟩) (hd:N5 n dst=true) (hk:b.kind= .deferred) (hr:b.roundOf=none) (hc:c.mode= .panicking ({v,recovered:=false} :: j4)) (h:ZA Z n b ({c with mode:=.panicking ({v,recovered:=true} :: j4)} :: cs) (H3 e dst v) (.inRegion ops rest::k) w):ZA Z n b (c::cs) e (.inRegion ops (i::rest)::k) w :=
 fun _a ha=>(Ctx.cl Z hZ).ctl rfl rfl (fun _w=>lg0 ho hk hr hc) (h _ (ha.put hd _))
def Vn0 (c c':Frame):Prop:=(c.mode= .returning/\c'=c)\/∃v j4,j4.dropWhile (!·.goexit)=[]/\c'={c with mode:=.panicking ({v,recovered:=true} :: j4)}
theorem ZA.recover [Go.Vc.T3] (hZ:Ctx.Zs P Z) (ho:ops[i]? =some ⟨dst,.call {callee:=.builtin .recover,args:=#[],argTypes:=#[]},ty,ps,af,none⟩) (hd:N5 n dst=true) (hk:b.kind= .deferred) (hr:b.roundOf=none) (hc:c.mode= .returning\/∃v j4,c.mode= .panicking ({v,recovered:=false} :: j4)/\j4.dropWhile (!·.goexit)=[])
  (h:∀c' v,Vn0 c c'->ZA Z n b (c'::cs) (H3 e dst v) (.inRegion ops rest::k) w):ZA Z n b (c::cs) e (.inRegion ops (i::rest)::k) w:=by
 rcases hc with hc|⟨v,j4,hc,ho'⟩
 ·exact ZA.Hd0 hZ ho hd hk hr hc (h c _ (.inl ⟨hc,rfl⟩))
 ·exact ZA.Cq0 hZ ho hd hk hr hc (h _ _ (.inr ⟨v,j4,ho',rfl⟩))
theorem ZA.region [Go.Vc.T3] (hZ:Ctx.Zs P Z) {id:Nat} (h:ZA Z n b cs e (.inRegion ops (List.range ops.size)::k) w):ZA Z n b cs e (.code (.region id ops false)::k) w:=ZA.c hZ (fun _ _=>stepG_region) h
def ZD (Z:Goroutine->World->Prop) (n:Nat) (b:Frame) (cs:List Frame) (ds:List Deferred) (e:Env) (todo:List Item) (w:World):Prop:=∀a,iz0 n a e ds->Z (G (b.at a todo) cs) w
variable {ds:List Deferred}
theorem ZA.zd (h:ZD Z n b cs [] e k w):ZA Z n b cs e k w:=fun a ha=>h a (fx1 ha) where fx1 {n:Nat} {a:Act} {e:Env} (h:Rep n a e):iz0 n a e []:=⟨h.size,h.defers,h.get⟩
theorem ZD.ctl (hZ:Ctx.Zs P Z) {todo mi0:List Item} (hs:∀a w,stepG P (Ctx.main P) (G (b.at a todo) cs) w= .go (G (b.at a mi0) cs) w #[]) (h:ZD Z n b cs ds e mi0 w):ZD Z n b cs ds e todo w:=fun a ha=>(Ctx.cl Z hZ).ctl rfl rfl (hs a) (h a ha)
theorem ZD.seq (hZ:Ctx.Zs P Z) {x y:Code} (h:ZD Z n b cs ds e (.code x :: .code y::k) w):ZD Z n b cs ds e (.code (.seq x y)::k) w:=ZD.ctl hZ (fun _ _=>stepG_seq) h
theorem ZD.region (hZ:Ctx.Zs P Z) {id:Nat} (h:ZD Z n b cs ds e (.inRegion ops (List.range ops.size)::k) w):ZD Z n b cs ds e (.code (.region id ops false)::k) w:=ZD.ctl hZ (fun _ _=>stepG_region) h
theorem ZD.D4 (hZ:Ctx.Zs P Z) (h:ZD Z n b cs ds e k w):ZD Z n b cs ds e (.inRegion ops []::k) w:=ZD.ctl hZ (fun _ _=>stepG_region_end) h
variable {op:Op}{d:Nat}{v:Value}{w':World}
theorem ZD.va (hZ:Ctx.Zs P Z) (hb:b.kind≠.early) (ho:ops[i]? =some ⟨some d,op,ty,ps,af,none⟩) (hd:N5 n (some d)=true) (hr:Does P (execOp (ev e) ⟨some d,op,ty,ps,af,none⟩) w (.val v) w') (h:ZD Z n b cs ds (upd e d v) (.inRegion ops rest::k) w'):ZD Z n b cs ds e (.inRegion ops (i::rest)::k) w:=by
 intro a ha;refine U451 ?_;refine P9 (r:=.val v) (w':=w') (by rw[ha.eval];exact hr) ?_;exact h _ (ha.put hd v)
theorem ZD.st (hZ:Ctx.Zs P Z) (hb:b.kind≠.early) (ho:ops[i]? =some ⟨none,op,ty,ps,af,none⟩) (hr:Does P (execOp (ev e) ⟨none,op,ty,ps,af,none⟩) w .skip w') (h:ZD Z n b cs ds e (.inRegion ops rest::k) w'):ZD Z n b cs ds e (.inRegion ops (i::rest)::k) w:=by
 intro a ha;refine U451 ?_;refine P9 (r:=.skip) (w':=w') (by rw[ha.eval];exact hr) ?_;exact h _ ha
theorem ZD.defer (hZ:Ctx.Zs P Z) (hb:b.kind≠.early) {f:FuncId} {asx:Array Operand} {ats:Array TypeId} {vs:Array Value} (ho:ops[i]? =some ⟨none,.defer {callee:=.value (.func f),args:=asx,argTypes:=ats},ty,ps,af,none⟩) (hv:asx.map (ev e)=vs) (h:ZD Z n b cs (dcall f vs::ds) e (.inRegion ops rest::k) w):ZD Z n b cs ds e (.inRegion ops (i::rest)::k) w:=by
 intro a ha;refine(Ctx.cl Z hZ).ctl rfl rfl (fun w=>stepG_defer ho rfl hb rfl) ?_;rw[ha.eval,hv,ha.defers];exact h _ ⟨ha.size,rfl,ha.get⟩
theorem ZD.Yi0 (hZ:Ctx.Zs P Z) (hb:b.kind≠.early) {f:FuncId} {caps:Array Value} {x:Operand} (ho:ops[i]? =some ⟨none,.defer {callee:=.value x,args:=#[],argTypes:=#[]},ty,ps,af,none⟩) (hx:ev e x= .func (.func f) #[] caps) (h:ZD Z n b cs ({target:=.fn (.func f) caps,args:=#[]} :: ds) e (.inRegion ops rest::k) w):ZD Z n b cs ds e (.inRegion ops (i::rest)::k) w:=by
 intro a ha;refine(Ctx.cl Z hZ).ctl rfl rfl (fun w=>zo0 ho hb (by rw[ha.eval];exact hx)) ?_;rw[ha.defers];exact h _ ⟨ha.size,rfl,ha.get⟩
theorem ZD.call (hZ:Ctx.Zs P Z) (hb:b.kind≠.early) {f:FuncId} {args:Array Value} (ho:ops[i]? =some ⟨dst,op,ty,ps,af,none⟩) (hr:Does P (execOp (ev e) ⟨dst,op,ty,ps,af,none⟩) w (.enter f args) w)
  (h:∀a,iz0 n a e ds->Z (G (Frame.enter P f args .normal) (b.at a (.inRegion ops (i::rest)::k)::cs)) w):ZD Z n b cs ds e (.inRegion ops (i::rest)::k) w:=by
 intro a ha;refine(Ctx.cl Z hZ).own _ _ rfl fun τ d=>?_;refine⟨_,O2 w τ d,w.drawn,⟨rfl,fun ρ x hx=>?_⟩,h a ha⟩;obtain⟨h1,x',es,h2,h3,h4⟩:=hr.go τ d ρ x hx;rw[Sem.runT_eq]at h2;obtain⟨h5,h6⟩:=Prod.mk.inj h2;refine⟨h1,x',seen P b.fn es,?_,h3,fun e he=>h4 e (mem_seen he)⟩;have h5':(execOp a.eval ⟨dst,op,ty,ps,af,none⟩).run P x= .ok (.enter f args) x':=by rw[ha.eval];exact h5
 rw[stepG_enter ho rfl hb h5',listed,ha.eval,h6]
end
section
variable {P:Program}{Post:Value->World->Prop}{X:Gh}{h:Nat}{H:Hid}
theorem X5:@Ctx.Zs P (X1 P (h==0)) (Fin P Post X h):=⟨fa0 P Post X h,bf0⟩
theorem Fb0:@Ctx.Zs P (X1 P (h==0)) (jy0 P Post X h H):=⟨Qv0 H,fun _g _u hz hH=>bf0 _ _ fun hv=>hz (ka0 hH hv) hH⟩
theorem ke0 (V:Nat->Prop) [DecidablePred V] {g:Goroutine} {U:World} (hf:jy0 P Post X h (v9 V U) g (I3 V U)):Fin P Post X h g U :=
 bf0 _ _ fun hv=>by have:=hf (ok0 hv);rwa [jz0]at this
theorem At.D4 {main:Bool} {ok:Event->Prop} {Y:Nat->Nat->Goroutine->Prop} {ft n d:Nat} {b:Frame} {cs:List Frame} {ds:List Deferred} {e:Env} {k:List Item} {ops:Array Oper} (hY:HF P main ok Y) (h:At Y ft n b cs ds d e k):At Y (ft+1) n b cs ds d e (.inRegion ops []::k):=At.c hY (fun _ _=>stepG_region_end) h
theorem K7 {n:Nat} (args:Array Value) (m:Nat) (hn:args.size+(m-args.size)=n):Rep n {tmps:=args++Array.replicate (m-args.size) undef,defers:=[]} (Vc.ax0 args):=by
 have:=ef0 args m hn;exact⟨this.size,this.defers,this.get⟩
theorem ot0 {n:Nat} {a:Act} {e:Env} (h:Rep n a e):iz0 n a e []:=⟨h.size,h.defers,h.get⟩
variable {n ft:Nat}{b:Frame}{cs:List Frame}{e:Env}{k:List Item}{ops:Array Oper}{i:Nat}{rest:List Nat}{ty:TypeId}{ps:String}{af:Array Edge}{x y:Operand}{v:Value}{w:World}
theorem ZA.more [Go.Vc.T3] [Ctx P] {Z:Goroutine->World->Prop} (hZ:Ctx.Zs P Z) (hb:b.kind≠.early) {l:List Oper} (i:Nat) (hB:Qj0 n l=true) (h:L P n l.toArray (cx0 (fun e' w'=>ZA Z n b cs e' k w') fun _ _ _=>False) (l.drop i) e w):ZA Z n b cs e (.inRegion l.toArray (List.range' i (l.drop i).length)::k) w:=by
 intro a ha;have h1:=h (fun o ho=>List.all_eq_true.1 hB o (List.mem_of_mem_drop ho)) a ha;have h2:=jc0 (l.drop i) i a w (fun j _=>by rw[List.getElem?_drop];simp) h1;have:=id0 (Z:=Z) (b:=b) (k:=k) (cs:=cs) (suf:=[]) hZ hb (fun ch a' w' hx=>by obtain⟨_,_,hx⟩:=hx;exact hx.elim) (fun a' w' hx=>by
  obtain⟨e',r,hq⟩:=hx;exact ZA.D4 hZ hq a' r) _ a w h2
 rwa [List.append_nil]at this
theorem ZA.give {j:Nat} {s:q6} {st:go0} {K:q6->Prop} (hb:b.kind≠.early) (ho:ops[i]? =some ⟨none,.send x y,ty,ps,af,none⟩) (hx:ev e x= .chan (some s.ch)) (hy:ev e y=v) (hj:X.O1 j=some s) (hjh:j≠h) (hdn:X.dn=0) (L2:X.stay h=st)
  (wn0:At (YS P (h==0) st K) ft n b cs [] 0 e (.inRegion ops rest::k)) (L9:∀s',K s'->X.chs s'.ch/\∀i s2,i≠j->X.O1 i=some s2->s2.ch≠s'.ch)
  (hF:∀s',K s'->Fin P Post (X.pass h j (some s')) j (Go.Conc.served s.me v) w):ZA (Fin P Post X h) n b cs e (.inRegion ops (i::rest)::k) w:=by
 intro a ha;have Lp0:a.put none undef=a:=rfl;obtain⟨s',hK,hw⟩:=wn0 a (ot0 ha);refine Fin.give (a₂:=G (b.at a (.inRegion ops (i::rest)::k)) cs) (s:=s) (j:=j) (nh:=ft) (v:=v) (z':=.tuple #[]) rfl hj hjh hdn (uv0 hb ho (by rw[ha.eval];exact hx) (by rw[ha.eval];exact hy)) (some s') (fun s2 e2=>by cases e2;exact L9 s' hK) ?_ (hF s' hK);unfold wp0;rw[lf0 ho,L2];exact hw
theorem ZA.ou0 {j:Nat} {s:q6} {gr:j7} (hb:b.kind≠.early) (ho:ops[i]? =some ⟨none,.send x y,ty,ps,af,none⟩) (hx:ev e x= .chan (some s.ch)) (hy:ev e y=v) (hj:X.O1 j=some s) (hjh:j≠h) (hdn:X.dn=0) (hh:0<h) (V2:X.A4=some gr)
  (wn0:At (YLt P gr) ft n b cs [] 0 e (.inRegion ops rest::k)) (hF:Fin P Post (X.pass h j none) j (Go.Conc.served s.me v) w):ZA (Fin P Post X h) n b cs e (.inRegion ops (i::rest)::k) w:=by
 intro a ha;refine Fin.give (a₂:=G (b.at a (.inRegion ops (i::rest)::k)) cs) (s:=s) (j:=j) (nh:=ft) (v:=v) (z':=.tuple #[]) rfl hj hjh hdn (uv0 hb ho (by rw[ha.eval];exact hx) (by rw[ha.eval];exact hy)) none (fun s2 e2=>by cases e2) ?_ hF;unfold wp0;rw[lf0 ho];exact⟨hh,gr,V2,wn0 a (ot0 ha)⟩
theorem ZA.spawn {f:FuncId} {asx:Array Operand} {ats:Array TypeId} {st:go0} {K:q6->Prop} {vs:Array Value} {gr:j7} (hb:b.kind≠.early) (ho:ops[i]? =some ⟨none,.go {callee:=.value (.func f),args:=asx,argTypes:=ats},ty,ps,af,none⟩) (hvs:asx.map (ev e)=vs) (hdn:X.dn=0) (hp:X.pend=1) (V2:X.A4=some gr) (L2:X.stay 0=st)
  (wn0:At (YS P true st K) ft n b cs [] 0 e (.inRegion ops rest::k)) (L9:∀s',K s'->X.chs s'.ch/\∀i s2,X.O1 i=some s2->s2.ch≠s'.ch)
  (hF:∀s',K s'->Fin P Post (X.hire s') X.n (born P (dcall f vs)) w):ZA (Fin P Post X 0) n b cs e (.inRegion ops (i::rest)::k) w:=by
 intro a ha;have Lp0:a.put none undef=a:=rfl;obtain⟨s',hK,hw⟩:=wn0 a (ot0 ha);refine Fin.spawn (g':=G (b.at (a.put none undef) (.inRegion ops rest::k)) cs) (child:=born P (dcall f vs)) (s:=s') (nh:=ft) (G:=gr) rfl hdn hp V2 (fun w=>?_) (L9 s' hK).1 (L9 s' hK).2 (by rw[L2];exact hw) (hF s' hK);rw[Ln0 hb ho,ha.eval,hvs]
theorem AtR.saved {Y:Nat->Nat->Goroutine->Prop} {main:Bool} {ok:Event->Prop} (hY:HF P main ok Y) {c c':Frame} {fn:Func} {todo:List Item} {d:Nat} (hs:Vn0 c c') (hn:b.kind= .deferred) (hf:P.funcs[b.fn]? =some fn) (hr:fn.results=#[]) (h:Y ft d (G {c with mode:=.returning} cs)):AtR Y (ft+1) n b (c'::cs) [] d e todo:=by
 intro a ha;rcases hs with⟨hc,rfl⟩|⟨v,j4,ho,rfl⟩
 ·have:({c' with mode:=.returning}:Frame)=c':=by rw[<- hc]
  rw[this]at h;exact hY.c rfl rfl (fun w=>stepG_leave_deferred hn ha.defers hf (results_none hr _ P w) (events_results_none hr _ _) hc) h
 ·refine hY.c rfl rfl (fun w=>?_) h;exact lh0 hn ha.defers hf (results_none hr _ P w) (events_results_none hr _ _) rfl ho
end
end Go.Vy
end
section
namespace Go.Vy.Sc
open Go Go.Conc Go.Yc Go.RowKit Go.Proofs Go.Proofs.YtinppmaojmdmhaaGreat Tryz
open Go.Vc Go.Wg
structure ov0 (cs:List Frame) (cb:Nat) (df:Value) (me:Goroutine):Prop where
 yes:∀(C0:Ctx prog) (Z:Goroutine->World->Prop),@Ctx.Zs prog C0 Z->∀(u:World) (K:World->Prop),Gt0 prog C0 df u K->(∀u2 fr,K u2->fr.fn=126->Leaves prog fr u2 (.returned (.tuple #[]))->Z (G fr cs) u2)->Z (Go.Conc.served me (.bool true)) u
 no:∀Z,@Ctx.Zs prog (X1 prog false) Z->∀(u:World) (S:Nat->Prop) (B:Nat) (w0:World) (Bs:Nat) (R:Rn) (i:Nat) (c:CB),Rg S B w0 u Bs R->R.cl[i]? =some c->c.cb=cb->(∀u2 fr ch,Rg S B w0 u2 Bs {R with cl:=R.cl.set i {c with st:=true}}->fr.fn=126->K5 ch->Leaves prog fr u2 (.panicked ch)->Z (G fr cs) u2)->Z (Go.Conc.served me (.bool false)) u
theorem kf0 {f:FuncId} {fn:Func} {n:Nat} {a:Act} {e:Env} {todo:List Item} {ch:List PanicEntry} {w:World} (hf:prog.funcs[f]? =some fn) (ha:Rep n a e):Leaves prog {(base f).at a todo with mode:=.panicking ch} w (.panicked ch) :=
 ⟨rfl,ha.defers,by simp[Frame.catches,Frame.at,base,hf]⟩
theorem fy1:prog.built 268 []=some #[]:=by kernel_rfl
theorem Q6 {l:List CB} {i:Nat} {c c':CB} (h:l[i]? =some c):(l.set i c')[i]? =some c':=by
 have:=(List.getElem?_eq_some_iff.1 h).1;simp[this]
theorem Rj0 {S:Nat->Prop} {B:Nat} {w0 w:World} {Bs:Nat} {R:Rn} {i:Nat} {c1 c2 c3 c4:CB} (h:Rg S B w0 w Bs {R with cl:=(((R.cl.set i c1).set i c2).set i c3).set i c4}):Rg S B w0 w Bs {R with cl:=R.cl.set i c4}:=by
 simpa using h
set_option maxRecDepth 20000 in
theorem step_fin {Post:Value->World->Prop} {X:Gh} {g:Nat} {S:Nat->Prop} {B:Nat} {w0:World} {Bs:Nat} {R:Rn} {w:World} {i:Nat} {c:CB} {s:Stp} {rf df:Value} {cs:List Frame} {z0:Value} {me0:Goroutine}
  (hg:Rg S B w0 w Bs R) (hc:R.cl[i]? =some c) (lb1:c.st=false) (hrf:rf.cells=#[rf]/\rf.oneCell'=true) (hdf:df.cells=#[df]/\df.oneCell'=true)
  (z9:g≠0) (hX0:X.O1 0=some ⟨R.yb,z0,me0⟩) (hdn:X.dn=0) (L2:X.stay g=[(⟨c.cb,2,none⟩,.chan (some c.rc))]) (L9:X.chs c.rc/\∀i s2,i≠0->X.O1 i=some s2->s2.ch≠c.rc)
  (X8:∀w' me,Rg S B w0 w' Bs {R with cl:=R.cl.set i {c with sp:=s,rf:=rf,df:=df,wt:=true}}->ov0 cs c.cb df me->Fin prog Post (X.pass g 0 (some ⟨c.rc,.bool false,me⟩)) 0 (Go.Conc.served me0 (.i (i:Int))) w') :
  Fin prog Post X g (G (Frame.enter prog 126 #[.p c.cb,kb0 s,rf,df] .normal) cs) w:=by
 letI:Ctx prog:=X1 prog (g==0);rw[enter_at _ func126 rfl];refine(?_:ZA (Fin prog Post X g) 63 (base 126) cs (Vc.ax0 #[.p c.cb,kb0 s,rf,df]) [.code (Tryz.f126.body.getD .skip)] w) _ (K7 _ _ rfl);have hZ:Ctx.Zs prog (Fin prog Post X g):=X5;have hb:=E1 126;refine U4 ?_;refine L.box (cs:=#[.i s.kind,.i s.obj,.i s.num]) rfl rfl (fun w b5 F5=>?_);have hg:=hg.j0 F5.below;have C2:=F5.blk;refine U13 ?_;refine U502 ?_;refine U66 ?_;refine U4 ?_;refine U59 ?_;refine L.va (A0 rfl underlying4 rfl ((hg.m.blk i c hc).q0 10 (v:=.bool c.st) rfl)) ?_;refine U3 ?_;refine ZA.r6 hZ (rb lb1) ?_;refine ZA.skip hZ ?_;refine U16 ?_;refine U175 ?_;refine L.va (W2 rfl) ?_;refine L.va (G2 (cs:=[.i s.kind,.i s.obj,.i s.num]) rfl underlying65 rfl xb0 rfl (C2.X6 rfl)) ?_;refine U196 ?_;refine L.va (Z0 rfl) ?_;refine L.va (E0 rfl underlying248 rfl xb0 (by decide)) ?_;refine L.stC (i:=i) (o:=3) (vs:=[.i s.kind,.i s.obj,.i s.num]) hg {c with sp:=s} hc rfl rfl rfl rfl xb0 rfl rfl (by decide) rfl (fun w hg V2=>?_)
 try clear V2
 refine L.va (Z0 rfl) ?_;refine L.va (E0 rfl underlying248 rfl Xp0 (by decide)) ?_;refine L.stC (i:=i) (o:=6) (vs:=[rf]) hg {{c with sp:=s} with rf:=rf} (Q6 hc) rfl rfl rfl (congrArg Array.toList hrf.1) Xp0 rfl (by simp[hrf.2]) (by decide) rfl (fun w hg V2=>?_)
 try clear V2
 refine L.va (Z0 rfl) ?_;refine L.va (E0 rfl underlying248 rfl sz1 (by decide)) ?_;refine L.stC (i:=i) (o:=7) (vs:=[df]) hg {{{c with sp:=s} with rf:=rf} with df:=df} (Q6 (Q6 hc)) rfl rfl rfl (congrArg Array.toList hdf.1) sz1 rfl (by simp[hdf.2]) (by decide) rfl (fun w hg V2=>?_)
 try clear V2
 refine U106 ?_;refine L.stC (i:=i) (o:=9) (vs:=[.bool true]) hg {{{{c with sp:=s} with rf:=rf} with df:=df} with wt:=true} (Q6 (Q6 (Q6 hc))) rfl rfl rfl rfl sz4 rfl rfl (by decide) rfl (fun w hg V2=>?_)
 try clear V2
 refine U13 ?_;refine ZA.mf0 hZ hb 11 (fun w'=>Below w.heap.size w w') (by kernel_rfl) (by kernel_rfl) (by kernel_rfl) (by kernel_rfl) (Below.refl w.heap.size w).drew ?_;refine U57 ?_;refine D.va (fun w' N1=>(E0 rfl underlying248 rfl Ey0 (by decide))) ?_;refine D.va (fun w' N1=>(A0 rfl underlying169 rfl (((hg.m.blk i _ (Q6 (Q6 (Q6 (Q6 hc))))).j0 N1).q0 1 (v:=.p R.rb) rfl))) ?_;refine D.va (fun w' N1=>(Z0 rfl)) ?_;refine U144 ?_;refine U57 ?_;refine D.va (fun w' N1=>(E0 rfl underlying248 rfl sz3 (by decide))) ?_;refine D.va (fun w' N1=>(A0 rfl underlying3 rfl (((hg.m.blk i _ (Q6 (Q6 (Q6 (Q6 hc))))).j0 N1).q0 0 (v:=.i (i:Int)) rfl))) ?_;refine U138 ?_;intro w I2 hg;clear I2;refine ZA.give (i:=11) (rest:=[]) (s:=⟨R.yb,z0,me0⟩) (st:=[(⟨c.cb,2,none⟩,.chan (some c.rc))]) (K:=fun s=>s.ch=c.rc/\s.z= .bool false/\ov0 cs c.cb df s.me) (ft:=60) hb rfl rfl rfl hX0 z9.symm hdn L2 ?_ ?_ ?_
 ·have lc1:(g==0)=false:=by simpa using z9
  rw[lc1];have hY:=xe0 (P:=prog) (main:=false) (l:=[((⟨c.cb,2,none⟩:Addr),Value.chan (some c.rc))]) (K:=fun s=>s.ch=c.rc/\s.z= .bool false/\ov0 cs c.cb df s.me);refine At.D4 hY ?_;refine At.seq hY ?_;refine At.seq hY ?_;refine At.region hY ?_;refine M0.val hY hb rfl (v:=.p c.cb) (L0 rfl) ?_;refine M0.val hY hb rfl (p5 rfl) ?_;refine M0.val hY hb rfl (ol0 rfl underlying248 rfl Uu0 (by decide)) ?_;refine M0.stay (v:=.chan (some c.rc)) hb rfl (by simp) rfl underlying246 rfl ?_;refine M0.O1 (E:=4) (z:=.bool false) hb underlying246 zr4 rfl (fun me hs=>⟨rfl,rfl,⟨?_,?_⟩⟩) rfl
  ·intro C0 Z hZ w K hdo hK;refine hs.go ?_;letI:Ctx prog:=C0;refine ZA.more hZ hb 5 rfl ?_;show L _ _ _ _ _ _ _;refine U218 ?_;refine L.va (ts0 rfl) ?_;refine U66 ?_;rcases hdo with⟨h1,h2⟩|⟨f,caps,⟨h1,fn,hf,hbd,hnm⟩,zn0⟩
   all_goals subst h1
   ·refine ZA.W hZ hb ?_;refine U119 ?_;refine L.va (bx0 (v:=.nilFunc) (b:=false) rfl (.inl ⟨rfl,rfl⟩) rfl underlying1 ⟨_,_,_,rfl⟩) ?_;refine U117 ?_;exact U426
   ·refine ZA.W hZ hb ?_;refine U119 ?_;refine L.va (bx0 (v:=.func (.func f) #[] caps) (b:=true) rfl (.inr ⟨_,_,_,rfl,rfl⟩) rfl underlying1 ⟨_,_,_,rfl⟩) ?_;refine U47 ?_;refine U139 ?_;refine L.va A5 ?_;refine L.call (gv0 rfl hf hbd hnm) zn0 ?_;rintro _ w h2;refine U3 ?_;exact U426
  ·intro Z hZ w S B w0 Bs R i c2 hg hc hcb hK;refine hs.go ?_;letI:Ctx prog:=X1 prog false
   skip
   refine ZA.more hZ hb 5 rfl ?_;show L _ _ _ _ _ _ _;refine U218 ?_;refine L.va (ts0 rfl) ?_;refine U47 ?_;refine U4 ?_;refine U59 ?_;refine L.stC (i:=i) (o:=10) (vs:=[.bool true]) hg {c2 with st:=true} hc rfl (by rw[hcb];rfl) rfl rfl sz4 rfl rfl (by decide) rfl (fun w hg V2=>?_)
   try clear V2
   refine U3 ?_;refine ZA.panics hZ hb ?_;refine W.region rfl ?_;refine L.va (R2 (parts:=[]) rfl fy1) ?_;refine L.va (al0 (v:=.agg #[]) rfl underlying268 rfl) ?_;refine L.Lo0 rfl ⟨_,rfl,fun a todo ha=>?_⟩;exact hK _ _ _ hg rfl ⟨_,_,rfl,rfl⟩ (kf0 func126 ha)
 ·rintro s2 ⟨h1,_,_⟩;rw[h1];exact L9
 ·rintro⟨ch,z,me⟩ ⟨h1,h2,h3⟩;cases h1;cases h2;exact X8 _ me (Rj0 hg) h3
section
attribute [local irreducible] KK
abbrev em0 (a b:Nat):Array Value:=#[.p a,.p b]
theorem xf0 (gr:j7) {n:Nat} {a:Act} {todo:List Item} (hd:a.defers=[dcall 62 #[.pointer (some ⟨gr.blk,gr.off,none⟩)]]):∃m,Lt prog gr m 0 (G {(baseD 128).at a todo with mode:=.returning} [V8 prog]):=by
 have hq:QuitsD prog 2 0 (G {(baseD 128).at ⟨a.tmps,[]⟩ todo with mode:=.returning} [V8 prog]):=by
  refine .inr ⟨rfl,_,#[],fun e he=>by simp at he,fun w=>Hb0 (fn:=Tryz.f128) rfl rfl func128 (results_none rfl _ _ w) (events_results_none rfl _ _),?_⟩;refine .inr ⟨rfl,_,#[],fun e he=>by simp at he,fun w=>Hc0,?_⟩;exact⟨rfl,rfl⟩
 obtain⟨m,hm⟩:=Rg0 gr (c:={(baseD 128).at ⟨a.tmps,[]⟩ todo with mode:=.returning}) rfl hq;refine⟨m+1,?_⟩;exact(J3 prog gr).c rfl rfl (fun w=>dg0 (f:=62) (fn:=Tryz.f62) (caps:=#[]) (args:=#[.pointer (some ⟨gr.blk,gr.off,none⟩)]) (by simp) hd func62 kk1 rfl) hm
theorem fz1:prog.built 268 []=some #[]:=by kernel_rfl
set_option maxRecDepth 20000 in
theorem Cr0 {Z:Goroutine->World->Prop} (hZ:@Ctx.Zs prog (X1 prog false) Z) {rb0 i:Nat} {c:CB} {w0:World} (hC:I1 w0 c.cb (c.cells rb0 i) 248 (0,3)) (L2:c.st=true) {s:Stp} {rf df:Value} {cs:List Frame}
  (hK:∀w' fr ch,Below w0.heap.size w0 w'->fr.fn=126->K5 ch->Leaves prog fr w' (.panicked ch)->Z (G fr cs) w'):Z (G (Frame.enter prog 126 #[.p c.cb,kb0 s,rf,df] .normal) cs) w0:=by
 letI:Ctx prog:=X1 prog false;rw[enter_at _ func126 rfl];refine(?_:ZA Z 63 (base 126) cs (Vc.ax0 #[.p c.cb,kb0 s,rf,df]) [.code (Tryz.f126.body.getD .skip)] w0) _ (K7 _ _ rfl);have hb:=E1 126;have hb0:Below w0.heap.size w0 w0:=Below.refl _ _;refine U4 ?_;refine L.box (cs:=#[.i s.kind,.i s.obj,.i s.num]) rfl rfl (fun w b5 F5=>?_);have hb0:=G0 hb0 F5.below;have hC:=hC.j0 F5.below;refine U13 ?_;refine U502 ?_;refine U66 ?_;refine U4 ?_;refine U59 ?_;refine L.va (A0 rfl underlying4 rfl (hC.q0 10 (v:=.bool c.st) rfl)) ?_;refine U3 ?_;refine ZA.w7 hZ (rb L2) ?_;refine ZA.panics hZ hb ?_;refine W.region rfl ?_;refine L.va (R2 (parts:=[]) rfl fz1) ?_;refine L.va (al0 (v:=.agg #[]) rfl underlying268 rfl) ?_;refine L.Lo0 rfl ⟨_,rfl,fun a todo ha=>?_⟩;exact hK _ _ _ hb0 rfl ⟨_,_,rfl,rfl⟩ (kf0 func126 ha)
set_option maxRecDepth 20000 in
theorem Lq0 {Post:Value->World->Prop} {X:Gh} {g:Nat} {S:Nat->Prop} {B:Nat} {w0:World} {Bs:Nat} {R:Rn} {w:World} {i:Nat} {c:CB} {z0:Value} {me0:Goroutine} {n8 A7:Nat} {en:Bool} {a45:Act} {J8:List Item} {md:FrameMode}
  (hg:Rg S B w0 w Bs R) (hc:R.cl[i]? =some c) (L2:c.st=true) (hA:I1 w n8 #[.p c.cb] 123 (0,0)) (hE:I1 w A7 #[.bool en] 4 (0,0)) (z9:0<g) (hX0:X.O1 0=some ⟨R.yb,z0,me0⟩) (hdn:X.dn=0) (ow0:X.A4=some ⟨R.rb,8⟩)
  (hmd:md= .returning\/∃v j4,md= .panicking ({v,recovered:=false} :: j4)/\j4.dropWhile (!·.goexit)=[]) (xg0:a45.defers=[dcall 62 #[.pointer (some ⟨R.rb,8,none⟩)]])
  (X8:∀w',Rg S B w0 w' Bs {R with ends:=R.ends.set i 0,cl:=R.cl.set i {c with wt:=false}}->Fin prog Post (X.pass g 0 none) 0 (Go.Conc.served me0 (.i (i:Int))) w') :
  Fin prog Post X g (G ((baseD 151).at {tmps:=((#[]:Array Value)++em0 n8 A7)++Array.replicate (Tryz.f151.ntmps-((#[]:Array Value)++em0 n8 A7).size) undef,defers:=[]} [.code (Tryz.f151.body.getD .skip)]) [{(baseD 128).at a45 J8 with mode:=md},V8 prog]) w:=by
 letI:Ctx prog:=X1 prog (g==0);refine(?_:ZA (Fin prog Post X g) 63 (baseD 151) [{(baseD 128).at a45 J8 with mode:=md},V8 prog] (Vc.ax0 ((#[]:Array Value)++em0 n8 A7)) [.code (Tryz.f151.body.getD .skip)] w) _ (K7 _ _ rfl);refine U319 ?_;intro hZ hb;have hi:i<R.m:=Nat.lt_of_lt_of_le (List.getElem?_eq_some_iff.1 hc).1 hg.m.lcl;refine ZA.seq hZ ?_;refine U282 ?_;intro c45 v hsv;refine U46 ?_;refine U322 ?_;refine U259 ?_;refine U38 ?_;refine ZA.w7 hZ (rb L2) ?_;refine ZA.W hZ hb ?_;refine U91 ?_;intro hR hC;refine U248 ?_;refine U253 ?_;refine U266 ?_;refine U155 ?_;refine U245 ?_;refine D.nil (fun w I2=>?_);have hA:=hA.j0 I2;have hE:=hE.j0 I2;have hg:=hg.j0 I2;have hR:=hR.j0 I2;have hC:=hC.j0 I2;clear I2;have neA:=I1.ne hA hg.m.ends (by decide);refine U287 ?_;intro neE w hg V2;have hA:=hA.other V2 neA;clear neA neE V2;have hc:(Rn.cl {R with ends:=R.ends.set i 0})[i]? =some c:=hc;refine L.nil ?_
 try clear hR
 try clear hC
 refine U317 ?_;refine U154 ?_;refine U106 ?_;refine U255 ?_;intro neA w hg V2;have hA:=hA.other V2 neA;refine U247 ?_;refine U153 ?_;refine U246 ?_;refine U144 ?_;refine U256 ?_;refine U138 ?_;intro w I2 hg;clear I2;obtain⟨m,hm⟩:=xf0 ⟨R.rb,8⟩ (n:=0) (a:=a45) (todo:=J8) xg0;refine ZA.ou0 (i:=11) (rest:=[]) (s:=⟨R.yb,z0,me0⟩) (gr:=⟨R.rb,8⟩) (ft:=m+3) hb rfl rfl rfl hX0 (Nat.ne_of_lt z9) hdn z9 ow0 ?_ ?_
 ·refine At.D4 (J3 _ _) ?_;refine At.done (J3 _ _) (fun _=>?_);exact AtR.saved (J3 _ _) hsv rfl func151 rfl hm
 ·exact X8 _ hg
set_option maxRecDepth 20000 in
theorem Lr0 {Post:Value->World->Prop} {X:Gh} {g:Nat} {S:Nat->Prop} {B:Nat} {w0:World} {Bs:Nat} {R:Rn} {w:World} {i:Nat} {c:CB} {z0:Value} {me0:Goroutine} {n8 A7:Nat} {en:Bool} {a45:Act} {J8:List Item} {md:FrameMode}
  (hg:Rg S B w0 w Bs R) (hc:R.cl[i]? =some c) (L2:c.st=false) (hA:I1 w n8 #[.p c.cb] 123 (0,0)) (hE:I1 w A7 #[.bool true] 4 (0,0)) (z9:0<g) (hX0:X.O1 0=some ⟨R.yb,z0,me0⟩) (hdn:X.dn=0) (ow0:X.A4=some ⟨R.rb,8⟩)
  (hmd:md= .returning\/∃v j4,md= .panicking ({v,recovered:=false} :: j4)/\j4.dropWhile (!·.goexit)=[]) (xg0:a45.defers=[dcall 62 #[.pointer (some ⟨R.rb,8,none⟩)]])
  (X8:∀w',Rg S B w0 w' Bs {R with ends:=R.ends.set i 1,cl:=R.cl.set i {c with wt:=false}}->Fin prog Post (X.pass g 0 none) 0 (Go.Conc.served me0 (.i (i:Int))) w') :
  Fin prog Post X g (G ((baseD 151).at {tmps:=((#[]:Array Value)++em0 n8 A7)++Array.replicate (Tryz.f151.ntmps-((#[]:Array Value)++em0 n8 A7).size) undef,defers:=[]} [.code (Tryz.f151.body.getD .skip)]) [{(baseD 128).at a45 J8 with mode:=md},V8 prog]) w:=by
 letI:Ctx prog:=X1 prog (g==0);refine(?_:ZA (Fin prog Post X g) 63 (baseD 151) [{(baseD 128).at a45 J8 with mode:=md},V8 prog] (Vc.ax0 ((#[]:Array Value)++em0 n8 A7)) [.code (Tryz.f151.body.getD .skip)] w) _ (K7 _ _ rfl);refine U319 ?_;intro hZ hb;have hi:i<R.m:=Nat.lt_of_lt_of_le (List.getElem?_eq_some_iff.1 hc).1 hg.m.lcl;refine ZA.seq hZ ?_;refine U282 ?_;intro c45 v hsv;refine U46 ?_;refine U322 ?_;refine U259 ?_;refine U38 ?_;refine ZA.r6 hZ (rb L2) ?_;refine U4 ?_;refine L.va (A0 rfl underlying4 rfl (hE.q0 0 (v:=.bool true) rfl)) ?_;refine U38 ?_;refine ZA.w7 hZ rfl ?_;refine ZA.W hZ hb ?_;refine U91 ?_;intro hR hC;refine U248 ?_;refine U253 ?_;refine U266 ?_;refine U155 ?_;refine U245 ?_;refine D.nil (fun w I2=>?_);have hA:=hA.j0 I2;have hE:=hE.j0 I2;have hg:=hg.j0 I2;have hR:=hR.j0 I2;have hC:=hC.j0 I2;clear I2;have neA:=I1.ne hA hg.m.ends (by decide);refine U287 ?_;intro neE w hg V2;have hA:=hA.other V2 neA;clear neA neE V2;have hc:(Rn.cl {R with ends:=R.ends.set i 1})[i]? =some c:=hc;refine L.nil ?_
 try clear hR
 try clear hC
 refine U317 ?_;refine U154 ?_;refine U106 ?_;refine U255 ?_;intro neA w hg V2;have hA:=hA.other V2 neA;refine U247 ?_;refine U153 ?_;refine U246 ?_;refine U144 ?_;refine U256 ?_;refine U138 ?_;intro w I2 hg;clear I2;obtain⟨m,hm⟩:=xf0 ⟨R.rb,8⟩ (n:=0) (a:=a45) (todo:=J8) xg0;refine ZA.ou0 (i:=11) (rest:=[]) (s:=⟨R.yb,z0,me0⟩) (gr:=⟨R.rb,8⟩) (ft:=m+3) hb rfl rfl rfl hX0 (Nat.ne_of_lt z9) hdn z9 ow0 ?_ ?_
 ·refine At.D4 (J3 _ _) ?_;refine At.done (J3 _ _) (fun _=>?_);exact AtR.saved (J3 _ _) hsv rfl func151 rfl hm
 ·exact X8 _ hg
set_option maxRecDepth 20000 in
theorem Ls0 {Post:Value->World->Prop} {X:Gh} {g:Nat} {S:Nat->Prop} {B:Nat} {w0:World} {Bs:Nat} {R:Rn} {w:World} {i:Nat} {c:CB} {z0:Value} {me0:Goroutine} {n8 A7:Nat} {en:Bool} {a45:Act} {J8:List Item} {md:FrameMode}
  (hg:Rg S B w0 w Bs R) (hc:R.cl[i]? =some c) (L2:c.st=false) (hA:I1 w n8 #[.p c.cb] 123 (0,0)) (hE:I1 w A7 #[.bool false] 4 (0,0)) (z9:0<g) (hX0:X.O1 0=some ⟨R.yb,z0,me0⟩) (hdn:X.dn=0) (ow0:X.A4=some ⟨R.rb,8⟩)
  (hmd:md= .returning\/∃v j4,md= .panicking ({v,recovered:=false} :: j4)/\j4.dropWhile (!·.goexit)=[]) (xg0:a45.defers=[dcall 62 #[.pointer (some ⟨R.rb,8,none⟩)]])
  (X8:∀w',Rg S B w0 w' Bs {R with ends:=R.ends.set i 2,cl:=R.cl.set i {c with wt:=false}}->Fin prog Post (X.pass g 0 none) 0 (Go.Conc.served me0 (.i (i:Int))) w') :
  Fin prog Post X g (G ((baseD 151).at {tmps:=((#[]:Array Value)++em0 n8 A7)++Array.replicate (Tryz.f151.ntmps-((#[]:Array Value)++em0 n8 A7).size) undef,defers:=[]} [.code (Tryz.f151.body.getD .skip)]) [{(baseD 128).at a45 J8 with mode:=md},V8 prog]) w:=by
 letI:Ctx prog:=X1 prog (g==0);refine(?_:ZA (Fin prog Post X g) 63 (baseD 151) [{(baseD 128).at a45 J8 with mode:=md},V8 prog] (Vc.ax0 ((#[]:Array Value)++em0 n8 A7)) [.code (Tryz.f151.body.getD .skip)] w) _ (K7 _ _ rfl);refine U319 ?_;intro hZ hb;have hi:i<R.m:=Nat.lt_of_lt_of_le (List.getElem?_eq_some_iff.1 hc).1 hg.m.lcl;refine ZA.seq hZ ?_;refine U282 ?_;intro c45 v hsv;refine U46 ?_;refine U322 ?_;refine U259 ?_;refine U38 ?_;refine ZA.r6 hZ (rb L2) ?_;refine U4 ?_;refine L.va (A0 rfl underlying4 rfl (hE.q0 0 (v:=.bool false) rfl)) ?_;refine U38 ?_;refine ZA.r6 hZ rfl ?_;refine ZA.W hZ hb ?_;refine U91 ?_;intro hR hC;refine U248 ?_;refine U253 ?_;refine U266 ?_;refine U155 ?_;refine U245 ?_;refine D.nil (fun w I2=>?_);have hA:=hA.j0 I2;have hE:=hE.j0 I2;have hg:=hg.j0 I2;have hR:=hR.j0 I2;have hC:=hC.j0 I2;clear I2;have neA:=I1.ne hA hg.m.ends (by decide);refine U287 ?_;intro neE w hg V2;have hA:=hA.other V2 neA;clear neA neE V2;have hc:(Rn.cl {R with ends:=R.ends.set i 2})[i]? =some c:=hc;refine L.nil ?_
 try clear hR
 try clear hC
 refine U317 ?_;refine U154 ?_;refine U106 ?_;refine U255 ?_;intro neA w hg V2;have hA:=hA.other V2 neA;refine U247 ?_;refine U153 ?_;refine U246 ?_;refine U144 ?_;refine U256 ?_;refine U138 ?_;intro w I2 hg;clear I2;obtain⟨m,hm⟩:=xf0 ⟨R.rb,8⟩ (n:=0) (a:=a45) (todo:=J8) xg0;refine ZA.ou0 (i:=11) (rest:=[]) (s:=⟨R.yb,z0,me0⟩) (gr:=⟨R.rb,8⟩) (ft:=m+3) hb rfl rfl rfl hX0 (Nat.ne_of_lt z9) hdn z9 ow0 ?_ ?_
 ·refine At.D4 (J3 _ _) ?_;refine At.done (J3 _ _) (fun _=>?_);exact AtR.saved (J3 _ _) hsv rfl func151 rfl hm
 ·exact X8 _ hg
end
section
attribute [local irreducible] KK
theorem Rg.side {S:Nat->Prop} {B:Nat} {w0 w:World} {Bs:Nat} {R:Rn} (h:Rg S B w0 w Bs R) {b:Nat} {cs C6:Array Value} {T:TypeId} {f:Nat×Nat} (hb:I1 w b cs T f) (hT:T≠173/\T≠123/\T≠67/\T≠63/\T≠3/\T≠65/\T≠248) (hS:S b\/B <=b):Rg S B w0 (K1 w b C6 T f) Bs R:=by
 have V2:=Y1 w b C6 T f;have hr:∀T':TypeId,T'≠T->∀r,some b=some r->∃C6 T'' f',I1 w r C6 T'' f'/\T'≠T'':=fun T' hT r e=>by cases e;exact⟨_,_,_,hb,hT⟩
 have hm:S4 (K1 w b C6 T f) Bs R:=⟨N2 h.m.run V2 (hr _ (Ne.symm hT.1)),G4 h.m.cls V2 (hr _ (Ne.symm hT.2.1)),G4 h.m.evs V2 (hr _ (Ne.symm hT.2.2.1)),G4 h.m.nts V2 (hr _ (Ne.symm hT.2.2.2.1)),N2 h.m.ends V2 (hr _ (Ne.symm hT.2.2.2.2.1)),N2 h.m.E9 V2 (hr _ (Ne.symm hT.2.2.2.2.2.1)),h.m.gf0,h.m.le0,h.m.lcl,fun i c hc=>N2 (h.m.blk i c hc) V2 (hr _ (Ne.symm hT.2.2.2.2.2.2))⟩
 exact⟨hm,h.md.grown V2 h.le (fun r e=>by cases e;exact hS),h.fp,by rw[n6];exact h.le⟩
def ga1 (c:CB) (x:Int):Ending->Prop
 | .returned _=>(c.st=true/\x=0)\/(c.st=false/\x=1)
 | .panicked ch=>K5 ch/\((c.st=true/\x=0)\/(c.st=false/\x=2))
 | .outgrown=>False
structure Lt0 (top:List Frame) (n8 A7 rb cb:Nat):Prop where
 leave:∀{Post:Value->World->Prop} {X:Gh} {g:Nat} {S:Nat->Prop} {B:Nat} {w0:World} {Bs:Nat} {R:Rn} {w:World} {i:Nat} {c:CB} {z0:Value} {me0:Goroutine} {fr:Frame} {e:Ending} (x:Int),Rg S B w0 w Bs R->R.rb=rb->R.cl[i]? =some c->c.cb=cb ->
  I1 w n8 #[.p cb] 123 (0,0)->I1 w A7 #[.bool false] 4 (0,0)->(S A7\/B <=A7)->ga1 c x e->0<g->X.O1 0=some ⟨R.yb,z0,me0⟩->X.dn=0->X.A4=some ⟨rb,8⟩ ->
  (∀w',Rg S B w0 w' Bs {R with ends:=R.ends.set i x,cl:=R.cl.set i {c with wt:=false}}->(∃en,I1 w' A7 #[.bool en] 4 (0,0))->Fin prog Post (X.pass g 0 none) 0 (Go.Conc.served me0 (.i (i:Int))) w') ->
  Leaves prog fr w e->Fin prog Post X g (G fr top) w
theorem S4.Vo0 {w:World} {Bs:Nat} {R:Rn} (h:S4 w Bs R) {b:Nat} {cs:Array Value} {T:TypeId} {f:Nat×Nat} (hb:I1 w b cs T f) (hT:T≠173/\T≠123/\T≠67/\T≠63/\T≠3/\T≠65/\T≠248):¬R.fp b:=by
 intro hk;have own:∀{E:TypeId} {s n c:Nat} {a:Option Addr} {xs:List Value},Own w Bs E s a n c xs->a≠none->b=ab a->T≠E->False:=fun ho ha e k4=>by
  obtain⟨cur,hB,_⟩:=ho.row ha;exact I1.ne (f:=(0,0)) hB hb (Ne.symm k4) e.symm
 rcases hk with rfl|rfl|rfl|⟨ha,e⟩|⟨ha,e⟩|⟨ha,e⟩|⟨i,c,hc,rfl⟩
 ·exact I1.ne hb h.run hT.1 rfl
 ·exact I1.ne hb h.ends hT.2.2.2.2.1 rfl
 ·exact I1.ne hb h.E9 hT.2.2.2.2.2.1 rfl
 ·exact own h.cls ha e hT.2.1
 ·exact own h.evs ha e hT.2.2.1
 ·exact own h.nts ha e hT.2.2.2.1
 ·exact I1.ne hb (h.blk i c hc) hT.2.2.2.2.2.2 rfl
theorem Rg.then {S:Nat->Prop} {B:Nat} {w0 w w':World} {Bs:Nat} {R R':Rn} (h:Rg S B w0 w Bs R) (h':Rg R.fp w.heap.size w w' Bs R'):Rg S B w0 w' Bs R' :=
 ⟨h'.m,⟨h'.md.os.trans h.md.os,h'.md.tape.trans h.md.tape,h'.md.output.trans h.md.output,Nat.le_trans h.md.size h'.md.size,fun k hk hs=>(h'.md.block k (Nat.lt_of_lt_of_le hk h.le) fun z=>(h.fp k z).elim hs (Nat.not_le_of_lt hk)).trans (h.md.block k hk hs)⟩,fun k hk=>by
  rcases h'.fp k hk with z|z
  ·exact h.fp k z
  ·exact .inr (Nat.le_trans h.le z),Nat.le_trans h.le h'.md.size⟩
theorem Lu0 {Post:Value->World->Prop} {X:Gh} {g:Nat} {S:Nat->Prop} {B:Nat} {w0:World} {Bs:Nat} {R:Rn} {w:World} {i:Nat} {c:CB} {z0:Value} {me0:Goroutine} {n8 A7:Nat} {en:Bool} {a45:Act} {J8:List Item} {md:FrameMode} {x:Int}
  (hg:Rg S B w0 w Bs R) (hc:R.cl[i]? =some c) (hx:(c.st=true/\x=0)\/(c.st=false/\en=true/\x=1)\/(c.st=false/\en=false/\x=2)) (hA:I1 w n8 #[.p c.cb] 123 (0,0)) (hE:I1 w A7 #[.bool en] 4 (0,0)) (z9:0<g) (hX0:X.O1 0=some ⟨R.yb,z0,me0⟩) (hdn:X.dn=0) (ow0:X.A4=some ⟨R.rb,8⟩)
  (hmd:md= .returning\/∃v j4,md= .panicking ({v,recovered:=false} :: j4)/\j4.dropWhile (!·.goexit)=[]) (xg0:a45.defers={target:=.fn (.func 151) (em0 n8 A7),args:=#[]} :: [dcall 62 #[.pointer (some ⟨R.rb,8,none⟩)]])
  (X8:∀w',Rg S B w0 w' Bs {R with ends:=R.ends.set i x,cl:=R.cl.set i {c with wt:=false}}->Fin prog Post (X.pass g 0 none) 0 (Go.Conc.served me0 (.i (i:Int))) w') :
  Fin prog Post X g (G {(baseD 128).at a45 J8 with mode:=md} [V8 prog]) w:=by
 refine(fa0 prog Post X g).ctl rfl rfl (fun w=>dg0 (f:=151) (fn:=Tryz.f151) (caps:=em0 n8 A7) (args:=#[]) (ds:=[dcall 62 #[.pointer (some ⟨R.rb,8,none⟩)]]) (by rcases hmd with rfl|⟨_,_,rfl,_⟩ <;> simp) xg0 func151 ff1 rfl) ?_;rcases hx with⟨h1,rfl⟩|⟨h1,rfl,rfl⟩|⟨h1,rfl,rfl⟩
 ·exact Lq0 hg hc h1 hA hE z9 hX0 hdn ow0 hmd rfl X8
 ·exact Lr0 (en:=true) hg hc h1 hA hE z9 hX0 hdn ow0 hmd rfl X8
 ·exact Ls0 (en:=false) hg hc h1 hA hE z9 hX0 hdn ow0 hmd rfl X8
theorem vb0 {Post:Value->World->Prop} {X:Gh} {g:Nat} {S:Nat->Prop} {B:Nat} {w0:World} {Bs:Nat} {R:Rn} {w:World} {i:Nat} {c:CB} {z0:Value} {me0:Goroutine} {n8 A7:Nat} {en:Bool} {a45:Act} {J8:List Item} {md:FrameMode} {x:Int}
  (hg:Rg S B w0 w Bs R) (hc:R.cl[i]? =some c) (hx:(c.st=true/\x=0)\/(c.st=false/\en=true/\x=1)\/(c.st=false/\en=false/\x=2)) (hA:I1 w n8 #[.p c.cb] 123 (0,0)) (hE:I1 w A7 #[.bool en] 4 (0,0)) (z9:0<g) (hX0:X.O1 0=some ⟨R.yb,z0,me0⟩) (hdn:X.dn=0) (ow0:X.A4=some ⟨R.rb,8⟩)
  (hmd:md= .returning\/∃v j4,md= .panicking ({v,recovered:=false} :: j4)/\j4.dropWhile (!·.goexit)=[]) (xg0:a45.defers={target:=.fn (.func 151) (em0 n8 A7),args:=#[]} :: [dcall 62 #[.pointer (some ⟨R.rb,8,none⟩)]])
  (X8:∀w',Rg S B w0 w' Bs {R with ends:=R.ends.set i x,cl:=R.cl.set i {c with wt:=false}}->(∃en,I1 w' A7 #[.bool en] 4 (0,0))->Fin prog Post (X.pass g 0 none) 0 (Go.Conc.served me0 (.i (i:Int))) w') :
  Fin prog Post X g (G {(baseD 128).at a45 J8 with mode:=md} [V8 prog]) w:=by
 refine Lu0 hg.m.rg hc hx hA hE z9 hX0 hdn ow0 hmd xg0 fun w' K9=>X8 w' (hg.then K9) ⟨en,?_⟩;exact(K9.md.block A7 hE.lt (hg.m.Vo0 hE (by decide))).trans hE
set_option maxRecDepth 20000 in
theorem Lv0 {Post:Value->World->Prop} {X:Gh} {g:Nat} {w:World} {Bs:Nat} {R:Rn} {i:Nat} {c:CB} {f:FuncId} {fn:Func} {caps:Array Value} (hf:prog.funcs[f]? =some fn) (hbd:fn.body.isSome=true) (hnm:(fn.name== "runtime.NumGoroutine")=false)
  (hM:S4 w Bs R) (hc:R.cl[i]? =some c)
  (A3:∀w1 top n8 A7,Below w.heap.size w w1->w.heap.size <=n8->w.heap.size <=A7->I1 w1 n8 #[.p c.cb] 123 (0,0)->I1 w1 A7 #[.bool false] 4 (0,0)->Lt0 top n8 A7 R.rb c.cb->Fin prog Post X g (G (Frame.enter prog f (#[] ++ #[.p c.cb]++caps) .normal) top) w1) :
  Fin prog Post X g (born prog (dcall 128 #[.p c.cb,.func (.func f) #[] caps])) w:=by
 refine(fa0 prog Post X g).ctl rfl rfl (fun w=>Ha0 func128 fa1 rfl) ?_;letI:Ctx prog:=X1 prog (g==0);have hZ:Ctx.Zs prog (Fin prog Post X g):=X5;have hb:=bkd 128;refine(?_:ZA (Fin prog Post X g) 15 (baseD 128) [V8 prog] (Vc.ax0 #[.p c.cb,.func (.func f) #[] caps]) [.code (Tryz.f128.body.getD .skip)] w) _ (K7 _ _ rfl);refine U4 ?_;refine L.box (cs:=#[.p c.cb]) rfl rfl (fun w1 n8 FA=>?_);refine U3 ?_;refine U4 ?_;refine L.alloc (cs:=#[.bool false]) zr4 rfl (fun w2 A7 FE=>?_);refine L.pu 0 [.bool false] #[.bool false] sz4 FE.blk (fun w3 hE V2 K2=>?_);refine U3 ?_;have l7:Below w.heap.size w w1:=FA.below;have lA:w.heap.size <=n8:=by have:=FA.here;omega
 have lE:w.heap.size <=A7:=by have:=FE.here;have:=l7.size;omega
 have hb2:Below w.heap.size w w2:=G0 l7 FE.below;have hb3:Below w.heap.size w w3:=m6 hb2 hb2.size V2 lE;have hA:I1 w3 n8 #[.p c.cb] 123 (0,0):=(D3 (FA.blk.j0 FE.below)).other V2 (I1.ne (D3 (FA.blk.j0 FE.below)) (D3 FE.blk) (by decide));have hM3:=hM.j0 hb3;refine ZA.zd ?_;refine U302 ?_;refine ZD.va hZ hb (i:=0) (rest:=[1,2,3,4,5,6]) rfl rfl (A0 rfl underlying123 rfl (hA.q0 0 (v:=.p c.cb) rfl)) ?_;refine ZD.va hZ hb (i:=1) rfl rfl (Z0 rfl) ?_;refine ZD.va hZ hb (i:=2) rfl rfl (E0 rfl underlying248 rfl Ey0 (by decide)) ?_;refine ZD.va hZ hb (i:=3) rfl rfl (A0 rfl underlying169 rfl ((hM3.blk i c hc).q0 1 (v:=.p R.rb) rfl)) ?_;refine ZD.va hZ hb (i:=4) rfl rfl (Z0 rfl) ?_;refine ZD.va hZ hb (i:=5) rfl rfl (E0 rfl underlying173 rfl Ur0 (by decide)) ?_;refine ZD.defer hZ hb (i:=6) (vs:=#[.pointer (some ⟨R.rb,8,none⟩)]) rfl (Wg.ao0 (vl:=[.pointer (some ⟨R.rb,8,none⟩)]) rfl) ?_;refine ZD.D4 hZ ?_;refine U302 ?_;refine ZD.va hZ hb (i:=0) (rest:=[1]) rfl rfl (R4 (l:=[.tmp 2,.tmp 4]) (vs:=[.p n8,.p A7]) rfl) ?_;refine ZD.Yi0 hZ hb (i:=1) (caps:=em0 n8 A7) rfl rfl ?_;refine ZD.D4 hZ ?_;refine U302 ?_;refine ZD.va hZ hb (i:=0) (rest:=[1,2]) rfl rfl (Jd0 rfl) ?_;refine ZD.va hZ hb (i:=1) rfl rfl (A0 rfl underlying123 rfl (hA.q0 0 (v:=.p c.cb) rfl)) ?_;refine ZD.call hZ hb (i:=2) rfl (bw0 (first:=#[]) (cap:=caps) (args:=#[.p c.cb]) rfl (Wg.ao0 (vl:=[.p c.cb]) rfl) hf hbd hnm) (fun a ha=>?_);refine A3 w3 _ n8 A7 hb3 lA lE hA hE ⟨?_⟩;clear A3 hb3 hb2 l7 hM3 hA hE V2 K2 FA FE;intro Post X g S B w0 Bs R' w i c' z0 me0 fr e x hg hRb hc hcb hA hE hS hx z9 hX0 hdn V2 X8 hl;rw[<- hcb]at hA;have Yj0:X.A4=some ⟨R'.rb,8⟩:=by rw[hRb];exact V2
 letI:Ctx prog:=X1 prog (g==0);have hZ:Ctx.Zs prog (Fin prog Post X g):=X5;cases e with
 |outgrown=>exact hx.elim
 |panicked ch=>
  obtain⟨⟨v,j4,rfl,ho⟩,hx⟩:=hx;refine gq0 (fa0 _ _ _ _) hl ?_;rw[Frame.raise_at];exact vb0 (en:=false) hg hc (by rcases hx with h|h;exact .inl h;exact .inr (.inr ⟨h.1,rfl,h.2⟩)) hA hE z9 hX0 hdn Yj0 (.inr ⟨v,j4,rfl,ho⟩) (by rw[hRb];exact ha.defers) X8
 |returned v=>
  refine br0 (fa0 _ _ _ _) hl ?_;have ck0:∀(ops:Array Oper) (k:List Item) (o:Oper),ops[2]? =some o->((baseD 128).at a (.inRegion ops [2]::k)).finish v=(baseD 128).at (a.put o.dst v) (.inRegion ops []::k):=fun ops k o ho=>by rw[Frame.finish_at,ho];rfl
  rw[ck0 _ _ _ rfl];refine(?_:ZD (Fin prog Post X g) 15 (baseD 128) [V8 prog] _ _ _ w) _ (ha.put rfl v);refine ZD.D4 hZ ?_;refine ZD.region hZ ?_;refine ZD.st hZ hb (i:=0) (rest:=[]) rfl (nb0 (v:=.bool true) (p:=⟨A7,0,none⟩) (v0:=.bool false) rfl rfl sz4 rfl (hE.q0 0 rfl) (by rw[hE.frozen];rfl)) ?_;rw[ga0 hE];refine ZD.D4 hZ ?_;intro a5 ha5;refine(fa0 prog Post X g).ctl rfl rfl (fun _=>stepG_end) ?_;exact vb0 (en:=true) (hg.side hE (by decide) hS) hc (by rcases hx with h|h;exact .inl h;exact .inr (.inl ⟨h.1,rfl,h.2⟩)) (hA.other (Y1 _ _ _ _ _) (I1.ne hA hE (by decide))) (j5 hE _ _ _) z9 hX0 hdn Yj0 (.inl rfl) (by rw[hRb];exact ha5.defers) X8
end
section
attribute [local irreducible] KK
def Cs0 (cs:List Frame) (me:Goroutine):Prop:=∀Z,@Ctx.Zs prog (X1 prog true) Z->∀(u:World) (v:Value),(∀fr,fr.fn=78->Leaves prog fr u (.returned (.tuple #[]))->Z (G fr cs) u)->Z (Go.Conc.served me v) u
theorem gb1 (x0:Int) (x1:Int) (x2:Int) (x3:Int):prog.built 67 [(0,.i x0),(1,.agg #[.i x1,.i x2,.i x3])]=some #[.i x0,.i x1,.i x2,.i x3]:=by kernel_rfl
set_option maxRecDepth 20000 in
theorem Lw0 {Post:Value->World->Prop} {X:Gh} {g:Nat} {S:Nat->Prop} {B:Nat} {w0:World} {Bs:Nat} {R:Rn} {w:World} {i:Nat} {c:CB} {cs:List Frame} {z1:Value} {me1:Goroutine}
  (hg:Rg S B w0 w Bs R) (hBs:Bs <=w.heap.size) (hc:R.cl[i]? =some c) (hrm:R.evs.length <=1000000) (hpm:c.S1 <=1000000) (hum:R.used <=1000000)
  (z9:g≠0) (hX0:X.O1 g=some ⟨c.rc,z1,me1⟩) (hdn:X.dn=0) (L2:X.stay 0=[(⟨R.rb,7,none⟩,.chan (some R.yb))]) (L9:X.chs R.yb/\∀i s2,i≠g->X.O1 i=some s2->s2.ch≠R.yb)
  (O6:∀w' a n me0,Rg S B w0 w' Bs {R with ea:=a,ec:=n,evs:=R.evs ++ [(i,c.sp)],used:=R.used+1,cl:=R.cl.set i {c with S1:=c.S1+1,wt:=false}}->Cs0 cs me0->Fin prog Post (X.pass 0 g (some ⟨R.yb,.i 0,me0⟩)) g (Go.Conc.served me1 (.bool true)) w') :
  Fin prog Post X 0 (G (Frame.enter prog 78 #[.p R.rb,.p c.cb] .normal) cs) w:=by
 letI:Ctx prog:=X1 prog true;rw[enter_at _ func78 rfl];refine(?_:ZA (Fin prog Post X 0) 52 (base 78) cs (Vc.ax0 #[.p R.rb,.p c.cb]) [.code (Tryz.f78.body.getD .skip)] w) _ (K7 _ _ rfl);have hZ:Ctx.Zs prog (Fin prog Post X 0):=X5;have hb:=E1 78;refine U81 ?_;refine U91 ?_;intro hR hC;refine W.fl 17 [15,16] [0,1,2,3,4,5,6,7,8,9,10,11,12,13,14,15,16] (fun w'=>I1 w' R.rb #[.slice R.ca R.cl.length R.cc,.slice R.ea R.evs.length R.ec,.slice R.na R.nts.length R.nc,.slice (pt R.eb) R.m R.m,.slice (pt R.wb) R.m R.m,.bool R.stuck,.i (R.used:Int),.chan (some R.yb)] 173 (7,8)/\I1 w' c.cb #[.i (i:Int),.p R.rb,.chan (some c.rc),.i c.sp.kind,.i c.sp.obj,.i c.sp.num,c.rf,c.df,.i (c.S1:Int),.bool c.wt,.bool c.st] 248 (0,3)) (by kernel_rfl) (by kernel_rfl) (by kernel_rfl) (by kernel_rfl) (by kernel_rfl) (⟨hR.j0 (Below.refl w.heap.size w).drew,hC.j0 (Below.refl w.heap.size w).drew⟩) ?_;have S3:Below w.heap.size w w.drew:=(Below.refl w.heap.size w).drew;have hBs:=Nat.le_trans hBs S3.size;have hg:=hg.j0 S3;have hR:=hR.j0 S3;have hC:=hC.j0 S3;clear S3;generalize w.drew=w at *;refine U504 ?_;refine F.va rfl rfl (fun w' N1=>(E0 rfl underlying173 rfl ld0 (by decide))) ?_;refine U366 ?_;refine U30 ?_;refine U381 ?_;refine U30 ?_;refine F.va rfl rfl (fun w' N1=>(E0 rfl underlying248 rfl xb0 (by decide))) ?_;refine F.va rfl rfl (fun w' N1=>(G2 (cs:=[.i c.sp.kind,.i c.sp.obj,.i c.sp.num]) rfl underlying65 rfl xb0 rfl (N1.2.X6 rfl))) ?_;refine F.va rfl rfl (fun w' N1=>(R2 (parts:=[(0,.tmp 13),(1,.tmp 17)]) rfl (gb1 (i:Int) c.sp.kind c.sp.obj c.sp.num))) ?_;refine F.doo rfl rfl ?_;refine L.dm0 (cs:=#[.i (i:Int),.i c.sp.kind,.i c.sp.obj,.i c.sp.num]) rfl rfl underlying41 jr1 rfl ⟨_,js1⟩ (by decide) (fun w b19 F19=>?_);have hBs:=Nat.le_trans hBs F19.below.size;have hg:=hg.j0 F19.below;have hR:=hR.j0 F19.below;have hC:=hC.j0 F19.below;have Rk0:=F19.blk;refine L.nil ⟨rfl,⟨hR,hC⟩,?_⟩;refine F.doo rfl rfl ?_;refine L.fr0 (B:=Bs) (m:=1) rfl rfl underlying41 jt1 rfl (by decide) hg.m.evs (news:=[.i (i:Int),.i c.sp.kind,.i c.sp.obj,.i c.sp.num]) rfl (fun j u hj=>by
  rw[Addr.add_lit]
  match j,hj with
  |0,hj=>cases hj;exact Rk0.q0 0 rfl
  |1,hj=>cases hj;exact Rk0.q0 1 rfl
  |2,hj=>cases hj;exact Rk0.q0 2 rfl
  |3,hj=>cases hj;exact Rk0.q0 3 rfl) (fun u hu=>by simp only[List.mem_cons,List.not_mem_nil,or_false]at hu;rcases hu with rfl|rfl|rfl|rfl <;> rfl) (by omega) (by omega) hBs (fun a20 c20 w2 hO V2 hli=>?_)
 have hR:=N2 hR V2 (q5 hg.m.evs (by decide));have hC:=N2 hC V2 (q5 hg.m.evs (by decide));refine L.nil ⟨rfl,⟨hR,hC⟩,?_⟩;refine U8 ?_;refine U73 ?_;refine L.va (E0 rfl underlying45 rfl Rb0 (by decide)) ?_;refine L.ky1 (o:=0) (v:=undef) hg (i,c.sp) V2 hO hli rfl rfl Rb0 (fun w hg=>?_)
 try clear V2
 refine L.nil ?_
 try clear hR
 try clear hC
 refine U97 ?_;refine U4 ?_;refine U273 ?_;refine L.va (E0 rfl underlying45 rfl sz3 (by decide)) ?_;refine L.va (A0 rfl underlying3 rfl (hg.m.run.q0 6 (v:=.i (R.used:Int)) rfl)) ?_;refine L.va (tr0 rfl rfl (by omega)) ?_;refine U73 ?_;refine L.va (E0 rfl underlying45 rfl sz3 (by decide)) ?_;refine L.stR (o:=6) (vs:=[.i ((R.used+1:Nat):Int)]) hg R.stuck (R.used+1) rfl rfl rfl sz3 rfl rfl (by decide) rfl (fun w hg V2=>?_)
 try clear V2
 refine U3 ?_;refine U4 ?_;refine U11 ?_;refine L.va (E0 rfl underlying248 rfl sz3 (by decide)) ?_;refine L.va (A0 rfl underlying3 rfl ((hg.m.blk i c hc).q0 8 (v:=.i (c.S1:Int)) rfl)) ?_;refine L.va (tr0 rfl rfl (by omega)) ?_;refine L.va (Z0 rfl) ?_;refine L.va (E0 rfl underlying248 rfl sz3 (by decide)) ?_;refine L.stC (i:=i) (o:=8) (vs:=[.i ((c.S1+1:Nat):Int)]) hg {c with S1:=c.S1+1} hc rfl rfl rfl rfl sz3 rfl rfl (by decide) rfl (fun w hg V2=>?_)
 try clear V2
 refine U3 ?_;refine U4 ?_;refine U59 ?_;refine L.stC (i:=i) (o:=9) (vs:=[.bool false]) hg {{c with S1:=c.S1+1} with wt:=false} (Q6 hc) rfl rfl rfl rfl sz4 rfl rfl (by decide) rfl (fun w hg V2=>?_)
 try clear V2
 refine U13 ?_;refine ZA.upto hZ hb 4 rfl rfl (R:=fun e' w'=>ZA _ _ _ _ e' _ w') ?_ (fun _ _ h=>h);refine U472 ?_;refine L.va (A0 rfl underlying246 rfl ((hg.m.blk i _ (Q6 (Q6 hc))).q0 2 (v:=.chan (some c.rc)) rfl)) ?_;refine U3 ?_;refine ZA.give (i:=4) (rest:=[]) (s:=⟨c.rc,z1,me1⟩) (j:=g) (st:=[(⟨R.rb,7,none⟩,.chan (some R.yb))]) (K:=fun s=>s.ch=R.yb/\s.z= .i 0/\Cs0 cs s.me) (ft:=60) hb rfl rfl rfl hX0 z9 hdn L2 ?_ ?_ ?_
 ·have hY:=xe0 (P:=prog) (main:=true) (l:=[((⟨R.rb,7,none⟩:Addr),Value.chan (some R.yb))]) (K:=fun s=>s.ch=R.yb/\s.z= .i 0/\Cs0 cs s.me);refine U292 ?_;refine U261 ?_;refine U249 ?_;refine M0.O1 (E:=3) (z:=.i 0) hb underlying170 zr3 rfl (fun me hs=>⟨rfl,rfl,?_⟩) rfl;intro Z hZ w v hK;refine hs.go ?_;letI:Ctx prog:=X1 prog true;refine ZA.D4 hZ ?_;refine ZA.done hZ ?_;exact ZA.leaves (fn:=Tryz.f78) (f:=78) rfl func78 rfl (fun fr h8 h9=>hK fr h8 h9)
 ·rintro s2 ⟨h1,_,_⟩;rw[h1];exact L9
 ·rintro⟨ch,z,me⟩ ⟨h1,h2,h3⟩;cases h1;cases h2;exact O6 _ _ _ me (by simpa using hg) h3
end
section
attribute [local irreducible] KK
noncomputable def endLoop:Code:=match Tryz.f80.body with|some (.seq (.seq _ (.block _ (.loop c))) _)=>c|_=>.skip
noncomputable def Fc0:Code:=match Tryz.f80.body with|some (.seq _ c)=>c|_=>.skip
structure Rl0 (rb0 m:Nat) (ca:Option Addr) (cc:Nat) (Bs:Nat) (Post:Value->World->Prop) (cs:List Frame) (J:Nat->Gh->Rn->World->Prop):Prop where
 mem:∀i X R w,J i X R w->S4 w Bs R/\R.rb=rb0/\R.cl.length=m/\R.ca=ca/\R.cc=cc
 skip:∀i X R w c,J i X R w->R.cl[i]? =some c->c.wt=false->J (i+1) X R w
 stop:∀i X R w c,J i X R w->R.cl[i]? =some c->c.wt=true->∃g z1 me1,g≠0/\X.O1 g=some ⟨c.rc,z1,me1⟩/\X.dn=0/\X.stay 0=[(⟨R.rb,7,none⟩,.chan (some R.yb))]/\(X.chs R.yb/\∀i s2,i≠g->X.O1 i=some s2->s2.ch≠R.yb) /\
  ∀w' me0,Rg R.fp w.heap.size w w' Bs {R with E9:=R.E9.set i c.sp}->(∀X' R' u v,J (i+1) X' R' u->Fin prog Post X' 0 (Go.Conc.served me0 v) u)->Fin prog Post (X.pass 0 g (some ⟨R.yb,.i 0,me0⟩)) g (Go.Conc.served me1 (.bool false)) w'
 fin:∀X R w,J m X R w->(∀i,X.O1 i=none)/\X.A4=some ⟨rb0,8⟩/\X.pend=0/\X.dn=0/\X.cap<2147483648/\∀fr,fr.fn=80->Leaves prog fr w (.returned (.tuple #[]))->Fin prog Post {X with pend:=0,cap:=0,dn:=0} 0 (G fr cs) w
set_option maxRecDepth 20000 in
theorem Lx0 {rb0 m:Nat} {ca:Option Addr} {cc:Nat} {Bs:Nat} {Post:Value->World->Prop} {cs:List Frame} {J:Nat->Gh->Rn->World->Prop} (hE:Rl0 rb0 m ca cc Bs Post cs J) {X:Gh} {R:Rn} {w:World} (hJ:J m X R w) {e:Env} (s0:e 0= .p rb0):ZA (Fin prog Post X 0) 43 (base 80) cs e [.code Fc0] w:=by
 obtain⟨hM,hrb,hm,hca,hcc⟩:=hE.mem _ _ _ _ hJ;obtain⟨hno,V2,hp,hdn,wo0,hK⟩:=hE.fin _ _ _ hJ;letI:Ctx prog:=X1 prog true;refine U200 ?_;intro hZ hb;rw[<- hrb]at s0;rw[V0 s0];clear s0;refine ZA.upto hZ hb 3 rfl rfl (R:=fun e' w'=>ZA _ _ _ _ e' _ w') ?_ (fun _ _ h=>h);refine U297 ?_;refine U471 ?_;refine ZA.call (i:=3) (rest:=[]) hZ hb (f:=64) (args:=#[.pointer (some ⟨R.rb,8,none⟩)]) rfl rfl (D2 rfl func64 rfl kl1 rfl) (fun a ha=>?_);rw[hrb];refine Fin.wait (G:=⟨rb0,8⟩) (K:=fun g'=>g'=_) V2 hno hp hdn (Yc0 ⟨rb0,8⟩ (fun g'=>g'=_) rfl X.cap wo0) (fun g' K9=>?_);subst K9;refine ZA.home (i:=3) rfl rfl ha ?_;have hZ':Ctx.Zs prog (Fin prog Post {X with pend:=0,cap:=0,dn:=0} 0):=X5;refine ZA.D4 hZ' ?_;refine ZA.done hZ' ?_;exact ZA.leaves (fn:=Tryz.f80) (f:=80) rfl func80 rfl hK
set_option maxRecDepth 20000 in
theorem Ly0 {rb0 m:Nat} {ca:Option Addr} {cc:Nat} {Bs:Nat} {Post:Value->World->Prop} {cs:List Frame} {J:Nat->Gh->Rn->World->Prop} (hE:Rl0 rb0 m ca cc Bs Post cs J) (hm1:m <=1000):∀(k i:Nat),i+k=m->∀X R w,J i X R w->∀e:Env,e 0= .p rb0->e 7= .slice ca m cc->e 8= .i (m:Int)->e 9= .i (i:Int)->ZA (Fin prog Post X 0) 43 (base 80) cs e [.code endLoop,.inLoop endLoop,.inBlock 0,.code Fc0] w:=by
 intro k
 induction k with
 |zero=>
  intro i hk X R w hJ e s0 s7 s8 s9;obtain⟨hM,hrb,hm,hca,hcc⟩:=hE.mem _ _ _ _ hJ;letI:Ctx prog:=X1 prog true;refine U200 ?_;intro hZ hb;rw[<- hrb]at s0;rw[<- hca,<- hm,<- hcc]at s7;rw[<- hm]at s8;refine U186 ?_;refine ZA.seq hZ ?_;obtain rfl:i=R.cl.length:=by omega
  refine U139 ?_;refine U391 ?_;refine U270 ?_;exact Lx0 hE (by rw[<- hm];exact hJ) (by rw[<- hrb];rfl)
 |succ k ih=>
  intro i hk X R w hJ e s0 s7 s8 s9;obtain⟨hM,hrb,hm,hca,hcc⟩:=hE.mem _ _ _ _ hJ;letI:Ctx prog:=X1 prog true;refine U200 ?_;intro hZ hb;rw[<- hrb]at s0;rw[<- hca,<- hm,<- hcc]at s7;rw[<- hm]at s8;refine U186 ?_;have M1:i<R.cl.length:=by omega
  obtain⟨c,hc⟩:∃c,R.cl[i]? =some c:=⟨_,List.getElem?_eq_getElem M1⟩
  refine U129 ?_;refine U272 ?_;refine U301 ?_;refine U309 ?_;refine U400 ?_;refine L.va (fx0 rfl) ?_;refine U116 ?_;refine U4 ?_;refine U436 ?_;refine U3 ?_;by_cases hwt:c.wt=false
  ·refine ZA.r6 hZ (rb hwt) ?_;refine ZA.skip hZ ?_;refine ZA.inBlock hZ ?_;refine U127 ?_;exact ih (i+1) (by omega) X R w (hE.skip i X R w c hJ hc hwt) _ (by rw[<- hrb];rfl) (by rw[<- hca,<- hm,<- hcc];rfl) (by rw[<- hm];rfl) rfl
  ·have hwt:c.wt=true:=by simpa using hwt
   refine ZA.w7 hZ (rb hwt) ?_;obtain⟨g,z1,me1,z9,hX0,hdn,L2,L9,O6⟩:=hE.stop i X R w c hJ hc hwt;have hg:=hM.rg;refine U81 ?_;refine U91 ?_;intro hR hC;refine W.mf0 11 (fun w'=>Below w.heap.size w w') (by kernel_rfl) (by kernel_rfl) (by kernel_rfl) (by kernel_rfl) ((Below.refl w.heap.size w).drew) ?_;refine U57 ?_;refine D.va (fun w' N1=>(E0 rfl underlying173 rfl ld0 (by decide))) ?_;refine D.va (fun w' N1=>(E0 rfl underlying45 rfl Xr0 (by decide))) ?_;refine D.va (fun w' N1=>(A0 rfl underlying43 rfl ((hR.j0 N1).q0 4 (v:=.slice (pt R.wb) R.m R.m) rfl))) ?_;refine D.va (fun w' N1=>(H4 rfl)) ?_;refine U57 ?_;refine D.va (fun w' N1=>(E0 rfl underlying248 rfl xb0 (by decide))) ?_;refine D.va (fun w' N1=>(G2 (cs:=[.i c.sp.kind,.i c.sp.obj,.i c.sp.num]) rfl underlying65 rfl xb0 rfl ((hC.j0 N1).X6 rfl))) ?_;refine D.va (fun w' N1=>ae0 (i:=i) rfl rfl underlying43 xb0 (Nat.lt_of_lt_of_le M1 hM.lcl)) ?_;refine U138 ?_;intro w I2 hg;have hR:=hR.j0 I2;have hC:=hC.j0 I2;clear I2;refine L.stW (i:=i) (z:=c.sp) hg (Nat.lt_of_lt_of_le M1 hM.lcl) rfl rfl xb0 (fun w hg V2=>?_);clear V2;refine L.nil ?_
   try clear hR
   try clear hC
   refine U97 ?_;refine ZA.seq hZ ?_;refine ZA.upto hZ hb 4 rfl rfl (R:=fun e' w'=>ZA _ _ _ _ e' _ w') ?_ (fun _ _ h=>h);refine U472 ?_;refine L.va (A0 rfl underlying246 rfl ((hg.m.blk i c hc).q0 2 (v:=.chan (some c.rc)) rfl)) ?_;refine U3 ?_;refine ZA.give (i:=4) (rest:=[]) (s:=⟨c.rc,z1,me1⟩) (j:=g) (st:=[(⟨R.rb,7,none⟩,.chan (some R.yb))]) (K:=fun s=>s.ch=R.yb/\s.z= .i 0/\∀X' R' u v,J (i+1) X' R' u->Fin prog Post X' 0 (Go.Conc.served s.me v) u) (ft:=60) hb rfl rfl rfl hX0 z9 hdn L2 ?_ ?_ ?_
   ·have hY:=xe0 (P:=prog) (main:=true) (l:=[((⟨R.rb,7,none⟩:Addr),Value.chan (some R.yb))]) (K:=fun s=>s.ch=R.yb/\s.z= .i 0/\∀X' R' u v,J (i+1) X' R' u->Fin prog Post X' 0 (Go.Conc.served s.me v) u);refine U292 ?_;refine U261 ?_;refine U249 ?_;refine M0.O1 (E:=3) (z:=.i 0) hb underlying170 zr3 rfl (fun me hs=>⟨rfl,rfl,?_⟩) rfl;intro X R' w v hJ';refine hs.go ?_;have hZ:Ctx.Zs prog (Fin prog Post X 0):=X5;refine U290 ?_;refine U127 ?_;exact ih (i+1) (by omega) X R' w hJ' _ (by rw[<- hrb];rfl) (by rw[<- hca,<- hm,<- hcc];rfl) (by rw[<- hm];rfl) rfl
   ·rintro s2 ⟨h1,_,_⟩;rw[h1];exact L9
   ·rintro⟨ch,z,me⟩ ⟨h1,h2,h3⟩;cases h1;cases h2;exact O6 _ me hg h3
set_option maxRecDepth 20000 in
theorem Fd0 {rb0 m:Nat} {ca:Option Addr} {cc:Nat} {Bs:Nat} {Post:Value->World->Prop} {cs:List Frame} {J:Nat->Gh->Rn->World->Prop} (hE:Rl0 rb0 m ca cc Bs Post cs J) (hm1:m <=1000) {X:Gh} {R:Rn} {w:World} (hJ:J 0 X R w):Fin prog Post X 0 (G (Frame.enter prog 80 #[.p rb0] .normal) cs) w:=by
 obtain⟨hM,hrb,hm,hca,hcc⟩:=hE.mem _ _ _ _ hJ;letI:Ctx prog:=X1 prog true;refine U200 ?_;intro hZ hb;rw[enter_at _ func80 rfl];rw[<- hrb];refine(?_:ZA (Fin prog Post X 0) 43 (base 80) cs (Vc.ax0 #[.p R.rb]) [.code (Tryz.f80.body.getD .skip)] w) _ (K7 _ _ rfl);refine ZA.seq hZ ?_;refine U4 ?_;refine U172 ?_;refine U401 ?_;refine U312 ?_;refine U303 ?_;exact Ly0 hE hm1 m 0 (by omega) X R w hJ _ (by rw[<- hrb];rfl) (by rw[<- hca,<- hm,<- hcc];rfl) (by rw[<- hm];rfl) rfl
end
end Go.Vy.Sc
end
section
namespace Go.Vy
open Go Go.Conc Go.Yc Go.RowKit
open Go.Vc Go.Wg
def ChanAt (w:World) (b:Nat):Prop:=w.heap[b]? =some (.chan 0 #[] false 0 0 false)
section
variable {w w':World}{b:Nat}
theorem ChanAt.lt (h:ChanAt w b):b<w.heap.size:=(Array.getElem?_eq_some_iff.1 h).1
theorem ChanAt.j0 (h:ChanAt w b) (hb:Below w.heap.size w w'):ChanAt w' b:=(hb.block b h.lt).trans h
theorem ChanAt.grown {row:Option Nat} (h:ChanAt w b) (hg:w.grownBy w' row) (hr:∀r,row=some r->∃cs T f,I1 w r cs T f):ChanAt w' b :=
 (hg.block b h.lt fun e=>by
  obtain⟨cs,T,f,h'⟩:=hr b e.symm;unfold ChanAt at h;unfold I1 at h';rw[h]at h';cases h').trans h
end
theorem L.makeChan {P:Program} [Ctx P] {n:Nat} {Q:Exit->Env->World->Prop} {e:Env} {w:World} {ops:Array Oper} {rest:List Oper} {d:Nat} {ty:TypeId} {ps:String} {af:Array Edge} {T E:TypeId} {x:Operand} {dd:ChanDir} (hx:ev e x= .int .i64 0) (hT:P.underlying T=some (.chan dd E)) (hi:∃z,(P.info? E).map (·.size)=some z)
  (k:∀w1,Below w.heap.size w w1->ChanAt w1 w.heap.size->w1.heap.size=w.heap.size+1->L P n ops Q rest (upd e d (.chan (some w.heap.size))) w1):L P n ops Q (⟨some d,.makeChan T x,ty,ps,af,none⟩::rest) e w:=by
 obtain⟨z,hz⟩:=hi;obtain⟨i,hi,_⟩:=Option.map_eq_some_iff.1 hz;refine L.va (v:=.chan (some w.heap.size)) (w':=w.alloc (.chan 0 #[] false 0 0 false)) (.O0 (P1 rfl _) rfl rfl fun τ d'=>?_) (k _ ((Below.refl _ _).alloc (Nat.le_refl _) _) (by unfold ChanAt;show(w.heap.push _)[_]? =_;simp) (by show(w.heap.push _).size=_;simp));have:=run_makeChan (P:=P) (w:=O2 w τ d') hT hi .i64 0 (by decide) (by simp);show _=Result.ok (Next.value (.chan (some (O2 w τ d').heap.size))) ((O2 w τ d').alloc (.chan 0 #[] false 0 0 false));simp only[execOp,hx];have h2:((0:Nat):Int)=0:=rfl;rw[h2]at this;simp[this]
section
variable {P:Program}{Post:Value->World->Prop}{X:Gh}{h n:Nat}{b:Frame}{cs:List Frame}{e:Env}{k:List Item}{w:World}
theorem ZA.freeze {bb:Nat} {cells:Array Value} {T:TypeId} {f:Nat×Nat} (hl:ky0 X bb) (hB:I1 w bb cells T (0,0)) (hz:ZA (Fin P Post (X.lower bb) h) n b cs e k (K1 w bb cells T f)):ZA (Fin P Post X h) n b cs e k w :=
 fun a ha=>Fin.freeze (f:=(0,0)) (f':=f) hl hB (fun i hi=>by unfold inR at hi;omega) (hz a ha)
def xh0 (X:Gh) (rb yb off:Nat):Gh:=⟨X.O1,Go.ConcN.upd X.stay 0 [(⟨rb,off-1,none⟩,.chan (some yb))],some ⟨rb,off⟩,X.A4.toList++X.old,X.T4,fun c=>X.chs c\/c=yb,fun k=>(X.low k\/k=yb)\/k=rb,X.L6,X.cap,X.pend,X.dn,X.n⟩
theorem ZA.begin {rb yb:Nat} {c8:Array Value} {T:TypeId} (wo0:X.cap=0) (hU:X.dx0 rb) (hUy:X.dx0 yb) (hpr:X.L6 rb= .all) (hpy:X.L6 yb= .all) (hch:ChanAt w yb) (hB:K0 w rb (c8 ++ #[.int .u64 0,.int .u32 0]) T) (h0:0<c8.size) (hy:c8[c8.size-1]? =some (.chan (some yb)))
  (hz:ZA (Fin P Post (xh0 X rb yb c8.size) 0) n b cs e k (K1 (P2 w yb nothing) rb c8 T (c8.size-1,c8.size))):ZA (Fin P Post X 0) n b cs e k w:=by
 have k4:yb≠rb:=by
  intro e;subst e;unfold ChanAt at hch;unfold K0 at hB;rw[hch]at hB;cases hB
 intro a ha;refine Fin.chan (b:=yb) (k:=0) (hUy.it0 (Nat.le_refl _)) (fun hl=>absurd (hUy.low _ hl) (Nat.lt_irrefl _)) hpy hch ?_;have k9:(P2 w yb nothing).heap[rb]? =some (.cells (c8 ++ #[.int .u64 0,.int .u32 0]) T (0,0)):=by rw[N6 _ _ k4];exact hB
 refine Fin.Wm0 (f':=(c8.size-1,c8.size)) (b:=rb) wo0 ?_ ?_ hpr k9 (Nat.zero_le _) ?_
 ·have hl:=hU.it0 (Nat.le_refl rb);exact⟨hl.stay,hl.T4,fun h=>h.elim hl.chs fun h=>k4 h.symm,hl.A4⟩
 ·intro h;rcases h with h|h
  ·exact absurd (hU.low _ h) (Nat.lt_irrefl _)
  ·exact k4 h.symm
 have Z1:(P2 (P2 w yb nothing) rb (.cells c8 T (c8.size-1,c8.size))).heap[rb]? =some (.cells c8 T (c8.size-1,c8.size)):=M7 _ k9;refine Fin.stay (l:=[(⟨rb,c8.size-1,none⟩,.chan (some yb))]) (fun p hp=>?_) (hz a ha);obtain rfl:p=(⟨rb,c8.size-1,none⟩,.chan (some yb)):=by simpa using hp
 exact⟨I1.cell (f:=(c8.size-1,c8.size)) Z1 hy,by rw[I1.frozen (f:=(c8.size-1,c8.size)) Z1];simp;omega⟩
end
end Go.Vy
end
section
namespace Go.Vy.Sc
open Go Go.Conc Go.Yc Go.RowKit Go.Proofs Go.Proofs.YtinppmaojmdmhaaGreat Tryz
open Go.Vc Go.Wg
section
attribute [local irreducible] KK
noncomputable def Fe0:Code:=match Tryz.f76.body with|some (.seq _ (.block _ (.loop c)))=>c|_=>.skip
def sp0:Stp:=⟨0,0,0⟩
abbrev J4 (cb rc:Nat):CB:=⟨cb,rc,sp0,.nilFunc,.nilFunc,0,false,false⟩
structure Yk0 (rb0 m:Nat) (ba:Option Addr) (fv:Nat->Value) (Bs:Nat) (Post:Value->World->Prop) (cs:List Frame) (J:Nat->Gh->Rn->World->Prop):Prop where
 sl:SL ba m
 fn:∀i,i<m->fv i= .nilFunc\/∃f fn caps,fv i= .func (.func f) #[] caps/\prog.funcs[f]? =some fn/\fn.body.isSome=true/\(fn.name== "runtime.NumGoroutine")=false
 mem:∀i X R w,J i X R w->S4 w Bs R/\R.rb=rb0/\R.cl.length=i/\R.m=m/\Bs <=w.heap.size/\X.dx0 w.heap.size/\∀j,j<m->w.cell? ⟨ab ba,ao ba+j*1,none⟩=some (fv j)
 nil:∀i X R w w' a n cb rc,i<m->J i X R w->fv i= .nilFunc->w.heap.size <=cb->w.heap.size <=rc->Rg R.fp w.heap.size w w' Bs {R with ca:=a,cc:=n,cl:=R.cl ++ [J4 cb rc],ends:=R.ends.set i 1}->J (i+1) (X.lower cb) {R with ca:=a,cc:=n,cl:=R.cl ++ [J4 cb rc],ends:=R.ends.set i 1} w'
 go:∀i X R w w' a n cb rc,i<m->J i X R w->fv i≠.nilFunc->w.heap.size <=cb->w.heap.size <=rc->cb≠rc->ChanAt w' rc->Rg R.fp w.heap.size w w' Bs {R with ca:=a,cc:=n,cl:=R.cl ++ [J4 cb rc]} ->
  X.A4=some ⟨rb0,8⟩/\X.pend=0/\X.cap<65536/\X.dn=0/\X.stay 0=[(⟨R.rb,7,none⟩,.chan (some R.yb))]/\(X.chs R.yb/\∀i s2,X.O1 i=some s2->s2.ch≠R.yb) /\
  ∀me0,(∀X' R' u v,J (i+1) X' R' u->Fin prog Post X' 0 (Go.Conc.served me0 v) u)->Fin prog Post (Gh.hire {X.lower cb with pend:=1,cap:=X.cap+1,dn:=0} ⟨R.yb,.i 0,me0⟩) X.n (born prog (dcall 128 #[.p cb,fv i])) w'
 fin:∀X R w,J m X R w->∀fr,fr.fn=76->Leaves prog fr w (.returned (.tuple #[]))->Fin prog Post X 0 (G fr cs) w
theorem gc1 (x0:Int) (x1:Option Addr) (x2:Option Nat):prog.built 248 [(0,.i x0),(1,.pointer x1),(2,.chan x2)]=some #[.i x0,.pointer x1,.chan x2,.i 0,.i 0,.i 0,.nilFunc,.nilFunc,.i 0,.bool false,.bool false]:=by kernel_rfl
set_option maxRecDepth 20000 in
theorem Lz0 {rb0 m:Nat} {ba:Option Addr} {fv:Nat->Value} {Bs:Nat} {Post:Value->World->Prop} {cs:List Frame} {J:Nat->Gh->Rn->World->Prop} (hE:Yk0 rb0 m ba fv Bs Post cs J) (hm1:m <=1000) {bc:Nat}:∀(k i:Nat),i+k=m->∀X R w1,J i X R w1->∀e:Env,e 0= .p rb0->e 7= .slice ba m bc->e 8= .i (m:Int)->e 9= .i (i:Int)->ZA (Fin prog Post X 0) 50 (base 76) cs e [.code Fe0,.inLoop Fe0,.inBlock 0] w1:=by
 intro k
 induction k with
 |zero=>
  intro i hk X R w1 hJ e s0 s7 s8 s9;obtain⟨hM,hrb,hlen,hRm,hBs,hU,gb0⟩:=hE.mem _ _ _ _ hJ;letI:Ctx prog:=X1 prog true;refine U320 ?_;intro hZ hb;rw[<- hrb]at s0;refine U186 ?_;have hg:=hM.rg;refine U129 ?_;refine U270 ?_;refine ZA.done hZ ?_;obtain rfl:i=m:=by omega
  exact ZA.leaves (fn:=Tryz.f76) (f:=76) rfl func76 rfl (hE.fin X R w1 hJ)
 |succ k ih=>
  intro i hk X R w1 hJ e s0 s7 s8 s9;obtain⟨hM,hrb,hlen,hRm,hBs,hU,gb0⟩:=hE.mem _ _ _ _ hJ;letI:Ctx prog:=X1 prog true;refine U320 ?_;intro hZ hb;rw[<- hrb]at s0;refine U186 ?_;have hg:=hM.rg;have M1:i<m:=by omega
  refine U129 ?_;refine U272 ?_;refine U301 ?_;refine U309 ?_;refine L.va (p9 (i:=i) rfl rfl underlying101 dq1 hE.sl M1) ?_;refine L.va (A0 (v:=fv i) rfl underlying72 rfl (gb0 i M1)) ?_;refine L.va (fx0 rfl) ?_;refine L.va G7 ?_;refine U3 ?_;refine U309 ?_;refine L.va (W2 rfl) ?_;refine L.makeChan rfl underlying246 ⟨_,sz4⟩ (fun w2 I2 hch gd1=>?_);obtain⟨rc,hrc⟩:∃rc,rc=w1.heap.size:=⟨_,rfl⟩
  have lrc:w1.heap.size <=rc:=Nat.le_of_eq hrc.symm;rw[<- hrc]at hch⊢;have hg:=hg.j0 I2;refine L.va (R2 (parts:=[(0,.tmp 14),(1,.tmp 15),(2,.tmp 16)]) rfl (gc1 (i:Int) ((pt R.rb)) (some rc))) ?_;refine L.box (cs:=(J4 0 rc).cells R.rb i) rfl rfl (fun w3 cb F=>?_);have lcb:w1.heap.size <=cb:=by have:=F.here;have:=I2.size;omega
  have k4:cb≠rc:=by have:=F.here;omega
  have hg:=hg.j0 F.below;have hch:=hch.j0 F.below;have hX:=D3 F.blk;have hBs:=Nat.le_trans hBs (Nat.le_trans I2.size F.below.size);clear F I2;refine U116 ?_;have hfb:∀k,R.fp k->k≠cb:=fun k hk e=>by have:=hM.lt hk;omega
  refine ZA.freeze (f:=(0,3)) (hU.it0 lcb) hX ?_;have hg:=hg.fresh ((J4 0 rc).cells R.rb i) 248 (0,3) hfb lcb;have hch:ChanAt (K1 w3 cb ((J4 0 rc).cells R.rb i) 248 (0,3)) rc:=hch.grown (Y1 _ _ _ _ _) (fun r e=>by cases e;exact⟨_,_,_,hX⟩);have hX:I1 (K1 w3 cb ((J4 0 rc).cells R.rb i) 248 (0,3)) cb ((J4 cb rc).cells R.rb R.cl.length) 248 (0,3):=by rw[hlen];exact j5 hX _ _ _
  rw[<- n6 (w:=w3) (b:=cb) (cs:=(J4 0 rc).cells R.rb i) (T:=248) (f:=(0,3))]at hBs;generalize K1 w3 cb ((J4 0 rc).cells R.rb i) 248 (0,3)=w at *;have hZ:Ctx.Zs prog (Fin prog Post (X.lower cb) 0):=X5;refine U16 ?_;refine U172 ?_;refine L.va (A0 rfl underlying171 rfl (hg.m.run.q0 0 (v:=.slice R.ca R.cl.length R.cc) rfl)) ?_;refine L.va (W2 rfl) ?_;refine L.dm0 (cs:=#[.p cb]) rfl rfl underlying171 zm0 rfl ⟨_,Up0⟩ (by decide) (fun w b25 F25=>?_);have hBs:=Nat.le_trans hBs F25.below.size;have hg:=hg.j0 F25.below;have hch:=hch.j0 F25.below;have hX:=hX.j0 F25.below;have li0:=F25.blk;have hX0:=hX;have hR:=hg.m.run;refine L.fr0 (B:=Bs) (m:=1) rfl rfl underlying171 Kr0 rfl (by decide) hg.m.cls (news:=[.p cb]) rfl (fun j u hj=>by
   rw[Addr.add_lit]
   match j,hj with
   |0,hj=>cases hj;exact li0.q0 0 rfl) (fun u hu=>by simp only[List.mem_cons,List.not_mem_nil,or_false]at hu;subst hu;rfl) (by omega) (by omega) hBs (fun a26 c26 w2 hO V2 hli=>?_)
  have hch:=hch.grown V2 (Rh0 hg.m.cls);have hX:=True.intro;have hR:=N2 hR V2 (q5 hg.m.cls (by decide));refine L.va (Z0 rfl) ?_;refine L.va (E0 rfl underlying173 rfl Ku0 (by decide)) ?_;refine L.la1 hg (J4 cb rc) hX0 (.inr lcb) (by rw[hlen,hRm];exact M1) V2 hO hli rfl rfl Ku0 (fun w hg ge1=>?_);have hch:=hch.grown ge1 (fun r e=>by cases e;exact⟨_,_,_,hR⟩);clear ge1 V2 hO hli;refine U13 ?_;refine ZA.seq hZ ?_;by_cases Go0:fv i= .nilFunc
  ·refine ZA.W hZ hb ?_;refine U119 ?_;refine L.va (bn0 (v:=fv i) (b:=true) rfl (.inl ⟨Go0,rfl⟩) rfl underlying72 ⟨_,_,_,rfl⟩) ?_;refine U47 ?_;refine U4 ?_;refine U273 ?_;refine L.va (E0 rfl underlying45 rfl Cl0 (by decide)) ?_;refine L.va (A0 rfl underlying37 rfl (hg.m.run.q0 3 (v:=.slice (pt R.eb) R.m R.m) rfl)) ?_;refine L.va (H4 rfl) ?_;refine L.va (ae0 (i:=i) rfl rfl underlying37 sz3 (by rw[hRm];exact M1)) ?_;refine L.stE (i:=i) hg (by show i<R.m;rw[hRm];exact M1) rfl rfl sz3 (fun w hg V2=>?_);clear V2;refine U3 ?_;refine ZA.exit hZ rfl ?_;refine U127 ?_;exact ih (i+1) (by omega) _ _ w (hE.nil i X R w1 w _ _ cb rc M1 hJ Go0 lcb lrc hg) _ (by rw[<- hrb];rfl) rfl rfl rfl
  ·refine ZA.W hZ hb ?_;refine U119 ?_;obtain⟨f,fn,caps,hfv,hff,hbd,hnm⟩:=(hE.fn i M1).resolve_left Go0;refine L.va (bn0 (v:=fv i) (b:=false) rfl (.inr ⟨_,_,_,hfv,rfl⟩) rfl underlying72 ⟨_,_,_,rfl⟩) ?_;refine U66 ?_;obtain⟨Qa0,Eh0,wo0,hdn,L2,L9,hgo⟩:=hE.go i X R w1 w _ _ cb rc M1 hJ Go0 lcb lrc k4 hch hg;refine ZA.upto hZ hb 3 rfl rfl (R:=fun e' w'=>ZA _ _ _ _ e' _ w') ?_ (fun _ _ h=>h);refine U297 ?_;refine U471 ?_;refine ZA.call (i:=3) (rest:=[]) hZ hb (f:=60) (args:=#[.pointer (some ⟨R.rb,8,none⟩),.i 1]) rfl rfl (A2 rfl rfl func60 rfl eh1 rfl) (fun a ha=>?_);have hXe:X.lower cb={X.lower cb with dn:=0}:=by show X.lower cb={X.lower cb with dn:=0};cases X;simp only[Gh.lower]at hdn⊢;subst hdn;rfl
   rw[hXe,hrb];refine Fin.Qf0 (G:=⟨rb0,8⟩) (X:=X.lower cb) (K:=fun g'=>g'=_) Qa0 Eh0 wo0 (fun g' K9=>?_) _ _ _ (ft1 ⟨rb0,8⟩ (fun g'=>g'=_) rfl);subst K9;refine ZA.home (i:=3) rfl rfl ha ?_;have hZ:Ctx.Zs prog (Fin prog Post {X.lower cb with pend:=1,cap:=(X.lower cb).cap+1,dn:=0} 0):=X5;refine U46 ?_;refine ZA.upto hZ hb 2 rfl rfl (R:=fun e' w'=>ZA _ _ _ _ e' _ w') ?_ (fun _ _ h=>h);refine U118 ?_;refine L.va A5 ?_;refine U3 ?_;refine ZA.spawn (i:=2) (rest:=[]) (gr:=⟨rb0,8⟩) (vs:=#[.p cb,fv i]) (st:=[(⟨R.rb,7,none⟩,.chan (some R.yb))]) (K:=fun s=>s.ch=R.yb/\s.z= .i 0/\∀X' R' u v,J (i+1) X' R' u->Fin prog Post X' 0 (Go.Conc.served s.me v) u) (ft:=60) hb rfl (Wg.ao0 (vl:=[.p cb,fv i]) rfl) rfl rfl Qa0 L2 ?_ ?_ ?_
   ·have hY:=xe0 (P:=prog) (main:=true) (l:=[((⟨R.rb,7,none⟩:Addr),Value.chan (some R.yb))]) (K:=fun s=>s.ch=R.yb/\s.z= .i 0/\∀X' R' u v,J (i+1) X' R' u->Fin prog Post X' 0 (Go.Conc.served s.me v) u);refine U292 ?_;refine U261 ?_;refine U249 ?_;refine M0.O1 (E:=3) (z:=.i 0) hb underlying170 zr3 rfl (fun me hs=>⟨rfl,rfl,?_⟩) rfl;intro X' R' w v hJ';refine hs.go ?_;have hZ:Ctx.Zs prog (Fin prog Post X' 0):=X5;refine U290 ?_;refine U127 ?_;exact ih (i+1) (by omega) X' R' w hJ' _ (by rw[<- hrb];rfl) rfl rfl rfl
   ·rintro s2 ⟨h1,_,_⟩;rw[h1];exact L9
   ·rintro⟨ch,z,me⟩ ⟨h1,h2,h3⟩;cases h1;cases h2;exact hgo me h3
set_option maxRecDepth 20000 in
theorem Rm0 {rb0 m:Nat} {ba:Option Addr} {fv:Nat->Value} {Bs:Nat} {Post:Value->World->Prop} {cs:List Frame} {J:Nat->Gh->Rn->World->Prop} (hE:Yk0 rb0 m ba fv Bs Post cs J) (hm1:m <=1000) {bc:Nat} {X:Gh} {R:Rn} {w:World} (hJ:J 0 X R w):Fin prog Post X 0 (G (Frame.enter prog 76 #[.p rb0,.slice ba m bc] .normal) cs) w:=by
 obtain⟨hM,hrb,hlen,hRm,hBs,hU,gb0⟩:=hE.mem _ _ _ _ hJ;letI:Ctx prog:=X1 prog true;refine U320 ?_;intro hZ hb;rw[enter_at _ func76 rfl];rw[<- hrb];have hg:=hM.rg;refine(?_:ZA (Fin prog Post X 0) 50 (base 76) cs (Vc.ax0 #[.p R.rb,.slice ba m bc]) [.code (Tryz.f76.body.getD .skip)] w) _ (K7 _ _ rfl);refine U4 ?_;refine U177 ?_;refine U312 ?_;refine U303 ?_;exact Lz0 hE hm1 m 0 (by omega) X R w hJ _ (by rw[<- hrb];rfl) rfl rfl rfl
end
section
attribute [local irreducible] KK
noncomputable def Ff0:Code:=match Tryz.f41.body with|some (.seq _ (.seq _ (.seq _ (.seq _ (.seq _ (.seq _ (.seq _ (.seq (.seq _ (.block _ (.loop c))) _))))))))=>c|_=>.skip
noncomputable def xi0:Code:=match Tryz.f41.body with|some (.seq _ (.seq _ (.seq _ (.seq _ (.seq _ (.seq _ (.seq _ (.seq _ c))))))))=>c|_=>.skip
def rn0 (rb yb eb wb m:Nat):Rn:=⟨rb,yb,eb,wb,m,none,0,[],none,0,[],none,0,[],List.replicate m 0,List.replicate m sp0,false,0⟩
def cc0 (e:Int) (n:Nat):Nat:=(e%(n:Int)).toNat
theorem He0 (e:Int) {n:Nat} (hn:0<n):cc0 e n<n:=by
 refine U505 ?_;intro h1 h2;unfold cc0;omega
theorem gf1 (e:Int) {n:Nat} (hn:0<n):(e.tmod (n:Int)+(n:Int)).tmod (n:Int)=((cc0 e n:Nat):Int):=by
 refine U505 ?_;intro h1 h2;have h3:-(n:Int)<e.tmod (n:Int):=by
  have:=Int.lt_tmod_of_pos e (b:=(n:Int)) (by omega);omega
 have h4:((cc0 e n:Nat):Int)=e%(n:Int):=by unfold cc0;omega
 rw[h4,Int.tmod_eq_emod_of_nonneg (by omega),Int.add_emod_right];rw[Int.tmod_eq_emod];split
 ·simp
 ·rw[Int.sub_emod,Int.emod_emod];have:(((n:Int).natAbs:Int))%(n:Int)=0:=by simp
  rw[this,Int.sub_zero,Int.emod_emod]
theorem Fg0 (e:Int) {n:Nat} (hn:0<n) (h:n <=1000):-1000 <=e.tmod (n:Int)/\e.tmod (n:Int) <=1000:=by
 have h1:=Int.lt_tmod_of_pos e (b:=(n:Int)) (by omega);have h2:=Int.tmod_lt_of_pos e (b:=(n:Int)) (by omega);omega
structure Ma0 (rb0 m sn tb:Nat) (ba sa:Option Addr) (fv:Nat->Value) (sc:Nat->Int) (Bs:Nat) (Post:Value->World->Prop) (JB J2 JE:Nat->Gh->Rn->World->Prop) (rr:Nat->Nat->Bool):Prop where
 beg:∀cs,(∀X R w,JB m X R w->∀fr,fr.fn=76->Leaves prog fr w (.returned (.tuple #[]))->Fin prog Post X 0 (G fr cs) w)->Yk0 rb0 m ba fv Bs Post cs JB
 b2s:∀X R w,JB m X R w->J2 0 X R w
 ssl:SL sa sn
 mem:∀n X R w,J2 n X R w->S4 w Bs R/\R.rb=rb0/\R.cl.length=m/\Bs <=w.heap.size/\R.evs.length <=1000000/\R.used <=1000000/\(∀(i:Nat) (c:CB),R.cl[i]? =some c->c.S1 <=1000000)/\∀j,j<sn->w.cell? ⟨ab sa,ao sa+j*1,none⟩=some (.i (sc j))
 j0:∀n X R w w',J2 n X R w->Below w.heap.size w w'->J2 n X R w'
 rdy:∀n X R w,J2 n X R w->∀(i:Nat) (c:CB),R.cl[i]? =some c->c.wt=true->@xd0 (X1 prog true) w c.rf (rr n i)
 pick:∀n X R w i c,J2 n X R w->n<sn->(rdl R.cl (rr n) m)[cc0 (sc n) (rdl R.cl (rr n) m).length]? =some i->R.cl[i]? =some c->∃g z1 me1,g≠0/\X.O1 g=some ⟨c.rc,z1,me1⟩/\X.dn=0/\X.stay 0=[(⟨R.rb,7,none⟩,.chan (some R.yb))]/\(X.chs R.yb/\∀i s2,i≠g->X.O1 i=some s2->s2.ch≠R.yb) /\
  ∀w' a nn me0,Rg R.fp w.heap.size w w' Bs {R with ea:=a,ec:=nn,evs:=R.evs ++ [(i,c.sp)],used:=R.used+1,cl:=R.cl.set i {c with S1:=c.S1+1,wt:=false}}->(∀X' R' u v,J2 (n+1) X' R' u->Fin prog Post X' 0 (Go.Conc.served me0 v) u)->Fin prog Post (X.pass 0 g (some ⟨R.yb,.i 0,me0⟩)) g (Go.Conc.served me1 (.bool true)) w'
 toE:∀n X R w w' b,J2 n X R w->(n=sn\/rdl R.cl (rr n) m=[])->b=(R.cl.any (·.wt)&&(rdl R.cl (rr n) m).isEmpty)->Rg R.fp w.heap.size w w' Bs {R with stuck:=b}->JE 0 X {R with stuck:=b} w'
 en:∀ca cc cs,(∀X R w,JE m X R w->R.ca=ca->R.cc=cc->∀fr,fr.fn=80->Leaves prog fr w (.returned (.tuple #[]))->Fin prog Post {X with pend:=0,cap:=0,dn:=0} 0 (G fr cs) w)->Rl0 rb0 m ca cc Bs Post cs (fun i X R w=>JE i X R w/\R.ca=ca/\R.cc=cc)
 ld1:∀X R w,JE m X R w->S4 w Bs R/\R.rb=rb0/\I1 w tb #[.slice none 0 0,.slice none 0 0,.slice none 0 0,.slice none 0 0,.bool false,.i 0] 45 (0,0)
abbrev Mb0 (R:Rn):Value:=.agg #[.slice R.ea R.evs.length R.ec,.slice R.na R.nts.length R.nc,.slice (pt R.eb) R.m R.m,.slice (pt R.wb) R.m R.m,.bool R.stuck,.i (R.used:Int)]
structure Rn0 (m tb:Nat) (Post:Value->World->Prop) (cs:List Frame) (JE:Nat->Gh->Rn->World->Prop):Prop where
 ret:∀X R w w' fr,JE m X R w->w.grownBy w' (some tb)->fr.fn=41->Leaves prog fr w' (.returned (.tuple #[Mb0 R,.i 0]))->Fin prog Post {X with pend:=0,cap:=0,dn:=0} 0 (G fr cs) w'
theorem ox0 {Z:Goroutine->World->Prop} {n:Nat} {cs:List Frame} {e:Env} {w:World} {t u b:Nat} {T E:TypeId} {fn:Func} {f:FuncId} {cells:Array Value} {d:TypeDesc} {v:Value} (hf:prog.funcs[f]? =some fn) (hr:fn.results=#[.cell t T,.tmp u]) (he:e t= .p b) (hu0:e u=v) (hT:prog.underlying T=some d) (hu:az0 d=false) (hB:K0 w b cells E) (hs:(prog.info? T).map (·.size)=some cells.size)
  (h:∀fr,fr.fn=f->Leaves prog fr w (.returned (.tuple #[.agg cells,v]))->Z (G fr cs) w):ZR Z n (base f) cs e w:=by
 intro todo a ha;letI:Ctx prog:=X1 prog true;have h1:ends prog fn (fun v' w'=>v'= .tuple #[.agg cells,v]/\w'=w) .ret e w:=ends.Qr0 (.inr rfl) hr he hT hu hs hB ⟨by rw[hu0],rfl⟩;obtain⟨_,v',h2,h3,h4⟩:=h1;subst h3;refine h _ rfl ⟨rfl,ha.defers,rfl,fn,hf,?_⟩;exact h2 _ ha.get
noncomputable def Ro0:Code:=match xi0 with| .seq _ (.seq _ c)=>c|_=>.skip
theorem Mc0 {l:List Nat} (n:Nat) (h:l.length=n:=by rfl):decide (((n:Nat):Int)=0)=l.isEmpty:=by
 subst h;cases l <;> simp
 omega
theorem Yl0 {cl:List CB} {r:Nat->Bool} {m j i:Nat} (h:(rdl cl r m)[j]? =some i):∃c,cl[i]? =some c:=by
 have:=List.mem_of_getElem? h;simp only[rdl,List.mem_filter,Bool.and_eq_true]at this;cases hc:cl[i]? with
 |none=>rw[hc]at this;simp at this
 |some c=>exact⟨c,rfl⟩
theorem Md0 {cl:List CB} {r:Nat->Bool} {m j i:Nat} {c:CB} (h:(rdl cl r m)[j]? =some i) (hc:cl[i]? =some c):((rdl cl r m).map (Ll0 cl))[j]? =some (.p c.cb):=by
 rw[List.getElem?_map,h];simp[Ll0,hc]
set_option maxRecDepth 20000 in
theorem Rp0 {rb0 m sn tb:Nat} {ba sa:Option Addr} {fv:Nat->Value} {sc:Nat->Int} {Bs:Nat} {Post:Value->World->Prop} {cs:List Frame} {JB J2 JE:Nat->Gh->Rn->World->Prop} {rr:Nat->Nat->Bool} (hE:Ma0 rb0 m sn tb ba sa fv sc Bs Post JB J2 JE rr) (hT:Rn0 m tb Post cs JE) {X:Gh} {R:Rn} {w:World} (hJ:JE m X R w) {e:Env} {ops:Array Oper} (s6:e 6= .p rb0) (s4:e 4= .p tb):ZA (Fin prog Post {X with pend:=0,cap:=0,dn:=0} 0) 83 (base 41) cs e [.inRegion ops [],.code Ro0] w:=by
 obtain⟨hM,hrb,hT0⟩:=hE.ld1 _ _ _ hJ;letI:Ctx prog:=X1 prog true;have hZ:Ctx.Zs prog (Fin prog Post {X with pend:=0,cap:=0,dn:=0} 0):=X5;have hb:=E1 41;rw[<- hrb]at s6;rw[V0 s6,V0 s4];clear s6 s4;refine ZA.D4 hZ ?_;refine U4 ?_;refine U273 ?_;refine L.va (G2 (cs:=[.slice R.ea R.evs.length R.ec,.slice R.na R.nts.length R.nc,.slice (pt R.eb) R.m R.m,.slice (pt R.wb) R.m R.m,.bool R.stuck,.i (R.used:Int)]) rfl underlying45 rfl ld0 rfl (hM.run.X6 rfl)) ?_;refine L.put (b:=tb) (o:=0) (s:=6) (vs:=[.slice R.ea R.evs.length R.ec,.slice R.na R.nts.length R.nc,.slice (pt R.eb) R.m R.m,.slice (pt R.wb) R.m R.m,.bool R.stuck,.i (R.used:Int)]) #[.slice R.ea R.evs.length R.ec,.slice R.na R.nts.length R.nc,.slice (pt R.eb) R.m R.m,.slice (pt R.wb) R.m R.m,.bool R.stuck,.i (R.used:Int)] rfl rfl rfl ld0 rfl rfl hT0 (Nat.le_of_ble_eq_true rfl) rfl (fun w2 hB V2 K2=>?_);refine U308 ?_;refine ZA.ret hZ ?_;exact ox0 (u:=5) (v:=.i 0) func41 rfl rfl rfl underlying45 rfl hB ld0 (fun fr h8 h9=>hT.ret X R w w2 fr hJ V2 h8 h9)
set_option maxRecDepth 20000 in
theorem zp0 {rb0 m sn tb:Nat} {ba sa:Option Addr} {fv:Nat->Value} {sc:Nat->Int} {Bs:Nat} {Post:Value->World->Prop} {cs:List Frame} {JB J2 JE:Nat->Gh->Rn->World->Prop} {rr:Nat->Nat->Bool} (hE:Ma0 rb0 m sn tb ba sa fv sc Bs Post JB J2 JE rr) (hT:Rn0 m tb Post cs JE) (hm1:m <=16) (_hs1:sn <=1000000) {n:Nat} {X:Gh} {R:Rn} {w:World} (hJ:J2 n X R w) (hn:n=sn\/rdl R.cl (rr n) m=[]) {e:Env} (s6:e 6= .p rb0) (s4:e 4= .p tb):ZA (Fin prog Post X 0) 83 (base 41) cs e [.code xi0] w:=by
 obtain⟨hM,hrb,hlen,hBs,hev,hus,hpk,gb0⟩:=hE.mem _ _ _ _ hJ;letI:Ctx prog:=X1 prog true;refine U201 ?_;intro hZ hb;rw[<- hrb]at s6;rw[V0 s6,V0 s4];clear s6 s4;have hg:=hM.rg;refine U16 ?_;refine L.va (W2 rfl) ?_;refine L.call (D2 rfl func79 rfl kr1 rfl) (Cp0 R Bs w hM (by omega)) ?_;rintro _ w1 ⟨rfl,hw⟩;refine U14 ?_;by_cases Rq0:R.cl.any (·.wt)=true
 ·rw[Rq0];refine U22 ?_;refine L.call (D2 rfl func77 rfl ek1 rfl) (uu0 R Bs w hM (by omega) (rr n) (hE.rdy n X R w hJ)) ?_;rintro _ w2 ⟨la,lc,rfl,hO,I2⟩;rw[hlen];have hg:=hg.j0 I2;refine L.on rfl ?_;refine L.va (u7 rfl underlying171 rfl) ?_;refine L.on rfl ?_;refine L.va (bv0 rfl rfl) ?_;refine L.va (r7 rfl) ?_;refine U480 ?_;refine L.stR (o:=5) (vs:=[.bool (decide ((((rdl R.cl (rr n) m).length:Nat):Int)=0))]) hg (decide ((((rdl R.cl (rr n) m).length:Nat):Int)=0)) R.used rfl rfl rfl sz4 rfl rfl (by decide) rfl (fun w hg V2=>?_);clear V2;refine U3 ?_;have hJE:=hE.toE n X R _ w _ hJ hn (by rw[Rq0,Bool.true_and];exact Mc0 _) hg;refine ZA.seq hZ ?_;refine ZA.upto hZ hb 1 rfl rfl (R:=fun e' w'=>ZA _ _ _ _ e' _ w') ?_ (fun _ _ h=>h);refine U118 ?_;refine U449 ?_;intro a ha;rw[hrb];refine Fd0 (hE.en R.ca R.cc _ (fun X' R' u hJ' hca hcc fr h8 h9=>?_)) (by omega) ⟨hJE,rfl,rfl⟩;exact U453
 ·rw[show R.cl.any (·.wt)=false by simpa using Rq0];refine U280 ?_;refine L.va (P6 rfl) ?_;refine U480 ?_;refine L.stR (o:=5) (vs:=[.bool false]) hg false R.used rfl rfl rfl sz4 rfl rfl (by decide) rfl (fun w hg V2=>?_);clear V2;refine U3 ?_;have hJE:=hE.toE n X R _ w _ hJ hn (by rw[show R.cl.any (·.wt)=false by simpa using Rq0];rfl) hg;refine ZA.seq hZ ?_;refine ZA.upto hZ hb 1 rfl rfl (R:=fun e' w'=>ZA _ _ _ _ e' _ w') ?_ (fun _ _ h=>h);refine U118 ?_;refine U449 ?_;intro a ha;rw[hrb];refine Fd0 (hE.en R.ca R.cc _ (fun X' R' u hJ' hca hcc fr h8 h9=>?_)) (by omega) ⟨hJE,rfl,rfl⟩;exact U453
set_option maxRecDepth 20000 in
theorem Me0 {rb0 m sn tb:Nat} {ba sa:Option Addr} {fv:Nat->Value} {sc:Nat->Int} {Bs:Nat} {Post:Value->World->Prop} {cs:List Frame} {JB J2 JE:Nat->Gh->Rn->World->Prop} {rr:Nat->Nat->Bool} (hE:Ma0 rb0 m sn tb ba sa fv sc Bs Post JB J2 JE rr) (hT:Rn0 m tb Post cs JE) (hm1:m <=16) (hs1:sn <=1000000) {scp:Nat}:∀(k n:Nat),n+k=sn->∀X R w,J2 n X R w->∀e:Env,e 6= .p rb0->e 39= .slice sa sn scp->e 40= .i (sn:Int)->e 41= .i (n:Int)->e 4= .p tb->e 1= .slice sa sn scp->ZA (Fin prog Post X 0) 83 (base 41) cs e [.code Ff0,.inLoop Ff0,.inBlock 0,.code xi0] w:=by
 intro k
 induction k with
 |zero=>
  intro n hk X R w hJ e s6 s39 s40 s41 s4 s1;obtain⟨hM,hrb,hlen,hBs,hev,hus,hpk,gb0⟩:=hE.mem _ _ _ _ hJ;letI:Ctx prog:=X1 prog true;refine U201 ?_;intro hZ hb;rw[<- hrb]at s6;refine U444 ?_;refine U129 ?_;refine U270 ?_;obtain rfl:n=sn:=by omega
  exact zp0 hE hT hm1 hs1 hJ (.inl rfl) (by rw[<- hrb];rfl) rfl
 |succ k ih=>
  intro n hk X R w hJ e s6 s39 s40 s41 s4 s1;obtain⟨hM,hrb,hlen,hBs,hev,hus,hpk,gb0⟩:=hE.mem _ _ _ _ hJ;letI:Ctx prog:=X1 prog true;refine U201 ?_;intro hZ hb;rw[<- hrb]at s6;refine U444 ?_;have M1:n<sn:=by omega
  refine U129 ?_;refine U272 ?_;refine U301 ?_;refine U4 ?_;refine L.va (p9 (i:=n) rfl rfl underlying37 sz3 hE.ssl M1) ?_;refine L.va (A0 (v:=.i (sc n)) rfl underlying3 rfl (gb0 n M1)) ?_;refine U308 ?_;refine U16 ?_;refine L.call (D2 rfl func77 rfl ek1 rfl) (uu0 R Bs w hM (by omega) (rr n) (hE.rdy n X R w hJ)) ?_;rintro _ w2 ⟨la,lc,rfl,hO,I2⟩;rw[hlen]at hO⊢;have hJ:=hE.j0 n X R w w2 hJ I2;clear hM hBs gb0 I2;clear hev hus hpk;obtain⟨hM,_,_,hBs,hev,hus,hpk,gb0⟩:=hE.mem _ _ _ _ hJ;refine L.va (oa0 rfl) ?_;refine U13 ?_;refine U509 ?_;refine L.va (bv0 rfl rfl) ?_;refine U3 ?_;by_cases hnl:(rdl R.cl (rr n) m).length=0
  ·refine ZA.w7 hZ (rb (decide_eq_true (by omega))) ?_;refine ZA.exit hZ rfl ?_;exact zp0 hE hT hm1 hs1 hJ (.inr (List.eq_nil_of_length_eq_zero hnl)) (by rw[<- hrb];rfl) rfl
  ·refine ZA.r6 hZ (rb (decide_eq_false (by omega))) ?_;refine ZA.skip hZ ?_;refine U509 ?_;refine U308 ?_;have hln:(rdl R.cl (rr n) m).length <=16:=Nat.le_trans (Co0 m) hm1;have htb:=Fg0 (sc n) (n:=(rdl R.cl (rr n) m).length) (by omega) (by omega);have hpl:=He0 (sc n) (n:=(rdl R.cl (rr n) m).length) (by omega);obtain⟨i,hi⟩:∃i,(rdl R.cl (rr n) m)[cc0 (sc n) (rdl R.cl (rr n) m).length]? =some i:=⟨_,List.getElem?_eq_getElem hpl⟩
   obtain⟨c,hc⟩:=Yl0 hi;refine ZA.upto hZ hb 11 rfl rfl (R:=fun e' w'=>ZA _ _ _ _ e' _ w') ?_ (fun _ _ h=>h);refine U118 ?_;refine U77 ?_;refine L.va (H4 rfl) ?_;refine L.va (jt0 rfl rfl (by omega)) ?_;refine L.va (H4 rfl) ?_;refine U176 ?_;refine L.va (v:=.i ((cc0 (sc n) (rdl R.cl (rr n) m).length:Nat):Int)) (by rw[<- gf1 (sc n) (n:=(rdl R.cl (rr n) m).length) (by omega)];exact jt0 rfl rfl (by omega)) ?_;refine L.va (p9 (i:=cc0 (sc n) (rdl R.cl (rr n) m).length) rfl rfl underlying171 zm0 hO.sl hpl) ?_;refine L.va (A0 (v:=.p c.cb) rfl underlying123 rfl (by rw[hO.off,Nat.zero_add,Nat.mul_one];exact hO.cell (Md0 hi hc))) ?_;refine U3 ?_;obtain⟨g,z1,me1,z9,hX0,hdn,L2,L9,O6⟩:=hE.pick n X R w2 i c hJ M1 hi hc;refine ZA.call (i:=11) (rest:=[]) hZ hb (f:=78) (args:=#[.p R.rb,.p c.cb]) rfl rfl (A2 rfl rfl func78 rfl kq1 rfl) (fun a ha=>?_);refine Lw0 hM.rg hBs hc hev (hpk i c hc) hus z9 hX0 hdn L2 L9 (fun w' a' nn me0 hg hme=>O6 w' a' nn me0 hg (fun X' R' u v hJ'=>hme _ X5 u v fun fr h8 h9=>?_));refine ZA.back (fa0 prog Post X' 0) (i:=11) rfl rfl ha h9 ?_;have hZ:Ctx.Zs prog (Fin prog Post X' 0):=X5;refine U290 ?_;refine U127 ?_;exact ih (n+1) (by omega) X' R' u hJ' _ (by rw[<- hrb];rfl) rfl rfl rfl rfl rfl
end
section
attribute [local irreducible] KK
theorem Mf0 (m:Nat):(Array.replicate (m*1) (Value.i 0))=((List.replicate m (0:Int)).map (Value.int .i64)).toArray:=by
 rw[Nat.mul_one];apply Array.toList_inj.1;simp
theorem Mg0 (m:Nat):(Array.replicate (m*3) (Value.i 0))=((List.replicate m sp0).flatMap spC).toArray:=by
 apply Array.toList_inj.1;simp only[Array.toList_replicate]
 induction m with
 |zero=>rfl
 |succ m ih=>
  rw[List.replicate_succ,List.flatMap_cons,<- ih,Nat.succ_mul,Nat.add_comm (m*3) 3,<- List.replicate_append_replicate];rfl
structure Vp0 (w0 w:World) (rb yb eb wb tb m:Nat):Prop where
 mem:S4 w w0.heap.size (rn0 rb yb eb wb m)
 low:Below w0.heap.size w0 w
 le:w0.heap.size <=rb/\w0.heap.size <=yb/\w0.heap.size <=eb/\w0.heap.size <=wb/\w0.heap.size <=tb
 yb:w.heap[yb]? =some nothing
 tb:I1 w tb #[.slice none 0 0,.slice none 0 0,.slice none 0 0,.slice none 0 0,.bool false,.i 0] 45 (0,0)
theorem gg1 (x0:Option Nat):prog.built 173 [(2,.chan x0)]=some #[.slice none 0 0,.slice none 0 0,.slice none 0 0,.slice none 0 0,.slice none 0 0,.bool false,.i 0,.chan x0,.int .u64 0,.int .u32 0]:=by kernel_rfl
set_option maxRecDepth 20000 in
theorem Rr0 {ba sa:Option Addr} {m bc sn scp:Nat} {fv:Nat->Value} {sc:Nat->Int} {Post:Value->World->Prop} {cs:List Frame} {X:Gh} {w0:World} (hm1:m <=16) (hs1:sn <=262144) (hU:X.dx0 w0.heap.size) (hpl:∀b,w0.heap.size <=b->X.L6 b= .all) (wo0:X.cap=0)
  (gh1:∀w4 rb yb eb wb tb,Vp0 w0 w4 rb yb eb wb tb m->∃JB J2 JE rr,Ma0 rb m sn tb ba sa fv sc w0.heap.size Post JB J2 JE rr/\Rn0 m tb Post cs JE/\JB 0 (xh0 X rb yb 8) (rn0 rb yb eb wb m) w4) :
  Fin prog Post X 0 (G (Frame.enter prog 41 #[.slice ba m bc,.slice sa sn scp] .normal) cs) w0:=by
 letI:Ctx prog:=X1 prog true;refine U201 ?_;intro hZ hb;rw[enter_at _ func41 rfl];refine(?_:ZA (Fin prog Post X 0) 83 (base 41) cs (Vc.ax0 #[.slice ba m bc,.slice sa sn scp]) [.code (Tryz.f41.body.getD .skip)] w0) _ (K7 _ _ rfl);have hb0:Below w0.heap.size w0 w0:=Below.refl _ _;refine U4 ?_;refine L.alloc (cs:=#[.slice none 0 0,.slice none 0 0,.slice none 0 0,.slice none 0 0,.bool false,.i 0]) Rc0 rfl (fun w b4 F4=>?_);have lt4:=F4.lq hb0.size;have hb0:=G0 hb0 F4.below;have j2:=F4.blk;refine U203 ?_;refine U4 ?_;refine U177 ?_;refine L.va (mc0 rfl rfl) ?_;refine U3 ?_;refine U477 ?_;refine ZA.seq hZ ?_;refine U289 ?_;refine L.va (u7 rfl underlying37 rfl) ?_;refine L.va (mc0 rfl rfl) ?_;refine U3 ?_;refine U477 ?_;refine U4 ?_;refine L.makeChan rfl underlying170 ⟨_,sz3⟩ (fun w1 I2 hch Ym0=>?_);obtain⟨yb,hyb⟩:∃yb,yb=w.heap.size:=⟨_,rfl⟩
 have Yn0:w0.heap.size <=yb:=by rw[hyb];exact hb0.size
 rw[<- hyb]at hch⊢;have hb0:=G0 hb0 I2;have j2:=j2.j0 I2;clear I2 Ym0 hyb
 rename World=>w
 refine L.va (R2 (parts:=[(2,.tmp 19)]) rfl (gg1 (some yb))) ?_;refine L.box (cs:=#[.slice none 0 0,.slice none 0 0,.slice none 0 0,.slice none 0 0,.slice none 0 0,.bool false,.i 0,.chan (some yb),.int .u64 0,.int .u32 0]) rfl rfl (fun w b21 F21=>?_);have Mh0:=F21.lq hb0.size;have hb0:=G0 hb0 F21.below;have j2:=j2.j0 F21.below;have hch:=hch.j0 F21.below;have dp0:=F21.blk;refine U116 ?_;refine U16 ?_;refine U177 ?_;refine L.make (m:=m) rfl rfl underlying37 in3 (z0:=.i 0) rfl (by decide) (by omega) (by omega) (fun w b25 F25=>?_);have le1:=F25.lq hb0.size;have hb0:=G0 hb0 F25.below;have j2:=j2.j0 F25.below;have hch:=hch.j0 F25.below;have dp0:=dp0.j0 F25.below;have li0:=F25.blk;have li0:K0 w b25 (Array.replicate (m*1) (.i 0)) 3:=li0;refine U73 ?_;refine L.va (E0 rfl underlying45 rfl Cl0 (by decide)) ?_;refine L.pu 3 [.slice (pt b25) m m] #[.slice none 0 0,.slice none 0 0,.slice none 0 0,.slice (pt b25) m m,.slice none 0 0,.bool false,.i 0,.chan (some yb),.int .u64 0,.int .u32 0] Cl0 dp0 (fun w G1 hg K2=>?_);refine U468 ?_;intro j2 hch;have li0:=li0.other hg (K0.ne li0 dp0 (by decide));have hb0:=m6 hb0 hb0.size hg Mh0;have M5:=True.intro;have dp0:=G1;clear M5;refine U3 ?_;refine U16 ?_;refine U177 ?_;refine L.make (m:=m) rfl rfl underlying43 jq1 (z0:=.i 0) rfl (by decide) (by omega) (by omega) (fun w b32 F32=>?_);have lf1:=F32.lq hb0.size;have hb0:=G0 hb0 F32.below;have j2:=j2.j0 F32.below;have hch:=hch.j0 F32.below;have dp0:=dp0.j0 F32.below;have li0:=li0.j0 F32.below;have Hf0:=F32.blk;have Hf0:K0 w b32 (Array.replicate (m*3) (.i 0)) 65:=Hf0;refine U73 ?_;refine L.va (E0 rfl underlying45 rfl Xr0 (by decide)) ?_;refine L.pu 4 [.slice (pt b32) m m] #[.slice none 0 0,.slice none 0 0,.slice none 0 0,.slice (pt b25) m m,.slice (pt b32) m m,.bool false,.i 0,.chan (some yb),.int .u64 0,.int .u32 0] Xr0 dp0 (fun w G1 hg K2=>?_);refine U468 ?_;intro j2 hch;have li0:=li0.other hg (K0.ne li0 dp0 (by decide));have Hf0:=Hf0.other hg (K0.ne Hf0 dp0 (by decide));have hb0:=m6 hb0 hb0.size hg Mh0;have M5:=True.intro;have dp0:=G1;clear M5;refine U3 ?_;have dp0:K0 w b21 (#[.slice none 0 0,.slice none 0 0,.slice none 0 0,.slice (pt b25) m m,.slice (pt b32) m m,.bool false,.i 0,.chan (some yb)] ++ #[.int .u64 0,.int .u32 0]) 173:=dp0;have k4:yb≠b21:=fun e=>by subst e;unfold ChanAt at hch;unfold K0 at dp0;rw[hch]at dp0;cases dp0
 refine ZA.begin wo0 (hU.mono Mh0) (hU.mono Yn0) (hpl _ Mh0) (hpl _ Yn0) hch dp0 (Nat.zero_lt_succ _) rfl ?_;show ZA (Fin prog Post (xh0 X b21 yb 8) 0) _ _ _ _ _ (K1 (P2 w yb nothing) b21 _ _ (7,8));have hX:X.dx0 w0.heap.size:=hU;have hap:∀(b:Nat) (cs:Array Value) (T:TypeId),K0 w b cs T->T≠173->I1 (K1 (P2 w yb nothing) b21 #[.slice none 0 0,.slice none 0 0,.slice none 0 0,.slice (pt b25) m m,.slice (pt b32) m m,.bool false,.i 0,.chan (some yb)] 173 (7,8)) b cs T (0,0):=fun b cs T h hT=>by
  have h1:b≠b21:=K0.ne h dp0 hT;have h2:yb≠b:=fun e=>by subst e;unfold ChanAt at hch;unfold K0 at h;rw[hch]at h;cases h
  unfold I1;rw[x8 h1,N6 _ _ h2];exact h
 have lg1:Vp0 w0 (K1 (P2 w yb nothing) b21 #[.slice none 0 0,.slice none 0 0,.slice none 0 0,.slice (pt b25) m m,.slice (pt b32) m m,.bool false,.i 0,.chan (some yb)] 173 (7,8)) b21 yb b25 b32 b4 m:=by
  have K2:b21<(P2 w yb nothing).heap.size:=by have:=dp0.lt;simpa [P2]using this
  refine⟨⟨?_,Own.nil _ _ _ _,Own.nil _ _ _ _,Own.nil _ _ _ _,?_,?_,by simp[rn0],by simp[rn0],Nat.zero_le _,fun i c hc=>by simp[rn0]at hc⟩,⟨hb0.os,hb0.tape,hb0.output,by rw[n6];simpa [P2]using hb0.size,fun k hk=>?_⟩,⟨Mh0,Yn0,le1,lf1,lt4⟩,?_,hap _ _ _ j2 (by decide)⟩
  ·simp[I1,K1,K2,rn0,Rn.cells]
  ·have:=hap _ _ _ li0 (by decide);rw[Mf0]at this;exact this
  ·have:=hap _ _ _ Hf0 (by decide);rw[Mg0]at this;exact this
  ·rw[x8 (by omega),N6 _ _ (by omega)];exact hb0.block k hk
  ·rw[x8 k4];exact M7 w hch
 obtain⟨JB,J2,JE,rr,hE,hT,hJ0⟩:=gh1 _ _ _ _ _ _ lg1;generalize K1 (P2 w yb nothing) b21 #[.slice none 0 0,.slice none 0 0,.slice none 0 0,.slice (pt b25) m m,.slice (pt b32) m m,.bool false,.i 0,.chan (some yb)] 173 (7,8)=w4 at *;have hZ:Ctx.Zs prog (Fin prog Post (xh0 X b21 yb 8) 0):=X5;refine ZA.seq hZ ?_;refine ZA.upto hZ hb 2 rfl rfl (R:=fun e' w'=>ZA _ _ _ _ e' _ w') ?_ (fun _ _ h=>h);refine U118 ?_;refine L.va (bu0 rfl) ?_;refine U3 ?_;refine ZA.call (i:=2) (rest:=[]) hZ hb (f:=76) (args:=#[.p b21,.slice ba m bc]) rfl rfl (A2 rfl rfl func76 rfl kp1 rfl) (fun a ha=>?_);refine Rm0 (hE.beg _ (fun X' R' u hJ' fr h8 h9=>?_)) (by omega) hJ0;have hZ:Ctx.Zs prog (Fin prog Post X' 0):=X5;refine ZA.back (fa0 prog Post X' 0) (i:=2) rfl rfl ha h9 ?_;refine U46 ?_;refine U289 ?_;refine L.va (u7 rfl underlying37 rfl) ?_;refine U312 ?_;refine U303 ?_;exact Me0 hE hT hm1 (by omega) sn 0 (by omega) X' R' u (hE.b2s _ _ _ hJ') _ rfl rfl rfl rfl rfl rfl
end
end Go.Vy.Sc
end
section
namespace Go.Vy.Sc
open Go Go.Conc Go.Yc Go.RowKit Go.Proofs Go.Proofs.YtinppmaojmdmhaaGreat Tryz
open Go.Vc Go.Wg
attribute [local irreducible] KK
structure Sys where
 S:Type
 L:Type
 m:Nat
 s0:S
 nil:Nat->Bool
 stp:Nat->L->Stp
 rdy:Nat->L->S->Bool
 beg:Nat->S->W5 S L
 go:Nat->L->S->W5 S L
 le:Nat->Gm->Gm->Prop
 Inv:S->Gm->World->(Nat->Prop)->Prop
 lb:Nat
 pl:Nat->V6
structure PR (Y:Sys) where
 s:Y.S
 ft:List (Y.L ⊕ Nat)
 evs:List (Nat×Stp)
 nts:List (Nat×Nat×Nte)
 outs:List (W5 Y.S Y.L)
 who:List (Option Nat)
 used:Nat
def tell (i n:Nat) (l:List Nte):List (Nat×Nat×Nte):=l.map fun k=>(n,i,k)
namespace Sys
section
variable (Y:Sys)
def p0:PR Y:=⟨Y.s0,[],[],[],[],[],0⟩
def bgn (p:PR Y):PR Y:=if Y.nil p.ft.length then{p with ft:=p.ft ++ [.inr 1]} else
 {p with s:=(Y.beg p.ft.length p.s).s,ft:=p.ft ++ [(Y.beg p.ft.length p.s).W4],nts:=p.nts++tell p.ft.length p.evs.length (Y.beg p.ft.length p.s).nts,outs:=p.outs ++ [Y.beg p.ft.length p.s],who:=p.who ++ [none]}
def B5:Nat->PR Y
 |0=>Y.p0
 |n+1=>Y.bgn (B5 n)
def u6 (p:PR Y) (i:Nat):PR Y:=match p.ft[i]? with
 |some (.inl l)=>{p with s:=(Y.go i l p.s).s,ft:=p.ft.set i (Y.go i l p.s).W4,evs:=p.evs ++ [(i,Y.stp i l)],nts:=p.nts++tell i (p.evs.length+1) (Y.go i l p.s).nts,outs:=p.outs ++ [Y.go i l p.s],who:=p.who ++ [some i],used:=p.used+1}
 |_=>p
def is0 (p:PR Y) (i:Nat):Bool:=match p.ft[i]? with
 |some (.inl l)=>Y.rdy i l p.s
 |_=>false
def rds (p:PR Y):List Nat:=(List.range Y.m).filter (Y.is0 p)
def step (p:PR Y) (e:Int):PR Y:=match(Y.rds p)[cc0 e (Y.rds p).length]? with
 |some i=>Y.u6 p i
 |none=>p
def pn (sc:Nat->Int):Nat->PR Y
 |0=>Y.B5 Y.m
 |n+1=>Y.step (pn sc n) (sc n)
def o0:W5 Y.S Y.L:=⟨Y.s0,[],.inr 0⟩
def I4 (q:PR Y) (t:Nat):W5 Y.S Y.L:=(q.outs[t]?).getD Y.o0
def T9 (q:PR Y):Nat->Y.S
 |0=>Y.s0
 |t+1=>(Y.I4 q t).s
def S1 (q:PR Y) (i t:Nat):Nat:=(q.who.take (t+1)).count (some i)
structure Le (p q:PR Y):Prop where
 outs:p.outs <+: q.outs
 who:p.who <+: q.who
theorem Le.refl (p:PR Y):Y.Le p p:=⟨List.prefix_refl _,List.prefix_refl _⟩
variable {Y}
theorem Le.trans {p q r:PR Y} (h:Y.Le p q) (h':Y.Le q r):Y.Le p r:=⟨h.outs.trans h'.outs,h.who.trans h'.who⟩
theorem Yo0 (p:PR Y):Y.Le p (Y.bgn p):=by
 unfold bgn;split
 ·exact⟨List.prefix_refl _,List.prefix_refl _⟩
 ·exact⟨List.prefix_append _ _,List.prefix_append _ _⟩
theorem Rs0 (p:PR Y) (i:Nat):Y.Le p (Y.u6 p i):=by
 unfold u6;split
 ·exact⟨List.prefix_append _ _,List.prefix_append _ _⟩
 ·exact Le.refl Y p
theorem le_step (p:PR Y) (e:Int):Y.Le p (Y.step p e):=by
 unfold step;split
 ·exact Rs0 p _
 ·exact Le.refl Y p
theorem Rt0 {n k:Nat}:Y.Le (Y.B5 n) (Y.B5 (n+k)):=by
 induction k with
 |zero=>exact Le.refl Y _
 |succ k ih=>exact ih.trans (Yo0 _)
theorem Vq0 {sc:Nat->Int} {n k:Nat}:Y.Le (Y.pn sc n) (Y.pn sc (n+k)):=by
 induction k with
 |zero=>exact Le.refl Y _
 |succ k ih=>exact ih.trans (le_step _ _)
structure Ok (p:PR Y):Prop where
 s:p.s=Y.T9 p p.outs.length
 who:p.who.length=p.outs.length
 used:p.evs.length=p.used
theorem Yp0 {p q:PR Y} (h:Y.Le p q) {t:Nat} (ht:t <=p.outs.length):Y.T9 q t=Y.T9 p t:=by
 cases t with
 |zero=>rfl
 |succ t=>
  obtain⟨l,hl⟩:=h.outs;show(Y.I4 q t).s=(Y.I4 p t).s;unfold I4;rw[<- hl,List.getElem?_append_left (by omega)]
theorem gi1:Ok (Y.p0):=⟨rfl,rfl,rfl⟩
theorem Fh0 (p:PR Y) (o:W5 Y.S Y.L) {q:PR Y} (hq:q.outs=p.outs ++ [o]):Y.T9 q (p.outs.length+1)=o.s:=by
 show(Y.I4 q p.outs.length).s=o.s;unfold I4;rw[hq];simp
theorem Ok.bgn {p:PR Y} (h:Ok p):Ok (Y.bgn p):=by
 unfold Sys.bgn;split
 ·exact⟨h.s,h.who,h.used⟩
 ·refine⟨?_,by simp[h.who],h.used⟩;simp only[List.length_append,List.length_cons,List.length_nil,Nat.zero_add];exact(Fh0 p _ rfl).symm
theorem Ok.u6 {p:PR Y} (h:Ok p) (i:Nat):Ok (Y.u6 p i):=by
 unfold Sys.u6;split
 ·refine⟨?_,by simp[h.who],by simp[h.used]⟩;simp only[List.length_append,List.length_cons,List.length_nil,Nat.zero_add];exact(Fh0 p _ rfl).symm
 ·exact h
theorem Ok.step {p:PR Y} (h:Ok p) (e:Int):Ok (Y.step p e):=by
 unfold Sys.step;split
 ·exact h.u6 _
 ·exact h
theorem xj0:∀n,Ok (Y.B5 n)
 |0=>gi1
 |n+1=>(xj0 n).bgn
theorem zq0 (sc:Nat->Int):∀n,Ok (Y.pn sc n)
 |0=>xj0 _
 |n+1=>(zq0 sc n).step _
theorem Ru0 {p q:PR Y} (h:Ok p) (hl:Y.Le p q):Y.T9 q p.outs.length=p.s:=by rw[Yp0 hl (Nat.le_refl _),h.s]
theorem Mi0 {p q:PR Y} {o:W5 Y.S Y.L} {p':PR Y} (hp:p'.outs=p.outs ++ [o]) (hl:Y.Le p' q):Y.I4 q p.outs.length=o:=by
 obtain⟨l,hl⟩:=hl.outs;unfold I4;rw[<- hl,hp,List.append_assoc,List.getElem?_append_right (Nat.le_refl _)];simp
theorem G6:∀n,(Y.B5 n).ft.length=n
 |0=>rfl
 |n+1=>by
  show(Y.bgn (Y.B5 n)).ft.length=n+1;unfold bgn;split <;> simp[G6 n]
theorem zr0 (p:PR Y) (i:Nat):(Y.u6 p i).ft.length=p.ft.length:=by
 unfold u6;split <;> simp
theorem Mj0 (p:PR Y) (e:Int):(Y.step p e).ft.length=p.ft.length:=by
 unfold step;split
 ·exact zr0 p _
 ·rfl
def Reach (Y:Sys) (p:PR Y):Prop:=(∃n,n <=Y.m/\p=Y.B5 n)\/∃sc n,p=Y.pn sc n
theorem cd0 (sc:Nat->Int):∀n,(Y.pn sc n).ft.length=Y.m
 |0=>G6 _
 |n+1=>(Mj0 _ _).trans (cd0 sc n)
end
end Sys
structure LeOk (Y:Sys):Prop where
 refl:∀i a,Y.le i a a
 trans:∀i a b c,Y.le i a b->Y.le i b c->Y.le i a c
noncomputable def Sys.cfg (Y:Sys) (fb:Nat->FuncId) (q:PR Y) (w0:World) (i cb:Nat) (top:List Frame):x9 prog where
 S:=Y.S
 L:=Y.L
 stp:=Y.stp i
 rdy:=Y.rdy i
 go:=Y.go i
 out:=Y.I4 q
 sOf:=Y.T9 q
 S1:=Y.S1 q i
 le:=Y.le i
 gu:=fun a b=>∀j,j≠i->Y.le j a b
 Inv:=Y.Inv
 At:=fun t l=>t <=300000/\∃p:PR Y,Y.Reach p/\p.outs.length=t/\p.s=Y.T9 q t/\p.ft[i]? =some (.inl l)
 BAt:=fun t=>t <=300000/\∃p:PR Y,Y.Reach p/\p.outs.length=t/\p.s=Y.T9 q t/\p.ft.length=i
 num:=i
 ptr:=cb
 base:=w0
 kc0:=126
 Kd0:=some 74
 E4:=172
 Ke0:=none
 Kf0:=fb i
 top:=top
structure Geo where
 gm:Gm
 gi:Nat->Nat
 ab:Nat->Nat
 eb:Nat->Nat
 top:Nat->List Frame
 pv:Nat->Nat->Prop
section
variable (Y:Sys)(fb:Nat->FuncId)(q:PR Y)(w0:World)(Γ:Geo)(X:Gh)(R:Rn)(w:World)
structure Wt (j:Nat) (c:CB) (l:Y.L):Prop where
 wt:c.wt=true
 st:c.st=false
 sp:c.sp=Y.stp j l
 he:I1 w (Γ.eb j) #[.bool false] 4 (0,0)
 node:∃(me:Goroutine) (cs:List Frame) (wn:World) (mn:Gm) (Fn:Nat->Prop) (Rdo:World->World->Prop),X.O1 (Γ.gi j)=some ⟨c.rc,.bool false,me⟩/\ov0 cs c.cb c.df me/\(Y.cfg fb q w0 j c.cb (Γ.top j)).fp0 wn mn Fn c.rf l/\FnV prog c.df /\
  (∀b,Γ.pv j b↔b<wn.heap.size/\wn.heap[b]? ≠some nothing/\¬Fn b)/\(∀b,Γ.pv j b->w.heap[b]? =wn.heap[b]?)/\wn.os=w0.os/\wn.output=w0.output/\wn.heap.size <=w.heap.size/\Y.le j mn Γ.gm /\
  (∀u F',(Y.cfg fb q w0 j c.cb (Γ.top j)).Goes wn mn Fn l u F'->Gt0 prog (Y.cfg fb q w0 j c.cb (Γ.top j)).o5 c.df u (Rdo u)) /\
  (∀u F' u2,(Y.cfg fb q w0 j c.cb (Γ.top j)).Goes wn mn Fn l u F'->Rdo u u2->u2.tape=u.tape->∀fr,fr.fn=126->Leaves prog fr u2 (.returned (.tuple #[]))->D9 (Y.cfg fb q w0 j c.cb (Γ.top j)) (G fr cs) u2) /\
  (∀u F',(Y.cfg fb q w0 j c.cb (Γ.top j)).P5 wn mn Fn u F'->gh u 2=1->∀fr ch,fr.fn=126->K5 ch->Leaves prog fr u (.panicked ch)->D9 (Y.cfg fb q w0 j c.cb (Γ.top j)) (G fr cs) u)
structure Ck (j:Nat) (c:CB):Prop where
 top:Lt0 (Γ.top j) (Γ.ab j) (Γ.eb j) R.rb c.cb
 ha:I1 w (Γ.ab j) #[.p c.cb] 123 (0,0)
 he:∃en,I1 w (Γ.eb j) #[.bool en] 4 (0,0)
 en0:0<Γ.gi j/\Γ.gi j<X.n
 stay:X.stay (Γ.gi j)=[(⟨c.cb,2,none⟩,.chan (some c.rc))]
 ch:X.chs c.rc
def Cl1 (j:Nat) (c:CB) (f:Y.L ⊕ Nat):Prop :=
 (Y.nil j=true/\f= .inr 1/\c.wt=false/\R.ends[j]? =some 1)\/(Y.nil j=false/\match f with
  | .inl l=>Wt Y fb q w0 Γ X w j c l
  | .inr x=>c.wt=false/\R.ends[j]? =some (x:Int)/\X.O1 (Γ.gi j)=none)
variable (Mn:Nat->Option Obj)
structure Yq0:Prop where
 le:Y.lb <=w0.heap.size
 low:∀b,X.low b->Y.lb <=b
 pl:X.L6=Y.pl
structure Fix (hold:Option Nat) (ft:Nat->Option (Y.L ⊕ Nat)):Prop where
 mem:S4 w w0.heap.size R
 m:R.m=Y.m
 cl:∀j c,R.cl[j]? =some c->some j≠hold->∃f,ft j=some f/\Cl1 Y fb q w0 Γ X R w j c f
 ck:∀j c,R.cl[j]? =some c->Y.nil j=false->Ck Γ X R w j c
 fpB:∀b,R.fp b->w0.heap.size <=b
 side:∀j,j<R.cl.length->Y.nil j=false->w0.heap.size <=Γ.ab j/\w0.heap.size <=Γ.eb j/\¬R.fp (Γ.ab j)/\¬R.fp (Γ.eb j)
 pv:∀j b,Γ.pv j b->b<w.heap.size/\¬R.fp b/\¬Mn b≠none/\(∀k,k<R.cl.length->Y.nil k=false->b≠Γ.ab k/\b≠Γ.eb k)/\∀k,k≠j->¬Γ.pv k b
 mn:∀b,Mn b≠none->w.heap[b]? =Mn b/\¬R.fp b/\∀k,k<R.cl.length->Y.nil k=false->b≠Γ.ab k/\b≠Γ.eb k
 oy0:0<X.n
 os:hold=none->w.os=w0.os
 output:hold=none->w.output=w0.output
 size:w0.heap.size <=w.heap.size
 A4:X.A4=some ⟨R.rb,8⟩
 ml0:X.stay 0=[(⟨R.rb,7,none⟩,.chan (some R.yb))]
 chy:X.chs R.yb
 C4:∀g s,g≠0->X.O1 g=some s->∃j c,R.cl[j]? =some c/\Y.nil j=false/\g=Γ.gi j/\s.ch=c.rc/\some j≠hold
 Ct0:∀j k,j<R.cl.length->k<R.cl.length->Y.nil j=false->Y.nil k=false->Γ.gi j=Γ.gi k->j=k
 vh0:∀j k,j<R.cl.length->k<R.cl.length->Y.nil j=false->Y.nil k=false->Γ.eb j=Γ.eb k->j=k
 Hg0:∀j k c d,R.cl[j]? =some c->R.cl[k]? =some d->Y.nil j=false->Y.nil k=false->c.rc=d.rc->j=k
 ry:∀j c,R.cl[j]? =some c->Y.nil j=false->c.rc≠R.yb
 dn:X.dn=0
 pend:X.pend=0
 cap:X.cap <=R.cl.length
 under:X.dx0 w.heap.size
 L6:∀b,w.heap.size <=b->X.L6 b= .all
 oz0:hold=none->X.O1 0=none
 base:Yq0 Y w0 X
end
section
variable {Y:Sys}{fb:Nat->FuncId}{q:PR Y}{Γ Γ':Geo}{X X':Gh}{R R':Rn}{w w':World}{Mn:Nat->Option Obj}{w0:World}{hold:Option Nat}{ft:Nat->Option (Y.L ⊕ Nat)}
def Kept (Y:Sys) (Γ:Geo) (R:Rn) (Mn:Nat->Option Obj) (b:Nat):Prop:=Mn b≠none\/(∃k,k<R.cl.length/\Y.nil k=false/\(b=Γ.ab k\/b=Γ.eb k))\/∃j,Γ.pv j b
theorem Wt.u6 {j:Nat} (hle:∀a b c,Y.le j a b->Y.le j b c->Y.le j a c) (hgm:Y.le j Γ.gm Γ'.gm) {c:CB} {l:Y.L} (h:Wt Y fb q w0 Γ X w j c l) (hb:∀b,Γ.pv j b->w'.heap[b]? =w.heap[b]?) (K2:w.heap.size <=w'.heap.size) (hs:X'.O1 (Γ.gi j)=X.O1 (Γ.gi j)) (he:w'.heap[Γ.eb j]? =w.heap[Γ.eb j]?) (hge:Γ'.eb j=Γ.eb j) (hg:Γ'.gi j=Γ.gi j) (ht:Γ'.top j=Γ.top j) (hp:Γ'.pv j=Γ.pv j):Wt Y fb q w0 Γ' X' w' j c l:=by
 obtain⟨h1,h2,h3,h4,me,cs,wn,mn,Fn,Rdo,a1,a2,a3,a4,a5,a6,a7,a8,a9,ale,a10,a11,a12⟩:=h;refine⟨h1,h2,h3,by rw[hge];exact he.trans h4,me,cs,wn,mn,Fn,Rdo,?_⟩;rw[hg,ht,hp,hs];exact⟨a1,a2,a3,a4,a5,fun b W7=>(hb b W7).trans (a6 b W7),a7,a8,Nat.le_trans a9 K2,hle _ _ _ ale hgm,a10,a11,a12⟩
theorem Cl1.u6 {j:Nat} (hle:∀a b c,Y.le j a b->Y.le j b c->Y.le j a c) (hgm:Y.le j Γ.gm Γ'.gm) {c:CB} {f:Y.L ⊕ Nat} (h:Cl1 Y fb q w0 Γ X R w j c f) (hb:∀b,Γ.pv j b->w'.heap[b]? =w.heap[b]?) (K2:w.heap.size <=w'.heap.size) (hs:Y.nil j=false->X'.O1 (Γ.gi j)=X.O1 (Γ.gi j)) (heb:Y.nil j=false->w'.heap[Γ.eb j]? =w.heap[Γ.eb j]?) (hge:Γ'.eb j=Γ.eb j) (hg:Γ'.gi j=Γ.gi j) (ht:Γ'.top j=Γ.top j) (hp:Γ'.pv j=Γ.pv j) (he:R'.ends[j]? =R.ends[j]?):Cl1 Y fb q w0 Γ' X' R' w' j c f:=by
 rcases h with⟨h1,h2,h3,h4⟩|⟨h1,h2⟩
 ·exact .inl ⟨h1,h2,h3,by rw[he];exact h4⟩
 ·refine .inr ⟨h1,?_⟩;cases f with
  |inl l=>exact Wt.u6 hle hgm h2 hb K2 (hs h1) (heb h1) hge hg ht hp
  |inr x=>exact⟨h2.1,by rw[he];exact h2.2.1,by rw[hg,hs h1];exact h2.2.2⟩
theorem Fix.u6 (hY:LeOk Y) (h:Fix Y fb q w0 Γ X R w Mn hold ft) (hM:S4 w' w0.heap.size R') (hrb:R'.rb=R.rb) (hyb:R'.yb=R.yb) (hm:R'.m=R.m) (hfp:∀b,R'.fp b->R.fp b\/w.heap.size <=b) (hlen:R'.cl.length=R.cl.length)
  (O6:∀j c',R'.cl[j]? =some c'->∃c,R.cl[j]? =some c/\c'.cb=c.cb/\c'.rc=c.rc/\(some j≠hold->c'=c/\R'.ends[j]? =R.ends[j]?)) (K2:w.heap.size <=w'.heap.size) (ce0:∀b,b<w.heap.size->¬R.fp b->Kept Y Γ R Mn b->w'.heap[b]? =w.heap[b]?\/∃i en,hold=some i/\i<R.cl.length/\Y.nil i=false/\b=Γ.eb i/\I1 w' b #[.bool en] 4 (0,0)) (hos:hold=none->w'.os=w.os/\w'.output=w.output) :
  Fix Y fb q w0 Γ X R' w' Mn hold ft:=by
 have lt:∀j c',R'.cl[j]? =some c'->j<R.cl.length:=fun j c' hc=>by rw[<- hlen];exact(List.getElem?_eq_some_iff.1 hc).1
 have hpv:∀j b,Γ.pv j b->w'.heap[b]? =w.heap[b]?:=fun j b hb=>by
  have hp:=h.pv j b hb;rcases ce0 b hp.1 hp.2.1 (.inr (.inr ⟨j,hb⟩))with z|⟨i,en,_,z1,z2,z3,_⟩
  ·exact z
  ·exact absurd z3 (hp.2.2.2.1 i z1 z2).2
 have heb:∀j,j<R.cl.length->Y.nil j=false->w'.heap[Γ.eb j]? =w.heap[Γ.eb j]?\/(hold=some j/\∃en,I1 w' (Γ.eb j) #[.bool en] 4 (0,0)):=fun j hj hn=>by
  obtain⟨en,he⟩:=(h.ck j _ (List.getElem?_eq_getElem hj) hn).he;rcases ce0 _ he.lt (h.side j hj hn).2.2.2 (.inr (.inl ⟨j,hj,hn,.inr rfl⟩))with z|⟨i,en,z0,z1,z2,z3,z4⟩
  ·exact .inl z
  ·obtain rfl:=h.vh0 j i hj z1 hn z2 z3;exact .inr ⟨z0,en,z4⟩
 have lh1:∀j,j<R.cl.length->Y.nil j=false->some j≠hold->w'.heap[Γ.eb j]? =w.heap[Γ.eb j]?:=fun j hj hn hh=>by
  rcases heb j hj hn with z|⟨z,_⟩
  ·exact z
  ·exact absurd z.symm hh
 refine⟨hM,hm.trans h.m,fun j c' hc hj=>?_,fun j c' hc hn=>?_,fun b hb=>?_,fun j hj hn=>?_,fun j b hb=>?_,fun b hb=>?_,h.oy0,fun z=>(hos z).1.trans (h.os z),fun z=>(hos z).2.trans (h.output z),Nat.le_trans h.size K2,by rw[hrb];exact h.A4,by rw[hrb,hyb];exact h.ml0,by rw[hyb];exact h.chy,fun g s hg hs=>?_,by rw[hlen];exact h.Ct0,by rw[hlen];exact h.vh0,fun j k c d hc hd hn hk e=>?_,fun j c' hc hn=>?_,h.dn,h.pend,by rw[hlen];exact h.cap,h.under.mono K2,fun b hb=>h.L6 b (Nat.le_trans K2 hb),h.oz0,h.base⟩
 ·obtain⟨c,hc0,_,_,h4⟩:=O6 j c' hc;obtain⟨rfl,h5⟩:=h4 hj;obtain⟨f,hf,h6⟩:=h.cl j c' hc0 hj;exact⟨f,hf,h6.u6 (hY.trans _) (hY.refl _ Γ.gm) (fun b hb=>hpv j b hb) K2 (fun _=>rfl) (fun hn=>lh1 j (lt j c' hc) hn hj) rfl rfl rfl rfl h5⟩
 ·obtain⟨c,hc0,hcb,hrc,_⟩:=O6 j c' hc;have hk:=h.ck j c hc0 hn;have hs:=h.side j (lt j c' hc) hn;refine⟨by rw[hrb,hcb];exact hk.top,?_,?_,hk.en0,by rw[hcb,hrc];exact hk.stay,by rw[hrc];exact hk.ch⟩
  ·rw[hcb];rcases ce0 _ hk.ha.lt hs.2.2.1 (.inr (.inl ⟨j,lt j c' hc,hn,.inl rfl⟩))with z|⟨i,en,_,z1,z2,z3,_⟩
   ·exact z.trans hk.ha
   ·obtain⟨en',O8⟩:=(h.ck i _ (List.getElem?_eq_getElem z1) z2).he;exact absurd z3 (I1.ne hk.ha O8 (by decide))
  ·rcases heb j (lt j c' hc) hn with z|⟨_,z⟩
   ·obtain⟨en',O8⟩:=hk.he;exact⟨en',z.trans O8⟩
   ·exact z
 ·rcases hfp b hb with z|z
  ·exact h.fpB b z
  ·exact Nat.le_trans h.size z
 ·rw[hlen]at hj;have hs:=h.side j hj hn;obtain⟨c,hc⟩:∃c,R.cl[j]? =some c:=⟨_,List.getElem?_eq_getElem hj⟩
  have hk:=h.ck j c hc hn;exact⟨hs.1,hs.2.1,fun z=>by rcases hfp _ z with y|y;exact hs.2.2.1 y;have:=hk.ha.lt;omega,fun z=>by rcases hfp _ z with y|y;exact hs.2.2.2 y;have:=hk.he.choose_spec.lt;omega⟩
 ·have hp:=h.pv j b hb;exact⟨Nat.lt_of_lt_of_le hp.1 K2,fun z=>by rcases hfp _ z with y|y;exact hp.2.1 y;have:=hp.1;omega,hp.2.2.1,by rw[hlen];exact hp.2.2.2.1,hp.2.2.2.2⟩
 ·have hm':=h.mn b hb;have M1:b<w.heap.size:=by
   rcases Nat.lt_or_ge b w.heap.size with z|z
   ·exact z
   ·exact absurd (hm'.1.symm.trans (Array.getElem?_eq_none z)) hb
  refine⟨?_,fun z=>by rcases hfp b z with y|y;exact hm'.2.1 y;omega,by rw[hlen];exact hm'.2.2⟩;rcases ce0 b M1 hm'.2.1 (.inl hb)with z|⟨i,en,_,z1,z2,z3,_⟩
  ·exact z.trans hm'.1
  ·exact absurd z3 (hm'.2.2 i z1 z2).2
 ·obtain⟨j,c,h1,h2,h3,h4,h5⟩:=h.C4 g s hg hs;have hj:j<R'.cl.length:=by rw[hlen];exact(List.getElem?_eq_some_iff.1 h1).1
  obtain⟨c',M9⟩:∃c',R'.cl[j]? =some c':=⟨_,List.getElem?_eq_getElem hj⟩
  obtain⟨c2,e1,_,e3,_⟩:=O6 j c' M9;rw[h1]at e1;obtain rfl:=Option.some.inj e1;exact⟨j,c',M9,h2,h3,by rw[e3];exact h4,h5⟩
 ·obtain⟨c2,e1,_,e3,_⟩:=O6 j c hc;obtain⟨d2,f1,_,f3,_⟩:=O6 k d hd;exact h.Hg0 j k c2 d2 e1 f1 hn hk (by rw[<- e3,<- f3];exact e)
 ·obtain⟨c2,e1,_,e3,_⟩:=O6 j c' hc;rw[e3,hyb];exact h.ry j c2 e1 hn
end
end Go.Vy.Sc
end
section
namespace Go.Vy.Sc
open Go Go.Conc Go.Yc Go.RowKit Go.Proofs Go.Proofs.YtinppmaojmdmhaaGreat Tryz
open Go.Vc Go.Wg
section
attribute [local irreducible] KK
structure pa0 (Y:Sys):Prop extends LeOk Y where
 loc:∀s m (w w':World) F,Y.Inv s m w F->(∀b,F b->w'.heap[b]? =w.heap[b]?)->Y.Inv s m w' F
 vis:∀s m (w:World) F,Y.Inv s m w F->∀b,F b->b<w.heap.size/\w.heap[b]? ≠some nothing
section
variable {Y:Sys}{fb:Nat->FuncId}{q:PR Y}{Γ:Geo}{X:Gh}{R:Rn}{w:World}{Mn:Nat->Option Obj}{w0:World}{ft:Nat->Option (Y.L ⊕ Nat)}{i:Nat}
theorem ie0 {h j:Nat} {sh:Option q6} {g:Nat} (h1:g≠h) (h2:g≠j):(X.pass h j sh).O1 g=X.O1 g:=by
 show Go.ConcN.upd (Go.ConcN.upd X.O1 j none) h sh g=_;rw[Go.ConcN.upd_ne _ _ h1,Go.ConcN.upd_ne _ _ h2]
theorem aq0 {h j:Nat} {sh:Option q6}:(X.pass h j sh).O1 h=sh:=Go.ConcN.upd_same _ _ _
theorem mm0 {h j:Nat} {sh:Option q6} (hj:j≠h):(X.pass h j sh).O1 j=none:=by
 show Go.ConcN.upd (Go.ConcN.upd X.O1 j none) h sh j=_;rw[Go.ConcN.upd_ne _ _ hj,Go.ConcN.upd_same]
def Geo.put (Γ:Geo) (i:Nat) (N:Nat->Prop):Geo:={Γ with pv:=fun j b=>if j=i then N b else Γ.pv j b}
def Geo.mx0 (Γ:Geo) (i:Nat) (N:Nat->Prop) (m:Gm):Geo:={Γ.put i N with gm:=m}
theorem kg0 {N:Nat->Prop} {m:Gm} {j:Nat} (h:j≠i):(Γ.mx0 i N m).pv j=Γ.pv j:=by funext b;simp[Geo.mx0,Geo.put,h]
theorem xk0 {N:Nat->Prop} {j:Nat} (h:j≠i):(Γ.put i N).pv j=Γ.pv j:=by funext b;simp[Geo.put,h]
theorem Fix.back (hY:LeOk Y) {m:Gm} (hm:∀j,j≠i->Y.le j Γ.gm m) (h:Fix Y fb q w0 Γ X R w Mn (some i) ft) (hn:Y.nil i=false) {c:CB} (hc:R.cl[i]? =some c) {N:Nat->Prop} (hN:∀b,N b->b<w.heap.size/\¬R.fp b/\¬Kept Y Γ R Mn b) {sh:Option q6} (L9:∀s,sh=some s->s.ch=c.rc) {f:Y.L ⊕ Nat}
  (hf:Cl1 Y fb q w0 (Γ.mx0 i N m) (X.pass (Γ.gi i) 0 sh) R w i c f) (hos:w.os=w0.os/\w.output=w0.output):Fix Y fb q w0 (Γ.mx0 i N m) (X.pass (Γ.gi i) 0 sh) R w Mn none (fun j=>if j=i then some f else ft j):=by
 have hi:=(List.getElem?_eq_some_iff.1 hc).1;have hg:=(h.ck i c hc hn).en0;have z9:Γ.gi i≠0:=by omega
 refine⟨h.mem,h.m,fun j c' M9 _=>?_,fun j c' M9 hn'=>?_,h.fpB,h.side,fun j b hb=>?_,h.mn,h.oy0,fun _=>hos.1,fun _=>hos.2,h.size,h.A4,h.ml0,h.chy,fun g s K9 hs=>?_,h.Ct0,h.vh0,h.Hg0,h.ry,h.dn,h.pend,h.cap,⟨h.under.stay,h.under.T4,h.under.chs,h.under.A4,h.under.low⟩,h.L6,fun _=>mm0 z9.symm,⟨h.base.le,h.base.low,h.base.pl⟩⟩
 ·by_cases hj:j=i
  ·subst hj;rw[hc]at M9;obtain rfl:=Option.some.inj M9;exact⟨f,by simp,hf⟩
  ·obtain⟨f',h1,h2⟩:=h.cl j c' M9 (by simpa using hj);have hjl:=(List.getElem?_eq_some_iff.1 M9).1;refine⟨f',by simp[hj,h1],h2.u6 (Γ':=Γ.mx0 i N m) (hY.trans _) (hm j hj) (fun _ _=>rfl) (Nat.le_refl _) (fun K8=>ie0 (fun e=>hj (h.Ct0 j i hjl hi K8 hn e)) ?_) (fun _=>rfl) rfl rfl rfl (kg0 hj) rfl⟩;have:=(h.ck j c' M9 K8).en0;omega
 ·have:=h.ck j c' M9 hn';exact⟨this.top,this.ha,this.he,this.en0,this.stay,this.ch⟩
 ·by_cases hj:j=i
  ·subst hj;have W7:N b:=by simpa [Geo.mx0,Geo.put]using hb
   obtain⟨h1,h2,h3⟩:=hN b W7;refine⟨h1,h2,fun z=>h3 (.inl z),fun k hk hnk=>⟨fun e=>h3 (.inr (.inl ⟨k,hk,hnk,.inl e⟩)),fun e=>h3 (.inr (.inl ⟨k,hk,hnk,.inr e⟩))⟩,fun k hk hp=>?_⟩;rw[kg0 hk]at hp;exact h3 (.inr (.inr ⟨k,hp⟩))
  ·rw[kg0 hj]at hb;obtain⟨h1,h2,h3,h4,h5⟩:=h.pv j b hb;refine⟨h1,h2,h3,h4,fun k hk hp=>?_⟩;by_cases hki:k=i
   ·subst hki;have W7:N b:=by simpa [Geo.mx0,Geo.put]using hp
    exact(hN b W7).2.2 (.inr (.inr ⟨j,hb⟩))
   ·rw[kg0 hki]at hp;exact h5 k hk hp
 ·by_cases hgi:g=Γ.gi i
  ·subst hgi;rw[aq0]at hs;exact⟨i,c,hc,hn,rfl,L9 s hs,by simp⟩
  ·rw[ie0 hgi K9]at hs;obtain⟨j,c',h1,h2,h3,h4,_⟩:=h.C4 g s K9 hs;exact⟨j,c',h1,h2,h3,h4,by simp⟩
theorem Fix.gj1 (hY:LeOk Y) (h:Fix Y fb q w0 Γ X R w Mn none ft) (hn:Y.nil i=false) {c:CB} (hc:R.cl[i]? =some c) {s0:q6}:Fix Y fb q w0 (Γ.put i fun _=>False) (X.pass 0 (Γ.gi i) (some s0)) R w Mn (some i) ft:=by
 have hi:=(List.getElem?_eq_some_iff.1 hc).1;have hg:=(h.ck i c hc hn).en0;have z9:Γ.gi i≠0:=by omega
 refine⟨h.mem,h.m,fun j c' M9 j9=>?_,fun j c' M9 hn'=>?_,h.fpB,h.side,fun j b hb=>?_,h.mn,h.oy0,fun z=>by simp at z,fun z=>by simp at z,h.size,h.A4,h.ml0,h.chy,fun g s K9 hs=>?_,h.Ct0,h.vh0,h.Hg0,h.ry,h.dn,h.pend,h.cap,⟨h.under.stay,h.under.T4,h.under.chs,h.under.A4,h.under.low⟩,h.L6,(fun z=>by simp at z),⟨h.base.le,h.base.low,h.base.pl⟩⟩
 ·have hj:j≠i:=by simpa using j9
  obtain⟨f',h1,h2⟩:=h.cl j c' M9 (by simp);have hjl:=(List.getElem?_eq_some_iff.1 M9).1;refine⟨f',h1,h2.u6 (Γ':=Γ.put i fun _=>False) (hY.trans _) (hY.refl _ Γ.gm) (fun _ _=>rfl) (Nat.le_refl _) (fun K8=>ie0 ?_ (fun e=>hj (h.Ct0 j i hjl hi K8 hn e))) (fun _=>rfl) rfl rfl rfl (xk0 hj) rfl⟩;have:=(h.ck j c' M9 K8).en0;omega
 ·have:=h.ck j c' M9 hn';exact⟨this.top,this.ha,this.he,this.en0,this.stay,this.ch⟩
 ·by_cases hj:j=i
  ·subst hj;simp[Geo.put]at hb
  ·rw[xk0 hj]at hb;obtain⟨h1,h2,h3,h4,h5⟩:=h.pv j b hb;refine⟨h1,h2,h3,h4,fun k hk hp=>?_⟩;by_cases hki:k=i
   ·subst hki;simp[Geo.put]at hp
   ·rw[xk0 hki]at hp;exact h5 k hk hp
 ·by_cases hgi:g=Γ.gi i
  ·subst hgi;rw[mm0 z9]at hs;cases hs
  ·rw[ie0 K9 hgi]at hs;obtain⟨j,c',h1,h2,h3,h4,_⟩:=h.C4 g s K9 hs;refine⟨j,c',h1,h2,h3,h4,?_⟩;intro e;obtain rfl:j=i:=by simpa using e
   exact hgi h3
structure Main (Y:Sys) (fb:Nat->FuncId) (q:PR Y) (w0:World) (Γ:Geo) (X:Gh) (R:Rn) (w:World) (Mn:Nat->Option Obj) (ft:Nat->Option (Y.L ⊕ Nat)) (s:Y.S):Prop where
 fix:Fix Y fb q w0 Γ X R w Mn none ft
 inv:∃F,Y.Inv s Γ.gm w F/\∀b,F b->¬R.fp b/\¬Kept Y Γ R Mn b
def lj0 {L:Type} (e:List Int) (i:Nat):L ⊕ Nat->List Int
 | .inl _=>e
 | .inr x=>e.set i (x:Int)
def Rel (R0 R':Rn) (i:Nat) (nts:List (Nat×Nat×Nte)) (ends:List Int):Prop:=∃na nc c c',R0.cl[i]? =some c/\c'.S1=c.S1/\R'={R0 with na:=na,nc:=nc,nts:=nts,cl:=R0.cl.set i c',ends:=ends}
structure ay0 (Y:Sys) (fb:Nat->FuncId) (q:PR Y) (w0:World) (Γ:Geo) (X:Gh) (Mn:Nat->Option Obj) (ft:Nat->Option (Y.L ⊕ Nat)) (i t at_ cb:Nat) (n0:List (Nat×Nat×Nte)) (R0 R:Rn) (H:Hid) (v:World):Prop where
 fix:Fix Y fb q w0 Γ X R (over H v) Mn (some i) ft
 T4:I7 H v
 no:∀b o,H b=some o->v.heap[b]? =some nothing
 all:∀b,(R.fp b\/Kept Y Γ R Mn b)->H b≠none
 tq:gh v 0=t
 gmq:gm v=Γ.gm
 atq:R.evs.length=at_
 cl:∃c,R.cl[i]? =some c/\c.cb=cb/\((gh v 2=0/\c.st=false/\R.nts=n0++tell i at_ ((Y.I4 q t).nts.take (gh v 1))/\c.S1=Y.S1 q i t)\/(gh v 2=1/\c.st=true/\R.nts=n0))
 rel:∃na nc nts,R={R0 with na:=na,nc:=nc,nts:=nts}
 nil:Y.nil i=false
 he:I1 (over H v) (Γ.eb i) #[.bool false] 4 (0,0)
theorem ay0.il {Y:Sys} {fb:Nat->FuncId} {q:PR Y} {w0:World} {Γ:Geo} {X:Gh} {Mn:Nat->Option Obj} {ft:Nat->Option (Y.L ⊕ Nat)} {i t at_ cb:Nat} {n0:List (Nat×Nat×Nte)} {R0 R:Rn} {H:Hid} {v:World} (h:ay0 Y fb q w0 Γ X Mn ft i t at_ cb n0 R0 R H v):i<R.cl.length:=by
 obtain⟨c,hc,_⟩:=h.cl;exact(List.getElem?_eq_some_iff.1 hc).1
theorem Fi0 {H:Hid} {v:World} {b:Nat} {o:Obj} (T4:I7 H v) (h:H b=some o):(over H v).heap[b]? =some o:=an0 h (T4.gone b o h).lt
theorem zs0 {v v':World} (he:Evo v v') {b:Nat} (h:v.heap[b]? =some nothing):v'.heap[b]? =some nothing:=by
 obtain⟨y,hy,hk⟩:=he.obj _ _ h;obtain⟨c,rfl,h1,_⟩:=M8 hk;have:c=#[]:=by simpa using h1
 subst this;exact hy
theorem ay0.evo {Y:Sys} (hY:LeOk Y) {fb:Nat->FuncId} {q:PR Y} {w0:World} {Γ:Geo} {X:Gh} {Mn:Nat->Option Obj} {ft:Nat->Option (Y.L ⊕ Nat)} {i t at_ cb:Nat} {n0:List (Nat×Nat×Nte)} {R0 R:Rn} {H:Hid} {v v':World} (h:ay0 Y fb q w0 Γ X Mn ft i t at_ cb n0 R0 R H v) (he:Evo v v') (ht:v'.tape=v.tape):ay0 Y fb q w0 Γ X Mn ft i t at_ cb n0 R0 R H v':=by
 have gk1:=h.T4.evo he;have hk:∀b,(R.fp b\/Kept Y Γ R Mn b)->(over H v').heap[b]? =(over H v).heap[b]?:=fun b hb=>by
  cases hh:H b with
  |none=>exact absurd hh (h.all b hb)
  |some o=>rw[Fi0 gk1 hh,Fi0 h.T4 hh]
 refine⟨h.fix.u6 hY (h.fix.mem.congr fun b hb=>hk b (.inl hb)) rfl rfl rfl (fun b hb=>.inl hb) rfl (fun j c hc=>⟨c,hc,rfl,rfl,fun _=>⟨rfl,rfl⟩⟩) (by rw[O4,O4];exact he.size) (fun b _ _ hb=>.inl (hk b (.inr hb))) (fun z=>by cases z),gk1,fun b o hb=>zs0 he (h.no b o hb),h.all,by rw[o3 ht];exact h.tq,by rw[bg0 ht];exact h.gmq,h.atq,?_,h.rel,h.nil,(hk _ (.inr (.inr (.inl ⟨i,h.il,h.nil,.inr rfl⟩)))).trans h.he⟩;rw[o3 ht,o3 ht];exact h.cl
end
end
section
attribute [local irreducible] KK
theorem Fix.O2 {Y:Sys} (hY:LeOk Y) {fb:Nat->FuncId} {q:PR Y} {Γ:Geo} {X:Gh} {R:Rn} {w:World} {Mn:Nat->Option Obj} {w0:World} {ft:Nat->Option (Y.L ⊕ Nat)} {hold:Option Nat} (h:Fix Y fb q w0 Γ X R w Mn hold ft) (τ:Tape) (d:Nat):Fix Y fb q w0 Γ X R (Yc.O2 w τ d) Mn hold ft :=
 h.u6 hY (h.mem.congr fun _ _=>rfl) rfl rfl rfl (fun _b hb=>.inl hb) rfl (fun _j c hc=>⟨c,hc,rfl,rfl,fun _=>⟨rfl,rfl⟩⟩) (Nat.le_refl _) (fun _ _ _ _=>.inl rfl) (fun _=>⟨rfl,rfl⟩)
theorem vi0 {v:Value} (h:FnV prog v):v.cells=#[v]/\v.oneCell'=true:=by
 rcases h with rfl|⟨f,caps,rfl,_⟩ <;> exact⟨rfl,rfl⟩
theorem x9.fp0.fnV {K:x9 prog} {w:World} {m:Gm} {F:Nat->Prop} {rf:Value} {l:K.L} (h:K.fp0 w m F rf l):FnV prog rf:=by
 rcases h with⟨h,_⟩|⟨f,caps,h,_⟩
 ·exact .inl h
 ·exact .inr ⟨f,caps,h⟩
theorem zt0 {fr:Frame} {w w':World} {v:Value} {fn:Func} (hf:prog.funcs[fr.fn]? =some fn) (hr:fn.results=#[]\/∃t,fn.results=#[.tmp t]) (hv:fn.results=#[]->v= .tuple #[]) (h:Leaves prog fr w (.returned v)) (hnv:n7 w):Leaves prog fr w' (.returned v):=by
 obtain⟨h1,h2,h3,fn',h4,h5⟩:=h;rw[hf]at h4;obtain rfl:=Option.some.inj h4;refine⟨h1,h2,h3,fn,hf,?_⟩;rcases hr with hr|⟨t,hr⟩
 ·rw[hv hr];exact R7 (fun w=>results_none hr _ _ w) (fun w=>events_results_none hr _ _)
 ·obtain⟨x',es,h6,_⟩:=h5 w.tape w.drawn _ w hnv.sim;have h7:=results_tmp hr fr.tmps prog w;rw[Sem.runT_eq]at h6;have h8:=(Prod.mk.inj h6).1;rw[h7]at h8;injection h8 with h9 h10
  rw[<- h9];exact R7 (fun w=>results_tmp hr _ _ w) (fun w=>events_results_tmp hr _ _)
section
variable {Y:Sys}{fb:Nat->FuncId}{q:PR Y}{Γ:Geo}{X:Gh}{R R0:Rn}{w:World}{Mn:Nat->Option Obj}{w0:World}{ft:Nat->Option (Y.L ⊕ Nat)}{i t at_ cb:Nat}{n0:List (Nat×Nat×Nte)}
theorem Fix.Rv0 (h:Fix Y fb q w0 Γ X R w Mn (some i) ft) {b:Nat} (hb:R.fp b\/Kept Y Γ R Mn b):b<w.heap.size:=by
 rcases hb with hb|hb|⟨k,hk,hn,hb⟩|⟨j,hb⟩
 ·exact h.mem.lt hb
 ·rcases Nat.lt_or_ge b w.heap.size with z|z
  ·exact z
  ·exact absurd ((h.mn b hb).1.symm.trans (Array.getElem?_eq_none z)) hb
 ·have:=h.ck k _ (List.getElem?_eq_getElem hk) hn;rcases hb with rfl|rfl
  ·exact this.ha.lt
  ·exact this.he.choose_spec.lt
 ·exact(h.pv j b hb).1
theorem ay0.enter (hY:LeOk Y) (V:Nat->Prop) [DecidablePred V] {τ:Tape} {d:Nat} (fix:Fix Y fb q w0 Γ X R w Mn (some i) ft) (hV:∀b,(R.fp b\/Kept Y Γ R Mn b)->¬V b) (nv:n7 w) (h1:gh (Yc.O2 (I3 V w) τ d) 0=t) (hgm:gm (Yc.O2 (I3 V w) τ d)=Γ.gm) (h2:R.evs.length=at_)
  (h3:∃c,R.cl[i]? =some c/\c.cb=cb/\((gh (Yc.O2 (I3 V w) τ d) 2=0/\c.st=false/\R.nts=n0++tell i at_ ((Y.I4 q t).nts.take (gh (Yc.O2 (I3 V w) τ d) 1))/\c.S1=Y.S1 q i t)\/(gh (Yc.O2 (I3 V w) τ d) 2=1/\c.st=true/\R.nts=n0)))
  (h4:∃na nc nts,R={R0 with na:=na,nc:=nc,nts:=nts}) (hn:Y.nil i=false) (he:I1 w (Γ.eb i) #[.bool false] 4 (0,0)):ay0 Y fb q w0 Γ X Mn ft i t at_ cb n0 R0 R (v9 V w) (Yc.O2 (I3 V w) τ d):=by
 refine⟨?_,(ok0 nv).O2 τ d,fun b o hb=>?_,fun b hb=>?_,h1,hgm,h2,h3,h4,hn,?_⟩
 ·rw[u9,jz0];exact fix.O2 hY τ d
 ·by_cases hv:V b
  ·simp[v9,hv]at hb
  ·simp only[v9,hv,if_false]at hb;exact iy0 hv (Array.getElem?_eq_some_iff.1 hb).1
 ·have hv:=hV b hb;have M1:=fix.Rv0 hb;simp only[v9,hv,if_false];rw[Array.getElem?_eq_getElem M1];simp
 ·rw[u9,jz0];exact he
def After (Y:Sys) (fb:Nat->FuncId) (q:PR Y) (w0:World) (Mn:Nat->Option Obj) (ft:Nat->Option (Y.L ⊕ Nat)) (i t:Nat) (n0:List (Nat×Nat×Nte)) (R0:Rn) (st:Bool) (Γ':Geo) (X':Gh) (R':Rn) (w':World):Prop :=
 (st=false/\Main Y fb q w0 Γ' X' R' w' Mn (fun j=>if j=i then some (Y.I4 q t).W4 else ft j) (Y.I4 q t).s/\Rel R0 R' i (n0++tell i R0.evs.length (Y.I4 q t).nts) (lj0 R0.ends i (Y.I4 q t).W4)) \/
 (st=true/\Main Y fb q w0 Γ' X' R' w' Mn (fun j=>if j=i then some (.inr 0) else ft j) (Y.T9 q t)/\Rel R0 R' i n0 (R0.ends.set i 0))
theorem ay0.Yr0 {H:Hid} {v:World} (h:ay0 Y fb q w0 Γ X Mn ft i t at_ cb n0 R0 R H v) {b:Nat} (hb:v.heap[b]? ≠some nothing):H b=none/\¬R.fp b/\¬Kept Y Γ R Mn b:=by
 have hn:H b=none:=by
  cases hh:H b with
  |none=>rfl
  |some o=>exact absurd (h.no b o hh) hb
 exact⟨hn,fun z=>h.all b (.inl z) hn,fun z=>h.all b (.inr z) hn⟩
theorem ay0.chs {H:Hid} {v:World} (h:ay0 Y fb q w0 Γ X Mn ft i t at_ cb n0 R0 R H v) (hn:Y.nil i=false) {c:CB} (hc:R.cl[i]? =some c):∀g s2,g≠0->X.O1 g=some s2->s2.ch≠c.rc:=by
 intro g s2 hg hs e;obtain⟨j,d,h1,h2,h3,h4,h5⟩:=h.fix.C4 g s2 hg hs;have:=h.fix.Hg0 j i d c h1 hc h2 hn (h4.symm.trans e);subst this;exact h5 rfl
theorem ay0.home (hY:pa0 Y) {H:Hid} {v w':World} (h:ay0 Y fb q w0 Γ X Mn ft i t at_ cb n0 R0 R H v) (hn:Y.nil i=false) {c c':CB} {ends:List Int} {S:Nat->Prop} {B:Nat} (hc:R.cl[i]? =some c) (gl1:c'.cb=c.cb) (li1:c'.rc=c.rc) (_hc'p:c'.S1=c.S1) (hg:Rg S B (over H v) w' w0.heap.size {R with cl:=R.cl.set i c',ends:=ends}) (hB:B=(over H v).heap.size) (hS:∀k,S k->R.fp k\/(k=Γ.eb i)) (lj1:∃en,I1 w' (Γ.eb i) #[.bool en] 4 (0,0)) (Mk0:∀j,j≠i->ends[j]? =R.ends[j]?)
  (F:Nat->Prop) {s:Y.S} {m:Gm} (hm:∀j,j≠i->Y.le j (gm v) m) (hinv:Y.Inv s m v F) (hos:v.os=w0.os/\v.output=w0.output) {sh:Option q6} (L9:∀s,sh=some s->s.ch=c'.rc) {f:Y.L ⊕ Nat} {N:Nat->Prop} (hN:∀b,N b->v.heap[b]? ≠some nothing/\b<v.heap.size/\¬F b) (hf:(∀b,v.heap[b]? ≠some nothing->b<v.heap.size->w'.heap[b]? =v.heap[b]?)->Cl1 Y fb q w0 (Γ.mx0 i N m) (X.pass (Γ.gi i) 0 sh) {R with cl:=R.cl.set i c',ends:=ends} w' i c' f) :
  Main Y fb q w0 (Γ.mx0 i N m) (X.pass (Γ.gi i) 0 sh) {R with cl:=R.cl.set i c',ends:=ends} w' Mn (fun j=>if j=i then some f else ft j) s/\(∃na nc,{R with cl:=R.cl.set i c',ends:=ends}={R0 with na:=na,nc:=nc,nts:=R.nts,cl:=R0.cl.set i c',ends:=ends}):=by
 subst hB;have X7:=(List.getElem?_eq_some_iff.1 hc).1;have Vr0:∀b,b<(over H v).heap.size->¬R.fp b->b≠Γ.eb i->w'.heap[b]? =(over H v).heap[b]?:=fun b hb hf he=>hg.md.block b hb fun hs=>(hS b hs).elim hf he;have ar0:∀b,v.heap[b]? ≠some nothing->b<v.heap.size->w'.heap[b]? =v.heap[b]?:=fun b hb M1=>by
  obtain⟨h1,h2,h3⟩:=h.Yr0 hb;rw[Vr0 b (by rw[O4];exact M1) h2 (fun e=>h3 (.inr (.inl ⟨i,X7,hn,.inr e⟩))),Z5 v h1]
 have hfp:∀b,Rn.fp {R with cl:=R.cl.set i c',ends:=ends} b->R.fp b:=fun b hb=>Rn.Ez0 (R:=R) hc gl1 hb;have hK:∀b,Kept Y Γ {R with cl:=R.cl.set i c',ends:=ends} Mn b↔Kept Y Γ R Mn b:=fun b=>by simp[Kept]
 have gm1:=h.fix.u6 hY.toLeOk (R':={R with cl:=R.cl.set i c',ends:=ends}) (w':=w') hg.m rfl rfl rfl (fun b hb=>.inl (hfp b hb)) (by simp) (fun j d hd=>by
  have k6:(R.cl.set i c')[j]? =some d:=hd;rw[List.getElem?_set]at k6;by_cases hj:i=j
  ·subst hj;rw[if_pos rfl,if_pos X7]at k6;obtain rfl:=Option.some.inj k6;exact⟨c,hc,gl1,li1,fun z=>absurd rfl z⟩
  ·rw[if_neg hj]at k6;exact⟨d,k6,rfl,rfl,fun _=>⟨rfl,Mk0 j (Ne.symm hj)⟩⟩) hg.md.size (fun b hb hf _=>by
   by_cases he:b=Γ.eb i
   ·subst he;obtain⟨en,he⟩:=lj1;exact .inr ⟨i,en,rfl,X7,hn,rfl,he⟩
   ·exact .inl (Vr0 b hb hf he)) (fun z=>by cases z)
 have M9:Rn.cl {R with cl:=R.cl.set i c',ends:=ends}=R.cl.set i c':=rfl;have hci:(Rn.cl {R with cl:=R.cl.set i c',ends:=ends})[i]? =some c':=by rw[M9];simp[X7]
 have gn1:=gm1.back hY.toLeOk (m:=m) (by rw[<- h.gmq];exact hm) hn hci (N:=N) (fun b hb=>by
  obtain⟨h1,h2,h3⟩:=hN b hb;obtain⟨h4,h5,h6⟩:=h.Yr0 h1;refine⟨Nat.lt_of_lt_of_le h2 (by have:=hg.md.size;rw[O4]at this;exact this),fun z=>h5 (hfp b z),fun z=>h6 ((hK b).1 z)⟩) L9 (hf ar0) ⟨hg.md.os.trans hos.1,hg.md.output.trans hos.2⟩
 refine⟨⟨gn1,F,hY.loc _ _ v w' F hinv fun b hb=>?_,fun b hb=>?_⟩,?_⟩
 ·have:=hY.vis _ _ v F hinv b hb;exact ar0 b this.2 this.1
 ·have hv:=hY.vis _ _ v F hinv b hb;obtain⟨h4,h5,h6⟩:=h.Yr0 hv.2;refine⟨fun z=>h5 (hfp b z),fun z=>?_⟩;rcases z with z|z|⟨j,z⟩
  ·exact h6 (.inl z)
  ·exact h6 ((hK b).1 (.inr (.inl z)))
  ·by_cases hj:j=i
   ·subst hj;have:N b:=by simpa [Geo.mx0,Geo.put]using z
    exact(hN b this).2.2 hb
   ·rw[kg0 hj]at z;exact h6 (.inr (.inr ⟨j,z⟩))
 ·obtain⟨na,nc,nts,rfl⟩:=h.rel;exact⟨na,nc,rfl⟩
end
end
section
attribute [local irreducible] KK
section
variable {Y:Sys}{fb:Nat->FuncId}{q:PR Y}{Γ:Geo}{X:Gh}{R R0:Rn}{Mn:Nat->Option Obj}{w0:World}{ft:Nat->Option (Y.L ⊕ Nat)}{i t at_ cb:Nat}{n0:List (Nat×Nat×Nte)}{H:Hid}{v:World}
theorem ay0.en0 (h:ay0 Y fb q w0 Γ X Mn ft i t at_ cb n0 R0 R H v):0<Γ.gi i:=(h.fix.ck i _ (List.getElem?_eq_getElem h.il) h.nil).en0.1
theorem ay0.go1 (h:ay0 Y fb q w0 Γ X Mn ft i t at_ cb n0 R0 R H v) {b:Nat} (hb:H b=none):¬R.fp b/\¬Kept Y Γ R Mn b:=⟨fun z=>h.all b (.inl z) hb,fun z=>h.all b (.inr z) hb⟩
theorem ay0.again (hY:LeOk Y) (h:ay0 Y fb q w0 Γ X Mn ft i t at_ cb n0 R0 R H v) {w':World} {R':Rn} {τ:Tape} {d:Nat} (hg:Rg R.fp (over H v).heap.size (over H v) w' w0.heap.size R') (V:Nat->Prop) [DecidablePred V] (hV:∀b,V b↔(H b=none/\¬R'.fp b)) (nv:n7 w') (hR:∃na nc nts,R'={R with na:=na,nc:=nc,nts:=nts})
  (h1:gh (Yc.O2 (I3 V w') τ d) 0=t) (hgm:gm (Yc.O2 (I3 V w') τ d)=gm v) (h3:∃c,R'.cl[i]? =some c/\c.cb=cb/\((gh (Yc.O2 (I3 V w') τ d) 2=0/\c.st=false/\R'.nts=n0++tell i at_ ((Y.I4 q t).nts.take (gh (Yc.O2 (I3 V w') τ d) 1))/\c.S1=Y.S1 q i t)\/(gh (Yc.O2 (I3 V w') τ d) 2=1/\c.st=true/\R'.nts=n0))) :
  ay0 Y fb q w0 Γ X Mn ft i t at_ cb n0 R0 R' (v9 V w') (Yc.O2 (I3 V w') τ d)/\gw0 v (Yc.O2 (I3 V w') τ d):=by
 obtain⟨na,nc,nts,rfl⟩:=hR;have hkb:∀b,b<(over H v).heap.size->¬R.fp b->w'.heap[b]? =(over H v).heap[b]?:=fun b hb hf=>hg.md.block b hb hf;have mu0:=h.fix.u6 hY (R':={R with na:=na,nc:=nc,nts:=nts}) (w':=w') hg.m rfl rfl rfl hg.fp rfl (fun j c hc=>⟨c,hc,rfl,rfl,fun _=>⟨rfl,rfl⟩⟩) hg.md.size (fun b hb hf _=>.inl (hkb b hb hf)) (fun z=>by cases z);have heL:=h.he.lt;have heF:¬R.fp (Γ.eb i):=(h.fix.side i h.il h.nil).2.2.2;refine⟨ay0.enter hY V mu0 (fun b hb hv=>?_) nv h1 (hgm.trans h.gmq) h.atq h3 ?_ h.nil ((hkb _ heL heF).trans h.he),⟨?_,?_,?_,fun b hb=>?_⟩⟩
 ·obtain⟨h4,h5⟩:=(hV b).1 hv;rcases hb with hb|hb
  ·exact h5 hb
  ·exact h.all b (.inr hb) h4
 ·obtain⟨a,c,n,e⟩:=h.rel;exact⟨na,nc,nts,by rw[e]⟩
 ·exact hg.md.os
 ·exact hg.md.output
 ·show v.heap.size <=(I3 V w').heap.size;rw[S9,<- O4 H v];exact hg.md.size
 ·show(I3 V w').heap[b]? =v.heap[b]?;have W7:b<(over H v).heap.size:=by rw[O4];exact hb
  cases hh:H b with
  |none=>
   have hf:=h.go1 hh;have hf':¬Rn.fp {R with na:=na,nc:=nc,nts:=nts} b:=fun z=>(hg.fp b z).elim hf.1 (Nat.not_le_of_lt W7);rw[bp0 _ ((hV b).2 ⟨hh,hf'⟩),hkb b W7 hf.1,Z5 v hh]
  |some o=>
   rw[iy0 (fun z=>by rw[((hV b).1 z).1]at hh;cases hh) (Nat.lt_of_lt_of_le W7 hg.md.size),h.no b o hh]
theorem je0 {Post:Value->World->Prop} {z0:Value} {me0:Goroutine} {st:Bool} (hY:pa0 Y) (hX0:X.O1 0=some ⟨R0.yb,z0,me0⟩) (hnt:n0.length+(Y.I4 q t).nts.length <=1000000000)
  (X8:∀Γ' X' R' w',After Y fb q w0 Mn ft i t n0 R0 st Γ' X' R' w'->Fin prog Post X' 0 (Go.Conc.served me0 (.i (i:Int))) w') {g:Goroutine} {v:World} (hp:D9 (Y.cfg fb q w0 i cb (Γ.top i)) g v) :
  ∀H R,ay0 Y fb q w0 Γ X Mn ft i t at_ cb n0 R0 R H v->(∀c,R.cl[i]? =some c->c.st=st)->jy0 prog Post X (Γ.gi i) H g v:=by
 induction hp with
 |own hr g' u' d' hf hk ih=>
  intro H R h L2;have z9:(Γ.gi i==0)=false:=by have:=h.en0;simp;omega
  refine oj0 hr fun τ d=>⟨g' τ d,u' τ d,by rw[z9];exact hf τ d,fun he=>bz0 (ih τ d H R (h.evo hY.toLeOk ⟨he.size,he.obj⟩ rfl) L2)⟩
 |ign h0 ih=>
  intro H R h L2;exact Fb0.2 _ _ fun hv=>ih hv H R h L2
 | @number cs v hN k ih=>
  obtain⟨fn,h1,h2⟩:=hN;have h1:prog.funcs[172]? =some fn:=h1;rw[func172]at h1;cases h1;exact absurd h2 (by rw[show Tryz.f172.body.isSome=false by kernel_rfl];exact fun h=>by cases h)
 |S1 hfn=>cases hfn
 | @again cs v s rf df h2 hs k ih=>
  intro H R h L2 hH;obtain⟨c,hc,hcb,O6⟩:=h.cl;have hB:=h.fix.mem.blk i c hc;have np0:c.st=true/\R.nts=n0:=by
   rcases O6 with O6|O6
   ·have:=O6.1;omega
   ·exact O6.2
  have z9:(Γ.gi i==0)=false:=by have:=h.en0;simp;omega
  obtain⟨s0,rfl⟩:=hs;subst hcb;refine Cr0 (Z:=Fin prog Post X (Γ.gi i)) (by have:=@X5 prog Post X (Γ.gi i);rw[z9]at this;exact this) hB np0.1 fun w' fr ch hb hf hr hl=>?_;refine bf0 _ _ fun nv=>?_;haveI:DecidablePred fun b=>H b=none/\¬R.fp b:=fun _=>Classical.propDecidable _;have hg:Rg R.fp (over H v).heap.size (over H v) w' w0.heap.size R:=h.fix.mem.rg.j0 hb;have htp:w'.tape=v.tape:=hb.tape;obtain⟨h5,h6⟩:=h.again hY.toLeOk (τ:=w'.tape) (d:=w'.drawn) hg (fun b=>H b=none/\¬R.fp b) (fun _=>Iff.rfl) nv ⟨R.na,R.nc,R.nts,rfl⟩ ((o3 htp 0).trans h.tq) (bg0 htp) ⟨c,hc,rfl,.inr ⟨(o3 htp 2).trans h2,np0⟩⟩;exact ke0 (fun b=>H b=none/\¬R.fp b) (ih _ fr ch h6 htp hf hr hl _ R h5 L2)
 | @note cs v kind text f hfn h2 hx k ih=>
  intro H R h L2 hH;obtain rfl:=Option.some.inj hfn;obtain⟨c,hc,hcb,O6⟩:=h.cl;have htq:=h.tq;have im0:c.st=false/\R.nts=n0++tell i at_ ((Y.I4 q t).nts.take (gh v 1))/\c.S1=Y.S1 q i t:=by
   rcases O6 with O6|O6
   ·exact O6.2
   ·have:=O6.1;omega
  have E5:(Y.I4 q t).nts[gh v 1]? =some ⟨kind,text⟩:=by rw[<- htq];exact hx
  have M1:=(List.getElem?_eq_some_iff.1 E5).1;have hle:w0.heap.size <=(over H v).heap.size:=h.fix.size;subst hcb;refine @Yg0 (X1 prog (Γ.gi i==0)) R.fp (over H v).heap.size (over H v) w0.heap.size R (over H v) h.fix.mem.rg hle i c hc im0.1 (by
   rw[im0.2.1];simp[tell];omega) kind text _ X5 cs fun e w' fr he hf hl=>?_
  cases e with
  |returned x=>
   obtain⟨rfl,a,n,hg⟩:=he;refine bf0 _ _ fun nv=>?_;haveI:DecidablePred fun b=>H b=none/\¬Rn.fp {R with na:=a,nc:=n,nts:=R.nts ++ [(R.evs.length,i,⟨kind,text⟩)]} b:=fun _=>Classical.propDecidable _;have htp:w'.tape=v.tape:=hg.md.tape;have hg1:∀U:World,gh (Yc.O2 U (ee0 w' 1 (gh v 1+1)).tape w'.drawn) 1=gh v 1+1:=fun U=>Xc0 w' 1 _;have hgn:∀(U:World) (j:Nat),j≠1->gh (Yc.O2 U (ee0 w' 1 (gh v 1+1)).tape w'.drawn) j=gh v j:=fun U j hj=>(Gs0 w' _ hj).trans (o3 htp j);obtain⟨h5,h6⟩:=h.again hY.toLeOk (τ:=(ee0 w' 1 (gh v 1+1)).tape) (d:=w'.drawn) hg (fun b=>H b=none/\¬Rn.fp {R with na:=a,nc:=n,nts:=R.nts ++ [(R.evs.length,i,⟨kind,text⟩)]} b) (fun _=>Iff.rfl) nv ⟨a,n,_,rfl⟩ ((hgn _ 0 (by decide)).trans h.tq) (funext fun j=>hgn _ (j+3) (by omega))
    ⟨c,hc,rfl,.inl ⟨(hgn _ 2 (by decide)).trans h2,im0.1,by
     rw[hg1,im0.2.1,h.atq,List.take_add_one,E5];simp[tell],im0.2.2⟩⟩
   refine ke0 (fun b=>H b=none/\¬Rn.fp {R with na:=a,nc:=n,nts:=R.nts ++ [(R.evs.length,i,⟨kind,text⟩)]} b) (bz0 (ih _ fr h6 (hgn _ 0 (by decide)) (hg1 _) ((hgn _ 2 (by decide)).trans h2) (funext fun j=>hgn _ (j+3) (by omega)) hf (zt0 (by rw[hf];exact func74) (.inl rfl) (fun _=>rfl) hl nv) _ _ h5 L2))
  |panicked ch=>exact he.elim
  |outgrown=>exact he.elim
 | @step cs v s rf df l m F ht hs hr hdf Rdo hdo go stop ihg ihs=>
  intro H R h L2 hH;obtain⟨c,hc,hcb,O6⟩:=h.cl;have htq:=h.tq;have hn:=h.nil;have h2:gh v 2=0:=ht.on;have im0:c.st=false/\R.nts=n0++tell i at_ ((Y.I4 q t).nts.take (gh v 1))/\c.S1=Y.S1 q i t:=by
   rcases O6 with O6|O6
   ·exact O6.2
   ·have:=O6.1;omega
  have Vs0:(Y.I4 q t).W4= .inl l:=by rw[<- htq];exact ht.W4
  have lk1:gh v 1=(Y.I4 q t).nts.length:=by rw[<- htq];exact ht.nts
  have hinv:Y.Inv (Y.I4 q t).s m v F:=by rw[<- htq];exact ht.inv
  have hck:=h.fix.ck i c hc hn;have X7:=h.il;obtain⟨na,nc,nts,rh0⟩:=h.rel;have hyb:R.yb=R0.yb:=by rw[rh0]
  have hR0:R0.cl=R.cl:=by rw[rh0]
  have Ys0:R0.evs=R.evs:=by rw[rh0]
  subst hcb hs;refine step_fin (Bs:=w0.heap.size) h.fix.mem.rg hc im0.1 (vi0 (x9.fp0.fnV hr)) (vi0 hdf) (by have:=h.en0;omega) (by rw[hyb];exact hX0) h.fix.dn hck.stay ⟨hck.ch,h.chs hn hc⟩ fun w' me hg hme=>?_;have hef:=(h.fix.side i X7 hn).2.2.2;have heb:I1 w' (Γ.eb i) #[.bool false] 4 (0,0):=(hg.md.block _ h.he.lt hef).trans h.he;obtain⟨h7,h8⟩:=h.home hY hn (c':={c with sp:=Y.stp i l,rf:=rf,df:=df,wt:=true}) (ends:=R.ends) hc rfl rfl rfl hg rfl (fun k hk=>.inl hk) ⟨_,heb⟩ (fun _ _=>rfl) F ht.le hinv ⟨ht.os,ht.output⟩ (sh:=some ⟨c.rc,.bool false,me⟩) (fun s e=>by cases e;rfl) (f:=.inl l)
   (N:=fun b=>b<v.heap.size/\v.heap[b]? ≠some nothing/\¬F b) (fun b hb=>⟨hb.2.1,hb.1,hb.2.2⟩) (fun ar0=>.inr ⟨hn,rfl,im0.1,rfl,heb,me,cs,v,m,F,Rdo,aq0,hme,hr,hdf,fun b=>by simp[Geo.mx0,Geo.put],fun b hb=>by
    have W7:b<v.heap.size/\v.heap[b]? ≠some nothing/\¬F b:=by simpa [Geo.mx0,Geo.put]using hb
    exact ar0 b W7.2.1 W7.1,ht.os,ht.output,by have:=hg.md.size;rw[O4]at this;exact this,hY.refl _ _,hdo,go,stop⟩)
  rw[<- Vs0]at h7;obtain⟨a,b,e⟩:=h8;refine X8 _ _ _ _ (.inl ⟨(L2 c hc).symm.trans im0.1,h7,a,b,c,{c with sp:=Y.stp i l,rf:=rf,df:=df,wt:=true},by rw[hR0];exact hc,rfl,e.trans ?_⟩)
  ·rw[Vs0,show lj0 R0.ends i (Sum.inl l:Y.L ⊕ Nat)=R.ends from by rw[rh0];rfl,im0.2.1,lk1,List.take_length,Ys0,h.atq]
 | @done fr v e F hf hl hd=>
  intro H R h L2 hH;obtain⟨c,hc,hcb,O6⟩:=h.cl;have htq:=h.tq;have hn:=h.nil;have hck:=h.fix.ck i c hc hn;have X7:=h.il;obtain⟨na,nc,nts,rh0⟩:=h.rel;have hyb:R.yb=R0.yb:=by rw[rh0]
  have hR0:R0.cl=R.cl:=by rw[rh0]
  have Ys0:R0.evs=R.evs:=by rw[rh0]
  have hsd:=h.fix.side i X7 hn;have hlen:R.ends.length=R.m:=h.fix.mem.gf0;have him:i<R.ends.length:=by have:=h.fix.mem.lcl;omega
  have key:∀x:Nat,ga1 c (x:Int) e->((st=false/\(Y.I4 q t).W4= .inr x/\gh v 1=(Y.I4 q t).nts.length/\∃m,(∀j,j≠i->Y.le j (gm v) m)/\Y.Inv (Y.I4 q t).s m v F)\/(st=true/\x=0/\∃m,(∀j,j≠i->Y.le j (gm v) m)/\Y.Inv (Y.T9 q t) m v F))->v.os=w0.os->v.output=w0.output->Fin prog Post X (Γ.gi i) (G fr (Γ.top i)) (over H v):=by
   intro x hx hk hos pb0;have hg:Rg (fun b=>R.fp b\/b=Γ.eb i) (over H v).heap.size (over H v) (over H v) w0.heap.size R:=⟨h.fix.mem,jd0.refl _ _ _,fun k hk=>.inl (.inl hk),Nat.le_refl _⟩
   refine hck.top.leave (x:Int) hg rfl hc rfl hck.ha h.he (.inl (.inr rfl)) hx h.en0 (by rw[hyb];exact hX0) h.fix.dn h.fix.A4 (fun w' K9 heb=>?_) (mh0 hH hl);have Mk0:∀j,j≠i->(R.ends.set i (x:Int))[j]? =R.ends[j]?:=fun j hj=>by rw[List.getElem?_set_ne (Ne.symm hj)]
   have hmk:∀s m,(∀j,j≠i->Y.le j (gm v) m)->Y.Inv s m v F->_:=fun s m hm hs=>h.home hY hn (c':={c with wt:=false}) (ends:=R.ends.set i (x:Int)) hc rfl rfl rfl K9 rfl (fun k hk=>hk) heb Mk0 F hm hs ⟨hos,pb0⟩ (sh:=none) (fun s e=>by cases e) (f:=.inr x) (N:=fun _=>False) (fun b hb=>hb.elim) (fun ar0=>.inr ⟨hn,rfl,by simp[him],aq0⟩);rcases hk with⟨h1,h2,h3,m,hm,h4⟩|⟨h1,h2,m,hm,h3⟩
   ·have np0:c.st=false:=(L2 c hc).trans h1;have im0:R.nts=n0++tell i at_ ((Y.I4 q t).nts.take (gh v 1)):=by
     rcases O6 with O6|O6
     ·exact O6.2.2.1
     ·rw[np0]at O6;exact absurd O6.2.1 (by decide)
    obtain⟨h7,a,b,e'⟩:=hmk _ m hm h4;rw[<- h2]at h7;refine X8 _ _ _ _ (.inl ⟨h1,h7,a,b,c,{c with wt:=false},by rw[hR0];exact hc,rfl,e'.trans ?_⟩)
    ·rw[h2,show lj0 R0.ends i (Sum.inr x:Y.L ⊕ Nat)=R.ends.set i (x:Int)from by rw[rh0];rfl,im0,h3,List.take_length,Ys0,h.atq]
   ·have np0:c.st=true:=(L2 c hc).trans h1;have im0:R.nts=n0:=by
     rcases O6 with O6|O6
     ·rw[np0]at O6;exact absurd O6.2.1 (by decide)
     ·exact O6.2.2
    obtain⟨h7,a,b,e'⟩:=hmk _ m hm h3;subst h2;refine X8 _ _ _ _ (.inr ⟨h1,h7,a,b,c,{c with wt:=false},by rw[hR0];exact hc,rfl,e'.trans ?_⟩)
    ·rw[show R0.ends.set i 0=R.ends.set i ((0:Nat):Int)from by rw[rh0];rfl,im0]
  have Yt0:gh v 2=0->c.st=false:=fun z=>by rcases O6 with O6|O6;exact O6.2.1;have:=O6.1;omega
  have Rw0:gh v 2=1->c.st=true:=fun z=>by rcases O6 with O6|O6;have:=O6.1;omega;exact O6.2.1
  have gy0:∀(x:Nat) m,(Y.cfg fb q w0 i cb (Γ.top i)).Told v m F (.inr x)->(st=false/\(Y.I4 q t).W4= .inr x/\gh v 1=(Y.I4 q t).nts.length/\∃m,(∀j,j≠i->Y.le j (gm v) m)/\Y.Inv (Y.I4 q t).s m v F):=fun x m ht=>
   ⟨(L2 c hc).symm.trans (Yt0 ht.on),by rw[<- htq];exact ht.W4,by rw[<- htq];exact ht.nts,m,ht.le,by rw[<- htq];exact ht.inv⟩
  cases e with
  |outgrown=>exact hd.elim
  |returned x=>
   rcases hd with⟨m,ht⟩|⟨h2,h3,h4,h5⟩
   ·exact key 1 (.inr ⟨Yt0 ht.on,rfl⟩) (.inl (gy0 1 m ht)) ht.os ht.output
   ·exact key 0 (.inl ⟨Rw0 h2,rfl⟩) (.inr ⟨(L2 c hc).symm.trans (Rw0 h2),rfl,by rw[<- htq];exact h3⟩) h4 h5
  |panicked ch=>
   obtain⟨F6,⟨m,ht⟩|⟨h2,h3,h4,h5⟩⟩:=hd
   ·exact key 2 ⟨F6,.inr ⟨Yt0 ht.on,rfl⟩⟩ (.inl (gy0 2 m ht)) ht.os ht.output
   ·exact key 0 ⟨F6,.inl ⟨Rw0 h2,rfl⟩⟩ (.inr ⟨(L2 c hc).symm.trans (Rw0 h2),rfl,by rw[<- htq];exact h3⟩) h4 h5
end
end
section
attribute [local irreducible] KK
def E3 {α:Type} (f:Nat->α) (i:Nat) (x:α):Nat->α:=fun j=>if j=i then x else f j
theorem A1 {α:Type} {f:Nat->α} {i:Nat} {x:α} {j:Nat} (h:j≠i):E3 f i x j=f j:=by simp[E3,h]
theorem C1 {α:Type} {f:Nat->α} {i:Nat} {x:α}:E3 f i x i=x:=by simp[E3]
def Geo.add (Γ:Geo) (i g a e:Nat) (top:List Frame):Geo:=⟨Γ.gm,E3 Γ.gi i g,E3 Γ.ab i a,E3 Γ.eb i e,E3 Γ.top i top,E3 Γ.pv i fun _=>False⟩
def zu0 (X:Gh) (cb rc:Nat) (s:q6):Gh :=
 {((Gh.hire {X.lower cb with pend:=1,cap:=X.cap+1,dn:=0} s).lower rc)with chs:=fun c=>X.chs c\/c=rc,stay:=Go.ConcN.upd X.stay X.n [(⟨cb,2,none⟩,.chan (some rc))]}
section
variable {Y:Sys}{fb:Nat->FuncId}{q:PR Y}{Γ:Geo}{X:Gh}{R:Rn}{w w1:World}{Mn:Nat->Option Obj}{w0:World}{ft:Nat->Option (Y.L ⊕ Nat)}{i:Nat}
theorem cf0 {α:Type} {l:List α} {x y:α} {j:Nat} (h:(l ++ [x])[j]? =some y):l[j]? =some y\/(j=l.length/\x=y):=by
 rcases Nat.lt_trichotomy j l.length with z|z|z
 ·rw[List.getElem?_append_left z]at h;exact .inl h
 ·subst z;simp at h;exact .inr ⟨rfl,h⟩
 ·rw[List.getElem?_eq_none (by simp;omega)]at h;cases h
theorem Fix.Yu0 (hY:LeOk Y) (h:Fix Y fb q w0 Γ X R w Mn none ft) (hn:Y.nil i=true) (hi:R.cl.length=i) {cb rc:Nat} {a:Option Addr} {n:Nat} (him:i<R.m) (hcb:w.heap.size <=cb) (hg:Rg R.fp w.heap.size w w1 w0.heap.size {R with ca:=a,cc:=n,cl:=R.cl ++ [J4 cb rc],ends:=R.ends.set i 1}) (hft:ft i=none) :
  Fix Y fb q w0 Γ (X.lower cb) {R with ca:=a,cc:=n,cl:=R.cl ++ [J4 cb rc],ends:=R.ends.set i 1} w1 Mn none (fun j=>if j=i then some (.inr 1) else ft j):=by
 have M1:∀b,b<w.heap.size->¬R.fp b->w1.heap[b]? =w.heap[b]?:=hg.md.block;have hle:∀j,j<(R.cl ++ [J4 cb rc]).length->Y.nil j=false->j<R.cl.length:=fun j hj K8=>by
  rw[List.length_append,List.length_singleton]at hj;rcases Nat.lt_or_ge j R.cl.length with z|z
  ·exact z
  ·have:j=i:=by omega
   rw[this,hn]at K8;cases K8
 have hold:∀j c,(R.cl ++ [J4 cb rc])[j]? =some c->Y.nil j=false->R.cl[j]? =some c:=fun j c hc K8=>by
  rcases cf0 hc with z|⟨z,_⟩
  ·exact z
  ·rw[z,hi,hn]at K8;cases K8
 have k4:R.ends.length=R.m:=h.mem.gf0;have hfp:∀b,Rn.fp {R with ca:=a,cc:=n,cl:=R.cl ++ [J4 cb rc],ends:=R.ends.set i 1} b->R.fp b\/w.heap.size <=b:=hg.fp;have hnf:∀b,b<w.heap.size->¬R.fp b->¬Rn.fp {R with ca:=a,cc:=n,cl:=R.cl ++ [J4 cb rc],ends:=R.ends.set i 1} b:=fun b hb hf z=>(hfp b z).elim hf (Nat.not_le_of_lt hb);refine⟨hg.m,h.m,fun j c hc _=>?_,fun j c hc K8=>?_,fun b hb=>?_,fun j hj K8=>?_,fun j b hb=>?_,fun b hb=>?_,h.oy0,fun z=>hg.md.os.trans (h.os z),fun z=>hg.md.output.trans (h.output z),Nat.le_trans h.size hg.md.size,h.A4,h.ml0,h.chy,fun g s K9 hs=>?_,fun j k hj hk K8 hnk=>h.Ct0 j k (hle j hj K8) (hle k hk hnk) K8 hnk,fun j k hj hk K8 hnk=>h.vh0 j k (hle j hj K8) (hle k hk hnk) K8 hnk,fun j k c d hc hd K8 hnk=>h.Hg0 j k c d (hold j c hc K8) (hold k d hd hnk) K8 hnk,fun j c hc K8=>h.ry j c (hold j c hc K8) K8,h.dn,h.pend,?_,?_,fun b hb=>h.L6 b (Nat.le_trans hg.md.size hb),h.oz0,⟨h.base.le,fun b hb=>hb.elim (h.base.low b) fun e=>by have:=h.base.le;have:=h.size;omega,h.base.pl⟩⟩
 ·rcases cf0 hc with z|⟨z,rfl⟩
  ·have hjl:=(List.getElem?_eq_some_iff.1 z).1;obtain⟨f,h1,h2⟩:=h.cl j c z (by simp);have C3:j≠i:=by omega
   refine⟨f,by simp[C3,h1],h2.u6 (Γ':=Γ) (hY.trans _) (hY.refl _ Γ.gm) (fun b hb=>M1 b (h.pv j b hb).1 (h.pv j b hb).2.1) hg.md.size (fun _=>rfl) (fun K8=>?_) rfl rfl rfl rfl (by show(R.ends.set i 1)[j]? =_;rw[List.getElem?_set_ne (Ne.symm C3)])⟩;exact M1 _ (h.ck j c z K8).he.choose_spec.lt (h.side j hjl K8).2.2.2
  ·rw[hi]at z;subst z;refine⟨.inr 1,by simp,.inl ⟨hn,rfl,rfl,?_⟩⟩;show(R.ends.set j 1)[j]? =some 1;simp[k4,him]
 ·have M9:=hold j c hc K8;have hk:=h.ck j c M9 K8;have hjl:=(List.getElem?_eq_some_iff.1 M9).1;have hs:=h.side j hjl K8;refine⟨hk.top,(M1 _ hk.ha.lt hs.2.2.1).trans hk.ha,?_,hk.en0,hk.stay,hk.ch⟩;obtain⟨en,he⟩:=hk.he;exact⟨en,(M1 _ he.lt hs.2.2.2).trans he⟩
 ·rcases hfp b hb with z|z
  ·exact h.fpB b z
  ·exact Nat.le_trans h.size z
 ·have hjl:=hle j hj K8;have hs:=h.side j hjl K8;have hk:=h.ck j _ (List.getElem?_eq_getElem hjl) K8;exact⟨hs.1,hs.2.1,hnf _ hk.ha.lt hs.2.2.1,hnf _ hk.he.choose_spec.lt hs.2.2.2⟩
 ·have hp:=h.pv j b hb;exact⟨Nat.lt_of_lt_of_le hp.1 hg.md.size,hnf b hp.1 hp.2.1,hp.2.2.1,fun k hk hnk=>hp.2.2.2.1 k (hle k hk hnk) hnk,hp.2.2.2.2⟩
 ·have hm:=h.mn b hb;have W7:b<w.heap.size:=by
   rcases Nat.lt_or_ge b w.heap.size with z|z
   ·exact z
   ·exact absurd (hm.1.symm.trans (Array.getElem?_eq_none z)) hb
  exact⟨(M1 b W7 hm.2.1).trans hm.1,hnf b W7 hm.2.1,fun k hk hnk=>hm.2.2 k (hle k hk hnk) hnk⟩
 ·obtain⟨j,c,h1,h2⟩:=h.C4 g s K9 hs;have hjl:=(List.getElem?_eq_some_iff.1 h1).1;exact⟨j,c,by show(R.cl ++ [J4 cb rc])[j]? =some c;rw[List.getElem?_append_left hjl];exact h1,h2⟩
 ·show X.cap <=(R.cl ++ [J4 cb rc]).length;have:=h.cap;simp;omega
 ·have hu:=h.under.mono hg.md.size;have O6:cb<w1.heap.size:=(hg.m.blk i (J4 cb rc) (by show(R.cl ++ [J4 cb rc])[i]? =_;rw[<- hi];simp)).lt;exact⟨hu.stay,hu.T4,hu.chs,hu.A4,fun b hb=>by
   rcases hb with z|rfl
   ·exact hu.low b z
   ·exact O6⟩
theorem Fix.hire (hY:LeOk Y) (h:Fix Y fb q w0 Γ X R w Mn none ft) (hn:Y.nil i=false) (hi:R.cl.length=i) {cb rc n8 A7:Nat} {a:Option Addr} {n:Nat} {top:List Frame} {s:q6} (hs:s.ch=R.yb) (hM:S4 w1 w0.heap.size {R with ca:=a,cc:=n,cl:=R.cl ++ [J4 cb rc]}) (K2:w.heap.size <=w1.heap.size) (_hos:w1.os=w.os/\w1.output=w.output)
  (M1:∀b,b<w.heap.size->¬R.fp b->w1.heap[b]? =w.heap[b]?) (hfp:∀b,Rn.fp {R with ca:=a,cc:=n,cl:=R.cl ++ [J4 cb rc]} b->R.fp b\/w.heap.size <=b) (hcb:w.heap.size <=cb) (hrc:w.heap.size <=rc/\rc<w1.heap.size) (hab:w.heap.size <=n8) (heb:w.heap.size <=A7) (hA:I1 w1 n8 #[.p cb] 123 (0,0)) (hE:I1 w1 A7 #[.bool false] 4 (0,0))
  (hnA:¬Rn.fp {R with ca:=a,cc:=n,cl:=R.cl ++ [J4 cb rc]} n8) (hnE:¬Rn.fp {R with ca:=a,cc:=n,cl:=R.cl ++ [J4 cb rc]} A7) (hT:Lt0 top n8 A7 R.rb cb) :
  Fix Y fb q w0 (Γ.add i X.n n8 A7 top) (zu0 X cb rc s) {R with ca:=a,cc:=n,cl:=R.cl ++ [J4 cb rc]} w1 Mn (some i) ft:=by
 have hle:∀j,j<(R.cl ++ [J4 cb rc]).length->j≠i->j<R.cl.length:=fun j hj C3=>by
  rw[List.length_append,List.length_singleton]at hj;omega
 have hold:∀j c,(R.cl ++ [J4 cb rc])[j]? =some c->j≠i->R.cl[j]? =some c:=fun j c hc C3=>by
  rcases cf0 hc with z|⟨z,_⟩
  ·exact z
  ·exact absurd (z.trans hi) C3
 have G1:∀c,(R.cl ++ [J4 cb rc])[i]? =some c->c=J4 cb rc:=fun c hc=>by
  rw[<- hi]at hc;simp at hc;exact hc.symm
 have hnf:∀b,b<w.heap.size->¬R.fp b->¬Rn.fp {R with ca:=a,cc:=n,cl:=R.cl ++ [J4 cb rc]} b:=fun b hb hf z=>(hfp b z).elim hf (Nat.not_le_of_lt hb);have hgi:∀{j},j≠i->(Γ.add i X.n n8 A7 top).gi j=Γ.gi j:=fun hj=>A1 hj;have Ml0:(Γ.add i X.n n8 A7 top).gi i=X.n:=C1;have Rx0:∀{j},j≠i->(Γ.add i X.n n8 A7 top).ab j=Γ.ab j:=fun hj=>A1 hj;have Ry0:(Γ.add i X.n n8 A7 top).ab i=n8:=C1;have xl0:∀{j},j≠i->(Γ.add i X.n n8 A7 top).eb j=Γ.eb j:=fun hj=>A1 hj;have zv0:(Γ.add i X.n n8 A7 top).eb i=A7:=C1;have htn:∀{j},j≠i->(Γ.add i X.n n8 A7 top).top j=Γ.top j:=fun hj=>A1 hj;have hti:(Γ.add i X.n n8 A7 top).top i=top:=C1;have hpn:∀{j},j≠i->(Γ.add i X.n n8 A7 top).pv j=Γ.pv j:=fun hj=>A1 hj;have hpi:(Γ.add i X.n n8 A7 top).pv i=fun _=>False:=C1;have hgn:∀j,j<R.cl.length->Y.nil j=false->Γ.gi j≠X.n:=fun j hj K8 e=>by
  have:=(h.ck j _ (List.getElem?_eq_getElem hj) K8).en0;omega
 have p7:∀g,g≠0->(zu0 X cb rc s).O1 g=X.O1 g:=fun g hg=>Go.ConcN.upd_ne _ _ hg;have Mm0:∀g,g≠X.n->(zu0 X cb rc s).stay g=X.stay g:=fun g hg=>Go.ConcN.upd_ne _ _ hg;have Mn0:∀b,b<w.heap.size->(∀k,k<R.cl.length->Y.nil k=false->b≠Γ.ab k/\b≠Γ.eb k)->∀k,k<(R.cl ++ [J4 cb rc]).length->Y.nil k=false->b≠(Γ.add i X.n n8 A7 top).ab k/\b≠(Γ.add i X.n n8 A7 top).eb k:=fun b hb hk k hkl hnk=>by
  by_cases hki:k=i
  ·rw[hki,Ry0,zv0];constructor <;> omega
  ·rw[Rx0 hki,xl0 hki];exact hk k (hle k hkl hki) hnk
 refine⟨hM,h.m,fun j c hc hj=>?_,fun j c hc K8=>?_,fun b hb=>?_,fun j hj K8=>?_,fun j b hb=>?_,fun b hb=>?_,Nat.succ_pos _,(fun z=>by cases z),(fun z=>by cases z),Nat.le_trans h.size K2,h.A4,?_,.inl h.chy,fun g s' K9 hs'=>?_,fun j k hj hk K8 hnk=>?_,fun j k hj hk K8 hnk=>?_,fun j k c d hc hd K8 hnk=>?_,fun j c hc K8=>?_,rfl,rfl,?_,?_,fun b hb=>h.L6 b (Nat.le_trans K2 hb),(fun z=>by cases z),⟨h.base.le,fun b hb=>?_,h.base.pl⟩⟩
 ·have C3:j≠i:=fun e=>hj (by rw[e]);have z:=hold j c hc C3;have hjl:=(List.getElem?_eq_some_iff.1 z).1;obtain⟨f,h1,h2⟩:=h.cl j c z (by simp);refine⟨f,h1,h2.u6 (Γ':=Γ.add i X.n n8 A7 top) (hY.trans _) (hY.refl _ Γ.gm) (fun b hb=>M1 b (h.pv j b hb).1 (h.pv j b hb).2.1) K2 (fun K8=>?_) (fun K8=>?_) (xl0 C3) (hgi C3) (htn C3) (hpn C3) rfl⟩
  ·have:=(h.ck j c z K8).en0;exact p7 _ (by omega)
  ·exact M1 _ (h.ck j c z K8).he.choose_spec.lt (h.side j hjl K8).2.2.2
 ·by_cases C3:j=i
  ·subst C3;obtain rfl:=G1 c hc;refine⟨by rw[hti,Ry0,zv0];exact hT,by rw[Ry0];exact hA,⟨false,by rw[zv0];exact hE⟩,⟨by rw[Ml0];exact h.oy0,by rw[Ml0];exact Nat.lt_succ_self _⟩,by rw[Ml0];exact Go.ConcN.upd_same _ _ _,.inr rfl⟩
  ·have z:=hold j c hc C3;have hk:=h.ck j c z K8;have hjl:=(List.getElem?_eq_some_iff.1 z).1;have hs:=h.side j hjl K8;refine⟨by rw[htn C3,Rx0 C3,xl0 C3];exact hk.top,by rw[Rx0 C3];exact(M1 _ hk.ha.lt hs.2.2.1).trans hk.ha,?_,⟨by rw[hgi C3];exact hk.en0.1,by rw[hgi C3];exact Nat.lt_succ_of_lt hk.en0.2⟩,by rw[hgi C3,Mm0 _ (hgn j hjl K8)];exact hk.stay,.inl hk.ch⟩;obtain⟨en,he⟩:=hk.he;exact⟨en,by rw[xl0 C3];exact(M1 _ he.lt hs.2.2.2).trans he⟩
 ·rcases hfp b hb with z|z
  ·exact h.fpB b z
  ·exact Nat.le_trans h.size z
 ·by_cases C3:j=i
  ·subst C3;rw[Ry0,zv0];exact⟨Nat.le_trans h.size hab,Nat.le_trans h.size heb,hnA,hnE⟩
  ·have hjl:=hle j hj C3;have hs:=h.side j hjl K8;have hk:=h.ck j _ (List.getElem?_eq_getElem hjl) K8;rw[Rx0 C3,xl0 C3];exact⟨hs.1,hs.2.1,hnf _ hk.ha.lt hs.2.2.1,hnf _ hk.he.choose_spec.lt hs.2.2.2⟩
 ·by_cases C3:j=i
  ·subst C3;rw[hpi]at hb;exact hb.elim
  ·rw[hpn C3]at hb;have hp:=h.pv j b hb;refine⟨Nat.lt_of_lt_of_le hp.1 K2,hnf b hp.1 hp.2.1,hp.2.2.1,Mn0 b hp.1 hp.2.2.2.1,fun k hk hkp=>?_⟩;by_cases hki:k=i
   ·subst hki;rw[hpi]at hkp;exact hkp
   ·rw[hpn hki]at hkp;exact hp.2.2.2.2 k hk hkp
 ·have hm:=h.mn b hb;have W7:b<w.heap.size:=by
   rcases Nat.lt_or_ge b w.heap.size with z|z
   ·exact z
   ·exact absurd (hm.1.symm.trans (Array.getElem?_eq_none z)) hb
  exact⟨(M1 b W7 hm.2.1).trans hm.1,hnf b W7 hm.2.1,Mn0 b W7 hm.2.2⟩
 ·rw[Mm0 0 (by have:=h.oy0;omega)];exact h.ml0
 ·rw[p7 g K9]at hs';obtain⟨j,c,h1,h2,h3,h4,_⟩:=h.C4 g s' K9 hs';have hjl:=(List.getElem?_eq_some_iff.1 h1).1;have C3:j≠i:=by omega
  exact⟨j,c,by show(R.cl ++ [J4 cb rc])[j]? =some c;rw[List.getElem?_append_left hjl];exact h1,h2,by rw[hgi C3];exact h3,h4,fun e=>C3 (Option.some.inj e)⟩
 ·intro e;by_cases C3:j=i <;> by_cases hki:k=i
  ·rw[C3,hki]
  ·rw[C3,Ml0,hgi hki]at e;exact absurd e.symm (hgn k (hle k hk hki) hnk)
  ·rw[hki,Ml0,hgi C3]at e;exact absurd e (hgn j (hle j hj C3) K8)
  ·rw[hgi C3,hgi hki]at e;exact h.Ct0 j k (hle j hj C3) (hle k hk hki) K8 hnk e
 ·have hlo:∀j,j<R.cl.length->Y.nil j=false->Γ.eb j<w.heap.size:=fun j hj K8=>(h.ck j _ (List.getElem?_eq_getElem hj) K8).he.choose_spec.lt;intro e;by_cases C3:j=i <;> by_cases hki:k=i
  ·rw[C3,hki]
  ·rw[C3,zv0,xl0 hki]at e;have:=hlo k (hle k hk hki) hnk;omega
  ·rw[hki,zv0,xl0 C3]at e;have:=hlo j (hle j hj C3) K8;omega
  ·rw[xl0 C3,xl0 hki]at e;exact h.vh0 j k (hle j hj C3) (hle k hk hki) K8 hnk e
 ·have hlo:∀j c,R.cl[j]? =some c->Y.nil j=false->c.rc<w.heap.size:=fun j c hc K8=>h.under.chs _ (h.ck j c hc K8).ch;intro e;by_cases C3:j=i <;> by_cases hki:k=i
  ·rw[C3,hki]
  ·subst C3;obtain rfl:=G1 c hc;have:=hlo k d (hold k d hd hki) hnk;have e:rc=d.rc:=e;omega
  ·subst hki;obtain rfl:=G1 d hd;have:=hlo j c (hold j c hc C3) K8;have e:c.rc=rc:=e;omega
  ·exact h.Hg0 j k c d (hold j c hc C3) (hold k d hd hki) K8 hnk e
 ·by_cases C3:j=i
  ·subst C3;obtain rfl:=G1 c hc;have:=h.under.chs _ h.chy;show rc≠R.yb;omega
  ·exact h.ry j c (hold j c hc C3) K8
 ·show X.cap+1 <=(R.cl ++ [J4 cb rc]).length;have:=h.cap;simp;omega
 ·have hu:=h.under.mono K2;have O6:cb<w1.heap.size:=(hM.blk i (J4 cb rc) (by show(R.cl ++ [J4 cb rc])[i]? =_;rw[<- hi];simp)).lt;refine⟨fun g p hp=>?_,hu.T4,fun b hb=>?_,hu.A4,fun b hb=>?_⟩
  ·by_cases hg:g=X.n
   ·subst hg;have hp':p∈Go.ConcN.upd X.stay X.n [((⟨cb,2,none⟩:Addr),Value.chan (some rc))] X.n:=hp;rw[Go.ConcN.upd_same]at hp';simp at hp';rw[hp'];exact O6
   ·rw[Mm0 g hg]at hp;exact hu.stay g p hp
  ·rcases hb with z|rfl
   ·exact hu.chs b z
   ·exact hrc.2
  ·rcases hb with(z|rfl)|rfl
   ·exact hu.low b z
   ·exact O6
   ·exact hrc.2
 ·have h1:=h.base.le;have h2:=h.size;rcases hb with(z|rfl)|rfl
  ·exact h.base.low b z
  ·omega
  ·omega
end
end
end Go.Vy.Sc
end
