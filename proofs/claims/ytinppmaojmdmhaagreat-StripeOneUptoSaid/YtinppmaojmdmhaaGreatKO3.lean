/- What the claim leans on, part 3. Laws. -/
import Derived.Test.YtinppmaojmdmhaaGreatKO2
import Derived.Test.YtinppmaojmdmhaaGreatRows
import Derived.KernelRfl
import Derived.Conc.SmallLaws
set_option linter.unusedVariables false
section
namespace Go.Vy
open Go Go.Conc Go.Yc Go.RowKit
open Go.Vc
section
variable {P:Program}[Ctx P]{Z:Goroutine->World->Prop}{Q:Exit->Act->World->Prop}{ops:Array Oper}{b:Frame}{k:List Item}{cs:List Frame}
theorem Fd0 (hZ:Ctx.Zs P Z) (hb:b.kind≠.early) (hk:∀ch a' w',Q (.panic ch) a' w'->Em0 Z b k cs (.panic ch) a' w') {i:Nat} {rest:List Nat} {o:Oper} {a:Act} {w:World} (ho:ops[i]? =some o)
  (h:if Region.wanted o (yielded ops a.tmps) then si0 P o a w (fun a w=>Z (G (b.at a (.inRegion ops rest::k)) cs) w) Q else Z (G (b.at (a.put o.dst undef) (.inRegion ops rest::k)) cs) w):Z (G (b.at a (.inRegion ops (i::rest)::k)) cs) w:=by
 cases hw:Region.wanted o (yielded ops a.tmps)with
 |false=>
  rw[hw]at h;exact(Ctx.cl Z hZ).ctl rfl rfl (fun w=>stepG_unwanted ho hw) h
 |true=>
  rw[hw,if_pos rfl]at h;have dd0:∀v,(b.at a (.inRegion ops (i::rest)::k)).finish v=b.at (a.put o.dst v) (.inRegion ops rest::k):=by
   intro v;rw[Frame.finish_at,ho];rfl
  have Mo0:(b.kind==CallKind.early)=false:=by simpa using hb
  refine(Ctx.cl Z hZ).own _ _ rfl fun τ d=>?_;obtain⟨r,w',hr,hK⟩:=h τ d;have fol:∀g',g'.status= .running->(∀x x' es,(execOp a.eval o).runT P x #[]=(r.res x',es)->stepG P (Ctx.main P) (G (b.at a (.inRegion ops (i::rest)::k)) cs) x= .go g' x' (seen P b.fn es))->I6 P (Ctx.main P) (G (b.at a (.inRegion ops (i::rest)::k)) cs) (V2 w τ d) g' w':=by
   intro g' hg' hs;refine⟨hg',fun ρ x hx=>?_⟩;obtain⟨h1,x',es,h2,h3,h4⟩:=hr ρ x hx;exact⟨h1,x',_,hs x x' es h2,h3,fun e he=>h4 e (mem_seen he)⟩
  have split:∀x x' es,(execOp a.eval o).runT P x #[]=(r.res x',es)->(execOp a.eval o).run P x=r.res x'/\(execOp a.eval o).events P x #[]=es:=fun x x' es h=>by
   rw[Sem.runT_eq]at h;exact Prod.mk.inj h
  cases r with
  |val v=>
   refine⟨G (b.at (a.put o.dst v) (.inRegion ops rest::k)) cs,w',w.drawn,fol _ rfl fun x x' es h=>?_,hK⟩;obtain⟨h1,h2⟩:=split x x' es h;rw[stepG_value ho hw hb h1,listed,h2]
  |skip=>
   refine⟨G (b.at (a.put o.dst undef) (.inRegion ops rest::k)) cs,w',w.drawn,fol _ rfl fun x x' es h=>?_,hK⟩;obtain⟨h1,h2⟩:=split x x' es h;rw[stepG_none ho hw hb h1,listed,h2]
  |enter f args=>
   refine⟨G (Frame.enter P f args .normal) (b.at a (.inRegion ops (i::rest)::k)::cs),w',w.drawn,fol _ rfl fun x x' es h=>?_,hK Z hZ _ fun e w'' fr he hf hl=>?_⟩
   ·obtain⟨h1,h2⟩:=split x x' es h;rw[stepG_enter ho hw hb h1,listed,h2]
   ·cases e with
    |returned v=>
     refine U524 ?_;exact he
    |panicked chain=>
     refine U510 ?_;exact hk _ _ _ he _
    |outgrown=>exact he.elim
  |panic v=>
   refine⟨G {b.at a (.inRegion ops (i::rest)::k)with mode:=.panicking [{v,recovered:=false}]} cs,w',w.drawn,fol _ rfl fun x x' es h=>?_,hk _ _ _ hK _⟩;obtain⟨h1,h2⟩:=split x x' es h;have h1':(execOp a.eval o).run P x= .halt (.panic v) x':=h1;rw[stepG_oper ho hw];simp[stepG.apply,h1',h2,G,Frame.at,Mo0,GStep.after,Frame.raise]
theorem iz0 (hZ:Ctx.Zs P Z) (hb:b.kind≠.early) {suf:List Nat} (hk:∀ch a' w',Q (.panic ch) a' w'->Em0 Z b k cs (.panic ch) a' w') (hn:∀a' w',Q .normal a' w'->Z (G (b.at a' (.inRegion ops suf::k)) cs) w') :
  ∀(pre:List Nat) (a:Act) (w:World),wpOps P ops Q pre a w->Z (G (b.at a (.inRegion ops (pre++suf)::k)) cs) w
 | [],a,w,h=>hn a w h
 |i::pre,a,w,h=>by
  unfold wpOps at h;cases ho:ops[i]? with
  |none=>rw[ho]at h;exact h.elim
  |some o=>
   rw[ho]at h;simp only at h;refine Fd0 hZ hb hk ho ?_;show if _ then si0 P o a w (fun a w=>Z (G (b.at a (.inRegion ops (pre++suf)::k)) cs) w) Q else _
   by_cases hw:Region.wanted o (yielded ops a.tmps)=true
   ·rw[if_pos hw]at h⊢;exact iv0 (fun a w h=>iz0 hZ hb hk hn pre a w h) (fun _ _ _ z=>z) h
   ·rw[if_neg hw]at h⊢;exact iz0 hZ hb hk hn pre _ _ h
def ZA [Go.Vc.B4] (Z:Goroutine->World->Prop) (n:Nat) (b:Frame) (cs:List Frame) (e:Env) (todo:List Item) (w:World):Prop:=∀a,Rep n a e->Z (G (b.at a todo) cs) w
variable {n:Nat}{e:Env}{w:World}
theorem ZA.c [Go.Vc.B4] (hZ:Ctx.Zs P Z) {todo nw0:List Item} (hs:∀a w,stepG P (Ctx.main P) (G (b.at a todo) cs) w= .go (G (b.at a nw0) cs) w #[]) (h:ZA Z n b cs e nw0 w):ZA Z n b cs e todo w :=
 fun a ha=>(Ctx.cl Z hZ).ctl rfl rfl (hs a) (h a ha)
theorem ZA.seq [Go.Vc.B4] (hZ:Ctx.Zs P Z) {x y:Code} (h:ZA Z n b cs e (.code x :: .code y::k) w):ZA Z n b cs e (.code (.seq x y)::k) w:=ZA.c hZ (fun _ _=>stepG_seq) h
theorem ZA.skip [Go.Vc.B4] (hZ:Ctx.Zs P Z) (h:ZA Z n b cs e k w):ZA Z n b cs e (.code .skip::k) w:=ZA.c hZ (fun _ _=>stepG_skip) h
theorem ZA.block [Go.Vc.B4] (hZ:Ctx.Zs P Z) {id:Nat} {c:Code} (h:ZA Z n b cs e (.code c :: .inBlock id::k) w):ZA Z n b cs e (.code (.block id c)::k) w:=ZA.c hZ (fun _ _=>stepG_block) h
theorem ZA.loop [Go.Vc.B4] (hZ:Ctx.Zs P Z) {c:Code} (h:ZA Z n b cs e (.code c :: .inLoop c::k) w):ZA Z n b cs e (.code (.loop c)::k) w:=ZA.c hZ (fun _ _=>stepG_loop) h
theorem ZA.inBlock [Go.Vc.B4] (hZ:Ctx.Zs P Z) {id:Nat} (h:ZA Z n b cs e k w):ZA Z n b cs e (.inBlock id::k) w:=ZA.c hZ (fun _ _=>stepG_inBlock) h
theorem ZA.inLoop [Go.Vc.B4] (hZ:Ctx.Zs P Z) {c:Code} (h:ZA Z n b cs e (.code c :: .inLoop c::k) w):ZA Z n b cs e (.inLoop c::k) w:=ZA.c hZ (fun _ _=>stepG_inLoop) h
theorem ZA.exit [Go.Vc.B4] (hZ:Ctx.Zs P Z) {id:Nat} {k':List Item} (hk:exitTo id k=some k') (h:ZA Z n b cs e k' w):ZA Z n b cs e (.code (.exit id)::k) w:=ZA.c hZ (fun _ _=>stepG_exit hk) h
theorem ZA.cond [Go.Vc.B4] (hZ:Ctx.Zs P Z) {c:Operand} {x y:Code} {t:Bool} (hc:ev e c= .bool t) (h:ZA Z n b cs e (.code (if t then x else y)::k) w):ZA Z n b cs e (.code (.cond c x y)::k) w :=
 fun a ha=>(Ctx.cl Z hZ).ctl rfl rfl (fun _=>stepG_cond (by rw[ha.eval];exact hc)) (h a ha)
theorem ZA.O4 [Go.Vc.B4] (hZ:Ctx.Zs P Z) (h:ZA Z n b cs e k w):ZA Z n b cs e (.inRegion ops []::k) w:=ZA.c hZ (fun _ _=>stepG_region_end) h
def ZR [Go.Vc.B4] (Z:Goroutine->World->Prop) (n:Nat) (b:Frame) (cs:List Frame) (e:Env) (w:World):Prop:=∀todo,∀a,Rep n a e->Z (G {b.at a todo with mode:=.returning} cs) w
theorem ZA.ret [Go.Vc.B4] (hZ:Ctx.Zs P Z) (h:ZR Z n b cs e w):ZA Z n b cs e (.code .ret::k) w:=fun a ha=>(Ctx.cl Z hZ).ctl rfl rfl (fun _=>stepG_ret') (h _ a ha)
theorem ZA.done [Go.Vc.B4] (hZ:Ctx.Zs P Z) (h:ZR Z n b cs e w):ZA Z n b cs e [] w:=fun a ha=>(Ctx.cl Z hZ).ctl rfl rfl (fun _=>stepG_end) (h _ a ha)
theorem ZA.piece [Go.Vc.B4] (hZ:Ctx.Zs P Z) (hb:b.kind≠.early) {c:Code} {R:Env->World->Prop} (h:W P n c (dq0 R fun _ _ _=>False) e w) (hk:∀e' w',R e' w'->ZA Z n b cs e' k w'):ZA Z n b cs e (.code c::k) w:=by
 intro a ha;refine h a ha Z hZ b k cs hb fun x a' w' hx=>?_;obtain⟨e',r,hq⟩:=hx;cases x with
 |normal=>exact hk e' w' hq a' r
 |exit _=>exact hq.elim
 |goto _=>exact hq.elim
 |ret=>exact hq.elim
 |panic _=>exact hq.elim
 |outgrown=>exact hq.elim
theorem kd0:∀(l:List Oper) (k:Nat) (a:Act) (w:World),(∀j,j<l.length->l[j]? =ops[k+j]?)->wpList P ops Q l a w->wpOps P ops Q (List.range' k l.length) a w
 | [],_,_,_,_,h=>h
 |o::l,k,a,w,hj,h=>by
  have h0:ops[k]? =some o:=by simpa using(hj 0 (by simp)).symm
  have ih:=fun a w=>kd0 l (k+1) a w (fun j hl=>by have:=hj (j+1) (by simpa using hl);simpa [Nat.add_assoc,Nat.add_comm 1 j]using this);rw[List.length_cons,List.range'_succ];unfold wpOps;rw[h0];unfold wpList at h;by_cases hw:Region.wanted o (yielded ops a.tmps)=true
  ·simp only[if_pos hw]at h⊢;exact iv0 ih (fun _ _ _ z=>z) h
  ·simp only[if_neg hw]at h⊢;exact ih _ _ h
theorem ZA.upto [Go.Vc.B4] (hZ:Ctx.Zs P Z) (hb:b.kind≠.early) (kk:Nat) {id:Nat} {l:List Oper} {R:Env->World->Prop} (hB:Uq0 n l=true) (hkl:Nat.ble kk l.length=true) (h:L P n l.toArray (dq0 R fun _ _ _=>False) (l.take kk) e w)
  (hk:∀e' w',R e' w'->ZA Z n b cs e' (.inRegion l.toArray (List.range' kk (l.length-kk))::k) w'):ZA Z n b cs e (.code (.region id l.toArray false)::k) w:=by
 intro a ha;have hle:kk <=l.length:=Nat.le_of_ble_eq_true hkl;refine(Ctx.cl Z hZ).ctl rfl rfl (fun _=>stepG_region) ?_;have h1:=h (fun o ho=>List.all_eq_true.1 hB o (List.mem_of_mem_take ho)) a ha;have h2:=kd0 (l.take kk) 0 a w (fun j hj=>by
  rw[List.getElem?_take_of_lt (by simp at hj;omega)];simp) h1
 have h3:(l.take kk).length=kk:=by simp;omega
 rw[h3]at h2;have h4:List.range l.toArray.size=List.range' 0 kk++List.range' kk (l.length-kk):=by
  have:=List.range'_append_1 (s:=0) (m:=kk) (n:=l.length-kk);rw[Nat.zero_add]at this;rw[List.range_eq_range',List.size_toArray,this];congr 1;omega
 rw[h4];exact iz0 hZ hb (fun ch a' w' hx=>by obtain⟨_,_,hx⟩:=hx;exact hx.elim) (fun a' w' hx=>by
  obtain⟨e',r,hq⟩:=hx;exact hk e' w' hq a' r) _ a w h2
theorem cl1 [Go.Vc.B4] {V:(Nat->Bool)->Prop} {J:(Nat->Bool)->World->Prop} (WP:List Nat->Act->World->Prop) (ji1:∀i σ o a w,ops[i]? =some o->(if Region.wanted o (yielded ops a.tmps) then si0 P o a w (WP σ) Q else WP σ (a.put o.dst undef) w)->WP (i::σ) a w) (h:Ord n ops) {e0:Env} {vals:Nat->Value} {k:Nat} (hk:k<ops.size) (Nh0:∀i o,i<k->ops[i]? =some o->Loc P ops V J i o (EE e0 ops.toList vals i) (vals i))
  (de0:∀D,V D->∀i,k <=i->i<ops.size->D i=true->∀j,j<i->D j=true)
  (hQ:∀a w D,Rep n a (EE e0 ops.toList vals k)->(∀i,i<k->D i=true)->J D w->WP (List.range' k (ops.size-k)) a w) :
  ∀{listed:Array Bool} {σ:List Nat},Lin ops listed σ->(∀τ ρ,σ=τ++ρ->V (fun j=>listed.getD j false ||τ.contains j)) ->
   ∀(a:Act) (e:Env) (w:World),listed.size=ops.size->(∀j,k <=j->listed.getD j false=false)->Rep n a e->Mid ops e0 vals listed e->J (fun j=>listed.getD j false) w->WP σ a w:=by
 intro listed σ H5
 induction H5 with
 | @nil listed hr=>
  intro _ a e w hs hkf ha hm hJ;have:=ix0 h hs hr k (by omega);rw[hkf k (Nat.le_refl _)]at this;cases this
 | @cons listed i σ hi hl ih=>
  intro hV a e w hs hkf ha hm hJ;have hi0:=hi;obtain⟨h1,o,ho,C6⟩:=mem_ready.1 hi;have hio:i<ops.size:=(Array.getElem?_eq_some_iff.1 ho).1;have M7:i<listed.size:=by omega
  have hDi:(fun j=>listed.getD j false) i=false:=by
   show listed.getD i false=false;simp only[Array.getD_eq_getD_getElem?,M7,Array.getElem?_eq_getElem,Option.getD_some]at h1⊢;exact h1
  have hVD:V (fun j=>listed.getD j false):=by
   have:=hV [] (i::σ) rfl;have e1:(fun j=>listed.getD j false ||([]:List Nat).contains j)=fun j=>listed.getD j false:=funext fun j=>by simp
   rw[e1]at this;exact this
  have hVD:V (fun j=>listed.getD j false)/\V (A6 (fun j=>listed.getD j false) i):=by
   refine⟨hVD,?_⟩;have:=hV [i] σ rfl;have e1:(fun j=>listed.getD j false ||([i]:List Nat).contains j)=A6 (fun j=>listed.getD j false) i:=funext fun j=>by
    unfold A6;by_cases hj:j=i
    ·simp[hj]
    ·simp[hj]
   rw[e1]at this;exact this
  by_cases hik:k <=i
  ·have V9:∀j,j<i->listed.getD j false=true:=fun j hj=>by
    have:=de0 _ hVD.2 i hik hio (by simp[A6]) j hj;unfold A6 at this;rw[if_neg (by omega)]at this;exact this
   have hki:i=k:=by
    rcases Nat.lt_or_ge k i with h3|h3
    ·have:=V9 k h3;rw[hkf k (Nat.le_refl _)]at this;cases this
    ·omega
   subst hki;refine U506 ?_;intro hσ;have he:e=EE e0 ops.toList vals i:=by
    funext t;have hlz:∀j:Nat,ops.toList[j]? =ops[j]?:=fun j=>by rw[Array.getElem?_toList]
    by_cases hex:∃(j:Nat) (p:Oper),j<i/\ops[j]? =some p/\p.dst=some t
    ·obtain⟨j,p,hj,hp,hd⟩:=hex;exact U388
    ·rw[hm.pk0 t (fun j p hp hd=>by
      rcases Nat.lt_or_ge j i with h3|h3
      ·exact absurd ⟨j,p,h3,hp,hd⟩ hex
      ·exact hkf j h3)]
     exact(kv0 e0 ops.toList vals t _ (fun j p hj hp hd=>hex ⟨j,p,hj,by rw[<- hlz];exact hp,hd⟩)).symm
   subst he;exact hQ a w _ ha V9 hJ
  ·have hlk:=pl0 h hm ho C6;refine U327 ?_;intro hex hwa;have hV':∀τ ρ,σ=τ++ρ->V (fun j=>(listed.setIfInBounds i true).getD j false ||τ.contains j):=by
    intro τ ρ hσ;have:=hV (i::τ) ρ (by rw[hσ];rfl);have e1:(fun j=>listed.getD j false ||(i::τ).contains j)=fun j=>(listed.setIfInBounds i true).getD j false ||τ.contains j:=by
     funext j;by_cases hj:i=j
     ·subst hj;simp[M7]
     ·rw[getD_set_ne false hj];simp[Ne.symm hj]
    rw[e1]at this;exact this
   have next:∀w',J (A6 (fun j=>listed.getD j false) i) w'->WP σ (a.put o.dst (vals i)) w':=by
    intro w' hJ';refine ih hV' _ _ w' (by simp[hs]) (fun j hj=>by rw[getD_set_ne false (by omega)];exact hkf j hj) (ha.put (h.dst i o ho) (vals i)) (hm.step h ho M7) ?_;rw[kw0 M7];exact hJ'
   refine ji1 i σ o a w ho ?_;rw[Q5 ha,hwa];rcases Nh0 i o (by omega) ho with⟨hw,hl⟩|⟨hw,hv,hl⟩
   ·rw[if_pos hw];have J7:=hl (fun j=>listed.getD j false) w hDi hVD C6 hJ;rw[<- hex,<- ha.eval]at J7;exact pt0 J7 next
   ·rw[if_neg (by rw[hw];simp)];exact U488
theorem ZA.Ni0 [Go.Vc.B4] (hZ:Ctx.Zs P Z) (hb:b.kind≠.early) {k':List Item} {id:Nat} {l:List Oper} (k:Nat) (hm:P.follows .mixedOrders=true) (hB:Bg0 n l.toArray=true) (hA:pp0 l k=true) (hk:Nat.blt k l.length=true)
  (h:∀V:(Nat->Bool)->Prop,(∀D D',V D->V D'->(∀k,D k=true->D' k=true)\/(∀k,D' k=true->D k=true))->(∀D,V D->∀i o,l[i]? =some o->D i=true->B6 o D) ->
   ∃J:(Nat->Bool)->World->Prop,J (fun _=>false) w.drew/\JL P l.toArray V J (fun e'=>∀D w',(∀i,i<k->D i=true)->J D w'->ZA Z n b cs e' (.inRegion l.toArray (List.range' k (l.length-k))::k') w') 0 (l.take k) e):ZA Z n b cs e (.code (.region id l.toArray true)::k') w:=by
 intro a ha;have ho:=Eo0 hB;have hkl:k<l.length:=by rw[Nat.blt_eq]at hk;exact hk
 refine(Ctx.cl Z hZ).own _ _ rfl fun τ d=>?_;refine⟨G (b.at a (.inRegion l.toArray (Region.schedule (P.follows .mixedOrders) l.toArray (τ d (.order b.fn id)))::k')) cs,{V2 w τ d with drawn:=d+1},w.drawn+1,⟨rfl,fun ρ x hx=>⟨⟨Nat.le_refl _,fun _ o ho=>⟨o,ho,I4.refl o⟩⟩,{x with drawn:=x.drawn+1},#[],?_,?_,fun e he=>by simp at he⟩⟩,?_⟩
 ·rw[stepG_region_draw,hx.tape,hx.drawn];rfl
 ·exact⟨hx.os,hx.output,hx.tape,by show x.drawn+1=d+1;rw[hx.drawn];rfl,hx.size,hx.obj,hx.new,hx.G8⟩
 show Z (G (b.at a (.inRegion l.toArray (Region.schedule (P.follows .mixedOrders) l.toArray (τ d (.order b.fn id)))::k')) cs) w.drew;generalize τ d (.order b.fn id)=t;simp only[Region.schedule,hm,Bool.true_or,if_true];have H5:=jw0 l.toArray l.toArray.size t (Array.replicate l.toArray.size false) (by simp) (by simp);unfold Region.linearise;generalize Region.linearise.go .any l.toArray l.toArray.size t (Array.replicate l.toArray.size false) []=σ at H5⊢;have gd0:=fy0 H5 (fun i o _ hi=>by rw[J0]at hi;cases hi) (by simp);have dv0:∀D,Pre σ D->∀i o,l[i]? =some o->D i=true->B6 o D:=by
  rintro D ⟨τ,ρ,hσ,hD⟩ i o hi hDi x hx hb;have:=gd0 τ ρ hσ i o (by simpa using hi) (.inr ((hD i).1 hDi)) x hx hb;rcases this with h1|h1
  ·rw[J0]at h1;cases h1
  ·exact(hD _).2 h1
 obtain⟨J,hJ,hjl⟩:=h (Pre σ) (fun D D' h1 h2=>h1.chain h2) dv0;obtain⟨vals,h1,h2⟩:=JL.collect (l.take k) 0 e hjl;have hEE:∀j,j <=k->EE e (l.take k) vals j=EE e l vals j:=by
  intro j
  induction j with
  |zero=>intro _;rfl
  |succ j ih=>
   intro hj;simp only[EE,ih (by omega)];rw[List.getElem?_take_of_lt (by omega)]
 have J1:(l.take k).length=k:=by simp;omega
 refine cl1 (Q:=fun _ _ _=>False) (fun σ a w=>Z (G (b.at a (.inRegion l.toArray σ::k')) cs) w) (fun i σ o a w ho h=>Fd0 hZ hb (fun _ _ _ hx=>hx.elim) ho h) (V:=Pre σ) (J:=J) ho (e0:=e) (vals:=vals) (k:=k) (by simpa using hkl) (fun i o' hi ho'=>?_) (fun D hD i hki M7=>pq0 hA dv0 hD i hki (by simpa using M7)) (fun a' w' D ha' hD hJ'=>?_) H5 ?_ a e _ (by simp) (fun j _=>J0 _ _) ha ⟨fun j o t _ _ hl=>?_,fun t _=>rfl⟩ ?_
 ·have:=h1 i o' (by rw[List.getElem?_take_of_lt hi];simpa using ho');rw[hEE i (by omega)]at this;simpa using this
 ·rw[J1,hEE k (Nat.le_refl _)]at h2;have h6:l.toArray.size-k=l.length-k:=by simp
  rw[h6];exact h2 D w' hD hJ' a' (by simpa using ha')
 ·intro τ ρ hσ;exact⟨τ,ρ,hσ,fun k=>by show((Array.replicate l.toArray.size false).getD k false ||τ.contains k)=true↔_;rw[J0];simp⟩
 ·rw[J0]at hl;cases hl
 ·have:(fun k=>(Array.replicate l.toArray.size false).getD k false)=fun _=>false:=funext fun k=>J0 _ _;rw[this];exact hJ
theorem ZA.nt0 [Go.Vc.B4] (hZ:Ctx.Zs P Z) (hb:b.kind≠.early) {k':List Item} {id:Nat} {l:List Oper} (k:Nat) (Cl:World->Prop) (hm:P.follows .mixedOrders=true) (hB:Bg0 n l.toArray=true) (hA:pp0 l k=true) (hk:Nat.blt k l.length=true)
  (hC:Cl w.drew) (h:QL P l.toArray Cl (fun e'=>∀w',Cl w'->ZA Z n b cs e' (.inRegion l.toArray (List.range' k (l.length-k))::k') w') 0 (l.take k) e):ZA Z n b cs e (.code (.region id l.toArray true)::k') w:=by
 refine ZA.Ni0 hZ hb k hm hB hA hk fun V _ _=>⟨fun _=>Cl,hC,?_⟩
 have mono:∀(l':List Oper) (i:Nat) (e:Env),JL P l.toArray V (fun _=>Cl) (fun e'=>∀w',Cl w'->ZA Z n b cs e' (.inRegion l.toArray (List.range' k (l.length-k))::k') w') i l' e->JL P l.toArray V (fun _=>Cl) (fun e'=>∀(D:Nat->Bool) w',(∀i,i<k->D i=true)->Cl w'->ZA Z n b cs e' (.inRegion l.toArray (List.range' k (l.length-k))::k') w') i l' e:=by
  intro l'
  induction l' with
  |nil=>exact fun i e h _ w' _ hw=>h w' hw
  |cons o l' ih=>exact fun i e ⟨v,h1,h2⟩=>⟨v,h1,ih _ _ h2⟩
 exact mono _ 0 e (h V)
end
def O1 (w:World) (b:Nat) (cs:Array Value) (T:TypeId) (f:Nat×Nat):Prop:=w.heap[b]? =some (.cells cs T f)
section
variable {w w':World}{b o:Nat}{cs:Array Value}{T:TypeId}{f:Nat×Nat}{v:Value}
theorem P3 (h:K0 w b cs T):O1 w b cs T (0,0):=h
theorem O1.lt (h:O1 w b cs T f):b<w.heap.size:=(Array.getElem?_eq_some_iff.1 h).1
theorem O1.cell (h:O1 w b cs T f) (hv:cs[o]? =some v):w.cell? ⟨b,o,none⟩=some v:=by
 unfold O1 at h;simp[World.cell?,h,hv]
theorem O1.q0 (h:O1 w b cs T f) (o:Nat) {v:Value} (hv:cs[o]? =some v):w.cell? ⟨b,o,none⟩=some v:=h.cell hv
theorem O1.T6 (h:O1 w b cs T f) {o:Nat} {l:List Value} (hl:(cs.toList.drop o).take l.length=l):∀(j:Nat) (v:Value),l[j]? =some v->w.cell? ⟨b,o+j,none⟩=some v:=by
 intro j v hj;refine h.cell ?_;have J1:j<l.length:=(List.getElem?_eq_some_iff.1 hj).1;rw[<- hl,List.getElem?_take_of_lt J1,List.getElem?_drop]at hj;simpa using hj
theorem O1.frozen (h:O1 w b cs T f) (o:Nat):w.frozen? ⟨b,o,none⟩=(decide (f.1 <=o)&&decide (o<f.2)):=by
 unfold O1 at h;obtain⟨lo,hi⟩:=f;simp[World.frozen?,h]
theorem O1.j0 (h:O1 w b cs T f) (hb:Below w.heap.size w w'):O1 w' b cs T f:=(hb.block b h.lt).trans h
theorem O1.other {b':Nat} (h:O1 w b cs T f) (hg:w.grownBy w' (some b')) (N3:b≠b'):O1 w' b cs T f:=(hg.block b h.lt (by simpa using N3)).trans h
theorem O1.grown {row:Option Nat} (h:O1 w b cs T f) (hg:w.grownBy w' row) (N3:some b≠row):O1 w' b cs T f:=(hg.block b h.lt N3).trans h
theorem O1.ne {b':Nat} {k7:Array Value} {T':TypeId} {f':Nat×Nat} (h:O1 w b cs T f) (h':O1 w b' k7 T' f') (hT:T≠T'):b≠b':=by
 intro hb;subst hb;unfold O1 at h h';rw[h]at h';exact hT (by cases h';rfl)
end
def S1 (w:World) (b:Nat) (cs:Array Value) (T:TypeId) (f:Nat×Nat):World:={w with heap:=w.heap.setIfInBounds b (.cells cs T f)}
section
variable {w:World}{b:Nat}{cs k7:Array Value}{T T':TypeId}{f:Nat×Nat}
theorem O6:(S1 w b cs T f).heap.size=w.heap.size:=by simp[S1]
theorem D5 (h:O1 w b cs T f) (k7:Array Value) (T':TypeId) (f':Nat×Nat):O1 (S1 w b k7 T' f') b k7 T' f':=by
 have:=h.lt;simp[O1,S1,this]
theorem V8 {k:Nat} (h:k≠b):(S1 w b cs T f).heap[k]? =w.heap[k]?:=by
 simp only[S1];rw[Array.getElem?_setIfInBounds_ne (Ne.symm h)]
theorem C2 (w:World) (b:Nat) (cs:Array Value) (T:TypeId) (f:Nat×Nat):w.grownBy (S1 w b cs T f) (some b) :=
 ⟨rfl,rfl,rfl,Nat.le_of_eq O6.symm,fun k _ hk=>V8 (fun e=>hk (by rw[e]))⟩
theorem gx0 {o:Nat} (h:O1 w b cs T f) (v:Value):w.setCell ⟨b,o,none⟩ v=S1 w b (cs.setIfInBounds o v) T f:=by
 have hl:=h.lt;have hg:w.heap[b]= .cells cs T f:=by have:=h;unfold O1 at this;rw[Array.getElem?_eq_getElem hl]at this;exact Option.some.inj this
 simp only[World.setCell,S1];congr 1;apply Array.ext_getElem?;intro i;by_cases hi:i=b
 ·subst hi;rw[Array.getElem?_modify,if_pos rfl,Array.getElem?_eq_getElem hl,hg];simp[hl]
 ·rw[Array.getElem?_modify,Array.getElem?_setIfInBounds_ne (Ne.symm hi),if_neg (Ne.symm hi)]
theorem sz0 (w:World) (b:Nat) (cs k7:Array Value) (T:TypeId) (f:Nat×Nat):S1 (S1 w b cs T f) b k7 T f=S1 w b k7 T f:=by
 simp[S1]
theorem zg0 (h:O1 w b cs T f):S1 w b cs T f=w:=by
 have hl:=h.lt;have hg:w.heap[b]= .cells cs T f:=by have:=h;unfold O1 at this;rw[Array.getElem?_eq_getElem hl]at this;exact Option.some.inj this
 have:w.heap.setIfInBounds b (.cells cs T f)=w.heap:=by
  apply Array.ext_getElem?;intro i;by_cases hi:i=b
  ·subst hi;simp[hl,hg]
  ·rw[Array.getElem?_setIfInBounds_ne (Ne.symm hi)]
 simp only[S1,this]
end
theorem bu0 {P:Program} (b:Nat) (T:TypeId) (f:Nat×Nat):∀(vs:List Value) (o i:Nat) (cs:Array Value) (w:World),O1 w b cs T f->o+i+vs.length <=cs.size->(o+i+vs.length <=f.1\/f.2 <=o+i)->(∀v∈vs,v.oneCell'=true) ->
  (storeCells ⟨b,o,none⟩ vs i).run P w= .ok () (S1 w b (setRow cs (o+i) vs) T f)
 | [],o,i,cs,w,h,_,_,_=>by simp[storeCells,setRow,zg0 h]
 |v::vs,o,i,cs,w,h,hl,hf,h1=>by
  have ha:Addr.add ⟨b,o,none⟩ i=⟨b,o+i,none⟩:=by
   unfold Addr.add;split
   ·rename_i h0;simp[]
   ·rfl
  have J1:o+i<cs.size:=by simp only[List.length_cons]at hl;omega
  have hc:=h.cell (Array.getElem?_eq_getElem J1);have hfr:w.frozen? ⟨b,o+i,none⟩=false:=by
   rw[h.frozen];simp only[List.length_cons]at hf;rw[Bool.and_eq_false_iff];rcases hf with hf|hf
   ·exact .inl (decide_eq_false (by omega))
   ·exact .inr (decide_eq_false (by omega))
  have ih:=bu0 (P:=P) b T f vs o (i+1) (cs.setIfInBounds (o+i) v) (S1 w b (cs.setIfInBounds (o+i) v) T f) (D5 h _ _ _) (by simp only[List.length_cons]at hl;simp;omega) (by simp only[List.length_cons]at hf;omega) (fun u hu=>h1 u (List.mem_cons_of_mem _ hu));rw[sz0]at ih;simp only[storeCells,Sem.run_bind,ha,run_store P w _ v .plain (h1 v List.mem_cons_self),hc,hfr,Bool.false_eq_true,if_false,Result.andThen_ok,gx0 h v];rw[ih];rfl
section
variable {P:Program}[Ctx P]{n:Nat}{ops:Array Oper}{Q:Exit->Env->World->Prop}{rest:List Oper}{e:Env}{w:World}{ty:TypeId}{ps:String}{af:Array Edge}{x y:Operand}{T:TypeId}
theorem L.Fe0 [Go.Vc.B4] {b o s:Nat} {cs:Array Value} {vs:List Value} {E:TypeId} {f:Nat×Nat} {v:Value} (k7:Array Value) (hx:ev e x= .pointer (some ⟨b,o,none⟩)) (hy:ev e y=v) (hvs:v.cells.toList=vs) (hs:(P.info? T).map (·.size)=some s) (hl:vs.length=s) (h1:vs.all Value.oneCell'=true) (hB:O1 w b cs E f) (ho:o+s <=cs.size) (hf:o+s <=f.1\/f.2 <=o) (hcs:setRow cs o vs=k7)
  (k:L P n ops Q rest e (S1 w b k7 E f)):L P n ops Q (⟨none,.store T x y,ty,ps,af,none⟩::rest) e w:=by
 have bw1:v.cells=vs.toArray:=by rw[<- hvs]
 have h1':∀u∈vs,u.oneCell'=true:=fun u hu=>List.all_eq_true.1 h1 u hu;rw[<- hcs]at k;refine L.st (w':=S1 w b (setRow cs o vs) E f) (.Q0 (Y1 rfl _) rfl rfl fun τ d=>?_) k;have:=bu0 (P:=P) b E f vs o 0 cs (V2 w τ d) hB (by simp;omega) (by simp;omega) h1';show _=Result.ok Next.skip (S1 (V2 w τ d) b (setRow cs o vs) E f);simp[execOp,Instr.storeAt,hx,hy,Instr.sureAddr,storeVar,Go.Vc.run_sizeOf hs,bw1,hl,this]
end
section
variable {P:Program}[Ctx P]{n:Nat}{Q:Exit->Env->World->Prop}{e:Env}{w:World}{ops:Array Oper}{rest:List Oper}
variable {d:Nat}{ty:TypeId}{ps:String}{af:Array Edge}{T E:TypeId}{x y:Operand}
theorem L.gk0 [Go.Vc.B4] {B s bytes m c':Nat} {a:Option Addr} {k c:Nat} {xs news:List Value} {zv:Value} {ad:Addr} (hx:ev e x= .slice a k c) (hy:ev e y= .slice (some ad) m c') (hT:P.underlying T=some (.slice E))
  (hi:(P.info? E).map (fun i=>(i.zero,i.size,i.bytes))=some (some zv,s,bytes)) (hz:zv.cells.size=s) (hs:0<s) (by0:Own w B E s a k c xs)
  (hl:news.length=m*s) (dx0:∀(j:Nat) u,news[j]? =some u->w.cell? (ad.add j)=some u) (h1:∀u∈news,u.oneCell'=true) (Bt0:k+m <=9223372036854775807) (hb:(k+m)*bytes <=140737488355328) (hB:B <=w.heap.size)
  (h:∀a' c2 w',Own w' B E s a' (k+m) c2 (xs++news)->w.grownBy w' (Value.ownBlock (.slice a k c))->(a'≠none->(a≠none/\ab a'=ab a)\/w.heap.size <=ab a')->L P n ops Q rest (upd e d (.slice a' (k+m) c2)) w') :
  L P n ops Q (⟨some d,.call ⟨.builtin .append,#[x,y],#[T,T]⟩,ty,ps,af,none⟩::rest) e w:=by
 cases a with
 |none=>
  have h0:k=0/\c=0/\xs=[]:=by
   have hln:=by0.1;rcases by0.2 with⟨hv,h0⟩|⟨g,cap,cur,hv,_⟩
   ·cases hv;exact⟨rfl,rfl,by
     rw[Nat.zero_mul]at hln;exact List.eq_nil_of_length_eq_zero hln⟩
   ·cases hv
  obtain⟨rfl,rfl,rfl⟩:=h0;refine L.E9 hx hy hT hi hz hs (Own.nil w w.heap.size E s) (fun h=>by cases h) hl (fun ad' e=>by cases e;exact dx0) h1 Bt0 hb (Nat.le_refl _) fun a' c2 w' hO hg _ _=>?_;refine h a' c2 w' (hO.down hB) hg fun ha=>.inr ?_;exact(hO.row ha).choose_spec.2.1
 |some a0=>
  have ha0:∃b,a0=⟨b,0,none⟩:=by
   rcases by0.2 with⟨hv,_⟩|⟨g,cap,cur,hv,_⟩
   ·cases hv
   ·cases hv;exact⟨g,rfl⟩
  obtain⟨b,rfl⟩:=ha0;refine L.Uy0 hx hy hT hi hz hs by0 hl dx0 h1 Bt0 hb hB fun b' c2 w' hO hg hw=>?_;refine h _ c2 w' hO hg fun _=>?_;rcases hw with⟨rfl,_⟩|⟨rfl,_⟩
  ·exact .inl ⟨by simp,rfl⟩
  ·exact .inr (Nat.le_refl _)
end
structure ke0 (S:Nat->Prop) (B:Nat) (w w':World):Prop where
 os:w'.os=w.os
 tape:w'.tape=w.tape
 output:w'.output=w.output
 size:w.heap.size <=w'.heap.size
 block:∀k,k<B->¬S k->w'.heap[k]? =w.heap[k]?
section
variable {S:Nat->Prop}{B:Nat}{w w1 w2:World}
theorem ke0.refl (S:Nat->Prop) (B:Nat) (w:World):ke0 S B w w:=⟨rfl,rfl,rfl,Nat.le_refl _,fun _ _ _=>rfl⟩
theorem ke0.trans (h:ke0 S B w w1) (h':ke0 S B w1 w2):ke0 S B w w2:=⟨h'.os.trans h.os,h'.tape.trans h.tape,h'.output.trans h.output,Nat.le_trans h.size h'.size,fun k hk hs=>(h'.block k hk hs).trans (h.block k hk hs)⟩
theorem ke0.below (h:ke0 S B w w1) (hb:Below w1.heap.size w1 w2) (hB:B <=w1.heap.size):ke0 S B w w2:=h.trans ⟨hb.os,hb.tape,hb.output,hb.size,fun k hk _=>hb.block k (by omega)⟩
theorem ke0.grown {row:Option Nat} (h:ke0 S B w w1) (hg:w1.grownBy w2 row) (hB:B <=w1.heap.size) (hr:∀r,row=some r->S r\/B <=r):ke0 S B w w2 :=
 h.trans ⟨hg.os,hg.tape,hg.output,hg.size,fun k hk hs=>hg.block k (by omega) (fun e=>by rcases hr k e.symm with z|z;exact hs z;omega)⟩
theorem Own.congr {E:TypeId} {s n c:Nat} {a:Option Addr} {xs:List Value} (h:Own w B E s a n c xs) (he:a≠none->w1.heap[ab a]? =w.heap[ab a]?):Own w1 B E s a n c xs:=by
 refine⟨h.1,?_⟩;rcases h.2 with h1|⟨g,cap,cur,hv,hb,hg,h2⟩
 ·exact .inl h1
 ·refine .inr ⟨g,cap,cur,hv,hb,?_,h2⟩;cases hv;exact(he (by simp)).trans hg
end
end Go.Vy
end
section
namespace Go.Proofs.YtinppmaojmdmhaaGreat
theorem sz1:(Tryz.prog.info? 1).map (·.size)=some 1:=by kernel_rfl
theorem sz2:(Tryz.prog.info? 2).map (·.size)=some 1:=by kernel_rfl
theorem zr2:(Tryz.prog.info? 2).bind (·.zero)=some (.int .i64 0):=by kernel_rfl
theorem sz3:(Tryz.prog.info? 3).map (·.size)=some 1:=by kernel_rfl
theorem zr3:(Tryz.prog.info? 3).bind (·.zero)=some (.int .i64 0):=by kernel_rfl
theorem in3:(Tryz.prog.info? 3).map (fun i=>(i.zero,i.size,i.bytes))=some (some (.int .i64 0),1,8):=by kernel_rfl
theorem sz4:(Tryz.prog.info? 4).map (·.size)=some 1:=by kernel_rfl
theorem zr4:(Tryz.prog.info? 4).bind (·.zero)=some (.bool false):=by kernel_rfl
theorem sz5:(Tryz.prog.info? 5).map (·.size)=some 1:=by kernel_rfl
theorem zr5:(Tryz.prog.info? 5).bind (·.zero)=some (.int .u8 0):=by kernel_rfl
theorem sz9:(Tryz.prog.info? 9).map (·.size)=some 1:=by kernel_rfl
theorem in9:(Tryz.prog.info? 9).map (fun i=>(i.zero,i.size,i.bytes))=some (some (.string ByteArray.empty),1,16):=by kernel_rfl
theorem cm1:(Tryz.prog.info? 22).map (·.size)=some 1:=by kernel_rfl
theorem Vi0:(Tryz.prog.info? 27).map (·.size)=some 1:=by kernel_rfl
theorem jj1:(Tryz.prog.info? 36).map (·.size)=some 1:=by kernel_rfl
theorem Bw0:(Tryz.prog.info? 37).map (·.size)=some 1:=by kernel_rfl
theorem Oc0:(Tryz.prog.info? 39).map (·.size)=some 4:=by kernel_rfl
theorem jk1:(Tryz.prog.info? 39).bind (·.zero)=some (.agg #[.int .i64 0,.int .i64 0,.slice none 0 0,.slice none 0 0]):=by kernel_rfl
theorem Jx0:(Tryz.prog.info? 41).map (·.size)=some 1:=by kernel_rfl
theorem Od0:(Tryz.prog.info? 42).map (·.size)=some 1:=by kernel_rfl
theorem cn1:(Tryz.prog.info? 43).map (·.size)=some 1:=by kernel_rfl
theorem lf0:(Tryz.prog.info? 45).map (·.size)=some 6:=by kernel_rfl
theorem Oe0:(Tryz.prog.info? 45).bind (·.zero)=some (.agg #[.slice none 0 0,.slice none 0 0,.slice none 0 0,.slice none 0 0,.bool false,.int .i64 0]):=by kernel_rfl
theorem co1:(Tryz.prog.info? 57).map (·.size)=some 1:=by kernel_rfl
theorem qc1:(Tryz.prog.info? 59).map (·.size)=some 3:=by kernel_rfl
theorem jl1:(Tryz.prog.info? 61).map (·.size)=some 1:=by kernel_rfl
theorem cp1:(Tryz.prog.info? 63).map (·.size)=some 4:=by kernel_rfl
theorem qd1:(Tryz.prog.info? 63).bind (·.zero)=some (.agg #[.int .i64 0,.int .i64 0,.int .i64 0,.string ByteArray.empty]):=by kernel_rfl
theorem qe1:(Tryz.prog.info? 63).map (fun i=>(i.zero,i.size,i.bytes))=some (some (.agg #[.int .i64 0,.int .i64 0,.int .i64 0,.string ByteArray.empty]),4,40):=by kernel_rfl
theorem ta0:(Tryz.prog.info? 65).map (·.size)=some 3:=by kernel_rfl
theorem qf1:(Tryz.prog.info? 65).map (fun i=>(i.zero,i.size,i.bytes))=some (some (.agg #[.int .i64 0,.int .i64 0,.int .i64 0]),3,24):=by kernel_rfl
theorem cq1:(Tryz.prog.info? 67).map (·.size)=some 4:=by kernel_rfl
theorem qg1:(Tryz.prog.info? 67).bind (·.zero)=some (.agg #[.int .i64 0,.int .i64 0,.int .i64 0,.int .i64 0]):=by kernel_rfl
theorem qh1:(Tryz.prog.info? 67).map (fun i=>(i.zero,i.size,i.bytes))=some (some (.agg #[.int .i64 0,.int .i64 0,.int .i64 0,.int .i64 0]),4,32):=by kernel_rfl
theorem lg0:(Tryz.prog.info? 71).map (·.size)=some 1:=by kernel_rfl
theorem cr1:(Tryz.prog.info? 71).bind (·.zero)=some (.pointer none):=by kernel_rfl
theorem Of0:(Tryz.prog.info? 71).map (fun i=>(i.zero,i.size,i.bytes))=some (some (.pointer none),1,8):=by kernel_rfl
theorem jm1:(Tryz.prog.info? 72).map (·.size)=some 1:=by kernel_rfl
theorem qi1:(Tryz.prog.info? 72).bind (·.zero)=some (.nilFunc):=by kernel_rfl
theorem qj1:(Tryz.prog.info? 72).map (fun i=>(i.zero,i.size,i.bytes))=some (some (.nilFunc),1,8):=by kernel_rfl
theorem Vj0:(Tryz.prog.info? 85).map (·.size)=some 3:=by kernel_rfl
theorem jn1:(Tryz.prog.info? 85).bind (·.zero)=some (.agg #[.int .i64 0,.int .i64 0,.string ByteArray.empty]):=by kernel_rfl
theorem qk1:(Tryz.prog.info? 85).map (fun i=>(i.zero,i.size,i.bytes))=some (some (.agg #[.int .i64 0,.int .i64 0,.string ByteArray.empty]),3,32):=by kernel_rfl
theorem ct1:(Tryz.prog.info? 86).map (·.size)=some 1:=by kernel_rfl
theorem jo1:(Tryz.prog.info? 86).bind (·.zero)=some (.slice none 0 0):=by kernel_rfl
theorem ql1:(Tryz.prog.info? 86).map (fun i=>(i.zero,i.size,i.bytes))=some (some (.slice none 0 0),1,24):=by kernel_rfl
theorem cu1:(Tryz.prog.info? 87).map (·.size)=some 1:=by kernel_rfl
theorem jp1:(Tryz.prog.info? 88).map (·.size)=some 64:=by kernel_rfl
theorem Og0:(Tryz.prog.info? 89).map (·.size)=some 1:=by kernel_rfl
theorem jq1:(Tryz.prog.info? 90).map (·.size)=some 64:=by kernel_rfl
theorem qa0:(Tryz.prog.info? 95).map (·.size)=some 1:=by kernel_rfl
theorem o8:(Tryz.prog.info? 97).map (·.size)=some 3:=by kernel_rfl
theorem Ff0:(Tryz.prog.info? 97).bind (·.zero)=some (.agg #[.slice none 0 0,.int .i64 0,.int .i64 0]):=by kernel_rfl
theorem Bx0:(Tryz.prog.info? 123).map (·.size)=some 1:=by kernel_rfl
theorem Zg0:(Tryz.prog.info? 123).bind (·.zero)=some (.pointer none):=by kernel_rfl
theorem Oh0:(Tryz.prog.info? 123).map (fun i=>(i.zero,i.size,i.bytes))=some (some (.pointer none),1,8):=by kernel_rfl
theorem jr1:(Tryz.prog.info? 124).map (·.size)=some 1:=by kernel_rfl
theorem Zh0:(Tryz.prog.info? 125).map (·.size)=some 1:=by kernel_rfl
theorem Oi0:(Tryz.prog.info? 127).map (·.size)=some 4:=by kernel_rfl
theorem wy0:(Tryz.prog.info? 140).map (·.size)=some 1:=by kernel_rfl
theorem wz0:(Tryz.prog.info? 142).map (·.size)=some 1:=by kernel_rfl
theorem Oj0:(Tryz.prog.info? 143).map (·.size)=some 1:=by kernel_rfl
theorem Zi0:(Tryz.prog.info? 145).map (·.size)=some 2:=by kernel_rfl
theorem Zj0:(Tryz.prog.info? 157).map (·.size)=some 1:=by kernel_rfl
theorem qb0:(Tryz.prog.info? 162).map (·.size)=some 2:=by kernel_rfl
theorem js1:(Tryz.prog.info? 166).bind (·.zero)=some (.agg #[.pointer none,.pointer none,.pointer none,.pointer none]):=by kernel_rfl
theorem Hy0:(Tryz.prog.info? 169).map (·.size)=some 1:=by kernel_rfl
theorem Zk0:(Tryz.prog.info? 170).map (·.size)=some 1:=by kernel_rfl
theorem Ol0:(Tryz.prog.info? 171).map (·.size)=some 1:=by kernel_rfl
theorem jt1:(Tryz.prog.info? 189).map (·.size)=some 1:=by kernel_rfl
theorem ff0:(Tryz.prog.info? 195).map (·.size)=some 1:=by kernel_rfl
theorem ju1:(Tryz.prog.info? 195).bind (·.zero)=some (.slice none 0 0):=by kernel_rfl
theorem nx0:(Tryz.prog.info? 195).map (fun i=>(i.zero,i.size,i.bytes))=some (some (.slice none 0 0),1,24):=by kernel_rfl
theorem Zl0:(Tryz.prog.info? 246).map (·.size)=some 1:=by kernel_rfl
theorem nm0:(Tryz.f0.name== "runtime.NumGoroutine")=false:=by kernel_rfl
theorem nm1:(Tryz.f1.name== "runtime.NumGoroutine")=false:=by kernel_rfl
theorem nm2:(Tryz.f2.name== "runtime.NumGoroutine")=false:=by kernel_rfl
theorem nm3:(Tryz.f3.name== "runtime.NumGoroutine")=false:=by kernel_rfl
theorem jv1:(Tryz.f11.name== "runtime.NumGoroutine")=false:=by kernel_rfl
theorem qm1:(Tryz.f12.name== "runtime.NumGoroutine")=false:=by kernel_rfl
theorem qn1:(Tryz.f13.name== "runtime.NumGoroutine")=false:=by kernel_rfl
theorem jw1:(Tryz.f15.name== "runtime.NumGoroutine")=false:=by kernel_rfl
theorem qo1:(Tryz.f16.name== "runtime.NumGoroutine")=false:=by kernel_rfl
theorem qp1:(Tryz.f17.name== "runtime.NumGoroutine")=false:=by kernel_rfl
theorem qq1:(Tryz.f18.name== "runtime.NumGoroutine")=false:=by kernel_rfl
theorem jx1:(Tryz.f19.name== "runtime.NumGoroutine")=false:=by kernel_rfl
theorem qr1:(Tryz.f23.name== "runtime.NumGoroutine")=false:=by kernel_rfl
theorem jy1:(Tryz.f26.name== "runtime.NumGoroutine")=false:=by kernel_rfl
theorem jz1:(Tryz.f27.name== "runtime.NumGoroutine")=false:=by kernel_rfl
theorem ka1:(Tryz.f28.name== "runtime.NumGoroutine")=false:=by kernel_rfl
theorem qs1:(Tryz.f29.name== "runtime.NumGoroutine")=false:=by kernel_rfl
theorem kb1:(Tryz.f30.name== "runtime.NumGoroutine")=false:=by kernel_rfl
theorem kc1:(Tryz.f31.name== "runtime.NumGoroutine")=false:=by kernel_rfl
theorem qt1:(Tryz.f37.name== "runtime.NumGoroutine")=false:=by kernel_rfl
theorem qu1:(Tryz.f38.name== "runtime.NumGoroutine")=false:=by kernel_rfl
theorem Vk0:(Tryz.f39.name== "runtime.NumGoroutine")=false:=by kernel_rfl
theorem qv1:(Tryz.f40.name== "runtime.NumGoroutine")=false:=by kernel_rfl
theorem qw1:(Tryz.f41.name== "runtime.NumGoroutine")=false:=by kernel_rfl
theorem qx1:(Tryz.f47.name== "runtime.NumGoroutine")=false:=by kernel_rfl
theorem qy1:(Tryz.f48.name== "runtime.NumGoroutine")=false:=by kernel_rfl
theorem qz1:(Tryz.f49.name== "runtime.NumGoroutine")=false:=by kernel_rfl
theorem cv1:(Tryz.f50.name== "runtime.NumGoroutine")=false:=by kernel_rfl
theorem kd1:(Tryz.f51.name== "runtime.NumGoroutine")=false:=by kernel_rfl
theorem ke1:(Tryz.f52.name== "runtime.NumGoroutine")=false:=by kernel_rfl
theorem Fg0:(Tryz.f53.name== "runtime.NumGoroutine")=false:=by kernel_rfl
theorem kf1:(Tryz.f54.name== "runtime.NumGoroutine")=false:=by kernel_rfl
theorem ra1:(Tryz.f55.name== "runtime.NumGoroutine")=false:=by kernel_rfl
theorem kg1:(Tryz.f56.name== "runtime.NumGoroutine")=false:=by kernel_rfl
theorem rb1:(Tryz.f57.name== "runtime.NumGoroutine")=false:=by kernel_rfl
theorem rc1:(Tryz.f58.name== "runtime.NumGoroutine")=false:=by kernel_rfl
theorem rd1:(Tryz.f59.name== "runtime.NumGoroutine")=false:=by kernel_rfl
theorem kh1:(Tryz.f60.name== "runtime.NumGoroutine")=false:=by kernel_rfl
theorem re1:(Tryz.f62.name== "runtime.NumGoroutine")=false:=by kernel_rfl
theorem rf1:(Tryz.f64.name== "runtime.NumGoroutine")=false:=by kernel_rfl
theorem rg1:(Tryz.f68.name== "runtime.NumGoroutine")=false:=by kernel_rfl
theorem cw1:(Tryz.f69.name== "runtime.NumGoroutine")=false:=by kernel_rfl
theorem oi0:(Tryz.f70.name== "runtime.NumGoroutine")=false:=by kernel_rfl
theorem Om0:(Tryz.f71.name== "runtime.NumGoroutine")=false:=by kernel_rfl
theorem rh1:(Tryz.f72.name== "runtime.NumGoroutine")=false:=by kernel_rfl
theorem ri1:(Tryz.f73.name== "runtime.NumGoroutine")=false:=by kernel_rfl
theorem ki1:(Tryz.f74.name== "runtime.NumGoroutine")=false:=by kernel_rfl
theorem kj1:(Tryz.f75.name== "runtime.NumGoroutine")=false:=by kernel_rfl
theorem rj1:(Tryz.f76.name== "runtime.NumGoroutine")=false:=by kernel_rfl
theorem kk1:(Tryz.f77.name== "runtime.NumGoroutine")=false:=by kernel_rfl
theorem rk1:(Tryz.f78.name== "runtime.NumGoroutine")=false:=by kernel_rfl
theorem rl1:(Tryz.f79.name== "runtime.NumGoroutine")=false:=by kernel_rfl
theorem rm1:(Tryz.f80.name== "runtime.NumGoroutine")=false:=by kernel_rfl
theorem kl1:(Tryz.f90.name== "runtime.NumGoroutine")=false:=by kernel_rfl
theorem rn1:(Tryz.f91.name== "runtime.NumGoroutine")=false:=by kernel_rfl
theorem ro1:(Tryz.f92.name== "runtime.NumGoroutine")=false:=by kernel_rfl
theorem Vl0:(Tryz.f93.name== "runtime.NumGoroutine")=false:=by kernel_rfl
theorem rp1:(Tryz.f94.name== "runtime.NumGoroutine")=false:=by kernel_rfl
theorem km1:(Tryz.f96.name== "runtime.NumGoroutine")=false:=by kernel_rfl
theorem kn1:(Tryz.f97.name== "runtime.NumGoroutine")=false:=by kernel_rfl
theorem On0:(Tryz.f98.name== "runtime.NumGoroutine")=false:=by kernel_rfl
theorem rq1:(Tryz.f99.name== "runtime.NumGoroutine")=false:=by kernel_rfl
theorem Zm0:(Tryz.f100.name== "runtime.NumGoroutine")=false:=by kernel_rfl
theorem Zn0:(Tryz.f101.name== "runtime.NumGoroutine")=false:=by kernel_rfl
theorem ko1:(Tryz.f102.name== "runtime.NumGoroutine")=false:=by kernel_rfl
theorem Oo0:(Tryz.f103.name== "runtime.NumGoroutine")=false:=by kernel_rfl
theorem kp1:(Tryz.f104.name== "runtime.NumGoroutine")=false:=by kernel_rfl
theorem kq1:(Tryz.f105.name== "runtime.NumGoroutine")=false:=by kernel_rfl
theorem kr1:(Tryz.f106.name== "runtime.NumGoroutine")=false:=by kernel_rfl
theorem ks1:(Tryz.f107.name== "runtime.NumGoroutine")=false:=by kernel_rfl
theorem Op0:(Tryz.f108.name== "runtime.NumGoroutine")=false:=by kernel_rfl
theorem qc0:(Tryz.f109.name== "runtime.NumGoroutine")=false:=by kernel_rfl
theorem Zo0:(Tryz.f110.name== "runtime.NumGoroutine")=false:=by kernel_rfl
theorem Zp0:(Tryz.f114.name== "runtime.NumGoroutine")=false:=by kernel_rfl
theorem kt1:(Tryz.f115.name== "runtime.NumGoroutine")=false:=by kernel_rfl
theorem Oq0:(Tryz.f116.name== "runtime.NumGoroutine")=false:=by kernel_rfl
theorem ku1:(Tryz.f117.name== "runtime.NumGoroutine")=false:=by kernel_rfl
theorem kv1:(Tryz.f119.name== "runtime.NumGoroutine")=false:=by kernel_rfl
theorem kw1:(Tryz.f120.name== "runtime.NumGoroutine")=false:=by kernel_rfl
theorem kx1:(Tryz.f122.name== "runtime.NumGoroutine")=false:=by kernel_rfl
theorem ky1:(Tryz.f123.name== "runtime.NumGoroutine")=false:=by kernel_rfl
theorem kz1:(Tryz.f124.name== "runtime.NumGoroutine")=false:=by kernel_rfl
theorem Or0:(Tryz.f126.name== "runtime.NumGoroutine")=false:=by kernel_rfl
theorem Zq0:(Tryz.f127.name== "runtime.NumGoroutine")=false:=by kernel_rfl
theorem la1:(Tryz.f128.name== "runtime.NumGoroutine")=false:=by kernel_rfl
theorem Zr0:(Tryz.f132.name== "runtime.NumGoroutine")=false:=by kernel_rfl
theorem lb1:(Tryz.f134.name== "runtime.NumGoroutine")=false:=by kernel_rfl
theorem lc1:(Tryz.f135.name== "runtime.NumGoroutine")=false:=by kernel_rfl
theorem Zs0:(Tryz.f137.name== "runtime.NumGoroutine")=false:=by kernel_rfl
theorem Os0:(Tryz.f138.name== "runtime.NumGoroutine")=false:=by kernel_rfl
theorem ld1:(Tryz.f139.name== "runtime.NumGoroutine")=false:=by kernel_rfl
theorem le1:(Tryz.f140.name== "runtime.NumGoroutine")=false:=by kernel_rfl
theorem Ot0:(Tryz.f150.name== "runtime.NumGoroutine")=false:=by kernel_rfl
theorem lf1:(Tryz.f151.name== "runtime.NumGoroutine")=false:=by kernel_rfl
theorem lg1:(Tryz.f153.name== "runtime.NumGoroutine")=false:=by kernel_rfl
theorem lh1:(Tryz.f154.name== "runtime.NumGoroutine")=false:=by kernel_rfl
theorem Zt0:(Tryz.f206.name== "runtime.NumGoroutine")=false:=by kernel_rfl
theorem li1:(Tryz.f207.name== "runtime.NumGoroutine")=false:=by kernel_rfl
theorem Zu0:(Tryz.f208.name== "runtime.NumGoroutine")=false:=by kernel_rfl
theorem Ou0:(Tryz.f209.name== "runtime.NumGoroutine")=false:=by kernel_rfl
theorem lj1:(Tryz.f210.name== "runtime.NumGoroutine")=false:=by kernel_rfl
theorem Zv0:(Tryz.f211.name== "runtime.NumGoroutine")=false:=by kernel_rfl
theorem lk1:(Tryz.f212.name== "runtime.NumGoroutine")=false:=by kernel_rfl
theorem Zw0:(Tryz.f213.name== "runtime.NumGoroutine")=false:=by kernel_rfl
theorem Zx0:(Tryz.f214.name== "runtime.NumGoroutine")=false:=by kernel_rfl
theorem Zy0:(Tryz.f215.name== "runtime.NumGoroutine")=false:=by kernel_rfl
end Go.Proofs.YtinppmaojmdmhaaGreat
end
section
namespace Go.Proofs.YtinppmaojmdmhaaGreat
open Go.Conc Go.Yc Go.Wg
open Go.Vc (Env upd R3 ev u6 G3)
section
attribute [local irreducible] KK
theorem qd0 (d:Nat):deafBehind d #[(⟨.mark .disable,false,true⟩:Event)]=d+1:=rfl
theorem dz0 (d:Nat):deafBehind (d+1) #[(⟨.mark .enable,false,true⟩:Event)]=d:=rfl
theorem cw0 (d:Nat) {m:Mark} (h:(match m with| .disable| .enable=>false|_=>true)=true):deafBehind d #[(⟨.mark m,false,true⟩:Event)]=d:=by cases m <;> first|rfl|cases h
theorem add1 (v:Nat) (h:v<2147483648):IntKind.u64.wrap (((v*4294967296+0:Nat):Int)+1)=((v*4294967296+1:Nat):Int):=by rw[IntKind.wrap_u64];omega
theorem ll1:Extern.find Tryz.f107=some (Extern.Race.marked .releaseMerge):=by kernel_rfl
theorem ln1:Extern.find Tryz.f115=some (Extern.Race.marked .read):=by kernel_rfl
theorem lo1:Extern.find Tryz.f123=some (Extern.Race.marked .write):=by kernel_rfl
theorem lp1:Extern.find Tryz.f120=some (Extern.Race.marked .acquire):=by kernel_rfl
theorem Ov0:Extern.find Tryz.f108=some (fun _=>do mark .disable;pure Extern.Race.none_):=by kernel_rfl
theorem qe0:Extern.find Tryz.f109=some (fun _=>do mark .enable;pure Extern.Race.none_):=by kernel_rfl
theorem Zz0:Extern.find Tryz.f110=some (fun _=>pure (.bool false)):=by kernel_rfl
theorem aa1:Extern.find Tryz.f137=some (Extern.Atomic.update (Op.intArith .add) .u64 true):=by kernel_rfl
theorem Ow0:Extern.find Tryz.f138=some (Extern.Atomic.loadT (.int .u64)):=by kernel_rfl
theorem lq1:Extern.find Tryz.f139=some Extern.Atomic.storeT:=by kernel_rfl
theorem lr1:Extern.find Tryz.f140=some (Extern.Atomic.casT (.int .u64)):=by kernel_rfl
theorem ls1:Extern.find Tryz.f119=some Extern.Sync.semrelease:=by kernel_rfl
theorem lu1:Extern.find Tryz.f124=some Extern.Sync.semacquire:=by kernel_rfl
theorem ab1:(Tryz.prog.info? 143).map (fun i=>decide (i.size=0))=some false:=by kernel_rfl
theorem ac1:(Tryz.prog.info? 145).map (fun i=>decide (i.size=0))=some false:=by kernel_rfl
set_option maxRecDepth 20000 in
theorem Vm0 (gr:K7) {c:Frame} {cs:List Frame} (hcm:c.mode= .returning) {N:Nat} (hT:QuitsD Tryz.prog N 0 (Conc.G c cs)):∃n,Lt Tryz.prog gr n 0 (Conc.G ((baseD 62).at {tmps:=#[.pointer (some ⟨gr.blk,gr.off,none⟩)]++Array.replicate (Tryz.f62.ntmps-1) undef,defers:=[]} [.code (Tryz.f62.body.getD .skip)]) (c::cs)):=by
 refine⟨N+500,(?_:At (fun m d g=>Lt Tryz.prog gr m d g) (N+500) 4 (baseD 62) (c::cs) [] 0 (Wg.bq0 #[.pointer (some ⟨gr.blk,gr.off,none⟩)]) [.code (Tryz.f62.body.getD .skip)]) _ (fa0 _ _ rfl)⟩;refine At.region (T3 _ gr) ?_;refine N0.val (T3 _ gr) (bkd _) rfl (v:=.pointer (some ⟨gr.blk,gr.off,none⟩)) (M0 rfl) ?_;refine N0.call (T3 _ gr) (bkd _) [.pointer (some ⟨gr.blk,gr.off,none⟩),.i (-1)] 117 rfl Tryz.func60 kh1 rfl rfl rfl (fun cs1 O7=>?_);refine At.seq (T3 _ gr) ?_;refine At.W7 (T3 _ gr) rfl ?_;refine At.seq (T3 _ gr) ?_;refine U118 ?_;refine N0.val (T3 _ gr) (M1 _) rfl (v:=.i (-1)) (M0 rfl) ?_;refine N0.val (T3 _ gr) (M1 _) rfl (v:=.bool true) (iy0 (r:=true) rfl rfl (by decide)) ?_;refine N0.nil (T3 _ gr) ?_;refine At.W7 (T3 _ gr) rfl ?_;refine At.region (T3 _ gr) ?_;refine N0.val (T3 _ gr) (M1 _) rfl (v:=.pointer (some ⟨gr.blk,gr.off,none⟩)) (M0 rfl) ?_;refine N0.toUnsafe (jb1 _ gr) (M1 _) rfl rfl (.inl rfl) Tryz.underlying203 Tryz.underlying205 ac1 ?_;refine N0.zf0 (T3 _ gr) (M1 _) .releaseMerge (by simp) rfl rfl Tryz.func107 ks1 rfl rfl ll1 rfl ?_;rw[cw0 _ rfl];refine U319 ?_;refine N0.Hu0 (T3 _ gr) (M1 _) .disable (by simp) rfl rfl Tryz.func108 Op0 rfl rfl Ov0 ?_;simp only[qd0];refine N0.nil (T3 _ gr) ?_;refine At.region (T3 _ gr) ?_;refine N0.defer (T3 _ gr) (M1 _) [] rfl ?_;refine U319 ?_;refine N0.val (T3 _ gr) (M1 _) rfl (v:=.bool false) (I1 rfl) ?_;refine N0.nil (T3 _ gr) ?_;refine At.seq (T3 _ gr) ?_;refine U118 ?_;refine N0.wv0 (T3 _ gr) (M1 _) (.bool false) rfl Tryz.func110 Zo0 rfl rfl Zz0 ?_;refine N0.nil (T3 _ gr) ?_;refine At.V6 (T3 _ gr) rfl ?_;refine At.skip (T3 _ gr) ?_;refine U118 ?_;refine U381 ?_;refine N0.val (T3 _ gr) (M1 _) rfl (v:=.pointer (some ⟨gr.blk,gr.off,none⟩)) (z5 (s:=1) gr.off gr.off rfl Tryz.underlying145 rfl wz0 (by decide) rfl) ?_;refine N0.val (T3 _ gr) (M1 _) rfl (v:=.i (-1)) (M0 rfl) ?_;refine N0.val (T3 _ gr) (M1 _) rfl (v:=.int .u64 18446744073709551615) (E4 (r:=18446744073709551615) rfl Tryz.underlying3 Tryz.underlying140 (by decide)) ?_;refine N0.val (T3 _ gr) (M1 _) rfl (v:=.int .u64 18446744069414584320) (Nu0 (r:=18446744069414584320) rfl rfl (by decide) (by decide)) ?_;refine N0.call (T3 _ gr) (M1 _) [.pointer (some ⟨gr.blk,gr.off,none⟩),.int .u64 18446744069414584320] 10 rfl Tryz.func114 Zp0 rfl rfl rfl (fun cs2 hb2=>?_);refine U118 ?_;refine N0.val (T3 _ gr) (M1 _) rfl (v:=.int .u64 0) (I1 rfl) ?_;refine U319 ?_;refine U381 ?_;refine N0.val (T3 _ gr) (M1 _) rfl (v:=.pointer (some ⟨gr.blk,gr.off,none⟩)) (z5 (s:=1) gr.off gr.off rfl Tryz.underlying142 rfl wy0 (by decide) rfl) ?_;refine N0.val (T3 _ gr) (M1 _) rfl (v:=.int .u64 18446744069414584320) (M0 rfl) ?_;refine N0.jc1 (M1 _) rfl Tryz.func137 Zs0 rfl rfl aa1 rfl rfl (fun v wt hwt hv N3=>?_) ?_
 ·by_cases hv0:0<v
  ·have hwc:wt=0\/wt=1:=by omega
   rcases hwc with rfl|rfl
   ·refine N0.val (E0 _) (M1 _) rfl (v:=.int .u64 (((v*4294967296+0:Nat):Int))) (I1 rfl) ?_;refine N0.nil (E0 _) ?_;refine At.ret (E0 _) (fun _=>?_);refine AtR.leave1 (E0 _) hb2 rfl Tryz.func114 rfl (.int .u64 (((v*4294967296+0:Nat):Int))) rfl ?_;refine N0.val (E0 _) (M1 _) rfl (v:=.int .u64 (((v*4294967296+0:Nat):Int))) (I1 rfl) ?_;refine U87 ?_;refine N0.val (E0 _) (M1 _) rfl (v:=.int .u64 (((v*4294967296+0:Nat):Int))) (M0 rfl) ?_;refine N0.val (E0 _) (M1 _) rfl (v:=.int .u64 0) (I8 (r:=0) rfl rfl (py0 v 0 (by omega) (by omega))) ?_;refine U110 ?_;refine U206 ?_;refine U441 ?_;refine N0.val (E0 _) (M1 _) rfl (v:=.int .u64 (((v:Nat):Int))) (ip0 (r:=((v:Nat):Int)) rfl rfl (by decide) (pz0 v 0 (by omega))) ?_;refine U367 ?_;refine N0.nil (E0 _) ?_;refine U441 ?_;refine N0.val (E0 _) (M1 _) rfl (v:=.int .u64 0) (I8 (r:=0) rfl rfl (kc0 v 0 (by omega) (by omega))) ?_;refine U379 ?_;refine U87 ?_;refine U240 ?_;refine U238 ?_;refine U426 ?_;refine U284 ?_;refine U110 ?_;refine U252 ?_;refine U238 ?_;refine U394 ?_;refine U472 ?_;refine U295 ?_;refine At.ret (E0 _) (fun _=>?_);refine AtR.mark (E0 _) .enable (by simp) rfl Tryz.func109 qc0 rfl rfl qe0 ?_;simp only[dz0];refine U181 ?_;refine At.done (E0 _) (fun _=>?_);exact U180
   ·refine N0.val (E0 _) (M1 _) rfl (v:=.int .u64 (((v*4294967296+1:Nat):Int))) (I1 rfl) ?_;refine N0.nil (E0 _) ?_;refine At.ret (E0 _) (fun _=>?_);refine AtR.leave1 (E0 _) hb2 rfl Tryz.func114 rfl (.int .u64 (((v*4294967296+1:Nat):Int))) rfl ?_;refine N0.val (E0 _) (M1 _) rfl (v:=.int .u64 (((v*4294967296+1:Nat):Int))) (I1 rfl) ?_;refine U87 ?_;refine N0.val (E0 _) (M1 _) rfl (v:=.int .u64 (((v*4294967296+1:Nat):Int))) (M0 rfl) ?_;refine N0.val (E0 _) (M1 _) rfl (v:=.int .u64 0) (I8 (r:=0) rfl rfl (py0 v 1 (by omega) (by omega))) ?_;refine U110 ?_;refine U206 ?_;refine U442 ?_;refine N0.val (E0 _) (M1 _) rfl (v:=.int .u64 (((v:Nat):Int))) (ip0 (r:=((v:Nat):Int)) rfl rfl (by decide) (pz0 v 1 (by omega))) ?_;refine U367 ?_;refine N0.nil (E0 _) ?_;refine U442 ?_;refine N0.val (E0 _) (M1 _) rfl (v:=.int .u64 1) (I8 (r:=1) rfl rfl (kc0 v 1 (by omega) (by omega))) ?_;refine N0.val (E0 _) (M1 _) rfl (v:=.int .u32 1) (E4 (r:=1) rfl Tryz.underlying140 Tryz.underlying143 (by decide)) ?_;refine N0.val (E0 _) (M1 _) rfl (v:=.int .u32 1) (I1 rfl) ?_;refine U87 ?_;refine U240 ?_;refine U238 ?_;refine U426 ?_;refine U112 ?_;refine N0.val (E0 _) (M1 _) rfl (v:=.int .u32 1) (M0 rfl) ?_;refine N0.val (E0 _) (M1 _) rfl (v:=.bool true) (Z9 (r:=true) rfl rfl (by decide)) ?_;refine U240 ?_;refine U238 ?_;refine U394 ?_;refine U472 ?_;refine U295 ?_;refine At.ret (E0 _) (fun _=>?_);refine AtR.mark (E0 _) .enable (by simp) rfl Tryz.func109 qc0 rfl rfl qe0 ?_;simp only[dz0];refine U181 ?_;refine At.done (E0 _) (fun _=>?_);exact U180
  ·obtain rfl:v=0:=by omega
   obtain rfl:wt=0:=by omega
   refine N0.val (E0 _) (M1 _) rfl (v:=.int .u64 (((0*4294967296+0:Nat):Int))) (I1 rfl) ?_;refine N0.nil (E0 _) ?_;refine At.ret (E0 _) (fun _=>?_);refine AtR.leave1 (E0 _) hb2 rfl Tryz.func114 rfl (.int .u64 (((0*4294967296+0:Nat):Int))) rfl ?_;refine N0.val (E0 _) (M1 _) rfl (v:=.int .u64 (((0*4294967296+0:Nat):Int))) (I1 rfl) ?_;refine U87 ?_;refine N0.val (E0 _) (M1 _) rfl (v:=.int .u64 (((0*4294967296+0:Nat):Int))) (M0 rfl) ?_;refine N0.val (E0 _) (M1 _) rfl (v:=.int .u64 0) (I8 (r:=0) rfl rfl (py0 0 0 (by omega) (by omega))) ?_;refine U110 ?_;refine U206 ?_;refine U443 ?_;refine N0.val (E0 _) (M1 _) rfl (v:=.int .u64 (((0:Nat):Int))) (ip0 (r:=((0:Nat):Int)) rfl rfl (by decide) (pz0 0 0 (by omega))) ?_;refine N0.val (E0 _) (M1 _) rfl (v:=.int .i32 (((0:Nat):Int))) (E4 (r:=((0:Nat):Int)) rfl Tryz.underlying140 Tryz.underlying21 (fc0 0 (by omega))) ?_;refine N0.val (E0 _) (M1 _) rfl (v:=.int .i32 (((0:Nat):Int))) (I1 rfl) ?_;refine N0.nil (E0 _) ?_;refine U443 ?_;refine N0.val (E0 _) (M1 _) rfl (v:=.int .u64 0) (I8 (r:=0) rfl rfl (kc0 0 0 (by omega) (by omega))) ?_;refine U379 ?_;refine U87 ?_;refine U240 ?_;refine U311 ?_;refine U463 ?_;refine N0.val (E0 _) (M1 _) rfl (v:=.bool false) (iy0 (r:=false) rfl rfl (by decide)) ?_;refine U259 ?_;refine U284 ?_;refine U110 ?_;refine U252 ?_;refine U311 ?_;refine U463 ?_;refine N0.val (E0 _) (M1 _) rfl (v:=.bool false) (gj0 (r:=false) rfl rfl (by decide)) ?_;refine N0.val (E0 _) (M1 _) rfl (v:=.bool false) (M0 rfl) ?_;refine N0.ek0 (E0 _) (M1 _) rfl rfl (v:=.int .u32 0) (M0 rfl) ?_;refine N0.ek0 (E0 _) (M1 _) rfl rfl (v:=.bool true) (dy0 (r:=true) rfl rfl (by decide)) ?_;refine N0.val (E0 _) (M1 _) rfl (v:=.bool true) (fb0 rfl rfl) ?_;refine U295 ?_;refine At.ret (E0 _) (fun _=>?_);refine AtR.mark (E0 _) .enable (by simp) rfl Tryz.func109 qc0 rfl rfl qe0 ?_;simp only[dz0];refine U181 ?_;refine At.done (E0 _) (fun _=>?_);exact U180
 ·refine N0.val (W0 _ gr 2) (M1 _) rfl (v:=.int .u64 (((0*4294967296+1:Nat):Int))) (I1 rfl) ?_;refine N0.nil (W0 _ gr 2) ?_;refine At.ret (W0 _ gr 2) (fun _=>?_);refine AtR.leave1 (W0 _ gr 2) hb2 rfl Tryz.func114 rfl (.int .u64 (((0*4294967296+1:Nat):Int))) rfl ?_;refine N0.val (W0 _ gr 2) (M1 _) rfl (v:=.int .u64 (((0*4294967296+1:Nat):Int))) (I1 rfl) ?_;refine N0.nil (W0 _ gr 2) ?_;refine At.seq (W0 _ gr 2) ?_;refine U274 ?_;refine N0.val (W0 _ gr 2) (M1 _) rfl (v:=.int .u64 0) (I8 (r:=0) rfl rfl (py0 0 1 (by omega) (by omega))) ?_;refine N0.val (W0 _ gr 2) (M1 _) rfl (v:=.bool false) (Z9 (r:=false) rfl rfl (by decide)) ?_;refine U281 ?_;refine U174 ?_;refine U119 ?_;refine U274 ?_;refine N0.val (W0 _ gr 2) (M1 _) rfl (v:=.int .u64 (((0:Nat):Int))) (ip0 (r:=((0:Nat):Int)) rfl rfl (by decide) (pz0 0 1 (by omega))) ?_;refine N0.val (W0 _ gr 2) (M1 _) rfl (v:=.int .i32 (((0:Nat):Int))) (E4 (r:=((0:Nat):Int)) rfl Tryz.underlying140 Tryz.underlying21 (fc0 0 (by omega))) ?_;refine N0.val (W0 _ gr 2) (M1 _) rfl (v:=.int .i32 (((0:Nat):Int))) (I1 rfl) ?_;refine N0.nil (W0 _ gr 2) ?_;refine U274 ?_;refine N0.val (W0 _ gr 2) (M1 _) rfl (v:=.int .u64 1) (I8 (r:=1) rfl rfl (kc0 0 1 (by omega) (by omega))) ?_;refine N0.val (W0 _ gr 2) (M1 _) rfl (v:=.int .u32 1) (E4 (r:=1) rfl Tryz.underlying140 Tryz.underlying143 (by decide)) ?_;refine N0.val (W0 _ gr 2) (M1 _) rfl (v:=.int .u32 1) (I1 rfl) ?_;refine N0.nil (W0 _ gr 2) ?_;refine U202 ?_;refine U412 ?_;refine U395 ?_;refine U281 ?_;refine U267 ?_;refine U174 ?_;refine U119 ?_;refine U462 ?_;refine N0.val (W0 _ gr 2) (M1 _) rfl (v:=.bool false) (iy0 (r:=false) rfl rfl (by decide)) ?_;refine N0.nil (W0 _ gr 2) ?_;refine U119 ?_;refine U202 ?_;refine N0.val (W0 _ gr 2) (M1 _) rfl (v:=.int .u32 1) (M0 rfl) ?_;refine N0.val (W0 _ gr 2) (M1 _) rfl (v:=.bool true) (Z9 (r:=true) rfl rfl (by decide)) ?_;refine U412 ?_;refine U395 ?_;refine U281 ?_;refine U267 ?_;refine U174 ?_;refine U119 ?_;refine U462 ?_;refine N0.val (W0 _ gr 2) (M1 _) rfl (v:=.bool false) (gj0 (r:=false) rfl rfl (by decide)) ?_;refine N0.val (W0 _ gr 2) (M1 _) rfl (v:=.bool false) (M0 rfl) ?_;refine N0.ek0 (W0 _ gr 2) (M1 _) rfl rfl (v:=.int .u32 1) (M0 rfl) ?_;refine N0.ek0 (W0 _ gr 2) (M1 _) rfl rfl (v:=.bool false) (dy0 (r:=false) rfl rfl (by decide)) ?_;refine U174 ?_;refine U119 ?_;refine U202 ?_;refine U377 ?_;refine N0.val (W0 _ gr 2) (M1 _) rfl (v:=.pointer (some ⟨gr.blk,gr.off,none⟩)) (z5 (s:=1) gr.off gr.off rfl Tryz.underlying145 rfl wz0 (by decide) rfl) ?_;refine N0.call (W0 _ gr 2) (M1 _) [.pointer (some ⟨gr.blk,gr.off,none⟩)] 7 rfl Tryz.func116 Oq0 rfl rfl rfl (fun cs3 hb3=>?_);refine U159 ?_;refine N0.val (W0 _ gr 2) (M1 _) rfl (v:=.int .u64 0) (I1 rfl) ?_;refine N0.nil (W0 _ gr 2) ?_;refine U159 ?_;refine U377 ?_;refine N0.val (W0 _ gr 2) (M1 _) rfl (v:=.pointer (some ⟨gr.blk,gr.off,none⟩)) (z5 (s:=1) gr.off gr.off rfl Tryz.underlying142 rfl wy0 (by decide) rfl) ?_;refine N0.Vg0 (M1 _) rfl Tryz.func138 Os0 rfl rfl Ow0 rfl ?_;refine N0.val (W0 _ gr 1) (M1 _) rfl (v:=.int .u64 1) (I1 rfl) ?_;refine N0.nil (W0 _ gr 1) ?_;refine At.ret (W0 _ gr 1) (fun _=>?_);refine AtR.leave1 (W0 _ gr 1) hb3 rfl Tryz.func116 rfl (.int .u64 1) rfl ?_;refine N0.val (W0 _ gr 1) (M1 _) rfl (v:=.int .u64 (((0*4294967296+1:Nat):Int))) (M0 rfl) ?_;refine N0.val (W0 _ gr 1) (M1 _) rfl (v:=.bool false) (Z9 (r:=false) rfl rfl (by decide)) ?_;refine N0.nil (W0 _ gr 1) ?_;refine At.V6 (W0 _ gr 1) rfl ?_;refine At.skip (W0 _ gr 1) ?_;refine At.seq (W0 _ gr 1) ?_;refine At.region (W0 _ gr 1) ?_;refine U378 ?_;refine N0.val (W0 _ gr 1) (M1 _) rfl (v:=.pointer (some ⟨gr.blk,gr.off,none⟩)) (z5 (s:=1) gr.off gr.off rfl Tryz.underlying145 rfl wz0 (by decide) rfl) ?_;refine N0.call (W0 _ gr 1) (M1 _) [.pointer (some ⟨gr.blk,gr.off,none⟩),.int .u64 0] 9 rfl Tryz.func117 ku1 rfl rfl rfl (fun cs4 hb4=>?_);refine At.region (W0 _ gr 1) ?_;refine U378 ?_;refine N0.val (W0 _ gr 1) (M1 _) rfl (v:=.pointer (some ⟨gr.blk,gr.off,none⟩)) (z5 (s:=1) gr.off gr.off rfl Tryz.underlying142 rfl wy0 (by decide) rfl) ?_;refine N0.val (W0 _ gr 1) (M1 _) rfl (v:=.int .u64 0) (M0 rfl) ?_;refine N0.Nx0 (M1 _) rfl Tryz.func139 ld1 rfl rfl lq1 rfl rfl ?_;refine N0.nil (W0 _ gr 0) ?_;refine At.done (W0 _ gr 0) (fun _=>?_);refine AtR.leave0 (W0 _ gr 0) hb4 rfl Tryz.func117 rfl ?_;refine N0.nil (W0 _ gr 0) ?_;refine At.seq (W0 _ gr 0) ?_;refine U512 ?_;refine N0.val (W0 _ gr 0) (M1 _) rfl (v:=.bool false) (M0 rfl) ?_;refine N0.nil (W0 _ gr 0) ?_;refine At.V6 (W0 _ gr 0) rfl ?_;refine At.skip (W0 _ gr 0) ?_;refine At.block (W0 _ gr 0) ?_;refine At.loop (W0 _ gr 0) ?_;refine At.seq (W0 _ gr 0) ?_;refine U512 ?_;refine N0.val (W0 _ gr 0) (M1 _) rfl (v:=.int .u32 1) (M0 rfl) ?_;refine N0.val (W0 _ gr 0) (M1 _) rfl (v:=.bool true) (Z9 (r:=true) rfl rfl (by decide)) ?_;refine N0.nil (W0 _ gr 0) ?_;refine At.W7 (W0 _ gr 0) rfl ?_;refine At.skip (W0 _ gr 0) ?_;refine At.seq (W0 _ gr 0) ?_;refine At.block (W0 _ gr 0) ?_;refine At.region (W0 _ gr 0) ?_;refine N0.val (W0 _ gr 0) (M1 _) rfl (v:=.pointer (some ⟨gr.blk,gr.off,none⟩)) (M0 rfl) ?_;refine N0.val (W0 _ gr 0) (M1 _) rfl (v:=.pointer (some ⟨gr.blk,gr.off,none⟩)) (J5 rfl) ?_;refine N0.val (W0 _ gr 0) (M1 _) rfl (v:=.pointer (some ⟨gr.blk,gr.off+1,none⟩)) (z5 (s:=1) gr.off (gr.off+1) rfl Tryz.underlying145 rfl Oj0 (by decide) rfl) ?_;refine N0.ch1 (M1 _) rfl Tryz.func119 kv1 rfl rfl ls1 rfl ?_;refine N0.nil (E0 _) ?_;refine At.inBlock (E0 _) ?_;refine At.region (E0 _) ?_;refine N0.val (E0 _) (M1 _) rfl (v:=.int .u32 1) (M0 rfl) ?_;refine N0.val (E0 _) (M1 _) rfl (v:=.int .u32 0) (cg1 (r:=0) rfl rfl (by decide)) ?_;refine N0.val (E0 _) (M1 _) rfl (v:=.int .u32 0) (I1 rfl) ?_;refine N0.nil (E0 _) ?_;refine At.inLoop (E0 _) ?_;refine U284 ?_;refine N0.val (E0 _) (M1 _) rfl (v:=.bool false) (Z9 (r:=false) rfl rfl (by decide)) ?_;refine U342 ?_;refine At.exit (E0 _) rfl ?_;refine At.done (E0 _) (fun _=>?_);refine AtR.mark (E0 _) .enable (by simp) rfl Tryz.func109 qc0 rfl rfl qe0 ?_;simp only[dz0];refine U181 ?_;refine At.done (E0 _) (fun _=>?_);exact U180
set_option maxRecDepth 20000 in
theorem lv1 (gr:K7) (K:Goroutine->Prop) {c:Frame} {cs:List Frame} (hK:K (Conc.G (c.finish (.tuple #[])) cs)):Mf0 Tryz.prog gr K 500 0 (Conc.G (Frame.enter Tryz.prog 60 #[.pointer (some ⟨gr.blk,gr.off,none⟩),.i 1] .normal) (c::cs)):=by
 rw[enter_at _ Tryz.func60 rfl];refine(?_:At (Ny0 Tryz.prog gr K) 500 117 (base 60) (c::cs) [] 0 (Wg.bq0 #[.pointer (some ⟨gr.blk,gr.off,none⟩),.i 1]) [.code (Tryz.f60.body.getD .skip)]) _ (fa0 _ _ rfl);refine At.seq C3 ?_;refine At.W7 C3 rfl ?_;refine At.seq C3 ?_;refine U67 ?_;refine N0.val C3 (M1 _) rfl (v:=.i 1) (M0 rfl) ?_;refine N0.val C3 (M1 _) rfl (v:=.bool false) (iy0 (r:=false) rfl rfl (by decide)) ?_;refine U542 ?_;refine At.skip C3 ?_;refine U67 ?_;refine N0.Hu0 C3 (M1 _) .disable (by simp) (.inl rfl) rfl Tryz.func108 Op0 rfl rfl Ov0 ?_;simp only[qd0];refine N0.nil C3 ?_;refine At.region C3 ?_;refine N0.defer C3 (M1 _) [] rfl ?_;refine N0.nil C3 ?_;refine U67 ?_;refine N0.val C3 (M1 _) rfl (v:=.bool false) (I1 rfl) ?_;refine N0.nil C3 ?_;refine At.seq C3 ?_;refine U67 ?_;refine N0.wv0 C3 (M1 _) (.bool false) rfl Tryz.func110 Zo0 rfl rfl Zz0 ?_;refine U542 ?_;refine At.skip C3 ?_;refine U67 ?_;refine U389 ?_;refine N0.val C3 (M1 _) rfl (v:=.pointer (some ⟨gr.blk,gr.off,none⟩)) (z5 (s:=1) gr.off gr.off rfl Tryz.underlying145 rfl wz0 (by decide) rfl) ?_;refine N0.val C3 (M1 _) rfl (v:=.i 1) (M0 rfl) ?_;refine N0.val C3 (M1 _) rfl (v:=.int .u64 1) (E4 (r:=1) rfl Tryz.underlying3 Tryz.underlying140 (by decide)) ?_;refine N0.val C3 (M1 _) rfl (v:=.int .u64 4294967296) (Nu0 (r:=4294967296) rfl rfl (by decide) (by decide)) ?_;refine N0.call C3 (M1 _) [.pointer (some ⟨gr.blk,gr.off,none⟩),.int .u64 4294967296] 10 rfl Tryz.func114 Zp0 rfl rfl rfl (fun cs1 O7=>?_);refine U67 ?_;refine N0.val C3 (M1 _) rfl (v:=.int .u64 0) (I1 rfl) ?_;refine N0.nil C3 ?_;refine U67 ?_;refine U389 ?_;refine N0.val C3 (M1 _) rfl (v:=.pointer (some ⟨gr.blk,gr.off,none⟩)) (z5 (s:=1) gr.off gr.off rfl Tryz.underlying142 rfl wy0 (by decide) rfl) ?_;refine N0.val C3 (M1 _) rfl (v:=.int .u64 4294967296) (M0 rfl) ?_;refine N0.Um0 (M1 _) rfl Tryz.func137 Zs0 rfl rfl aa1 rfl rfl (fun v hv=>?_);rcases Nat.eq_zero_or_pos v with rfl|hv0
 ·refine N0.val V0 (M1 _) rfl (v:=.int .u64 ((((0+1)*4294967296+0:Nat):Int))) (I1 rfl) ?_;refine N0.nil V0 ?_;refine At.ret V0 (fun _=>?_);refine AtR.leave1 V0 O7 rfl Tryz.func114 rfl (.int .u64 ((((0+1)*4294967296+0:Nat):Int))) rfl ?_;refine N0.val V0 (M1 _) rfl (v:=.int .u64 ((((0+1)*4294967296+0:Nat):Int))) (I1 rfl) ?_;refine U128 ?_;refine N0.val V0 (M1 _) rfl (v:=.int .u64 ((((0+1)*4294967296+0:Nat):Int))) (M0 rfl) ?_;refine N0.val V0 (M1 _) rfl (v:=.int .u64 0) (I8 (r:=0) rfl rfl (py0 (0+1) 0 (by omega) (by omega))) ?_;refine U258 ?_;refine U81 ?_;refine U89 ?_;refine U444 ?_;refine N0.val V0 (M1 _) rfl (v:=.int .u64 ((((0+1):Nat):Int))) (ip0 (r:=(((0+1):Nat):Int)) rfl rfl (by decide) (pz0 (0+1) 0 (by omega))) ?_;refine N0.val V0 (M1 _) rfl (v:=.int .i32 ((((0+1):Nat):Int))) (E4 (r:=(((0+1):Nat):Int)) rfl Tryz.underlying140 Tryz.underlying21 (fc0 (0+1) (by omega))) ?_;refine N0.val V0 (M1 _) rfl (v:=.int .i32 ((((0+1):Nat):Int))) (I1 rfl) ?_;refine N0.nil V0 ?_;refine U444 ?_;refine N0.val V0 (M1 _) rfl (v:=.int .u64 0) (I8 (r:=0) rfl rfl (kc0 (0+1) 0 (by omega) (by omega))) ?_;refine U387 ?_;refine U128 ?_;refine U424 ?_;refine U490 ?_;refine N0.ek0 V0 (M1 _) rfl rfl (v:=.int .i32 ((((0+1):Nat):Int))) (M0 rfl) ?_;refine U390 ?_;refine N0.ek0 V0 (M1 _) rfl rfl (v:=.bool true) (dy0 (r:=true) rfl rfl (decide_eq_true (by omega))) ?_;refine U315 ?_;refine At.region V0 ?_;refine N0.val V0 (M1 _) rfl (v:=.pointer (some ⟨gr.blk,gr.off,none⟩)) (M0 rfl) ?_;refine N0.val V0 (M1 _) rfl (v:=.pointer (some ⟨gr.blk,gr.off,none⟩)) (J5 rfl) ?_;refine N0.val V0 (M1 _) rfl (v:=.pointer (some ⟨gr.blk,gr.off+1,none⟩)) (z5 (s:=1) gr.off (gr.off+1) rfl Tryz.underlying145 rfl Oj0 (by decide) rfl) ?_;refine N0.toUnsafe Vh0 (M1 _) rfl rfl (.inr rfl) Tryz.underlying211 Tryz.underlying205 ab1 ?_;refine N0.zf0 V0 (M1 _) .read (by simp) (.inr (.inl rfl)) rfl Tryz.func115 kt1 rfl rfl ln1 rfl ?_;rw[cw0 _ rfl];refine U128 ?_;refine N0.val V0 (M1 _) rfl (v:=.int .i32 ((((0+1):Nat):Int))) (M0 rfl) ?_;refine U434 ?_;refine U120 ?_;refine U487 ?_;refine U81 ?_;refine U486 ?_;refine U81 ?_;refine U89 ?_;refine U120 ?_;refine N0.val V0 (M1 _) rfl (v:=.int .i32 ((((0+1):Nat):Int))) (M0 rfl) ?_;refine U403 ?_;refine U160 ?_;refine U315 ?_;refine At.ret V0 (fun _=>?_);refine AtR.mark V0 .enable (by simp) (.inl rfl) Tryz.func109 qc0 rfl rfl qe0 ?_;simp only[dz0];exact U517
 ·refine N0.val V0 (M1 _) rfl (v:=.int .u64 ((((v+1)*4294967296+0:Nat):Int))) (I1 rfl) ?_;refine N0.nil V0 ?_;refine At.ret V0 (fun _=>?_);refine AtR.leave1 V0 O7 rfl Tryz.func114 rfl (.int .u64 ((((v+1)*4294967296+0:Nat):Int))) rfl ?_;refine N0.val V0 (M1 _) rfl (v:=.int .u64 ((((v+1)*4294967296+0:Nat):Int))) (I1 rfl) ?_;refine U128 ?_;refine N0.val V0 (M1 _) rfl (v:=.int .u64 ((((v+1)*4294967296+0:Nat):Int))) (M0 rfl) ?_;refine N0.val V0 (M1 _) rfl (v:=.int .u64 0) (I8 (r:=0) rfl rfl (py0 (v+1) 0 (by omega) (by omega))) ?_;refine U258 ?_;refine U81 ?_;refine U89 ?_;refine U445 ?_;refine N0.val V0 (M1 _) rfl (v:=.int .u64 ((((v+1):Nat):Int))) (ip0 (r:=(((v+1):Nat):Int)) rfl rfl (by decide) (pz0 (v+1) 0 (by omega))) ?_;refine N0.val V0 (M1 _) rfl (v:=.int .i32 ((((v+1):Nat):Int))) (E4 (r:=(((v+1):Nat):Int)) rfl Tryz.underlying140 Tryz.underlying21 (fc0 (v+1) (by omega))) ?_;refine N0.val V0 (M1 _) rfl (v:=.int .i32 ((((v+1):Nat):Int))) (I1 rfl) ?_;refine N0.nil V0 ?_;refine U445 ?_;refine N0.val V0 (M1 _) rfl (v:=.int .u64 0) (I8 (r:=0) rfl rfl (kc0 (v+1) 0 (by omega) (by omega))) ?_;refine U387 ?_;refine U128 ?_;refine U424 ?_;refine U490 ?_;refine N0.ek0 V0 (M1 _) rfl rfl (v:=.int .i32 ((((v+1):Nat):Int))) (M0 rfl) ?_;refine U390 ?_;refine N0.ek0 V0 (M1 _) rfl rfl (v:=.bool false) (dy0 (r:=false) rfl rfl (decide_eq_false (by omega))) ?_;refine N0.val V0 (M1 _) rfl (v:=.bool false) (bl0 rfl rfl) ?_;refine U89 ?_;refine U464 ?_;refine U434 ?_;refine U120 ?_;refine U487 ?_;refine U81 ?_;refine U486 ?_;refine U81 ?_;refine U89 ?_;refine U464 ?_;refine U403 ?_;refine U160 ?_;refine U315 ?_;refine At.ret V0 (fun _=>?_);refine AtR.mark V0 .enable (by simp) (.inl rfl) Tryz.func109 qc0 rfl rfl qe0 ?_;simp only[dz0];exact U517
noncomputable def ad1:Code:=match Tryz.f64.body with|some (.seq _ (.block _ (.loop c)))=>c|_=>.skip
set_option maxRecDepth 20000 in
theorem Jy0 (gr:K7) (K:Goroutine->Prop) {c:Frame} {cs:List Frame} (hK:K (Conc.G (c.finish (.tuple #[])) cs)):∀(V:Nat),V<2147483648->∀(e:Env),At (YWH Tryz.prog gr K none V) (500*V+500) 84 (base 64) (c::cs) [] 1 (upd e 0 (.pointer (some ⟨gr.blk,gr.off,none⟩))) [.code ad1,.inLoop ad1,.inBlock 0]:=by
 intro V
 induction V using Nat.strongRecOn with
 |_ V ih=>
 intro hV e;refine At.block Z2 ?_;refine U45 ?_;refine U407 ?_;refine N0.call Z2 (M1 _) [.pointer (some ⟨gr.blk,gr.off,none⟩)] 7 rfl Tryz.func116 Oq0 rfl rfl rfl (fun cs1 O7=>?_);refine U45 ?_;refine N0.val Z2 (M1 _) rfl (v:=.int .u64 0) (I1 rfl) ?_;refine N0.nil Z2 ?_;refine U45 ?_;refine U406 ?_;refine N0.cj1 (M1 _) rfl Tryz.func138 Os0 rfl rfl Ow0 rfl ?_ (fun v hv hv0=>?_)
 ·refine N0.val R2 (M1 _) rfl (v:=.int .u64 0) (I1 rfl) ?_;refine N0.nil R2 ?_;refine At.ret R2 (fun _=>?_);refine AtR.leave1 R2 O7 rfl Tryz.func116 rfl (.int .u64 0) rfl ?_;refine U279 ?_;refine U493 ?_;refine N0.val R2 (M1 _) rfl (v:=.int .u64 0) (ip0 (r:=0) rfl rfl (by decide) (by decide)) ?_;refine N0.val R2 (M1 _) rfl (v:=.int .i32 0) (E4 (r:=0) rfl Tryz.underlying140 Tryz.underlying21 (by decide)) ?_;refine N0.val R2 (M1 _) rfl (v:=.int .i32 0) (I1 rfl) ?_;refine N0.nil R2 ?_;refine U493 ?_;refine N0.val R2 (M1 _) rfl (v:=.int .u64 0) (I8 (r:=0) rfl rfl (by decide)) ?_;refine N0.val R2 (M1 _) rfl (v:=.int .u32 0) (E4 (r:=0) rfl Tryz.underlying140 Tryz.underlying143 (by decide)) ?_;refine N0.val R2 (M1 _) rfl (v:=.int .u32 0) (I1 rfl) ?_;refine U209 ?_;refine U44 ?_;refine N0.val R2 (M1 _) rfl (v:=.int .i32 0) (M0 rfl) ?_;refine N0.val R2 (M1 _) rfl (v:=.bool true) (dy0 (r:=true) rfl rfl (by decide)) ?_;refine N0.nil R2 ?_;refine At.W7 R2 rfl ?_;refine At.seq R2 ?_;refine At.W7 R2 rfl ?_;refine U449 ?_;simp only[dz0];refine N0.nil R2 ?_;refine U435 ?_;refine U382 ?_;rw[cw0 _ rfl];refine U209 ?_;refine U44 ?_;refine N0.val R2 (M1 _) rfl (v:=.int .u32 0) (M0 rfl) ?_;refine N0.val R2 (M1 _) rfl (v:=.bool true) (dy0 (r:=true) rfl rfl (by decide)) ?_;refine N0.val R2 (M1 _) rfl (v:=.bool true) (M0 rfl) ?_;refine N0.ek0 R2 (M1 _) rfl rfl (v:=.int .u64 0) (M0 rfl) ?_;refine N0.ek0 R2 (M1 _) rfl rfl (v:=.int .u64 0) (I8 (r:=0) rfl rfl (by decide)) ?_;refine N0.ek0 R2 (M1 _) rfl rfl (v:=.bool false) (Z9 (r:=false) rfl rfl (by decide)) ?_;refine N0.val R2 (M1 _) rfl (v:=.bool false) (bl0 rfl rfl) ?_;refine N0.val R2 (M1 _) rfl (v:=.bool false) (M0 rfl) ?_;refine N0.off R2 rfl rfl ?_;refine N0.off R2 rfl rfl ?_;refine N0.val R2 (M1 _) rfl (v:=.bool false) (fb0 rfl rfl) ?_;refine N0.nil R2 ?_;refine At.V6 R2 rfl ?_;refine At.skip R2 ?_;refine At.ret R2 (fun _=>?_);exact U520
 ·refine N0.val Z2 (M1 _) rfl (v:=.int .u64 (((v*4294967296+0:Nat):Int))) (I1 rfl) ?_;refine N0.nil Z2 ?_;refine At.ret Z2 (fun _=>?_);refine AtR.leave1 Z2 O7 rfl Tryz.func116 rfl (.int .u64 (((v*4294967296+0:Nat):Int))) rfl ?_;refine N0.val Z2 (M1 _) rfl (v:=.int .u64 (((v*4294967296+0:Nat):Int))) (I1 rfl) ?_;refine N0.nil Z2 ?_;refine U453 ?_;refine N0.val Z2 (M1 _) rfl (v:=.int .u64 (((v:Nat):Int))) (ip0 (r:=((v:Nat):Int)) rfl rfl (by decide) (pz0 v 0 (by omega))) ?_;refine N0.val Z2 (M1 _) rfl (v:=.int .i32 (((v:Nat):Int))) (E4 (r:=((v:Nat):Int)) rfl Tryz.underlying140 Tryz.underlying21 (fc0 v (by omega))) ?_;refine N0.val Z2 (M1 _) rfl (v:=.int .i32 (((v:Nat):Int))) (I1 rfl) ?_;refine N0.nil Z2 ?_;refine U453 ?_;refine N0.val Z2 (M1 _) rfl (v:=.int .u64 0) (I8 (r:=0) rfl rfl (kc0 v 0 (by omega) (by omega))) ?_;refine N0.val Z2 (M1 _) rfl (v:=.int .u32 0) (E4 (r:=0) rfl Tryz.underlying140 Tryz.underlying143 (by decide)) ?_;refine N0.val Z2 (M1 _) rfl (v:=.int .u32 0) (I1 rfl) ?_;refine N0.nil Z2 ?_;refine At.seq Z2 ?_;refine U45 ?_;refine N0.val Z2 (M1 _) rfl (v:=.int .i32 (((v:Nat):Int))) (M0 rfl) ?_;refine N0.val Z2 (M1 _) rfl (v:=.bool false) (dy0 (r:=false) rfl rfl (decide_eq_false (by omega))) ?_;refine N0.nil Z2 ?_;refine At.V6 Z2 rfl ?_;refine At.skip Z2 ?_;refine U45 ?_;refine U407 ?_;refine N0.val Z2 (M1 _) rfl (v:=.int .u64 (((v*4294967296+0:Nat):Int))) (M0 rfl) ?_;refine N0.val Z2 (M1 _) rfl (v:=.int .u64 (((v*4294967296+0:Nat):Int))) (M0 rfl) ?_;refine N0.val Z2 (M1 _) rfl (v:=.int .u64 (((v*4294967296+1:Nat):Int))) (cf1 (r:=((v*4294967296+1:Nat):Int)) rfl rfl (add1 v (by omega))) ?_;refine N0.call Z2 (M1 _) [.pointer (some ⟨gr.blk,gr.off,none⟩),.int .u64 (((v*4294967296+0:Nat):Int)),.int .u64 (((v*4294967296+1:Nat):Int))] 13 rfl Tryz.func122 kx1 rfl rfl rfl (fun cs2 hb2=>?_);refine U45 ?_;refine N0.val Z2 (M1 _) rfl (v:=.bool false) (I1 rfl) ?_;refine N0.nil Z2 ?_;refine U45 ?_;refine U406 ?_;refine N0.val Z2 (M1 _) rfl (v:=.int .u64 (((v*4294967296+0:Nat):Int))) (M0 rfl) ?_;refine N0.val Z2 (M1 _) rfl (v:=.int .u64 (((v*4294967296+1:Nat):Int))) (M0 rfl) ?_;refine N0.jg1 (vs:=v) (M1 _) rfl Tryz.func140 le1 rfl rfl lr1 rfl rfl rfl ?_ (fun v2 hv2=>?_)
  ·refine N0.val W5 (M1 _) rfl (v:=.bool true) (I1 rfl) ?_;refine N0.nil W5 ?_;refine At.ret W5 (fun _=>?_);refine AtR.leave1 W5 hb2 rfl Tryz.func122 rfl (.bool true) rfl ?_;refine U543 ?_;refine At.seq W5 ?_;refine U208 ?_;refine N0.val W5 (M1 _) rfl (v:=.bool true) (M0 rfl) ?_;refine N0.ek0 W5 (M1 _) rfl rfl (v:=.int .u32 0) (M0 rfl) ?_;refine N0.ek0 W5 (M1 _) rfl rfl (v:=.bool true) (dy0 (r:=true) rfl rfl (by decide)) ?_;refine N0.val W5 (M1 _) rfl (v:=.bool true) (bl0 rfl rfl) ?_;refine U543 ?_;refine At.region W5 ?_;refine U454 ?_;refine N0.toUnsafe jd1 (M1 _) rfl rfl (.inr rfl) Tryz.underlying211 Tryz.underlying205 ab1 ?_;refine N0.zf0 W5 (M1 _) .write (by simp) (.inr (.inr rfl)) rfl Tryz.func123 ky1 rfl rfl lo1 rfl ?_;rw[cw0 _ rfl];refine N0.nil W5 ?_;refine U208 ?_;refine N0.val W5 (M1 _) rfl (v:=.bool false) (I1 rfl) ?_;refine N0.nil W5 ?_;refine At.seq W5 ?_;refine U208 ?_;refine N0.val W5 (M1 _) rfl (v:=.int .u64 (((v*4294967296+0:Nat):Int))) (M0 rfl) ?_;refine N0.val W5 (M1 _) rfl (v:=.int .u64 0) (I8 (r:=0) rfl rfl (py0 v 0 (by omega) (by omega))) ?_;refine N0.val W5 (M1 _) rfl (v:=.bool false) (Z9 (r:=false) rfl rfl (by decide)) ?_;refine N0.val W5 (M1 _) rfl (v:=.bool false) (M0 rfl) ?_;refine N0.off W5 rfl rfl ?_;refine N0.val W5 (M1 _) rfl (v:=.bool false) (fb0 rfl rfl) ?_;refine N0.nil W5 ?_;refine At.V6 W5 rfl ?_;refine At.skip W5 ?_;refine U208 ?_;refine U454 ?_;refine N0.val W5 (M1 _) rfl (v:=.bool false) (M0 rfl) ?_;refine N0.jh1 (M1 _) rfl Tryz.func124 kz1 rfl rfl lu1 rfl ?_;refine N0.nil R2 ?_;refine U44 ?_;refine U391 ?_;refine N0.val R2 (M1 _) rfl (v:=.pointer (some ⟨gr.blk,gr.off,none⟩)) (z5 (s:=1) gr.off gr.off rfl Tryz.underlying145 rfl wz0 (by decide) rfl) ?_;refine N0.call R2 (M1 _) [.pointer (some ⟨gr.blk,gr.off,none⟩)] 7 rfl Tryz.func116 Oq0 rfl rfl rfl (fun cs3 hb3=>?_);refine U44 ?_;refine U279 ?_;refine U44 ?_;refine U391 ?_;refine N0.val R2 (M1 _) rfl (v:=.pointer (some ⟨gr.blk,gr.off,none⟩)) (z5 (s:=1) gr.off gr.off rfl Tryz.underlying142 rfl wy0 (by decide) rfl) ?_;refine N0.ck1 (M1 _) rfl Tryz.func138 Os0 rfl rfl Ow0 rfl ?_;refine U279 ?_;refine At.ret R2 (fun _=>?_);refine AtR.leave1 R2 hb3 rfl Tryz.func116 rfl (.int .u64 0) rfl ?_;refine N0.val R2 (M1 _) rfl (v:=.bool false) (Z9 (r:=false) rfl rfl (by decide)) ?_;refine N0.val R2 (M1 _) rfl (v:=.bool false) (I1 rfl) ?_;refine U209 ?_;refine At.W7 R2 rfl ?_;refine U449 ?_;simp only[dz0];refine N0.nil R2 ?_;refine U435 ?_;refine U382 ?_;rw[cw0 _ rfl];refine U209 ?_;refine U44 ?_;refine N0.val R2 (M1 _) rfl (v:=.bool false) (M0 rfl) ?_;refine N0.nil R2 ?_;refine At.V6 R2 rfl ?_;refine At.skip R2 ?_;refine At.ret R2 (fun _=>?_);exact U520
  ·refine N0.val Z2 (M1 _) rfl (v:=.bool false) (I1 rfl) ?_;refine N0.nil Z2 ?_;refine At.ret Z2 (fun _=>?_);refine AtR.leave1 Z2 hb2 rfl Tryz.func122 rfl (.bool false) rfl ?_;refine N0.nil Z2 ?_;refine At.V6 Z2 rfl ?_;refine At.skip Z2 ?_;refine At.inBlock Z2 ?_;refine At.inLoop Z2 ?_;exact At.Nz0 (At.Hx0 (fun e=>ih v2 (by omega) (by omega) e) rfl) (by omega)
set_option maxRecDepth 20000 in
theorem cx1 (gr:K7) (K:Goroutine->Prop) {c:Frame} {cs:List Frame} (hK:K (Conc.G (c.finish (.tuple #[])) cs)) (V:Nat) (hV:V<2147483648):WH Tryz.prog gr (WE Tryz.prog gr K) (500*V+510) none V 0 (Conc.G (Frame.enter Tryz.prog 64 #[.pointer (some ⟨gr.blk,gr.off,none⟩)] .normal) (c::cs)):=by
 rw[enter_at _ Tryz.func64 rfl];refine(?_:At (YWH Tryz.prog gr K none V) (500*V+510) 84 (base 64) (c::cs) [] 0 (Wg.bq0 #[.pointer (some ⟨gr.blk,gr.off,none⟩)]) [.code (Tryz.f64.body.getD .skip)]) _ (fa0 _ _ rfl);refine At.seq Z2 ?_;refine At.W7 Z2 rfl ?_;refine At.region Z2 ?_;refine N0.Hu0 Z2 (M1 _) .disable (by simp) (.inl rfl) rfl Tryz.func108 Op0 rfl rfl Ov0 ?_;simp only[qd0];refine N0.nil Z2 ?_;refine At.block Z2 ?_;refine At.loop Z2 ?_;exact At.Nz0 (At.Hx0 (fun e=>Jy0 gr K hK V hV e) rfl) (by omega)
end
end Go.Proofs.YtinppmaojmdmhaaGreat
end
section
namespace Go.Vy.Sc
open Go Go.Conc Go.Yc Go.RowKit Go.Proofs Go.Proofs.YtinppmaojmdmhaaGreat Tryz
open Go.Vc
structure CB where
 cb:Nat
 rc:Nat
 sp:Stp
 rf:Value
 df:Value
 Z1:Nat
 wt:Bool
 st:Bool
def CB.cells (rb i:Nat) (c:CB):Array Value:=#[.i (i:Int),.p rb,.chan (some c.rc),.i c.sp.kind,.i c.sp.obj,.i c.sp.num,c.rf,c.df,.i (c.Z1:Int),.bool c.wt,.bool c.st]
def evC (x:Nat×Stp):List Value:=[.i (x.1:Int),.i x.2.kind,.i x.2.obj,.i x.2.num]
def ntC (x:Nat×Nat×Nte):List Value:=[.i (x.1:Int),.i (x.2.1:Int),.i x.2.2.kind,.string x.2.2.text]
def spC (s:Stp):List Value:=[.i s.kind,.i s.obj,.i s.num]
structure Rn where
 rb:Nat
 yb:Nat
 eb:Nat
 wb:Nat
 m:Nat
 ca:Option Addr
 cc:Nat
 cl:List CB
 ea:Option Addr
 ec:Nat
 evs:List (Nat×Stp)
 na:Option Addr
 nc:Nat
 nts:List (Nat×Nat×Nte)
 ends:List Int
 wts:List Stp
 stuck:Bool
 used:Nat
def Rn.cells (R:Rn):Array Value:=#[.slice R.ca R.cl.length R.cc,.slice R.ea R.evs.length R.ec,.slice R.na R.nts.length R.nc,.slice (pt R.eb) R.m R.m,.slice (pt R.wb) R.m R.m,.bool R.stuck,.i (R.used:Int),.chan (some R.yb)]
structure w5 (w:World) (Bs:Nat) (R:Rn):Prop where
 run:O1 w R.rb R.cells 173 (7,8)
 cls:Own w Bs 123 1 R.ca R.cl.length R.cc (R.cl.map fun c=>.p c.cb)
 evs:Own w Bs 67 4 R.ea R.evs.length R.ec (R.evs.flatMap evC)
 nts:Own w Bs 63 4 R.na R.nts.length R.nc (R.nts.flatMap ntC)
 ends:O1 w R.eb (R.ends.map (Value.int .i64)).toArray 3 (0,0)
 wts:O1 w R.wb (R.wts.flatMap spC).toArray 65 (0,0)
 hw0:R.ends.length=R.m
 mj0:R.wts.length=R.m
 lcl:R.cl.length <=R.m
 blk:∀(i:Nat) (c:CB),R.cl[i]? =some c->O1 w c.cb (c.cells R.rb i) 248 (0,3)
def Rn.fp (R:Rn) (k:Nat):Prop:=k=R.rb\/k=R.eb\/k=R.wb\/(R.ca≠none/\k=ab R.ca)\/(R.ea≠none/\k=ab R.ea)\/(R.na≠none/\k=ab R.na)\/∃(i:Nat) (c:CB),R.cl[i]? =some c/\k=c.cb
section
variable {w w':World}{Bs:Nat}{R:Rn}
theorem w5.congr (h:w5 w Bs R) (he:∀k,R.fp k->w'.heap[k]? =w.heap[k]?):w5 w' Bs R :=
 ⟨(he _ (.inl rfl)).trans h.run,Own.congr h.cls fun ha=>he _ (.inr (.inr (.inr (.inl ⟨ha,rfl⟩)))),Own.congr h.evs fun ha=>he _ (.inr (.inr (.inr (.inr (.inl ⟨ha,rfl⟩))))),Own.congr h.nts fun ha=>he _ (.inr (.inr (.inr (.inr (.inr (.inl ⟨ha,rfl⟩)))))),
  (he _ (.inr (.inl rfl))).trans h.ends,(he _ (.inr (.inr (.inl rfl)))).trans h.wts,h.hw0,h.mj0,h.lcl,fun i c hc=>(he _ (.inr (.inr (.inr (.inr (.inr (.inr ⟨i,c,hc,rfl⟩))))))).trans (h.blk i c hc)⟩
theorem w5.lt (h:w5 w Bs R) {k:Nat} (hk:R.fp k):k<w.heap.size:=by
 rcases hk with rfl|rfl|rfl|⟨ha,rfl⟩|⟨ha,rfl⟩|⟨ha,rfl⟩|⟨i,c,hc,rfl⟩
 ·exact h.run.lt
 ·exact h.ends.lt
 ·exact h.wts.lt
 ·exact h.cls.lt ha
 ·exact h.evs.lt ha
 ·exact h.nts.lt ha
 ·exact(h.blk i c hc).lt
theorem w5.j0 (h:w5 w Bs R) (hb:Below w.heap.size w w'):w5 w' Bs R:=h.congr fun k hk=>hb.block k (h.lt hk)
theorem T2 {b:Nat} {cs:Array Value} {T:TypeId} {f:Nat×Nat} {row:Option Nat} (h:O1 w b cs T f) (hg:w.grownBy w' row) (hr:∀r,row=some r->∃k7 T' f',O1 w r k7 T' f'/\T≠T'):O1 w' b cs T f :=
 h.grown hg fun e=>by
  obtain⟨k7,T',f',h',hT⟩:=hr b e.symm;exact h.ne h' hT rfl
theorem R4 {E:TypeId} {s n c:Nat} {a:Option Addr} {xs:List Value} {row:Option Nat} (h:Own w Bs E s a n c xs) (hg:w.grownBy w' row) (hr:∀r,row=some r->∃k7 T' f',O1 w r k7 T' f'/\E≠T'):Own w' Bs E s a n c xs :=
 Own.congr h fun ha=>by
  obtain⟨cur,hB,_⟩:=h.row ha;refine hg.block _ hB.lt fun e=>?_;obtain⟨k7,T',f',h',hT⟩:=hr (ab a) e.symm;exact O1.ne (f:=(0,0)) hB h' hT rfl
theorem w5.rr1 (h:w5 w Bs R) {i j:Nat} {c d:CB} (hc:R.cl[i]? =some c) (hd:R.cl[j]? =some d) (he:c.cb=d.cb):i=j:=by
 have h1:=h.blk i c hc;have h2:=h.blk j d hd;unfold O1 at h1 h2;rw[he,h2]at h1;have:=congrArg (fun o=>match o with|some (Obj.cells c _ _)=>c[0]? |_=>none) h1;simp[CB.cells]at this;omega
theorem Ox0 (l:List CB) (i:Nat) (c c':CB) (hc:l[i]? =some c) (he:c'.cb=c.cb):(l.set i c').map (fun c=>Value.p c.cb)=l.map fun c=>Value.p c.cb:=by
 apply List.ext_getElem?;intro j;rw[List.getElem?_map,List.getElem?_map,List.getElem?_set];by_cases hj:i=j
 ·subst hj;have J1:=(List.getElem?_eq_some_iff.1 hc).1;rw[List.getElem?_eq_getElem J1]at hc;obtain rfl:=Option.some.inj hc;simp[J1,he]
 ·simp[hj]
theorem Rn.Hz0 {i:Nat} {c c':CB} (hc:R.cl[i]? =some c) (he:c'.cb=c.cb) {k:Nat} (hk:Rn.fp {R with cl:=R.cl.set i c'} k):R.fp k:=by
 rcases hk with h|h|h|h|h|h|⟨j,d,hd,rfl⟩
 ·exact .inl h
 ·exact .inr (.inl h)
 ·exact .inr (.inr (.inl h))
 ·exact .inr (.inr (.inr (.inl h)))
 ·exact .inr (.inr (.inr (.inr (.inl h))))
 ·exact .inr (.inr (.inr (.inr (.inr (.inl h)))))
 ·refine .inr (.inr (.inr (.inr (.inr (.inr ?_)))));have L6:(R.cl.set i c')[j]? =some d:=hd;rw[List.getElem?_set]at L6;by_cases hj:i=j
  ·subst hj;rw[if_pos rfl]at L6;split at L6
   ·obtain rfl:=Option.some.inj L6;exact⟨i,c,hc,he⟩
   ·cases L6
  ·rw[if_neg hj]at L6;exact⟨j,d,L6,rfl⟩
theorem w5.cy1 (h:w5 w Bs R) {i:Nat} {c:CB} (c':CB) (hc:R.cl[i]? =some c) (he:c'.cb=c.cb):w5 (S1 w c.cb (c'.cells R.rb i) 248 (0,3)) Bs {R with cl:=R.cl.set i c'}:=by
 have hg:=C2 w c.cb (c'.cells R.rb i) 248 (0,3);have hb:=h.blk i c hc;have hr:∀T:TypeId,T≠248->∀r,some c.cb=some r->∃k7 T' f',O1 w r k7 T' f'/\T≠T':=fun T hT r e=>by cases e;exact⟨_,_,_,hb,hT⟩
 refine⟨?_,?_,R4 h.evs hg (hr _ (by decide)),R4 h.nts hg (hr _ (by decide)),T2 h.ends hg (hr _ (by decide)),T2 h.wts hg (hr _ (by decide)),h.hw0,h.mj0,by simpa using h.lcl,fun j d hd=>?_⟩
 ·have:=T2 h.run hg (hr _ (by decide));simpa [Rn.cells]using this
 ·have:=R4 h.cls hg (hr _ (by decide));show Own _ Bs _ 1 R.ca (R.cl.set i c').length R.cc ((R.cl.set i c').map _);rw[Ox0 R.cl i c c' hc he,List.length_set];exact this
 ·have L6:(R.cl.set i c')[j]? =some d:=hd;rw[List.getElem?_set]at L6;by_cases hj:i=j
  ·subst hj;rw[if_pos rfl]at L6;split at L6
   ·obtain rfl:=Option.some.inj L6;rw[he];exact D5 hb _ _ _
   ·cases L6
  ·rw[if_neg hj]at L6;exact(h.blk j d L6).other hg fun e=>hj (h.rr1 L6 hc e).symm
theorem w5.cz1 (h:w5 w Bs R) (st:Bool) (us:Nat):w5 (S1 w R.rb (Rn.cells {R with stuck:=st,used:=us}) 173 (7,8)) Bs {R with stuck:=st,used:=us}:=by
 have hg:=C2 w R.rb (Rn.cells {R with stuck:=st,used:=us}) 173 (7,8);have hr:∀T:TypeId,T≠173->∀r,some R.rb=some r->∃k7 T' f',O1 w r k7 T' f'/\T≠T':=fun T hT r e=>by cases e;exact⟨_,_,_,h.run,hT⟩
 exact⟨D5 h.run _ _ _,R4 h.cls hg (hr _ (by decide)),R4 h.evs hg (hr _ (by decide)),R4 h.nts hg (hr _ (by decide)),T2 h.ends hg (hr _ (by decide)),T2 h.wts hg (hr _ (by decide)),h.hw0,h.mj0,h.lcl,fun j d hd=>T2 (h.blk j d hd) hg (hr _ (by decide))⟩
theorem Vn0 {E:TypeId} {s n c:Nat} {a:Option Addr} {xs:List Value} (h:Own w Bs E s a n c xs):∀r,Value.ownBlock (.slice a n c)=some r->∃k7 T' f',O1 w r k7 T' f':=by
 intro r e;cases a with
 |none=>cases e
 |some ad=>
  obtain⟨cur,hB,_⟩:=h.row (by simp);cases e;exact⟨_,_,_,hB⟩
theorem K5 {E T:TypeId} {s n c:Nat} {a:Option Addr} {xs:List Value} (h:Own w Bs E s a n c xs) (hT:T≠E):∀r,Value.ownBlock (.slice a n c)=some r->∃k7 T' f',O1 w r k7 T' f'/\T≠T':=by
 intro r e;cases a with
 |none=>cases e
 |some ad=>
  obtain⟨cur,hB,_⟩:=h.row (by simp);cases e;exact⟨_,_,_,hB,hT⟩
theorem w5.Oy0 (h:w5 w Bs R) {w1:World} {a':Option Addr} {c':Nat} (x:Nat×Stp) (hg:w.grownBy w1 (Value.ownBlock (.slice R.ea R.evs.length R.ec))) (hO:Own w1 Bs 67 4 a' (R.evs.length+1) c' (R.evs.flatMap evC++evC x)) :
  w5 (S1 w1 R.rb (Rn.cells {R with ea:=a',ec:=c',evs:=R.evs ++ [x]}) 173 (7,8)) Bs {R with ea:=a',ec:=c',evs:=R.evs ++ [x]}:=by
 have K3:=T2 h.run hg (K5 h.evs (by decide));have hg2:=C2 w1 R.rb (Rn.cells {R with ea:=a',ec:=c',evs:=R.evs ++ [x]}) 173 (7,8);have hr:∀T:TypeId,T≠173->∀r,some R.rb=some r->∃k7 T' f',O1 w1 r k7 T' f'/\T≠T':=fun T hT r e=>by cases e;exact⟨_,_,_,K3,hT⟩
 refine⟨D5 K3 _ _ _,R4 (R4 h.cls hg (K5 h.evs (by decide))) hg2 (hr _ (by decide)),?_,R4 (R4 h.nts hg (K5 h.evs (by decide))) hg2 (hr _ (by decide)),T2 (T2 h.ends hg (K5 h.evs (by decide))) hg2 (hr _ (by decide)),T2 (T2 h.wts hg (K5 h.evs (by decide))) hg2 (hr _ (by decide)),h.hw0,h.mj0,h.lcl,fun j d hd=>T2 (T2 (h.blk j d hd) hg (K5 h.evs (by decide))) hg2 (hr _ (by decide))⟩;have:=R4 hO hg2 (hr _ (by decide));simpa using this
theorem w5.Oz0 (h:w5 w Bs R) {w1:World} {a':Option Addr} {c':Nat} (x:Nat×Nat×Nte) (hg:w.grownBy w1 (Value.ownBlock (.slice R.na R.nts.length R.nc))) (hO:Own w1 Bs 63 4 a' (R.nts.length+1) c' (R.nts.flatMap ntC++ntC x)) :
  w5 (S1 w1 R.rb (Rn.cells {R with na:=a',nc:=c',nts:=R.nts ++ [x]}) 173 (7,8)) Bs {R with na:=a',nc:=c',nts:=R.nts ++ [x]}:=by
 have K3:=T2 h.run hg (K5 h.nts (by decide));have hg2:=C2 w1 R.rb (Rn.cells {R with na:=a',nc:=c',nts:=R.nts ++ [x]}) 173 (7,8);have hr:∀T:TypeId,T≠173->∀r,some R.rb=some r->∃k7 T' f',O1 w1 r k7 T' f'/\T≠T':=fun T hT r e=>by cases e;exact⟨_,_,_,K3,hT⟩
 refine⟨D5 K3 _ _ _,R4 (R4 h.cls hg (K5 h.nts (by decide))) hg2 (hr _ (by decide)),R4 (R4 h.evs hg (K5 h.nts (by decide))) hg2 (hr _ (by decide)),?_,T2 (T2 h.ends hg (K5 h.nts (by decide))) hg2 (hr _ (by decide)),T2 (T2 h.wts hg (K5 h.nts (by decide))) hg2 (hr _ (by decide)),h.hw0,h.mj0,h.lcl,fun j d hd=>T2 (T2 (h.blk j d hd) hg (K5 h.nts (by decide))) hg2 (hr _ (by decide))⟩;have:=R4 hO hg2 (hr _ (by decide));simpa using this
theorem w5.Pa0 (h:w5 w Bs R) {w1:World} {a':Option Addr} {c':Nat} (x:CB) (hx:O1 w x.cb (x.cells R.rb R.cl.length) 248 (0,3)) (hm:R.cl.length<R.m) (hg:w.grownBy w1 (Value.ownBlock (.slice R.ca R.cl.length R.cc))) (hO:Own w1 Bs 123 1 a' (R.cl.length+1) c' ((R.cl.map fun c=>.p c.cb) ++ [.p x.cb])) :
  w5 (S1 w1 R.rb (Rn.cells {R with ca:=a',cc:=c',cl:=R.cl ++ [x]}) 173 (7,8)) Bs {R with ca:=a',cc:=c',cl:=R.cl ++ [x]}:=by
 have K3:=T2 h.run hg (K5 h.cls (by decide));have hg2:=C2 w1 R.rb (Rn.cells {R with ca:=a',cc:=c',cl:=R.cl ++ [x]}) 173 (7,8);have hr:∀T:TypeId,T≠173->∀r,some R.rb=some r->∃k7 T' f',O1 w1 r k7 T' f'/\T≠T':=fun T hT r e=>by cases e;exact⟨_,_,_,K3,hT⟩
 refine⟨D5 K3 _ _ _,?_,R4 (R4 h.evs hg (K5 h.cls (by decide))) hg2 (hr _ (by decide)),R4 (R4 h.nts hg (K5 h.cls (by decide))) hg2 (hr _ (by decide)),T2 (T2 h.ends hg (K5 h.cls (by decide))) hg2 (hr _ (by decide)),T2 (T2 h.wts hg (K5 h.cls (by decide))) hg2 (hr _ (by decide)),h.hw0,h.mj0,by simp;omega,fun j d hd=>?_⟩
 ·have:=R4 hO hg2 (hr _ (by decide));simpa using this
 ·have L6:(R.cl ++ [x])[j]? =some d:=hd;have hb:O1 w d.cb (d.cells R.rb j) 248 (0,3):=by
   rw[List.getElem?_append]at L6;split at L6
   ·exact h.blk j d L6
   ·rename_i J1;have hj:j=R.cl.length:=by
     rcases Nat.lt_or_ge (j-R.cl.length) 1 with z|z
     ·omega
     ·rw[List.getElem?_eq_none (by simpa using z)]at L6;cases L6
    subst hj;simp at L6;subst L6;exact hx
  exact T2 (T2 hb hg (K5 h.cls (by decide))) hg2 (hr _ (by decide))
theorem w5.A8 (h:w5 w Bs R) (i:Nat) (v:Int):w5 (S1 w R.eb ((R.ends.set i v).map (Value.int .i64)).toArray 3 (0,0)) Bs {R with ends:=R.ends.set i v}:=by
 have hg:=C2 w R.eb ((R.ends.set i v).map (Value.int .i64)).toArray 3 (0,0);have hr:∀T:TypeId,T≠3->∀r,some R.eb=some r->∃k7 T' f',O1 w r k7 T' f'/\T≠T':=fun T hT r e=>by cases e;exact⟨_,_,_,h.ends,hT⟩
 exact⟨T2 h.run hg (hr _ (by decide)),R4 h.cls hg (hr _ (by decide)),R4 h.evs hg (hr _ (by decide)),R4 h.nts hg (hr _ (by decide)),D5 h.ends _ _ _,T2 h.wts hg (hr _ (by decide)),by simpa using h.hw0,h.mj0,h.lcl,fun j d hd=>T2 (h.blk j d hd) hg (hr _ (by decide))⟩
theorem w5.da1 (h:w5 w Bs R) (i:Nat) (v:Stp):w5 (S1 w R.wb ((R.wts.set i v).flatMap spC).toArray 65 (0,0)) Bs {R with wts:=R.wts.set i v}:=by
 have hg:=C2 w R.wb ((R.wts.set i v).flatMap spC).toArray 65 (0,0);have hr:∀T:TypeId,T≠65->∀r,some R.wb=some r->∃k7 T' f',O1 w r k7 T' f'/\T≠T':=fun T hT r e=>by cases e;exact⟨_,_,_,h.wts,hT⟩
 exact⟨T2 h.run hg (hr _ (by decide)),R4 h.cls hg (hr _ (by decide)),R4 h.evs hg (hr _ (by decide)),R4 h.nts hg (hr _ (by decide)),T2 h.ends hg (hr _ (by decide)),D5 h.wts _ _ _,h.hw0,by simpa using h.mj0,h.lcl,fun j d hd=>T2 (h.blk j d hd) hg (hr _ (by decide))⟩
structure Rg (S:Nat->Prop) (B:Nat) (w0 w:World) (Bs:Nat) (R:Rn):Prop where
 m:w5 w Bs R
 md:ke0 S B w0 w
 fp:∀k,R.fp k->S k\/B <=k
 le:B <=w.heap.size
end
section
variable {S:Nat->Prop}{B:Nat}{w0 w w':World}{Bs:Nat}{R:Rn}
theorem w5.rg (h:w5 w Bs R):Rg R.fp w.heap.size w w Bs R:=⟨h,ke0.refl _ _ _,fun _ h=>.inl h,Nat.le_refl _⟩
theorem Rg.j0 (h:Rg S B w0 w Bs R) (hb:Below w.heap.size w w'):Rg S B w0 w' Bs R:=⟨h.m.j0 hb,h.md.below hb h.le,h.fp,Nat.le_trans h.le hb.size⟩
theorem Rg.fresh (h:Rg S B w0 w Bs R) {b:Nat} (cs:Array Value) (T:TypeId) (f:Nat×Nat) (hb:∀k,R.fp k->k≠b) (hB:B <=b):Rg S B w0 (S1 w b cs T f) Bs R :=
 ⟨h.m.congr fun k hk=>V8 (hb k hk),h.md.grown (C2 w b cs T f) h.le (fun r e=>by cases e;exact .inr hB),h.fp,by rw[O6];exact h.le⟩
theorem Rg.put (h:Rg S B w0 w Bs R) {b:Nat} {cs:Array Value} {T:TypeId} {f:Nat×Nat} {R':Rn} (hb:R.fp b) (hm:w5 (S1 w b cs T f) Bs R') (hf:∀k,R'.fp k->R.fp k):Rg S B w0 (S1 w b cs T f) Bs R' :=
 ⟨hm,h.md.grown (C2 w b cs T f) h.le (fun r e=>by cases e;exact h.fp _ hb),fun k hk=>h.fp k (hf k hk),by rw[O6];exact h.le⟩
theorem lw1 {i:Nat} {c:CB} (hc:R.cl[i]? =some c):R.fp c.cb:=.inr (.inr (.inr (.inr (.inr (.inr ⟨i,c,hc,rfl⟩)))))
theorem Rg.cy1 (h:Rg S B w0 w Bs R) {i:Nat} {c:CB} (c':CB) (hc:R.cl[i]? =some c) (he:c'.cb=c.cb):Rg S B w0 (S1 w c.cb (c'.cells R.rb i) 248 (0,3)) Bs {R with cl:=R.cl.set i c'} :=
 h.put (lw1 hc) (h.m.cy1 c' hc he) fun _ hk=>Rn.Hz0 hc he hk
theorem Rg.cz1 (h:Rg S B w0 w Bs R) (st:Bool) (us:Nat):Rg S B w0 (S1 w R.rb (Rn.cells {R with stuck:=st,used:=us}) 173 (7,8)) Bs {R with stuck:=st,used:=us} :=
 h.put (.inl rfl) (h.m.cz1 st us) fun _ hk=>hk
theorem Rg.A8 (h:Rg S B w0 w Bs R) (i:Nat) (v:Int):Rg S B w0 (S1 w R.eb ((R.ends.set i v).map (Value.int .i64)).toArray 3 (0,0)) Bs {R with ends:=R.ends.set i v} :=
 h.put (.inr (.inl rfl)) (h.m.A8 i v) fun _ hk=>hk
theorem Rg.da1 (h:Rg S B w0 w Bs R) (i:Nat) (v:Stp):Rg S B w0 (S1 w R.wb ((R.wts.set i v).flatMap spC).toArray 65 (0,0)) Bs {R with wts:=R.wts.set i v} :=
 h.put (.inr (.inr (.inl rfl))) (h.m.da1 i v) fun _ hk=>hk
def Jz0 (w:World) (a a':Option Addr):Prop:=a'≠none->(a≠none/\ab a'=ab a)\/w.heap.size <=ab a'
theorem zh0 {a:Option Addr} {n c r:Nat} (e:Value.ownBlock (.slice a n c)=some r):a≠none/\r=ab a:=by
 cases a with
 |none=>cases e
 |some ad=>exact⟨by simp,by cases e;rfl⟩
theorem Rg.app (h:Rg S B w0 w Bs R) {R':Rn} {row:Option Nat} {w1:World} (hg:w.grownBy w1 row) (hr:∀r,row=some r->R.fp r) (hb:R'.rb=R.rb) (hm:w5 (S1 w1 R.rb R'.cells 173 (7,8)) Bs R') (hf:∀k,R'.fp k->R.fp k\/w.heap.size <=k) :
  Rg S B w0 (S1 w1 R.rb R'.cells 173 (7,8)) Bs R' :=
 ⟨hm,(h.md.grown hg h.le fun r e=>h.fp r (hr r e)).grown (C2 _ _ _ _ _) (Nat.le_trans h.le hg.size) (fun r e=>by cases e;exact h.fp _ (.inl rfl)),fun k hk=>by
  rcases hf k hk with z|z
  ·exact h.fp k z
  ·have:=h.le;exact .inr (by omega),by rw[O6];exact Nat.le_trans h.le hg.size⟩
theorem Rg.Oy0 (h:Rg S B w0 w Bs R) {w1:World} {a':Option Addr} {c':Nat} (x:Nat×Stp) (hg:w.grownBy w1 (Value.ownBlock (.slice R.ea R.evs.length R.ec))) (hO:Own w1 Bs 67 4 a' (R.evs.length+1) c' (R.evs.flatMap evC++evC x)) (hl:Jz0 w R.ea a') :
  Rg S B w0 (S1 w1 R.rb (Rn.cells {R with ea:=a',ec:=c',evs:=R.evs ++ [x]}) 173 (7,8)) Bs {R with ea:=a',ec:=c',evs:=R.evs ++ [x]} :=
 h.app (R':={R with ea:=a',ec:=c',evs:=R.evs ++ [x]}) hg (fun r e=>by obtain⟨h1,rfl⟩:=zh0 e;exact .inr (.inr (.inr (.inr (.inl ⟨h1,rfl⟩))))) rfl (h.m.Oy0 x hg hO) fun k hk=>by
  rcases hk with z|z|z|z|⟨z1,z2⟩|z|z
  ·exact .inl (.inl z)
  ·exact .inl (.inr (.inl z))
  ·exact .inl (.inr (.inr (.inl z)))
  ·exact .inl (.inr (.inr (.inr (.inl z))))
  ·rcases hl z1 with⟨y1,y2⟩|y
   ·exact .inl (.inr (.inr (.inr (.inr (.inl ⟨y1,by rw[z2];exact y2⟩)))))
   ·exact .inr (by rw[z2];exact y)
  ·exact .inl (.inr (.inr (.inr (.inr (.inr (.inl z))))))
  ·exact .inl (.inr (.inr (.inr (.inr (.inr (.inr z))))))
theorem Rg.Oz0 (h:Rg S B w0 w Bs R) {w1:World} {a':Option Addr} {c':Nat} (x:Nat×Nat×Nte) (hg:w.grownBy w1 (Value.ownBlock (.slice R.na R.nts.length R.nc))) (hO:Own w1 Bs 63 4 a' (R.nts.length+1) c' (R.nts.flatMap ntC++ntC x)) (hl:Jz0 w R.na a') :
  Rg S B w0 (S1 w1 R.rb (Rn.cells {R with na:=a',nc:=c',nts:=R.nts ++ [x]}) 173 (7,8)) Bs {R with na:=a',nc:=c',nts:=R.nts ++ [x]} :=
 h.app (R':={R with na:=a',nc:=c',nts:=R.nts ++ [x]}) hg (fun r e=>by obtain⟨h1,rfl⟩:=zh0 e;exact .inr (.inr (.inr (.inr (.inr (.inl ⟨h1,rfl⟩)))))) rfl (h.m.Oz0 x hg hO) fun k hk=>by
  rcases hk with z|z|z|z|z|⟨z1,z2⟩|z
  ·exact .inl (.inl z)
  ·exact .inl (.inr (.inl z))
  ·exact .inl (.inr (.inr (.inl z)))
  ·exact .inl (.inr (.inr (.inr (.inl z))))
  ·exact .inl (.inr (.inr (.inr (.inr (.inl z)))))
  ·rcases hl z1 with⟨y1,y2⟩|y
   ·exact .inl (.inr (.inr (.inr (.inr (.inr (.inl ⟨y1,by rw[z2];exact y2⟩))))))
   ·exact .inr (by rw[z2];exact y)
  ·exact .inl (.inr (.inr (.inr (.inr (.inr (.inr z))))))
theorem Rg.Pa0 (h:Rg S B w0 w Bs R) {w1:World} {a':Option Addr} {c':Nat} (x:CB) (hx:O1 w x.cb (x.cells R.rb R.cl.length) 248 (0,3)) (hxS:S x.cb\/B <=x.cb) (hm:R.cl.length<R.m) (hg:w.grownBy w1 (Value.ownBlock (.slice R.ca R.cl.length R.cc)))
  (hO:Own w1 Bs 123 1 a' (R.cl.length+1) c' ((R.cl.map fun c=>.p c.cb) ++ [.p x.cb])) (hl:Jz0 w R.ca a') :
  Rg S B w0 (S1 w1 R.rb (Rn.cells {R with ca:=a',cc:=c',cl:=R.cl ++ [x]}) 173 (7,8)) Bs {R with ca:=a',cc:=c',cl:=R.cl ++ [x]}:=by
 have h1:=h.m.Pa0 x hx hm hg hO;refine⟨h1,(h.md.grown hg h.le fun r e=>h.fp r (by obtain⟨h1,rfl⟩:=zh0 e;exact .inr (.inr (.inr (.inl ⟨h1,rfl⟩))))).grown (C2 _ _ _ _ _) (Nat.le_trans h.le hg.size) (fun r e=>by cases e;exact h.fp _ (.inl rfl)),fun k hk=>?_,by rw[O6];exact Nat.le_trans h.le hg.size⟩;rcases hk with z|z|z|⟨z1,z2⟩|z|z|⟨i,d,hd,z⟩
 ·exact h.fp _ (.inl z)
 ·exact h.fp _ (.inr (.inl z))
 ·exact h.fp _ (.inr (.inr (.inl z)))
 ·rcases hl z1 with⟨y1,y2⟩|y
  ·exact h.fp _ (.inr (.inr (.inr (.inl ⟨y1,by rw[z2];exact y2⟩))))
  ·have:=h.le;exact .inr (by rw[z2];show B <=ab a';omega)
 ·exact h.fp _ (.inr (.inr (.inr (.inr (.inl z)))))
 ·exact h.fp _ (.inr (.inr (.inr (.inr (.inr (.inl z))))))
 ·have L6:(R.cl ++ [x])[i]? =some d:=hd;rw[List.getElem?_append]at L6;split at L6
  ·exact h.fp _ (.inr (.inr (.inr (.inr (.inr (.inr ⟨i,d,L6,z⟩))))))
  ·have hdx:d=x:=by
    have:=List.mem_of_getElem? L6;simpa using this
   subst hdx;rw[z];exact hxS
end
section
variable {w:World}{Bs:Nat}{R:Rn}
theorem Pb0 (hM:w5 w Bs R) {i:Nat} {c:CB} (hc:R.cl[i]? =some c):w.cell? ⟨ab R.ca,ao R.ca+i*1,none⟩=some (.p c.cb):=by
 rw[hM.cls.off,Nat.zero_add,Nat.mul_one];exact hM.cls.cell (by rw[List.getElem?_map,hc];rfl)
def rdl (cl:List CB) (r:Nat->Bool) (n:Nat):List Nat:=(List.range n).filter fun i=>(cl[i]?.any (·.wt))&&r i
def Pc0 (cl:List CB) (i:Nat):Value:=.pointer (some ⟨(cl[i]?.map (·.cb)).getD 0,0,none⟩)
theorem Pd0 {cl:List CB} {r:Nat->Bool} {i:Nat} {c:CB} (hc:cl[i]? =some c) (h:(c.wt&&r i)=false):rdl cl r (i+1)=rdl cl r i:=by
 unfold rdl;rw[List.range_succ,List.filter_append];simp[hc,h]
theorem Ia0 {cl:List CB} {r:Nat->Bool} {i:Nat} {c:CB} (hc:cl[i]? =some c) (h:(c.wt&&r i)=true):rdl cl r (i+1)=rdl cl r i ++ [i]:=by
 unfold rdl;rw[List.range_succ,List.filter_append];simp only[Bool.and_eq_true]at h;simp[hc,h.1,h.2]
theorem Fh0 {cl:List CB} {r:Nat->Bool} (n:Nat):(rdl cl r n).length <=n:=by
 have:=List.length_filter_le (fun i=>(cl[i]?.any (·.wt))&&r i) (List.range n);simpa [rdl]using this
theorem lx1 {cl:List CB} {i:Nat} (h:∀(j:Nat) (c:CB),j<i->cl[j]? =some c->c.wt=false) (hi:cl.length <=i):cl.any (·.wt)=false:=by
 rw[List.any_eq_false];intro c hc;obtain⟨j,hj⟩:=List.mem_iff_getElem?.1 hc;have:=h j c (by have:=(List.getElem?_eq_some_iff.1 hj).1;omega) hj;simp[this]
def zi0 [Ctx prog] (w0:World) (rf:Value) (b:Bool):Prop :=
 (rf= .nilFunc/\b=true)\/∃f fn caps,rf= .func (.func f) #[] caps/\prog.funcs[f]? =some fn/\fn.body.isSome=true/\(fn.name== "runtime.NumGoroutine")=false/\∀u,Below w0.heap.size w0 u->C prog f caps u fun v u'=>v= .bool b/\Below u.heap.size u u'
end
section
variable [Ctx prog]{n:Nat}{Q:Exit->Env->World->Prop}{e:Env}{ops:Array Oper}{rest:List Oper}{ty:TypeId}{ps:String}{af:Array Edge}{T:TypeId}{x y:Operand}
variable {S:Nat->Prop}{B:Nat}{w0 w:World}{Bs:Nat}{R:Rn}
theorem L.stC {i:Nat} {c:CB} {o s:Nat} {v:Value} {vs:List Value} (hg:Rg S B w0 w Bs R) (c':CB) (hc:R.cl[i]? =some c) (he:c'.cb=c.cb) (hx:ev e x= .pointer (some ⟨c.cb,o,none⟩)) (hy:ev e y=v) (hvs:v.cells.toList=vs) (hs:(prog.info? T).map (·.size)=some s) (hl:vs.length=s) (h1:vs.all Value.oneCell'=true) (ho:3 <=o/\o+s <=11) (hcs:setRow (c.cells R.rb i) o vs=c'.cells R.rb i)
  (k:∀w1,Rg S B w0 w1 Bs {R with cl:=R.cl.set i c'}->w.grownBy w1 (some c.cb)->L prog n ops Q rest e w1):L prog n ops Q (⟨none,.store T x y,ty,ps,af,none⟩::rest) e w :=
 L.Fe0 (c'.cells R.rb i) hx hy hvs hs hl h1 (hg.m.blk i c hc) ho.2 (.inr ho.1) hcs (k _ (hg.cy1 c' hc he) (C2 _ _ _ _ _))
theorem L.stR {o s:Nat} {v:Value} {vs:List Value} (hg:Rg S B w0 w Bs R) (st:Bool) (us:Nat) (hx:ev e x= .pointer (some ⟨R.rb,o,none⟩)) (hy:ev e y=v) (hvs:v.cells.toList=vs) (hs:(prog.info? T).map (·.size)=some s) (hl:vs.length=s) (h1:vs.all Value.oneCell'=true) (ho:o+s <=7) (hcs:setRow R.cells o vs=Rn.cells {R with stuck:=st,used:=us})
  (k:∀w1,Rg S B w0 w1 Bs {R with stuck:=st,used:=us}->w.grownBy w1 (some R.rb)->L prog n ops Q rest e w1):L prog n ops Q (⟨none,.store T x y,ty,ps,af,none⟩::rest) e w :=
 L.Fe0 (Rn.cells {R with stuck:=st,used:=us}) hx hy hvs hs hl h1 hg.m.run (show o+s <=8 by omega) (.inl (show o+s <=7 by omega)) hcs (k _ (hg.cz1 st us) (C2 _ _ _ _ _))
theorem L.rs1 {o:Nat} {v:Value} {w1:World} {a':Option Addr} {c':Nat} (hg:Rg S B w0 w Bs R) (x':Nat×Stp) (j3:w.grownBy w1 (Value.ownBlock (.slice R.ea R.evs.length R.ec))) (hO:Own w1 Bs 67 4 a' (R.evs.length+1) c' (R.evs.flatMap evC++evC x')) (hli:Jz0 w R.ea a')
  (hx:ev e x= .pointer (some ⟨R.rb,1,none⟩)) (hy:ev e y= .slice a' (R.evs.length+1) c') (hs:(prog.info? T).map (·.size)=some 1)
  (k:∀w2,Rg S B w0 w2 Bs {R with ea:=a',ec:=c',evs:=R.evs ++ [x']}->L prog n ops Q rest e w2):L prog n ops Q (⟨none,.store T x y,ty,ps,af,none⟩::rest) e w1 :=
 L.Fe0 (Rn.cells {R with ea:=a',ec:=c',evs:=R.evs ++ [x']}) hx hy rfl hs rfl rfl (T2 hg.m.run j3 (K5 hg.m.evs (by decide))) (show 1+1 <=8 by omega) (.inl (show 1+1 <=7 by omega)) (by simp[Rn.cells,setRow,Value.cells]) (k _ (hg.Oy0 x' j3 hO hli))
theorem L.rt1 {o:Nat} {v:Value} {w1:World} {a':Option Addr} {c':Nat} (hg:Rg S B w0 w Bs R) (x':Nat×Nat×Nte) (j3:w.grownBy w1 (Value.ownBlock (.slice R.na R.nts.length R.nc))) (hO:Own w1 Bs 63 4 a' (R.nts.length+1) c' (R.nts.flatMap ntC++ntC x')) (hli:Jz0 w R.na a')
  (hx:ev e x= .pointer (some ⟨R.rb,2,none⟩)) (hy:ev e y= .slice a' (R.nts.length+1) c') (hs:(prog.info? T).map (·.size)=some 1)
  (k:∀w2,Rg S B w0 w2 Bs {R with na:=a',nc:=c',nts:=R.nts ++ [x']}->L prog n ops Q rest e w2):L prog n ops Q (⟨none,.store T x y,ty,ps,af,none⟩::rest) e w1 :=
 L.Fe0 (Rn.cells {R with na:=a',nc:=c',nts:=R.nts ++ [x']}) hx hy rfl hs rfl rfl (T2 hg.m.run j3 (K5 hg.m.nts (by decide))) (show 2+1 <=8 by omega) (.inl (show 2+1 <=7 by omega)) (by simp[Rn.cells,setRow,Value.cells]) (k _ (hg.Oz0 x' j3 hO hli))
theorem L.ru1 {w1:World} {a':Option Addr} {c':Nat} (hg:Rg S B w0 w Bs R) (x':CB) (hx0:O1 w x'.cb (x'.cells R.rb R.cl.length) 248 (0,3)) (hxS:S x'.cb\/B <=x'.cb) (hm:R.cl.length<R.m) (j3:w.grownBy w1 (Value.ownBlock (.slice R.ca R.cl.length R.cc)))
  (hO:Own w1 Bs 123 1 a' (R.cl.length+1) c' ((R.cl.map fun c=>.p c.cb) ++ [.p x'.cb])) (hli:Jz0 w R.ca a')
  (hx:ev e x= .p R.rb) (hy:ev e y= .slice a' (R.cl.length+1) c') (hs:(prog.info? T).map (·.size)=some 1)
  (k:∀w2,Rg S B w0 w2 Bs {R with ca:=a',cc:=c',cl:=R.cl ++ [x']}->w1.grownBy w2 (some R.rb)->L prog n ops Q rest e w2):L prog n ops Q (⟨none,.store T x y,ty,ps,af,none⟩::rest) e w1 :=
 L.Fe0 (Rn.cells {R with ca:=a',cc:=c',cl:=R.cl ++ [x']}) hx hy rfl hs rfl rfl (T2 hg.m.run j3 (K5 hg.m.cls (by decide))) (show 0+1 <=8 by omega) (.inl (show 0+1 <=7 by omega)) (by simp[Rn.cells,setRow,Value.cells]) (k _ (hg.Pa0 x' hx0 hxS hm j3 hO hli) (C2 _ _ _ _ _))
end
section
theorem Ka0 (l:List Stp) (i:Nat) (s:Stp) (hi:i<l.length):setRow (l.flatMap spC).toArray (i*3) (spC s)=((l.set i s).flatMap spC).toArray:=by
 apply Array.toList_inj.1;have key:∀(l:List Stp) (i:Nat),i<l.length->(l.set i s).flatMap spC=(((l.flatMap spC).set (i*3) (.i s.kind)).set (i*3+1) (.i s.obj)).set (i*3+2) (.i s.num):=by
  intro l
  induction l with
  |nil=>intro i hi;simp at hi
  |cons a l ih=>
   intro i hi;cases i with
   |zero=>simp[spC,List.flatMap_cons]
   |succ i=>
    have:=ih i (by simpa using hi);simp only[List.set_cons_succ,List.flatMap_cons,spC,List.cons_append,List.nil_append];rw[show(i+1)*3=i*3+1+1+1 by omega];simp only[List.set_cons_succ];rw[this]
 rw[key l i hi];simp[setRow,spC]
end
section
variable [Ctx prog]{n:Nat}{Q:Exit->Env->World->Prop}{e:Env}{ops:Array Oper}{rest:List Oper}{ty:TypeId}{ps:String}{af:Array Edge}{T:TypeId}{x y:Operand}
variable {S:Nat->Prop}{B:Nat}{w0 w:World}{Bs:Nat}{R:Rn}
theorem L.stE {i:Nat} {z:Int} (hg:Rg S B w0 w Bs R) (hi:i<R.m) (hx:ev e x= .pointer (some ⟨R.eb,0+i*1,none⟩)) (hy:ev e y= .i z) (hs:(prog.info? T).map (·.size)=some 1)
  (k:∀w1,Rg S B w0 w1 Bs {R with ends:=R.ends.set i z}->w.grownBy w1 (some R.eb)->L prog n ops Q rest e w1):L prog n ops Q (⟨none,.store T x y,ty,ps,af,none⟩::rest) e w:=by
 refine L.Fe0 _ hx hy rfl hs rfl rfl hg.m.ends (by rw[Nat.zero_add,Nat.mul_one];simp[hg.m.hw0];omega) (.inr (by simp)) ?_ (k _ (hg.A8 i z) (C2 _ _ _ _ _));rw[Nat.zero_add,Nat.mul_one];apply Array.toList_inj.1;simp[setRow,Value.cells,List.map_set]
theorem L.stW {i:Nat} {z:Stp} (hg:Rg S B w0 w Bs R) (hi:i<R.m) (hx:ev e x= .pointer (some ⟨R.wb,0+i*3,none⟩)) (hy:ev e y=ld0 z) (hs:(prog.info? T).map (·.size)=some 3)
  (k:∀w1,Rg S B w0 w1 Bs {R with wts:=R.wts.set i z}->w.grownBy w1 (some R.wb)->L prog n ops Q rest e w1):L prog n ops Q (⟨none,.store T x y,ty,ps,af,none⟩::rest) e w:=by
 have hln:(R.wts.flatMap spC).length=R.m*3:=by
  rw[<- hg.m.mj0];generalize R.wts=l
  induction l with
  |nil=>rfl
  |cons a l ih=>simp only[List.flatMap_cons,List.length_append,ih,List.length_cons];simp[spC];omega
 refine L.Fe0 (vs:=spC z) _ hx hy rfl hs rfl rfl hg.m.wts (by simp only[List.size_toArray,hln];omega) (.inr (by simp)) ?_ (k _ (hg.da1 i z) (C2 _ _ _ _ _));rw[Nat.zero_add];exact Ka0 R.wts i z (by rw[hg.m.mj0];exact hi)
end
section
variable [Ctx prog]
end
section
theorem ly1 (x0:Int) (x1:Int) (x2:Int) (x3:ByteArray):prog.built 63 [(0,.i x0),(1,.i x1),(2,.i x2),(3,.string x3)]=some #[.i x0,.i x1,.i x2,.string x3]:=by kernel_rfl
end
section
variable [Ctx prog]
theorem db1 {S:Nat->Prop} {B:Nat} {w0:World} {Bs:Nat} (R:Rn) (w:World) (hg:Rg S B w0 w Bs R) (hBs:Bs <=w.heap.size) (i:Nat) (c:CB) (hc:R.cl[i]? =some c) (S2:c.st=false) (hrm:R.nts.length <=1000000000) (kind:Int) (text:ByteArray):C prog 74 #[.p c.cb,.i kind,.string text] w fun v w1=>v= .tuple #[]/\∃a n,Rg S B w0 w1 Bs {R with na:=a,nc:=n,nts:=R.nts ++ [(R.evs.length,i,⟨kind,text⟩)]}:=by
 refine C.enter (n:=42) func74 rfl rfl ?_;refine U528 ?_;refine U75 ?_;refine L.va (B0 rfl underlying248 rfl sz4 (by decide)) ?_;refine L.on rfl ?_;refine L.va (A0 rfl underlying4 rfl ((hg.m.blk i c hc).q0 10 (v:=.bool c.st) rfl)) ?_;refine L.va (A7 rfl) ?_;refine U3 ?_;refine W.V6 (rb S2) ?_;refine U59 ?_;refine U0 ?_;refine U10 ?_;refine L.va (B0 rfl underlying248 rfl Hy0 (by decide)) ?_;refine L.va (A0 rfl underlying169 rfl ((hg.m.blk i c hc).q0 1 (v:=.p R.rb) rfl)) ?_;refine U79 ?_;refine U18 ?_;refine U100 ?_;intro hR hC;refine W.fl 19 [17,18] [0,1,2,3,4,5,6,7,8,9,10,11,12,13,14,15,16,17,18] (fun w'=>O1 w' R.rb #[.slice R.ca R.cl.length R.cc,.slice R.ea R.evs.length R.ec,.slice R.na R.nts.length R.nc,.slice (pt R.eb) R.m R.m,.slice (pt R.wb) R.m R.m,.bool R.stuck,.i (R.used:Int),.chan (some R.yb)] 173 (7,8)/\O1 w' c.cb #[.i (i:Int),.p R.rb,.chan (some c.rc),.i c.sp.kind,.i c.sp.obj,.i c.sp.num,c.rf,c.df,.i (c.Z1:Int),.bool c.wt,.bool c.st] 248 (0,3)) (by kernel_rfl) (by kernel_rfl) (by kernel_rfl) (by kernel_rfl) (by kernel_rfl) (⟨hR.j0 (Below.refl w.heap.size w).drew,hC.j0 (Below.refl w.heap.size w).drew⟩) ?_;have V3:Below w.heap.size w w.drew:=(Below.refl w.heap.size w).drew;have hBs:=Nat.le_trans hBs V3.size;have hg:=hg.j0 V3;have hR:=hR.j0 V3;have hC:=hC.j0 V3;clear V3;generalize w.drew=w at *;refine U531 ?_;refine F.va rfl rfl (fun w' L1=>(B0 rfl underlying45 rfl Od0 (by decide))) ?_;refine F.va rfl rfl (fun w' L1=>(A0 rfl underlying42 rfl (L1.1.q0 2 (v:=.slice R.na R.nts.length R.nc) rfl))) ?_;refine U27 ?_;refine U383 ?_;refine F.va rfl rfl (fun w' L1=>(M6 rfl underlying41 rfl)) ?_;refine U27 ?_;refine U398 ?_;refine F.va rfl rfl (fun w' L1=>(C4 rfl)) ?_;refine F.va rfl rfl (fun w' L1=>v5) ?_;refine F.va rfl rfl (fun w' L1=>(G2 (parts:=[(0,.tmp 30),(1,.tmp 34),(2,.tmp 35),(3,.tmp 36)]) rfl (ly1 (R.evs.length:Nat) (i:Int) kind text))) ?_;refine F.doo rfl rfl ?_;refine L.ct0 (cs:=#[.i (R.evs.length:Nat),.i (i:Int),.i kind,.string text]) rfl rfl underlying42 cp1 rfl ⟨_,qd1⟩ (by decide) (fun w b38 F38=>?_);have hBs:=Nat.le_trans hBs F38.below.size;have hg:=hg.j0 F38.below;have hR:=hR.j0 F38.below;have hC:=hC.j0 F38.below;have Vo0:=F38.blk;refine L.nil ⟨rfl,⟨hR,hC⟩,?_⟩;refine F.doo rfl rfl ?_;refine L.gk0 (B:=Bs) (m:=1) rfl rfl underlying42 qe1 rfl (by decide) hg.m.nts (news:=[.i (R.evs.length:Nat),.i (i:Int),.i kind,.string text]) rfl (fun j u hj=>by
  rw[Addr.add_lit]
  match j,hj with
  |0,hj=>cases hj;exact Vo0.q0 0 rfl
  |1,hj=>cases hj;exact Vo0.q0 1 rfl
  |2,hj=>cases hj;exact Vo0.q0 2 rfl
  |3,hj=>cases hj;exact Vo0.q0 3 rfl) (fun u hu=>by simp only[List.mem_cons,List.not_mem_nil,or_false]at hu;rcases hu with rfl|rfl|rfl|rfl <;> rfl) (by omega) (by omega) hBs (fun a39 c39 w2 hO j3 hli=>?_)
 have hR:=T2 hR j3 (K5 hg.m.nts (by decide));have hC:=T2 hC j3 (K5 hg.m.nts (by decide));refine L.nil ⟨rfl,⟨hR,hC⟩,?_⟩;refine U8 ?_;refine L.va (E1 rfl) ?_;refine L.va (B0 rfl underlying45 rfl Od0 (by decide)) ?_;refine L.rt1 (o:=0) (v:=undef) hg (R.evs.length,i,⟨kind,text⟩) j3 hO hli rfl rfl Od0 (fun w hg=>?_);refine L.nil ?_
 try clear hR
 try clear hC
 refine U78 ?_;exact⟨rfl,_,_,hg⟩
theorem Fi0 (R:Rn) (Bs:Nat) (w0:World) (hM:w5 w0 Bs R) (hm:R.cl.length <=1000):C prog 79 #[.p R.rb] w0 fun v w1=>v= .bool (R.cl.any (·.wt))/\w1=w0:=by
 refine C.enter (n:=19) func79 rfl rfl ?_;refine U0 ?_;refine U7 ?_;refine U6 ?_;refine U185 ?_;refine U419 ?_;refine U51 ?_;refine W.loop (fun k e w=>∃(i:Nat),k=R.cl.length-i/\e 0= .p R.rb/\e 2= .bool false/\e 8= .slice R.ca R.cl.length (R.cc)/\e 9= .i (R.cl.length:Nat)/\e 10= .i (i:Int)/\i <=R.cl.length/\(∀(j:Nat) (c:CB),j<i->R.cl[j]? =some c->c.wt=false)/\w=w0) _ ⟨0,rfl,rfl,rfl,rfl,rfl,rfl,Nat.zero_le _,fun j c hj=>absurd hj (Nat.not_lt_zero _),rfl⟩ ?_;rintro k e w ⟨i,hk,s0,s2,s8,s9,s10,hi,hno,hw⟩;rw[P0 s0,P0 s2,P0 s8,P0 s9,P0 s10];clear s0 s2 s8 s9 s10;subst hw;refine U20 ?_;refine W.w6 rfl (fun h11=>?_) (fun h11=>?_)
 ·have J1:i<R.cl.length:=by omega
  obtain⟨c,hc⟩:∃c,R.cl[i]? =some c:=⟨_,List.getElem?_eq_getElem J1⟩
  refine U24 ?_;refine U418 ?_;refine U41 ?_;refine U461 ?_;refine U3 ?_;refine W.cond rfl (fun h17=>?_) (fun h17=>?_)
  ·refine W.seq ?_;refine W.region rfl ?_;refine U7 ?_;refine U16 ?_;exact⟨congrArg Value.bool (List.any_eq_true.2 ⟨c,List.mem_of_getElem? hc,h17⟩).symm,rfl⟩
  ·refine W.skip ?_;refine U35 ?_;refine U13 ?_;exact⟨_,by omega,⟨i+1,rfl,rfl,rfl,rfl,rfl,rfl,(by omega),(fun j d hj hd=>by
     rcases Nat.lt_or_ge j i with z|z
     ·exact hno j d z hd
     ·obtain rfl:j=i:=by omega
      rw[hc]at hd;obtain rfl:=Option.some.inj hd;exact h17),rfl⟩⟩
 ·refine W.exit ?_;refine U21 ?_;refine U7 ?_;refine U16 ?_;exact⟨congrArg Value.bool (lx1 hno (by omega)).symm,rfl⟩
theorem xc0 (R:Rn) (Bs:Nat) (w0:World) (hM:w5 w0 Bs R) (hm:R.cl.length <=1000) (r:Nat->Bool) (hrd:∀(i:Nat) (c:CB),R.cl[i]? =some c->c.wt=true->zi0 w0 c.rf (r i)):C prog 77 #[.p R.rb] w0 fun v w=>∃a cp,v= .slice a (rdl R.cl r R.cl.length).length cp/\Own w w0.heap.size 123 1 a (rdl R.cl r R.cl.length).length cp ((rdl R.cl r R.cl.length).map (Pc0 R.cl))/\Below w0.heap.size w0 w:=by
 refine C.enter (n:=39) func77 rfl rfl ?_;refine U1 ?_;intro hb;refine U73 ?_;refine U131 ?_;refine U185 ?_;refine L.va (A0 rfl underlying171 rfl ((hM.j0 hb).run.q0 0 (v:=.slice R.ca R.cl.length R.cc) rfl)) ?_;refine L.va (M6 rfl underlying171 rfl) ?_;refine U51 ?_;refine W.loop (fun k e w=>∃(i:Nat),∃(a:Option Addr),∃(q:Nat),∃(cp:Nat),k=R.cl.length-i/\e 0= .p R.rb/\e 2= .slice none 0 0/\e 3= .slice a q cp/\e 9= .slice R.ca R.cl.length (R.cc)/\e 10= .i (R.cl.length:Nat)/\e 11= .i (i:Int)/\i <=R.cl.length/\q=(rdl R.cl r i).length/\Own w w0.heap.size 123 1 a q cp ((rdl R.cl r i).map (Pc0 R.cl))/\Below w0.heap.size w0 w) _ ⟨0,none,0,0,rfl,rfl,rfl,rfl,rfl,rfl,rfl,Nat.zero_le _,rfl,Own.nil _ _ _ _,hb⟩ ?_;rintro k e w ⟨i,a,q,cp,hk,s0,s2,s3,s9,s10,s11,hi,hq,hO,hb⟩;rw[P0 s0,P0 s2,P0 s3,P0 s9,P0 s10,P0 s11];clear s0 s2 s3 s9 s10 s11;refine U20 ?_;refine W.w6 rfl (fun h12=>?_) (fun h12=>?_)
 ·have J1:i<R.cl.length:=by omega
  obtain⟨c,hc⟩:∃c,R.cl[i]? =some c:=⟨_,List.getElem?_eq_getElem J1⟩
  obtain⟨cb,rc,sp,rf,df,pk,wt,st⟩:=c;refine U24 ?_;refine L.va (S5 (i:=i) rfl rfl underlying171 Bx0 hM.cls.sl J1) ?_;refine L.va (A0 (v:=.p cb) rfl underlying123 rfl (Pb0 (hM.j0 hb) hc)) ?_;refine U18 ?_;refine W.seq ?_;cases wt with
  |false=>
   refine W.region rfl ?_;refine U63 ?_;refine L.va (A0 rfl underlying4 rfl (((hM.j0 hb).blk i _ hc).q0 9 (v:=.bool false) rfl)) ?_;refine U233 ?_;refine U92 ?_;refine U43 ?_;refine U312 ?_;have hrl:=Pd0 (r:=r) hc rfl;show W _ _ _ _ _ _;refine W.V6 rfl ?_;refine W.skip ?_;refine U35 ?_;exact U417
  |true=>
   rcases hrd i _ hc rfl with⟨h1,h2⟩|⟨f,fn,caps,h1,hf,hbd,hnm,By0⟩
   all_goals dsimp only at h1
   all_goals subst h1
   ·refine W.region rfl ?_;refine U446 ?_;refine U75 ?_;refine U286 ?_;refine L.va (A0 rfl underlying22 rfl (((hM.j0 hb).blk i _ hc).q0 6 (v:=.nilFunc) rfl)) ?_;refine L.on rfl ?_;refine L.va (ch0 (v:=.nilFunc) (b:=true) rfl (.inl ⟨rfl,rfl⟩) rfl underlying22 ⟨_,_,_,rfl⟩) ?_;refine L.on rfl ?_;refine U186 ?_;refine U43 ?_;refine L.off rfl ?_;refine L.on rfl ?_;refine L.va (p6 rfl) ?_;refine U86 ?_;have hrl:=Ia0 (r:=r) hc h2;show W _ _ _ _ _ _;refine W.W7 rfl ?_;refine U123 ?_;refine U483 ?_;intro w b35 F35;have hb:=G0 hb F35.below;have hO:=hO.j0 F35.below;have Kb0:=F35.blk;have hOl:=Fh0 (cl:=R.cl) (r:=r) i;refine L.E9 (B:=w0.heap.size) (m:=1) rfl rfl underlying171 Oh0 rfl (by decide) hO (fun h=>by cases h) (news:=[.p cb]) rfl (fun ad had j u hj=>by
     cases had;rw[Addr.add_lit]
     match j,hj with
     |0,hj=>cases hj;exact Kb0.q0 0 rfl) (fun u hu=>by simp only[List.mem_cons,List.not_mem_nil,or_false]at hu;subst hu;rfl) (by omega) (by omega) hb.size (fun a2 cp2 w2 hO2 hg2 G1 _=>?_)
    have hb:=hb.trans G1
    rename World=>w
    refine U127 ?_;refine U35 ?_;exact U384
   ·refine W.region rfl ?_;refine U446 ?_;refine U75 ?_;refine U286 ?_;refine U421 ?_;refine L.va (ch0 (v:=.func (.func f) #[] caps) (b:=false) rfl (.inr ⟨_,_,_,rfl,rfl⟩) rfl underlying22 ⟨_,_,_,rfl⟩) ?_;refine L.on rfl ?_;refine U75 ?_;refine U286 ?_;refine U421 ?_;refine L.call (in0 rfl hf hbd hnm) (By0 w hb) ?_;rintro _ w ⟨rfl,O2⟩;have hb:=G0 hb O2;have hO:=hO.j0 O2;refine L.on rfl ?_;refine L.va (A7 rfl) ?_;refine L.va (p6 rfl) ?_;refine U3 ?_;refine W.cond rfl (fun h32=>?_) (fun h32=>?_)
    ·have hrl:=Ia0 (r:=r) hc h32;refine U123 ?_;refine U483 ?_;intro w b35 F35;have hb:=G0 hb F35.below;have hO:=hO.j0 F35.below;have Kb0:=F35.blk;have hOl:=Fh0 (cl:=R.cl) (r:=r) i;refine L.E9 (B:=w0.heap.size) (m:=1) rfl rfl underlying171 Oh0 rfl (by decide) hO (fun h=>by cases h) (news:=[.p cb]) rfl (fun ad had j u hj=>by
      cases had;rw[Addr.add_lit]
      match j,hj with
      |0,hj=>cases hj;exact Kb0.q0 0 rfl) (fun u hu=>by simp only[List.mem_cons,List.not_mem_nil,or_false]at hu;subst hu;rfl) (by omega) (by omega) hb.size (fun a2 cp2 w2 hO2 hg2 G1 _=>?_)
     have hb:=hb.trans G1
     rename World=>w
     refine U127 ?_;refine U35 ?_;exact U384
    ·have hrl:=Pd0 (r:=r) hc h32;refine W.skip ?_;refine U35 ?_;exact U417
 ·refine W.exit ?_;refine U323 ?_;refine U143 ?_;obtain rfl:i=R.cl.length:=by omega
  subst hq;exact⟨a,cp,rfl,hO,hb⟩
end
end Go.Vy.Sc
end
section
namespace Go.Vy
open Go Go.Conc Go.Yc Go.RowKit
open Go.Vc Go.Wg
def YS (P:Program) (main:Bool) (l:ig0) (K:S6->Prop):Nat->Nat->Goroutine->Prop:=fun m _ g=>∃s,K s/\Yc.Way P main l s m g
def okS (l:ig0) (e:Event):Prop:=∃p∈l,e=⟨.cell p.1,false,false⟩
theorem zj0 {P:Program} {main:Bool} {l:ig0} {K:S6->Prop}:HF P main (okS l) (YS P main l K) :=
 ⟨fun m d g g' es h1 h2 h3 h4 ⟨s,hk,hw⟩=>⟨s,hk,.inr ⟨(by
  rcases hw.status with⟨_,h⟩|⟨h,_⟩
  ·exact h
  ·rw[h2]at h;cases h),h1,g',es,h3,fun w _=>h4 w,hw⟩⟩⟩
def Sits (n:Nat) (b:Frame) (cs:List Frame) (e:Env) (dst:Option Nat) (todo:List Item) (me:Goroutine):Prop:=∀v,∃a,Rep n a (R3 e dst v)/\Go.Conc.served me v=G (b.at a todo) cs
theorem Sits.go {Z:Goroutine->World->Prop} {n:Nat} {b:Frame} {cs:List Frame} {e:Env} {dst:Option Nat} {todo:List Item} {me:Goroutine} (h:Sits n b cs e dst todo me) {v:Value} {w:World} (hz:ZA Z n b cs (R3 e dst v) todo w):Z (Go.Conc.served me v) w:=by
 obtain⟨a,ha,he⟩:=h v;rw[he];exact hz a ha
theorem mk0 {b:Frame} {a:Act} {k:List Item} {cs:List Frame} {ops:Array Oper} {i:Nat} {rest:List Nat} {o:Oper} (ho:ops[i]? =some o) (v:Value):Go.Conc.served (G (b.at a (.inRegion ops (i::rest)::k)) cs) v=G (b.at (a.put o.dst v) (.inRegion ops rest::k)) cs:=by
 have:(b.at a (.inRegion ops (i::rest)::k)).finish v=b.at (a.put o.dst v) (.inRegion ops rest::k):=by rw[Frame.finish_at,ho];rfl
 show({frame:=(b.at a (.inRegion ops (i::rest)::k)).finish v,callers:=cs,status:=.running,dying:=none}:Goroutine)=_;rw[this];rfl
section
variable {P:Program}{main:Bool}{st:ig0}{K:S6->Prop}{ft n:Nat}{b:Frame}{cs:List Frame}{d:Nat}{e:Env}{k:List Item}{ops:Array Oper}{i:Nat}{l:List Oper}{dst:Option Nat}{ty:TypeId}{ps:String}{af:Array Edge}{T E:TypeId}{x y:Operand}
theorem N0.stay {p:Addr} {v:Value} {u:TypeDesc} (hk:b.kind≠.early) (hd:u6 n dst=true) (hp:(p,v)∈st) (hx:ev e x= .pointer (some p)) (hT:P.underlying T=some u) (hu:bt0 u=true)
  (h:N0 (YS P main st K) ft n b cs [] d (R3 e dst v) ops (i+1) l k):N0 (YS P main st K) (ft+1) n b cs [] d e ops i (⟨dst,.load T x,ty,ps,af,none⟩::l) k:=by
 intro hl a ha;obtain⟨ho,J7⟩:=M5 hl;obtain⟨s,hs,hw⟩:=h J7 _ (ha.put hd v);have h0:0<ft:=by
  rcases hw.status with⟨_,h⟩|⟨h,_⟩
  ·exact h
  ·cases h
 refine⟨s,hs,.inr ⟨h0,rfl,_,seen P b.fn #[⟨.cell p,false,false⟩],fun ev' he=>⟨(p,v),hp,?_⟩,fun w L1=>?_,hw⟩⟩
 ·have:=mem_seen he;simpa using this
 ·have hc:=L1 (p,v) hp;show stepG P main (G (b.at a (.inRegion ops (i::List.range' (i+1) l.length)::k)) cs) w=_;rw[stepG_value ho (by rw[ha.yielded];rfl) hk (by rw[ha.eval];exact Go.Vc.A0 hx hT hu hc),listed];have he:∀es,(isAgg T).events P w es=es:=fun es=>by
   cases u <;> simp[isAgg,go_sem,run_underlying hT]
  have hq:(execOp a.eval ⟨dst,.load T x,ty,ps,af,none⟩).events P w #[]=#[⟨.cell p,false,false⟩]:=by
   rw[ha.eval];simp[execOp,Instr.loadAt,hx,Instr.sureAddr,loadVar,Go.Vc.cg0 hT,hu,hc,he]
  rw[hq]
theorem N0.W1 {c:Nat} {z:Value} {dd:ChanDir} (hk:b.kind≠.early) (hT:P.underlying T=some (.chan dd E)) (hz:(P.info? E).bind (·.zero)=some z) (hx:ev e x= .chan (some c))
  (hK:∀me,Sits n b cs e dst (.inRegion ops (List.range' (i+1) l.length)::k) me->K ⟨c,z,me⟩) (hd:u6 n dst=true):N0 (YS P main st K) (ft+1) n b cs [] d e ops i (⟨dst,.recv T x false,ty,ps,af,none⟩::l) k:=by
 intro hl a ha;obtain⟨ho,J7⟩:=M5 hl;refine⟨⟨c,z,G (b.at a (.inRegion ops (i::List.range' (i+1) l.length)::k)) cs⟩,hK _ fun v=>⟨a.put dst v,⟨(ha.put hd v).size,(ha.put hd v).defers,(ha.put hd v).get⟩,mk0 ho v⟩,.inl ⟨rfl,rfl,rfl,rfl,fun w=>?_⟩⟩;have hr:(execOp a.eval ⟨dst,.recv T x false,ty,ps,af,none⟩).run P w= .ok (.comm #[rcase c z] true (.recv false)) w:=by
  rw[ha.eval];obtain⟨inf,hi,hz'⟩:=Option.bind_eq_some_iff.1 hz;simp[execOp,hx,run_underlying hT,zeroValue,typeInfo,hi,hz',rcase,go_sem]
 show stepG P main (G (b.at a (.inRegion ops (i::List.range' (i+1) l.length)::k)) cs) w=_;have hq:(execOp a.eval ⟨dst,.recv T x false,ty,ps,af,none⟩).events P w #[]=#[]:=by
  rw[ha.eval];obtain⟨inf,hi,hz'⟩:=Option.bind_eq_some_iff.1 hz;simp[execOp,hx,run_underlying hT,zeroValue,typeInfo,hi,hz',go_sem]
 rw[stepG_comm ho (by rw[ha.yielded];rfl) hk hr,listed,hq,seen_none]
theorem xd0 {c:Nat} {v:Value} {a:Act} {rest:List Nat} (hk:b.kind≠.early) (ho:ops[i]? =some ⟨dst,.send x y,ty,ps,af,none⟩) (hx:a.eval x= .chan (some c)) (hy:a.eval y=v) (w:World) :
  stepG P main (G (b.at a (.inRegion ops (i::rest)::k)) cs) w= .comm (G (b.at a (.inRegion ops (i::rest)::k)) cs) #[scase c v (.tuple #[])] true .send w #[]:=by
 rw[stepG_comm (cases:=#[scase c v (.tuple #[])]) (blocking:=true) (shape:=.send) (w':=w) ho rfl hk (by simp[execOp,hx,hy,scase]),listed];have:(execOp a.eval ⟨dst,.send x y,ty,ps,af,none⟩).events P w #[]=#[]:=rfl;rw[this,seen_none]
theorem Pe0 {f:FuncId} {asx:Array Operand} {ats:Array TypeId} {a:Act} {rest:List Nat} (hk:b.kind≠.early) (ho:ops[i]? =some ⟨dst,.go {callee:=.value (.func f),args:=asx,argTypes:=ats},ty,ps,af,none⟩) (w:World) :
  stepG P main (G (b.at a (.inRegion ops (i::rest)::k)) cs) w= .spawn (G (b.at (a.put dst undef) (.inRegion ops rest::k)) cs) (born P (dcall f (asx.map a.eval))) w #[]:=by
 have ef:a.eval (.func f)= .func (.func f) #[] #[]:=rfl;have hr:(execOp a.eval ⟨dst,.go {callee:=.value (.func f),args:=asx,argTypes:=ats},ty,ps,af,none⟩).run P w= .ok (.spawn (dcall f (asx.map a.eval))) w:=by
  unfold execOp;simp[resolve,Deferred.ofValue,ef,dcall]
 have he:(execOp a.eval ⟨dst,.go {callee:=.value (.func f),args:=asx,argTypes:=ats},ty,ps,af,none⟩).events P w #[]=#[]:=by
  unfold execOp;simp[resolve,Deferred.ofValue,ef]
 rw[stepG_spawn ho rfl hk hr rfl,listed,he,seen_none]
end
section
variable {P:Program}{main:Bool}{b c:Frame}{a:Act}{k todo:List Item}{cs:List Frame}{w:World}{ops:Array Oper}{i:Nat}{rest:List Nat}{f:FuncId}{fn:Func}{args caps:Array Value}{ds:List Deferred}
theorem ea0 {md:FrameMode} {body:Code} (hmd:md≠.run) (hd:a.defers={target:=.fn (.func f) caps,args:=args} :: ds) (hf:P.funcs[f]? =some fn) (D4:(fn.name== "runtime.NumGoroutine")=false) (hb:fn.body=some body) :
  stepG P main (G {b.at a todo with mode:=md} cs) w= .go (G ((baseD f).at {tmps:=(args++caps)++Array.replicate (fn.ntmps-(args++caps).size) undef,defers:=[]} [.code body]) ({b.at ⟨a.tmps,ds⟩ todo with mode:=md} :: cs)) w #[]:=by
 have h1:¬fn.name= "runtime.NumGoroutine":=by simpa using D4
 rw[<- enter_atD (args++caps) hf hb];cases md with
 |run=>exact absurd rfl hmd
 |returning=>simp[G,stepG,unwind,callDeferred,Frame.at,hd,invoke,callFunc,hf,h1,hb,GStep.after,seen_none]
 |panicking ch=>simp[G,stepG,unwind,callDeferred,Frame.at,hd,invoke,callFunc,hf,h1,hb,GStep.after,seen_none]
theorem ny0 {ρ:Operand->Value} {dst:Option Nat} {ty:TypeId} {ps:String} {af:Array Edge}:((execOp ρ ⟨dst,.call {callee:=.builtin .recover,args:=#[],argTypes:=#[]},ty,ps,af,none⟩).run P w= .ok .recover w)/\(execOp ρ ⟨dst,.call {callee:=.builtin .recover,args:=#[],argTypes:=#[]},ty,ps,af,none⟩).events P w #[]=#[]:=by
 constructor <;> simp[execOp,resolve,invoke,builtin]
theorem oj0 {dst:Option Nat} {ty:TypeId} {ps:String} {af:Array Edge} (ho:ops[i]? =some ⟨dst,.call {callee:=.builtin .recover,args:=#[],argTypes:=#[]},ty,ps,af,none⟩) (hk:b.kind= .deferred) (hr:b.roundOf=none) (hc:c.mode= .returning) :
  stepG P main (G (b.at a (.inRegion ops (i::rest)::k)) (c::cs)) w= .go (G (b.at (a.put dst .nilIface) (.inRegion ops rest::k)) (c::cs)) w #[]:=by
 have dd0:(b.at a (.inRegion ops (i::rest)::k)).finish .nilIface=b.at (a.put dst .nilIface) (.inRegion ops rest::k):=by rw[Frame.finish_at,ho];rfl
 rw[stepG_oper ho rfl,<- dd0];simp[stepG.apply,ny0,G,Frame.at,hk,tryRecover,hc,GStep.after,seen_none]
theorem ml0 {dst:Option Nat} {ty:TypeId} {ps:String} {af:Array Edge} {v:Value} {H4:List PanicEntry} (ho:ops[i]? =some ⟨dst,.call {callee:=.builtin .recover,args:=#[],argTypes:=#[]},ty,ps,af,none⟩) (hk:b.kind= .deferred) (hr:b.roundOf=none) (hc:c.mode= .panicking ({v,recovered:=false} :: H4)) :
  stepG P main (G (b.at a (.inRegion ops (i::rest)::k)) (c::cs)) w= .go (G (b.at (a.put dst v) (.inRegion ops rest::k)) ({c with mode:=.panicking ({v,recovered:=true} :: H4)} :: cs)) w #[]:=by
 have dd0:(b.at a (.inRegion ops (i::rest)::k)).finish v=b.at (a.put dst v) (.inRegion ops rest::k):=by rw[Frame.finish_at,ho];rfl
 rw[stepG_oper ho rfl,<- dd0];simp[stepG.apply,ny0,G,Frame.at,hk,tryRecover,hc,GStep.after,seen_none]
theorem mm0 {v v':Value} {H4:List PanicEntry} (hn:b.kind= .deferred) (hd:a.defers=[]) (hf:P.funcs[b.fn]? =some fn) (hr:(results fn a.tmps).run P w= .ok v w) (he:(results fn a.tmps).events P w #[]=#[])
  (hc:c.mode= .panicking ({v:=v',recovered:=true} :: H4)) (ho:H4.dropWhile (!·.goexit)=[]) :
  stepG P main (G {b.at a todo with mode:=.returning} (c::cs)) w= .go (G {c with mode:=.returning} cs) w #[]:=by
 simp[G,stepG,unwind,doReturn,Frame.at,hn,hd,hf,hr,he,hc,ho,seen,GStep.after]
theorem Bz0 {dst:Option Nat} {ty:TypeId} {ps:String} {af:Array Edge} {x:Operand} (ho:ops[i]? =some ⟨dst,.defer {callee:=.value x,args:=#[],argTypes:=#[]},ty,ps,af,none⟩) (hk:b.kind≠.early) (hx:a.eval x= .func (.func f) #[] caps) :
  stepG P main (G (b.at a (.inRegion ops (i::rest)::k)) cs) w= .go (G (b.at (Act.put ⟨a.tmps,{target:=.fn (.func f) caps,args:=#[]} :: a.defers⟩ dst undef) (.inRegion ops rest::k)) cs) w #[]:=by
 have hr:(execOp a.eval ⟨dst,.defer {callee:=.value x,args:=#[],argTypes:=#[]},ty,ps,af,none⟩).run P w= .ok (.defer {target:=.fn (.func f) caps,args:=#[]}) w:=by
  simp[execOp,resolve,Deferred.ofValue,hx]
 have he:(execOp a.eval ⟨dst,.defer {callee:=.value x,args:=#[],argTypes:=#[]},ty,ps,af,none⟩).events P w #[]=#[]:=by
  simp[execOp,resolve,Deferred.ofValue,hx]
 have dd0:(b.at ⟨a.tmps,{target:=.fn (.func f) caps,args:=#[]} :: a.defers⟩ (.inRegion ops (i::rest)::k)).finish undef=b.at (Act.put ⟨a.tmps,{target:=.fn (.func f) caps,args:=#[]} :: a.defers⟩ dst undef) (.inRegion ops rest::k):=by rw[Frame.finish_at,ho];rfl
 have hk':(b.kind==CallKind.early)=false:=by simpa using hk
 rw[stepG_oper ho rfl,<- dd0];simp[stepG.apply,hr,he,G,Frame.at,hk',GStep.after,seen_none]
def G9 (P:Program):Frame:={fn:=P.funcs.size,tmps:=#[],todo:=[],defers:=[],mode:=.panicking [goexitEntry],kind:=.normal,roundOf:=none}
theorem Kc0 {body:Code} (hf:P.funcs[f]? =some fn) (D4:(fn.name== "runtime.NumGoroutine")=false) (hb:fn.body=some body) :
  stepG P main (born P (dcall f args)) w= .go (G ((baseD f).at {tmps:=args++Array.replicate (fn.ntmps-args.size) undef,defers:=[]} [.code body]) [G9 P]) w #[]:=by
 have h1:¬fn.name= "runtime.NumGoroutine":=by simpa using D4
 rw[<- enter_atD args hf hb];simp[born,G,stepG,unwind,callDeferred,dcall,invoke,callFunc,hf,h1,hb,GStep.after,seen_none,G9];exact⟨rfl,rfl,rfl,rfl⟩
theorem Kd0 (hn:b.kind= .deferred) (hd:a.defers=[]) (hf:P.funcs[b.fn]? =some fn) {v:Value} (hr:(results fn a.tmps).run P w= .ok v w) (he:(results fn a.tmps).events P w #[]=#[]) :
  stepG P main (G {b.at a todo with mode:=.returning} [G9 P]) w= .go (G (G9 P) []) w #[]:=by
 simp[G,stepG,unwind,doReturn,Frame.at,hn,hd,hf,hr,he,seen,GStep.after,G9,goexitEntry]
theorem Ke0:stepG P main (G (G9 P) []) w= .go {frame:=G9 P,callers:=[],status:=.finished,dying:=none} w #[]:=by
 simp[G,stepG,unwind,G9,goexitEntry,Frame.catches]
end
section
variable {P:Program}[Ctx P]{Z:Goroutine->World->Prop}{Q:Exit->Act->World->Prop}{ops:Array Oper}{b:Frame}{k:List Item}{cs:List Frame}{n:Nat}{e:Env}{w:World}
theorem ZA.W7 [Go.Vc.B4] (hZ:Ctx.Zs P Z) {c:Operand} {x y:Code} (hc:ev e c= .bool true) (h:ZA Z n b cs e (.code x::k) w):ZA Z n b cs e (.code (.cond c x y)::k) w:=ZA.cond hZ (t:=true) hc h
theorem ZA.V6 [Go.Vc.B4] (hZ:Ctx.Zs P Z) {c:Operand} {x y:Code} (hc:ev e c= .bool false) (h:ZA Z n b cs e (.code y::k) w):ZA Z n b cs e (.code (.cond c x y)::k) w:=ZA.cond hZ (t:=false) hc h
theorem ZA.W [Go.Vc.B4] (hZ:Ctx.Zs P Z) (hb:b.kind≠.early) {c:Code} (h:Vy.W P n c (dq0 (fun e' w'=>ZA Z n b cs e' k w') fun _ _ _=>False) e w):ZA Z n b cs e (.code c::k) w:=ZA.piece hZ hb h fun _ _ h=>h
theorem ZA.panics [Go.Vc.B4] (hZ:Ctx.Zs P Z) (hb:b.kind≠.early) {c:Code} (h:Vy.W P n c (fun x e' w'=>∃ch,x= .panic ch/\∀a todo,Rep n a e'->Z (G {b.at a todo with mode:=.panicking ch} cs) w') e w):ZA Z n b cs e (.code c::k) w:=by
 intro a ha;refine h a ha Z hZ b k cs hb fun x a' w' hx=>?_;obtain⟨e',r,ch,rfl,hq⟩:=hx;exact fun todo=>hq a' todo r
theorem L.Pf0 [Go.Vc.B4] {x:Operand} {ty:TypeId} {ps:String} {af:Array Edge} {rest:List Oper} {Q:Exit->Env->World->Prop} {t:TypeId} {v0:Value} (hx:ev e x= .iface t v0) (k:Q (.panic [{v:=.iface t v0,recovered:=false}]) e w):L P n ops Q (⟨none,.panic x,ty,ps,af,none⟩::rest) e w:=by
 refine L.bt1 rfl ⟨rfl,rfl,fun τ d ρ x' hs=>⟨Evo.refl _,x',#[],?_,hs,fun e he=>by simp at he⟩⟩ k;rw[Sem.runT_eq];have h1:(execOp (ev e) ⟨none,.panic x,ty,ps,af,none⟩).run P x'= .halt (.panic (.iface t v0)) x':=by simp[execOp,Instr.panic,hx]
 have h2:(execOp (ev e) ⟨none,.panic x,ty,ps,af,none⟩).events P x' #[]=#[]:=by simp[execOp,Instr.panic,hx]
 rw[h1,h2];rfl
end
section
variable {P:Program}{Z:Goroutine->World->Prop}{b:Frame}{cs:List Frame}{n:Nat}{e:Env}{w:World}
theorem ZA.leaves {fn:Func} {f:FuncId} (hb:b=base f) (hf:P.funcs[f]? =some fn) (hr:fn.results=#[]) (h:∀fr,fr.fn=f->Leaves P fr w (.returned (.tuple #[]))->Z (G fr cs) w):ZR Z n b cs e w:=by
 intro todo a ha;subst hb;refine h _ rfl ⟨rfl,ha.defers,rfl,fn,hf,z8 (fun w=>results_none hr _ P w) (fun w=>events_results_none hr _ _)⟩
end
section
variable {P:Program}[Ctx P]{Z:Goroutine->World->Prop}{ops:Array Oper}{b:Frame}{k:List Item}{cs:List Frame}{n:Nat}{e:Env}{w:World}
theorem ZA.call [Go.Vc.B4] (hZ:Ctx.Zs P Z) (hb:b.kind≠.early) {i:Nat} {rest:List Nat} {o:Oper} {f:FuncId} {args:Array Value} (ho:ops[i]? =some o) (hg:o.guard=none) (hr:Does P (execOp (ev e) o) w (.enter f args) w)
  (h:∀a,Rep n a e->Z (G (Frame.enter P f args .normal) (b.at a (.inRegion ops (i::rest)::k)::cs)) w):ZA Z n b cs e (.inRegion ops (i::rest)::k) w:=by
 intro a ha;have hw:Region.wanted o (yielded ops a.tmps)=true:=by
  obtain⟨d,op,ty,ps,af,g⟩:=o;cases hg;rfl
 refine(Ctx.cl Z hZ).own _ _ rfl fun τ d=>?_;refine⟨_,V2 w τ d,w.drawn,⟨rfl,fun ρ x hx=>?_⟩,h a ha⟩;obtain⟨h1,x',es,h2,h3,h4⟩:=hr.go τ d ρ x hx;rw[Sem.runT_eq]at h2;obtain⟨h5,h6⟩:=Prod.mk.inj h2;refine⟨h1,x',seen P b.fn es,?_,h3,fun e he=>h4 e (mem_seen he)⟩;have h5':(execOp a.eval o).run P x= .ok (.enter f args) x':=by rw[ha.eval];exact h5
 rw[stepG_enter ho hw hb h5',listed,ha.eval,h6]
theorem ZA.home [Go.Vc.B4] {i:Nat} {rest:List Nat} {o:Oper} (ho:ops[i]? =some o) (hd:u6 n o.dst=true) {v:Value} {w':World} {a:Act} (ha:Rep n a e) (h:ZA Z n b cs (R3 e o.dst v) (.inRegion ops rest::k) w'):Z (G ((b.at a (.inRegion ops (i::rest)::k)).finish v) cs) w':=by
 have dd0:(b.at a (.inRegion ops (i::rest)::k)).finish v=b.at (a.put o.dst v) (.inRegion ops rest::k):=by rw[Frame.finish_at,ho];rfl
 rw[dd0];exact h _ (ha.put hd v)
end
section
variable {P:Program}{ops:Array Oper}{b:Frame}{k:List Item}{cs:List Frame}{n:Nat}{e:Env}
theorem ZA.back [Go.Vc.B4] {Z':Goroutine->World->Prop} {main:Bool} (hZ':Cl P main Z') {i:Nat} {rest:List Nat} {o:Oper} (ho:ops[i]? =some o) (hd:u6 n o.dst=true) {v:Value} {w':World} {fr:Frame} {a:Act} (ha:Rep n a e) (hl:Leaves P fr w' (.returned v))
  (h:ZA Z' n b cs (R3 e o.dst v) (.inRegion ops rest::k) w'):Z' (G fr (b.at a (.inRegion ops (i::rest)::k)::cs)) w':=by
 refine cm0 hZ' hl ?_;have dd0:(b.at a (.inRegion ops (i::rest)::k)).finish v=b.at (a.put o.dst v) (.inRegion ops rest::k):=by rw[Frame.finish_at,ho];rfl
 rw[dd0];exact h _ (ha.put hd v)
end
section
variable {P:Program}[Ctx P]
end
section
variable {P:Program}[Ctx P]{Z:Goroutine->World->Prop}{ops:Array Oper}{b c:Frame}{k:List Item}{cs:List Frame}{n:Nat}{e:Env}{w:World}{i:Nat}{rest:List Nat}{dst:Option Nat}{ty:TypeId}{ps:String}{af:Array Edge}
theorem ZA.Kf0 [Go.Vc.B4] (hZ:Ctx.Zs P Z) (ho:ops[i]? =some ⟨dst,.call {callee:=.builtin .recover,args:=#[],argTypes:=#[]},ty,ps,af,none⟩) (hd:u6 n dst=true) (hk:b.kind= .deferred) (hr:b.roundOf=none) (hc:c.mode= .returning) (h:ZA Z n b (c::cs) (R3 e dst .nilIface) (.inRegion ops rest::k) w):ZA Z n b (c::cs) e (.inRegion ops (i::rest)::k) w :=
 fun _a ha=>(Ctx.cl Z hZ).ctl rfl rfl (fun _w=>oj0 ho hk hr hc) (h _ (ha.put hd _))
theorem ZA.Fj0 [Go.Vc.B4] (hZ:Ctx.Zs P Z) {v:Value} {H4:List PanicEntry} (ho:ops[i]? =some ⟨dst,.call {callee:=.builtin .recover,args:=#[],argTypes:=#[]},ty,ps,af,none⟩) (hd:u6 n dst=true) (hk:b.kind= .deferred) (hr:b.roundOf=none) (hc:c.mode= .panicking ({v,recovered:=false} :: H4)) (h:ZA Z n b ({c with mode:=.panicking ({v,recovered:=true} :: H4)} :: cs) (R3 e dst v) (.inRegion ops rest::k) w):ZA Z n b (c::cs) e (.inRegion ops (i::rest)::k) w :=
 fun _a ha=>(Ctx.cl Z hZ).ctl rfl rfl (fun _w=>ml0 ho hk hr hc) (h _ (ha.put hd _))
def ae1 (c c':Frame):Prop:=(c.mode= .returning/\c'=c)\/∃v H4,H4.dropWhile (!·.goexit)=[]/\c'={c with mode:=.panicking ({v,recovered:=true} :: H4)}
theorem ZA.recover [Go.Vc.B4] (hZ:Ctx.Zs P Z) (ho:ops[i]? =some ⟨dst,.call {callee:=.builtin .recover,args:=#[],argTypes:=#[]},ty,ps,af,none⟩) (hd:u6 n dst=true) (hk:b.kind= .deferred) (hr:b.roundOf=none) (hc:c.mode= .returning\/∃v H4,c.mode= .panicking ({v,recovered:=false} :: H4)/\H4.dropWhile (!·.goexit)=[])
  (h:∀c' v,ae1 c c'->ZA Z n b (c'::cs) (R3 e dst v) (.inRegion ops rest::k) w):ZA Z n b (c::cs) e (.inRegion ops (i::rest)::k) w:=by
 rcases hc with hc|⟨v,H4,hc,ho'⟩
 ·exact ZA.Kf0 hZ ho hd hk hr hc (h c _ (.inl ⟨hc,rfl⟩))
 ·exact ZA.Fj0 hZ ho hd hk hr hc (h _ _ (.inr ⟨v,H4,ho',rfl⟩))
theorem ZA.region [Go.Vc.B4] (hZ:Ctx.Zs P Z) {id:Nat} (h:ZA Z n b cs e (.inRegion ops (List.range ops.size)::k) w):ZA Z n b cs e (.code (.region id ops false)::k) w:=ZA.c hZ (fun _ _=>stepG_region) h
def ZD (Z:Goroutine->World->Prop) (n:Nat) (b:Frame) (cs:List Frame) (ds:List Deferred) (e:Env) (todo:List Item) (w:World):Prop:=∀a,ka0 n a e ds->Z (G (b.at a todo) cs) w
variable {ds:List Deferred}
theorem ZA.zd (h:ZD Z n b cs [] e k w):ZA Z n b cs e k w:=fun a ha=>h a (lz1 ha) where lz1 {n:Nat} {a:Act} {e:Env} (h:Rep n a e):ka0 n a e []:=⟨h.size,h.defers,h.get⟩
theorem ZD.ctl (hZ:Ctx.Zs P Z) {todo nw0:List Item} (hs:∀a w,stepG P (Ctx.main P) (G (b.at a todo) cs) w= .go (G (b.at a nw0) cs) w #[]) (h:ZD Z n b cs ds e nw0 w):ZD Z n b cs ds e todo w:=fun a ha=>(Ctx.cl Z hZ).ctl rfl rfl (hs a) (h a ha)
theorem ZD.seq (hZ:Ctx.Zs P Z) {x y:Code} (h:ZD Z n b cs ds e (.code x :: .code y::k) w):ZD Z n b cs ds e (.code (.seq x y)::k) w:=ZD.ctl hZ (fun _ _=>stepG_seq) h
theorem ZD.region (hZ:Ctx.Zs P Z) {id:Nat} (h:ZD Z n b cs ds e (.inRegion ops (List.range ops.size)::k) w):ZD Z n b cs ds e (.code (.region id ops false)::k) w:=ZD.ctl hZ (fun _ _=>stepG_region) h
theorem ZD.O4 (hZ:Ctx.Zs P Z) (h:ZD Z n b cs ds e k w):ZD Z n b cs ds e (.inRegion ops []::k) w:=ZD.ctl hZ (fun _ _=>stepG_region_end) h
variable {op:Op}{d:Nat}{v:Value}{w':World}
theorem ZD.va (hZ:Ctx.Zs P Z) (hb:b.kind≠.early) (ho:ops[i]? =some ⟨some d,op,ty,ps,af,none⟩) (hd:u6 n (some d)=true) (hr:Does P (execOp (ev e) ⟨some d,op,ty,ps,af,none⟩) w (.val v) w') (h:ZD Z n b cs ds (upd e d v) (.inRegion ops rest::k) w'):ZD Z n b cs ds e (.inRegion ops (i::rest)::k) w:=by
 intro a ha;refine U475 ?_;refine ao0 (r:=.val v) (w':=w') (by rw[ha.eval];exact hr) ?_;exact h _ (ha.put hd v)
theorem ZD.st (hZ:Ctx.Zs P Z) (hb:b.kind≠.early) (ho:ops[i]? =some ⟨none,op,ty,ps,af,none⟩) (hr:Does P (execOp (ev e) ⟨none,op,ty,ps,af,none⟩) w .skip w') (h:ZD Z n b cs ds e (.inRegion ops rest::k) w'):ZD Z n b cs ds e (.inRegion ops (i::rest)::k) w:=by
 intro a ha;refine U475 ?_;refine ao0 (r:=.skip) (w':=w') (by rw[ha.eval];exact hr) ?_;exact h _ ha
theorem ZD.defer (hZ:Ctx.Zs P Z) (hb:b.kind≠.early) {f:FuncId} {asx:Array Operand} {ats:Array TypeId} {vs:Array Value} (ho:ops[i]? =some ⟨none,.defer {callee:=.value (.func f),args:=asx,argTypes:=ats},ty,ps,af,none⟩) (hv:asx.map (ev e)=vs) (h:ZD Z n b cs (dcall f vs::ds) e (.inRegion ops rest::k) w):ZD Z n b cs ds e (.inRegion ops (i::rest)::k) w:=by
 intro a ha;refine(Ctx.cl Z hZ).ctl rfl rfl (fun w=>stepG_defer ho rfl hb rfl) ?_;rw[ha.eval,hv,ha.defers];exact h _ ⟨ha.size,rfl,ha.get⟩
theorem ZD.dc1 (hZ:Ctx.Zs P Z) (hb:b.kind≠.early) {f:FuncId} {caps:Array Value} {x:Operand} (ho:ops[i]? =some ⟨none,.defer {callee:=.value x,args:=#[],argTypes:=#[]},ty,ps,af,none⟩) (hx:ev e x= .func (.func f) #[] caps) (h:ZD Z n b cs ({target:=.fn (.func f) caps,args:=#[]} :: ds) e (.inRegion ops rest::k) w):ZD Z n b cs ds e (.inRegion ops (i::rest)::k) w:=by
 intro a ha;refine(Ctx.cl Z hZ).ctl rfl rfl (fun w=>Bz0 ho hb (by rw[ha.eval];exact hx)) ?_;rw[ha.defers];exact h _ ⟨ha.size,rfl,ha.get⟩
theorem ZD.call (hZ:Ctx.Zs P Z) (hb:b.kind≠.early) {f:FuncId} {args:Array Value} (ho:ops[i]? =some ⟨dst,op,ty,ps,af,none⟩) (hr:Does P (execOp (ev e) ⟨dst,op,ty,ps,af,none⟩) w (.enter f args) w)
  (h:∀a,ka0 n a e ds->Z (G (Frame.enter P f args .normal) (b.at a (.inRegion ops (i::rest)::k)::cs)) w):ZD Z n b cs ds e (.inRegion ops (i::rest)::k) w:=by
 intro a ha;refine(Ctx.cl Z hZ).own _ _ rfl fun τ d=>?_;refine⟨_,V2 w τ d,w.drawn,⟨rfl,fun ρ x hx=>?_⟩,h a ha⟩;obtain⟨h1,x',es,h2,h3,h4⟩:=hr.go τ d ρ x hx;rw[Sem.runT_eq]at h2;obtain⟨h5,h6⟩:=Prod.mk.inj h2;refine⟨h1,x',seen P b.fn es,?_,h3,fun e he=>h4 e (mem_seen he)⟩;have h5':(execOp a.eval ⟨dst,op,ty,ps,af,none⟩).run P x= .ok (.enter f args) x':=by rw[ha.eval];exact h5
 rw[stepG_enter ho rfl hb h5',listed,ha.eval,h6]
end
section
variable {P:Program}{Post:Value->World->Prop}{X:Gh}{h:Nat}{H:Hid}
theorem E6:@Ctx.Zs P (B2 P (h==0)) (Fin P Post X h):=⟨ft0 P Post X h,bz0⟩
theorem Ib0:@Ctx.Zs P (B2 P (h==0)) (la0 P Post X h H):=⟨Vd0 H,fun _g _u hz hH=>bz0 _ _ fun hv=>hz (lc0 hH hv) hH⟩
theorem lh0 (V:Nat->Prop) [DecidablePred V] {g:Goroutine} {U:World} (hf:la0 P Post X h (X9 V U) g (S3 V U)):Fin P Post X h g U :=
 bz0 _ _ fun hv=>by have:=hf (pw0 hv);rwa [lb0]at this
theorem At.O4 {main:Bool} {ok:Event->Prop} {Y:Nat->Nat->Goroutine->Prop} {ft n d:Nat} {b:Frame} {cs:List Frame} {ds:List Deferred} {e:Env} {k:List Item} {ops:Array Oper} (hY:HF P main ok Y) (h:At Y ft n b cs ds d e k):At Y (ft+1) n b cs ds d e (.inRegion ops []::k):=At.c hY (fun _ _=>stepG_region_end) h
theorem p8 {n:Nat} (args:Array Value) (m:Nat) (hn:args.size+(m-args.size)=n):Rep n {tmps:=args++Array.replicate (m-args.size) undef,defers:=[]} (Vc.bq0 args):=by
 have:=fa0 args m hn;exact⟨this.size,this.defers,this.get⟩
theorem qf0 {n:Nat} {a:Act} {e:Env} (h:Rep n a e):ka0 n a e []:=⟨h.size,h.defers,h.get⟩
variable {n ft:Nat}{b:Frame}{cs:List Frame}{e:Env}{k:List Item}{ops:Array Oper}{i:Nat}{rest:List Nat}{ty:TypeId}{ps:String}{af:Array Edge}{x y:Operand}{v:Value}{w:World}
theorem ZA.more [Go.Vc.B4] [Ctx P] {Z:Goroutine->World->Prop} (hZ:Ctx.Zs P Z) (hb:b.kind≠.early) {l:List Oper} (i:Nat) (hB:Uq0 n l=true) (h:L P n l.toArray (dq0 (fun e' w'=>ZA Z n b cs e' k w') fun _ _ _=>False) (l.drop i) e w):ZA Z n b cs e (.inRegion l.toArray (List.range' i (l.drop i).length)::k) w:=by
 intro a ha;have h1:=h (fun o ho=>List.all_eq_true.1 hB o (List.mem_of_mem_drop ho)) a ha;have h2:=kd0 (l.drop i) i a w (fun j _=>by rw[List.getElem?_drop];simp) h1;have:=iz0 (Z:=Z) (b:=b) (k:=k) (cs:=cs) (suf:=[]) hZ hb (fun ch a' w' hx=>by obtain⟨_,_,hx⟩:=hx;exact hx.elim) (fun a' w' hx=>by
  obtain⟨e',r,hq⟩:=hx;exact ZA.O4 hZ hq a' r) _ a w h2
 rwa [List.append_nil]at this
theorem ZA.give {j:Nat} {s:S6} {st:ig0} {K:S6->Prop} (hb:b.kind≠.early) (ho:ops[i]? =some ⟨none,.send x y,ty,ps,af,none⟩) (hx:ev e x= .chan (some s.ch)) (hy:ev e y=v) (hj:X.W1 j=some s) (hjh:j≠h) (hdn:X.dn=0) (S2:X.stay h=st)
  (yt0:At (YS P (h==0) st K) ft n b cs [] 0 e (.inRegion ops rest::k)) (hsh:∀s',K s'->X.chs s'.ch/\∀i s2,i≠j->X.W1 i=some s2->s2.ch≠s'.ch)
  (hF:∀s',K s'->Fin P Post (X.pass h j (some s')) j (Go.Conc.served s.me v) w):ZA (Fin P Post X h) n b cs e (.inRegion ops (i::rest)::k) w:=by
 intro a ha;have Pg0:a.put none undef=a:=rfl;obtain⟨s',hK,hw⟩:=yt0 a (qf0 ha);refine Fin.give (a₂:=G (b.at a (.inRegion ops (i::rest)::k)) cs) (s:=s) (j:=j) (nh:=ft) (v:=v) (z':=.tuple #[]) rfl hj hjh hdn (xd0 hb ho (by rw[ha.eval];exact hx) (by rw[ha.eval];exact hy)) (some s') (fun s2 e2=>by cases e2;exact hsh s' hK) ?_ (hF s' hK);unfold yv0;rw[mk0 ho,S2];exact hw
theorem ZA.qg0 {j:Nat} {s:S6} {gr:K7} (hb:b.kind≠.early) (ho:ops[i]? =some ⟨none,.send x y,ty,ps,af,none⟩) (hx:ev e x= .chan (some s.ch)) (hy:ev e y=v) (hj:X.W1 j=some s) (hjh:j≠h) (hdn:X.dn=0) (hh:0<h) (j3:X.J4=some gr)
  (yt0:At (YLt P gr) ft n b cs [] 0 e (.inRegion ops rest::k)) (hF:Fin P Post (X.pass h j none) j (Go.Conc.served s.me v) w):ZA (Fin P Post X h) n b cs e (.inRegion ops (i::rest)::k) w:=by
 intro a ha;refine Fin.give (a₂:=G (b.at a (.inRegion ops (i::rest)::k)) cs) (s:=s) (j:=j) (nh:=ft) (v:=v) (z':=.tuple #[]) rfl hj hjh hdn (xd0 hb ho (by rw[ha.eval];exact hx) (by rw[ha.eval];exact hy)) none (fun s2 e2=>by cases e2) ?_ hF;unfold yv0;rw[mk0 ho];exact⟨hh,gr,j3,yt0 a (qf0 ha)⟩
theorem ZA.spawn {f:FuncId} {asx:Array Operand} {ats:Array TypeId} {st:ig0} {K:S6->Prop} {vs:Array Value} {gr:K7} (hb:b.kind≠.early) (ho:ops[i]? =some ⟨none,.go {callee:=.value (.func f),args:=asx,argTypes:=ats},ty,ps,af,none⟩) (hvs:asx.map (ev e)=vs) (hdn:X.dn=0) (hp:X.pend=1) (j3:X.J4=some gr) (S2:X.stay 0=st)
  (yt0:At (YS P true st K) ft n b cs [] 0 e (.inRegion ops rest::k)) (hsh:∀s',K s'->X.chs s'.ch/\∀i s2,X.W1 i=some s2->s2.ch≠s'.ch)
  (hF:∀s',K s'->Fin P Post (X.hire s') X.n (born P (dcall f vs)) w):ZA (Fin P Post X 0) n b cs e (.inRegion ops (i::rest)::k) w:=by
 intro a ha;have Pg0:a.put none undef=a:=rfl;obtain⟨s',hK,hw⟩:=yt0 a (qf0 ha);refine Fin.spawn (g':=G (b.at (a.put none undef) (.inRegion ops rest::k)) cs) (child:=born P (dcall f vs)) (s:=s') (nh:=ft) (G:=gr) rfl hdn hp j3 (fun w=>?_) (hsh s' hK).1 (hsh s' hK).2 (by rw[S2];exact hw) (hF s' hK);rw[Pe0 hb ho,ha.eval,hvs]
theorem AtR.saved {Y:Nat->Nat->Goroutine->Prop} {main:Bool} {ok:Event->Prop} (hY:HF P main ok Y) {c c':Frame} {fn:Func} {todo:List Item} {d:Nat} (hs:ae1 c c') (hn:b.kind= .deferred) (hf:P.funcs[b.fn]? =some fn) (hr:fn.results=#[]) (h:Y ft d (G {c with mode:=.returning} cs)):AtR Y (ft+1) n b (c'::cs) [] d e todo:=by
 intro a ha;rcases hs with⟨hc,rfl⟩|⟨v,H4,ho,rfl⟩
 ·have:({c' with mode:=.returning}:Frame)=c':=by rw[<- hc]
  rw[this]at h;exact hY.c rfl rfl (fun w=>stepG_leave_deferred hn ha.defers hf (results_none hr _ P w) (events_results_none hr _ _) hc) h
 ·refine hY.c rfl rfl (fun w=>?_) h;exact mm0 hn ha.defers hf (results_none hr _ P w) (events_results_none hr _ _) rfl ho
end
end Go.Vy
end
section
namespace Go.Vy.Sc
open Go Go.Conc Go.Yc Go.RowKit Go.Proofs Go.Proofs.YtinppmaojmdmhaaGreat Tryz
open Go.Vc Go.Wg
structure qh0 (cs:List Frame) (cb:Nat) (df:Value) (me:Goroutine):Prop where
 yes:∀(C0:Ctx prog) (Z:Goroutine->World->Prop),@Ctx.Zs prog C0 Z->∀(u:World) (K:World->Prop),Jt0 prog C0 df u K->(∀u2 fr,K u2->fr.fn=126->Leaves prog fr u2 (.returned (.tuple #[]))->Z (G fr cs) u2)->Z (Go.Conc.served me (.bool true)) u
 no:∀Z,@Ctx.Zs prog (B2 prog false) Z->∀(u:World) (S:Nat->Prop) (B:Nat) (w0:World) (Bs:Nat) (R:Rn) (i:Nat) (c:CB),Rg S B w0 u Bs R->R.cl[i]? =some c->c.cb=cb->(∀u2 fr ch,Rg S B w0 u2 Bs {R with cl:=R.cl.set i {c with st:=true}}->fr.fn=126->m6 ch->Leaves prog fr u2 (.panicked ch)->Z (G fr cs) u2)->Z (Go.Conc.served me (.bool false)) u
theorem li0 {f:FuncId} {fn:Func} {n:Nat} {a:Act} {e:Env} {todo:List Item} {ch:List PanicEntry} {w:World} (hf:prog.funcs[f]? =some fn) (ha:Rep n a e):Leaves prog {(base f).at a todo with mode:=.panicking ch} w (.panicked ch) :=
 ⟨rfl,ha.defers,by simp[Frame.catches,Frame.at,base,hf]⟩
theorem ma1:prog.built 268 []=some #[]:=by kernel_rfl
theorem B7 {l:List CB} {i:Nat} {c c':CB} (h:l[i]? =some c):(l.set i c')[i]? =some c':=by
 have:=(List.getElem?_eq_some_iff.1 h).1;simp[this]
theorem Vp0 {S:Nat->Prop} {B:Nat} {w0 w:World} {Bs:Nat} {R:Rn} {i:Nat} {c1 c2 c3 c4:CB} (h:Rg S B w0 w Bs {R with cl:=(((R.cl.set i c1).set i c2).set i c3).set i c4}):Rg S B w0 w Bs {R with cl:=R.cl.set i c4}:=by
 simpa using h
set_option maxRecDepth 20000 in
theorem step_fin {Post:Value->World->Prop} {X:Gh} {g:Nat} {S:Nat->Prop} {B:Nat} {w0:World} {Bs:Nat} {R:Rn} {w:World} {i:Nat} {c:CB} {s:Stp} {rf df:Value} {cs:List Frame} {z0:Value} {me0:Goroutine}
  (hg:Rg S B w0 w Bs R) (hc:R.cl[i]? =some c) (rv1:c.st=false) (hrf:rf.cells=#[rf]/\rf.oneCell'=true) (hdf:df.cells=#[df]/\df.oneCell'=true)
  (hg0:g≠0) (hX0:X.W1 0=some ⟨R.yb,z0,me0⟩) (hdn:X.dn=0) (S2:X.stay g=[(⟨c.cb,2,none⟩,.chan (some c.rc))]) (hsh:X.chs c.rc/\∀i s2,i≠0->X.W1 i=some s2->s2.ch≠c.rc)
  (I9:∀w' me,Rg S B w0 w' Bs {R with cl:=R.cl.set i {c with sp:=s,rf:=rf,df:=df,wt:=true}}->qh0 cs c.cb df me->Fin prog Post (X.pass g 0 (some ⟨c.rc,.bool false,me⟩)) 0 (Go.Conc.served me0 (.i (i:Int))) w') :
  Fin prog Post X g (G (Frame.enter prog 126 #[.p c.cb,ld0 s,rf,df] .normal) cs) w:=by
 letI:Ctx prog:=B2 prog (g==0);rw[enter_at _ func126 rfl];refine(?_:ZA (Fin prog Post X g) 63 (base 126) cs (Vc.bq0 #[.p c.cb,ld0 s,rf,df]) [.code (Tryz.f126.body.getD .skip)] w) _ (p8 _ _ rfl);have hZ:Ctx.Zs prog (Fin prog Post X g):=E6;have hb:=M1 126;refine U4 ?_;refine L.box (cs:=#[.i s.kind,.i s.obj,.i s.num]) rfl rfl (fun w b5 F5=>?_);have hg:=hg.j0 F5.below;have I2:=F5.blk;refine U11 ?_;refine U526 ?_;refine U72 ?_;refine U4 ?_;refine U63 ?_;refine L.va (A0 rfl underlying4 rfl ((hg.m.blk i c hc).q0 10 (v:=.bool c.st) rfl)) ?_;refine U2 ?_;refine ZA.V6 hZ (rb rv1) ?_;refine ZA.skip hZ ?_;refine U12 ?_;refine U188 ?_;refine L.va (H3 rfl) ?_;refine L.va (D2 (cs:=[.i s.kind,.i s.obj,.i s.num]) rfl underlying65 rfl ta0 rfl (I2.T6 rfl)) ?_;refine U211 ?_;refine L.va (E1 rfl) ?_;refine L.va (B0 rfl underlying248 rfl ta0 (by decide)) ?_;refine L.stC (i:=i) (o:=3) (vs:=[.i s.kind,.i s.obj,.i s.num]) hg {c with sp:=s} hc rfl rfl rfl rfl ta0 rfl rfl (by decide) rfl (fun w hg j3=>?_)
 try clear j3
 refine L.va (E1 rfl) ?_;refine L.va (B0 rfl underlying248 rfl cm1 (by decide)) ?_;refine L.stC (i:=i) (o:=6) (vs:=[rf]) hg {{c with sp:=s} with rf:=rf} (B7 hc) rfl rfl rfl (congrArg Array.toList hrf.1) cm1 rfl (by simp[hrf.2]) (by decide) rfl (fun w hg j3=>?_)
 try clear j3
 refine L.va (E1 rfl) ?_;refine L.va (B0 rfl underlying248 rfl sz1 (by decide)) ?_;refine L.stC (i:=i) (o:=7) (vs:=[df]) hg {{{c with sp:=s} with rf:=rf} with df:=df} (B7 (B7 hc)) rfl rfl rfl (congrArg Array.toList hdf.1) sz1 rfl (by simp[hdf.2]) (by decide) rfl (fun w hg j3=>?_)
 try clear j3
 refine U113 ?_;refine L.stC (i:=i) (o:=9) (vs:=[.bool true]) hg {{{{c with sp:=s} with rf:=rf} with df:=df} with wt:=true} (B7 (B7 (B7 hc))) rfl rfl rfl rfl sz4 rfl rfl (by decide) rfl (fun w hg j3=>?_)
 try clear j3
 refine U11 ?_;refine ZA.nt0 hZ hb 11 (fun w'=>Below w.heap.size w w') (by kernel_rfl) (by kernel_rfl) (by kernel_rfl) (by kernel_rfl) (Below.refl w.heap.size w).drew ?_;refine U60 ?_;refine D.va (fun w' L1=>(B0 rfl underlying248 rfl Hy0 (by decide))) ?_;refine D.va (fun w' L1=>(A0 rfl underlying169 rfl (((hg.m.blk i _ (B7 (B7 (B7 (B7 hc))))).j0 L1).q0 1 (v:=.p R.rb) rfl))) ?_;refine D.va (fun w' L1=>(E1 rfl)) ?_;refine U157 ?_;refine U60 ?_;refine D.va (fun w' L1=>(B0 rfl underlying248 rfl sz3 (by decide))) ?_;refine D.va (fun w' L1=>(A0 rfl underlying3 rfl (((hg.m.blk i _ (B7 (B7 (B7 (B7 hc))))).j0 L1).q0 0 (v:=.i (i:Int)) rfl))) ?_;refine U149 ?_;intro w O2 hg;clear O2;refine ZA.give (i:=11) (rest:=[]) (s:=⟨R.yb,z0,me0⟩) (st:=[(⟨c.cb,2,none⟩,.chan (some c.rc))]) (K:=fun s=>s.ch=c.rc/\s.z= .bool false/\qh0 cs c.cb df s.me) (ft:=60) hb rfl rfl rfl hX0 hg0.symm hdn S2 ?_ ?_ ?_
 ·have rw1:(g==0)=false:=by simpa using hg0
  rw[rw1];have hY:=zj0 (P:=prog) (main:=false) (l:=[((⟨c.cb,2,none⟩:Addr),Value.chan (some c.rc))]) (K:=fun s=>s.ch=c.rc/\s.z= .bool false/\qh0 cs c.cb df s.me);refine At.O4 hY ?_;refine At.seq hY ?_;refine At.seq hY ?_;refine At.region hY ?_;refine N0.val hY hb rfl (v:=.p c.cb) (M0 rfl) ?_;refine N0.val hY hb rfl (J5 rfl) ?_;refine N0.val hY hb rfl (px0 rfl underlying248 rfl Zl0 (by decide)) ?_;refine N0.stay (v:=.chan (some c.rc)) hb rfl (by simp) rfl underlying246 rfl ?_;refine N0.W1 (E:=4) (z:=.bool false) hb underlying246 zr4 rfl (fun me hs=>⟨rfl,rfl,⟨?_,?_⟩⟩) rfl
  ·intro C0 Z hZ w K hdo hK;refine hs.go ?_;letI:Ctx prog:=C0;refine ZA.more hZ hb 5 rfl ?_;show L _ _ _ _ _ _ _;refine U231 ?_;refine L.va (nq0 rfl) ?_;refine U72 ?_;rcases hdo with⟨h1,h2⟩|⟨f,caps,⟨h1,fn,hf,hbd,hnm⟩,By0⟩
   all_goals subst h1
   ·refine ZA.W hZ hb ?_;refine U126 ?_;refine L.va (cq0 (v:=.nilFunc) (b:=false) rfl (.inl ⟨rfl,rfl⟩) rfl underlying1 ⟨_,_,_,rfl⟩) ?_;refine U124 ?_;exact U447
   ·refine ZA.W hZ hb ?_;refine U126 ?_;refine L.va (cq0 (v:=.func (.func f) #[] caps) (b:=true) rfl (.inr ⟨_,_,_,rfl,rfl⟩) rfl underlying1 ⟨_,_,_,rfl⟩) ?_;refine U50 ?_;refine U150 ?_;refine L.va v5 ?_;refine L.call (in0 rfl hf hbd hnm) By0 ?_;rintro _ w h2;refine U2 ?_;exact U447
  ·intro Z hZ w S B w0 Bs R i c2 hg hc hcb hK;refine hs.go ?_;letI:Ctx prog:=B2 prog false
   skip
   refine ZA.more hZ hb 5 rfl ?_;show L _ _ _ _ _ _ _;refine U231 ?_;refine L.va (nq0 rfl) ?_;refine U50 ?_;refine U4 ?_;refine U63 ?_;refine L.stC (i:=i) (o:=10) (vs:=[.bool true]) hg {c2 with st:=true} hc rfl (by rw[hcb];rfl) rfl rfl sz4 rfl rfl (by decide) rfl (fun w hg j3=>?_)
   try clear j3
   refine U2 ?_;refine ZA.panics hZ hb ?_;refine W.region rfl ?_;refine L.va (G2 (parts:=[]) rfl ma1) ?_;refine L.va (bh0 (v:=.agg #[]) rfl underlying268 rfl) ?_;refine L.Pf0 rfl ⟨_,rfl,fun a todo ha=>?_⟩;exact hK _ _ _ hg rfl ⟨_,_,rfl,rfl⟩ (li0 func126 ha)
 ·rintro s2 ⟨h1,_,_⟩;rw[h1];exact hsh
 ·rintro⟨ch,z,me⟩ ⟨h1,h2,h3⟩;cases h1;cases h2;exact I9 _ me (Vp0 hg) h3
section
attribute [local irreducible] KK
abbrev fh0 (a b:Nat):Array Value:=#[.p a,.p b]
theorem zk0 (gr:K7) {n:Nat} {a:Act} {todo:List Item} (hd:a.defers=[dcall 62 #[.pointer (some ⟨gr.blk,gr.off,none⟩)]]):∃m,Lt prog gr m 0 (G {(baseD 128).at a todo with mode:=.returning} [G9 prog]):=by
 have hq:QuitsD prog 2 0 (G {(baseD 128).at ⟨a.tmps,[]⟩ todo with mode:=.returning} [G9 prog]):=by
  refine .inr ⟨rfl,_,#[],fun e he=>by simp at he,fun w=>Kd0 (fn:=Tryz.f128) rfl rfl func128 (results_none rfl _ _ w) (events_results_none rfl _ _),?_⟩;refine .inr ⟨rfl,_,#[],fun e he=>by simp at he,fun w=>Ke0,?_⟩;exact⟨rfl,rfl⟩
 obtain⟨m,hm⟩:=Vm0 gr (c:={(baseD 128).at ⟨a.tmps,[]⟩ todo with mode:=.returning}) rfl hq;refine⟨m+1,?_⟩;exact(T3 prog gr).c rfl rfl (fun w=>ea0 (f:=62) (fn:=Tryz.f62) (caps:=#[]) (args:=#[.pointer (some ⟨gr.blk,gr.off,none⟩)]) (by simp) hd func62 re1 rfl) hm
theorem mb1:prog.built 268 []=some #[]:=by kernel_rfl
set_option maxRecDepth 20000 in
theorem Fk0 {Z:Goroutine->World->Prop} (hZ:@Ctx.Zs prog (B2 prog false) Z) {rb0 i:Nat} {c:CB} {w0:World} (hC:O1 w0 c.cb (c.cells rb0 i) 248 (0,3)) (S2:c.st=true) {s:Stp} {rf df:Value} {cs:List Frame}
  (hK:∀w' fr ch,Below w0.heap.size w0 w'->fr.fn=126->m6 ch->Leaves prog fr w' (.panicked ch)->Z (G fr cs) w'):Z (G (Frame.enter prog 126 #[.p c.cb,ld0 s,rf,df] .normal) cs) w0:=by
 letI:Ctx prog:=B2 prog false;rw[enter_at _ func126 rfl];refine(?_:ZA Z 63 (base 126) cs (Vc.bq0 #[.p c.cb,ld0 s,rf,df]) [.code (Tryz.f126.body.getD .skip)] w0) _ (p8 _ _ rfl);have hb:=M1 126;have hb0:Below w0.heap.size w0 w0:=Below.refl _ _;refine U4 ?_;refine L.box (cs:=#[.i s.kind,.i s.obj,.i s.num]) rfl rfl (fun w b5 F5=>?_);have hb0:=G0 hb0 F5.below;have hC:=hC.j0 F5.below;refine U11 ?_;refine U526 ?_;refine U72 ?_;refine U4 ?_;refine U63 ?_;refine L.va (A0 rfl underlying4 rfl (hC.q0 10 (v:=.bool c.st) rfl)) ?_;refine U2 ?_;refine ZA.W7 hZ (rb S2) ?_;refine ZA.panics hZ hb ?_;refine W.region rfl ?_;refine L.va (G2 (parts:=[]) rfl mb1) ?_;refine L.va (bh0 (v:=.agg #[]) rfl underlying268 rfl) ?_;refine L.Pf0 rfl ⟨_,rfl,fun a todo ha=>?_⟩;exact hK _ _ _ hb0 rfl ⟨_,_,rfl,rfl⟩ (li0 func126 ha)
set_option maxRecDepth 20000 in
theorem Ph0 {Post:Value->World->Prop} {X:Gh} {g:Nat} {S:Nat->Prop} {B:Nat} {w0:World} {Bs:Nat} {R:Rn} {w:World} {i:Nat} {c:CB} {z0:Value} {me0:Goroutine} {M8 Y7:Nat} {en:Bool} {a45:Act} {o9:List Item} {md:FrameMode}
  (hg:Rg S B w0 w Bs R) (hc:R.cl[i]? =some c) (S2:c.st=true) (hA:O1 w M8 #[.p c.cb] 123 (0,0)) (hE:O1 w Y7 #[.bool en] 4 (0,0)) (hg0:0<g) (hX0:X.W1 0=some ⟨R.yb,z0,me0⟩) (hdn:X.dn=0) (qi0:X.J4=some ⟨R.rb,8⟩)
  (hmd:md= .returning\/∃v H4,md= .panicking ({v,recovered:=false} :: H4)/\H4.dropWhile (!·.goexit)=[]) (zl0:a45.defers=[dcall 62 #[.pointer (some ⟨R.rb,8,none⟩)]])
  (I9:∀w',Rg S B w0 w' Bs {R with ends:=R.ends.set i 0,cl:=R.cl.set i {c with wt:=false}}->Fin prog Post (X.pass g 0 none) 0 (Go.Conc.served me0 (.i (i:Int))) w') :
  Fin prog Post X g (G ((baseD 151).at {tmps:=((#[]:Array Value)++fh0 M8 Y7)++Array.replicate (Tryz.f151.ntmps-((#[]:Array Value)++fh0 M8 Y7).size) undef,defers:=[]} [.code (Tryz.f151.body.getD .skip)]) [{(baseD 128).at a45 o9 with mode:=md},G9 prog]) w:=by
 letI:Ctx prog:=B2 prog (g==0);refine(?_:ZA (Fin prog Post X g) 63 (baseD 151) [{(baseD 128).at a45 o9 with mode:=md},G9 prog] (Vc.bq0 ((#[]:Array Value)++fh0 M8 Y7)) [.code (Tryz.f151.body.getD .skip)] w) _ (p8 _ _ rfl);refine U331 ?_;intro hZ hb;have hi:i<R.m:=Nat.lt_of_lt_of_le (List.getElem?_eq_some_iff.1 hc).1 hg.m.lcl;refine ZA.seq hZ ?_;refine U298 ?_;intro c45 v hsv;refine U47 ?_;refine U334 ?_;refine U276 ?_;refine U34 ?_;refine ZA.W7 hZ (rb S2) ?_;refine ZA.W hZ hb ?_;refine U100 ?_;intro hR hC;refine U264 ?_;refine U269 ?_;refine U282 ?_;refine U167 ?_;refine U261 ?_;refine D.nil (fun w O2=>?_);have hA:=hA.j0 O2;have hE:=hE.j0 O2;have hg:=hg.j0 O2;have hR:=hR.j0 O2;have hC:=hC.j0 O2;clear O2;have neA:=O1.ne hA hg.m.ends (by decide);refine U305 ?_;intro neE w hg j3;have hA:=hA.other j3 neA;clear neA neE j3;have hc:(Rn.cl {R with ends:=R.ends.set i 0})[i]? =some c:=hc;refine L.nil ?_
 try clear hR
 try clear hC
 refine U91 ?_;refine U329 ?_;refine U113 ?_;refine U271 ?_;intro neA w hg j3;have hA:=hA.other j3 neA;refine U263 ?_;refine U166 ?_;refine U262 ?_;refine U157 ?_;refine U272 ?_;refine U149 ?_;intro w O2 hg;clear O2;obtain⟨m,hm⟩:=zk0 ⟨R.rb,8⟩ (n:=0) (a:=a45) (todo:=o9) zl0;refine ZA.qg0 (i:=11) (rest:=[]) (s:=⟨R.yb,z0,me0⟩) (gr:=⟨R.rb,8⟩) (ft:=m+3) hb rfl rfl rfl hX0 (Nat.ne_of_lt hg0) hdn hg0 qi0 ?_ ?_
 ·refine At.O4 (T3 _ _) ?_;refine At.done (T3 _ _) (fun _=>?_);exact AtR.saved (T3 _ _) hsv rfl func151 rfl hm
 ·exact I9 _ hg
set_option maxRecDepth 20000 in
theorem Pi0 {Post:Value->World->Prop} {X:Gh} {g:Nat} {S:Nat->Prop} {B:Nat} {w0:World} {Bs:Nat} {R:Rn} {w:World} {i:Nat} {c:CB} {z0:Value} {me0:Goroutine} {M8 Y7:Nat} {en:Bool} {a45:Act} {o9:List Item} {md:FrameMode}
  (hg:Rg S B w0 w Bs R) (hc:R.cl[i]? =some c) (S2:c.st=false) (hA:O1 w M8 #[.p c.cb] 123 (0,0)) (hE:O1 w Y7 #[.bool true] 4 (0,0)) (hg0:0<g) (hX0:X.W1 0=some ⟨R.yb,z0,me0⟩) (hdn:X.dn=0) (qi0:X.J4=some ⟨R.rb,8⟩)
  (hmd:md= .returning\/∃v H4,md= .panicking ({v,recovered:=false} :: H4)/\H4.dropWhile (!·.goexit)=[]) (zl0:a45.defers=[dcall 62 #[.pointer (some ⟨R.rb,8,none⟩)]])
  (I9:∀w',Rg S B w0 w' Bs {R with ends:=R.ends.set i 1,cl:=R.cl.set i {c with wt:=false}}->Fin prog Post (X.pass g 0 none) 0 (Go.Conc.served me0 (.i (i:Int))) w') :
  Fin prog Post X g (G ((baseD 151).at {tmps:=((#[]:Array Value)++fh0 M8 Y7)++Array.replicate (Tryz.f151.ntmps-((#[]:Array Value)++fh0 M8 Y7).size) undef,defers:=[]} [.code (Tryz.f151.body.getD .skip)]) [{(baseD 128).at a45 o9 with mode:=md},G9 prog]) w:=by
 letI:Ctx prog:=B2 prog (g==0);refine(?_:ZA (Fin prog Post X g) 63 (baseD 151) [{(baseD 128).at a45 o9 with mode:=md},G9 prog] (Vc.bq0 ((#[]:Array Value)++fh0 M8 Y7)) [.code (Tryz.f151.body.getD .skip)] w) _ (p8 _ _ rfl);refine U331 ?_;intro hZ hb;have hi:i<R.m:=Nat.lt_of_lt_of_le (List.getElem?_eq_some_iff.1 hc).1 hg.m.lcl;refine ZA.seq hZ ?_;refine U298 ?_;intro c45 v hsv;refine U47 ?_;refine U334 ?_;refine U276 ?_;refine U34 ?_;refine ZA.V6 hZ (rb S2) ?_;refine U4 ?_;refine L.va (A0 rfl underlying4 rfl (hE.q0 0 (v:=.bool true) rfl)) ?_;refine U34 ?_;refine ZA.W7 hZ rfl ?_;refine ZA.W hZ hb ?_;refine U100 ?_;intro hR hC;refine U264 ?_;refine U269 ?_;refine U282 ?_;refine U167 ?_;refine U261 ?_;refine D.nil (fun w O2=>?_);have hA:=hA.j0 O2;have hE:=hE.j0 O2;have hg:=hg.j0 O2;have hR:=hR.j0 O2;have hC:=hC.j0 O2;clear O2;have neA:=O1.ne hA hg.m.ends (by decide);refine U305 ?_;intro neE w hg j3;have hA:=hA.other j3 neA;clear neA neE j3;have hc:(Rn.cl {R with ends:=R.ends.set i 1})[i]? =some c:=hc;refine L.nil ?_
 try clear hR
 try clear hC
 refine U91 ?_;refine U329 ?_;refine U113 ?_;refine U271 ?_;intro neA w hg j3;have hA:=hA.other j3 neA;refine U263 ?_;refine U166 ?_;refine U262 ?_;refine U157 ?_;refine U272 ?_;refine U149 ?_;intro w O2 hg;clear O2;obtain⟨m,hm⟩:=zk0 ⟨R.rb,8⟩ (n:=0) (a:=a45) (todo:=o9) zl0;refine ZA.qg0 (i:=11) (rest:=[]) (s:=⟨R.yb,z0,me0⟩) (gr:=⟨R.rb,8⟩) (ft:=m+3) hb rfl rfl rfl hX0 (Nat.ne_of_lt hg0) hdn hg0 qi0 ?_ ?_
 ·refine At.O4 (T3 _ _) ?_;refine At.done (T3 _ _) (fun _=>?_);exact AtR.saved (T3 _ _) hsv rfl func151 rfl hm
 ·exact I9 _ hg
set_option maxRecDepth 20000 in
theorem Pj0 {Post:Value->World->Prop} {X:Gh} {g:Nat} {S:Nat->Prop} {B:Nat} {w0:World} {Bs:Nat} {R:Rn} {w:World} {i:Nat} {c:CB} {z0:Value} {me0:Goroutine} {M8 Y7:Nat} {en:Bool} {a45:Act} {o9:List Item} {md:FrameMode}
  (hg:Rg S B w0 w Bs R) (hc:R.cl[i]? =some c) (S2:c.st=false) (hA:O1 w M8 #[.p c.cb] 123 (0,0)) (hE:O1 w Y7 #[.bool false] 4 (0,0)) (hg0:0<g) (hX0:X.W1 0=some ⟨R.yb,z0,me0⟩) (hdn:X.dn=0) (qi0:X.J4=some ⟨R.rb,8⟩)
  (hmd:md= .returning\/∃v H4,md= .panicking ({v,recovered:=false} :: H4)/\H4.dropWhile (!·.goexit)=[]) (zl0:a45.defers=[dcall 62 #[.pointer (some ⟨R.rb,8,none⟩)]])
  (I9:∀w',Rg S B w0 w' Bs {R with ends:=R.ends.set i 2,cl:=R.cl.set i {c with wt:=false}}->Fin prog Post (X.pass g 0 none) 0 (Go.Conc.served me0 (.i (i:Int))) w') :
  Fin prog Post X g (G ((baseD 151).at {tmps:=((#[]:Array Value)++fh0 M8 Y7)++Array.replicate (Tryz.f151.ntmps-((#[]:Array Value)++fh0 M8 Y7).size) undef,defers:=[]} [.code (Tryz.f151.body.getD .skip)]) [{(baseD 128).at a45 o9 with mode:=md},G9 prog]) w:=by
 letI:Ctx prog:=B2 prog (g==0);refine(?_:ZA (Fin prog Post X g) 63 (baseD 151) [{(baseD 128).at a45 o9 with mode:=md},G9 prog] (Vc.bq0 ((#[]:Array Value)++fh0 M8 Y7)) [.code (Tryz.f151.body.getD .skip)] w) _ (p8 _ _ rfl);refine U331 ?_;intro hZ hb;have hi:i<R.m:=Nat.lt_of_lt_of_le (List.getElem?_eq_some_iff.1 hc).1 hg.m.lcl;refine ZA.seq hZ ?_;refine U298 ?_;intro c45 v hsv;refine U47 ?_;refine U334 ?_;refine U276 ?_;refine U34 ?_;refine ZA.V6 hZ (rb S2) ?_;refine U4 ?_;refine L.va (A0 rfl underlying4 rfl (hE.q0 0 (v:=.bool false) rfl)) ?_;refine U34 ?_;refine ZA.V6 hZ rfl ?_;refine ZA.W hZ hb ?_;refine U100 ?_;intro hR hC;refine U264 ?_;refine U269 ?_;refine U282 ?_;refine U167 ?_;refine U261 ?_;refine D.nil (fun w O2=>?_);have hA:=hA.j0 O2;have hE:=hE.j0 O2;have hg:=hg.j0 O2;have hR:=hR.j0 O2;have hC:=hC.j0 O2;clear O2;have neA:=O1.ne hA hg.m.ends (by decide);refine U305 ?_;intro neE w hg j3;have hA:=hA.other j3 neA;clear neA neE j3;have hc:(Rn.cl {R with ends:=R.ends.set i 2})[i]? =some c:=hc;refine L.nil ?_
 try clear hR
 try clear hC
 refine U91 ?_;refine U329 ?_;refine U113 ?_;refine U271 ?_;intro neA w hg j3;have hA:=hA.other j3 neA;refine U263 ?_;refine U166 ?_;refine U262 ?_;refine U157 ?_;refine U272 ?_;refine U149 ?_;intro w O2 hg;clear O2;obtain⟨m,hm⟩:=zk0 ⟨R.rb,8⟩ (n:=0) (a:=a45) (todo:=o9) zl0;refine ZA.qg0 (i:=11) (rest:=[]) (s:=⟨R.yb,z0,me0⟩) (gr:=⟨R.rb,8⟩) (ft:=m+3) hb rfl rfl rfl hX0 (Nat.ne_of_lt hg0) hdn hg0 qi0 ?_ ?_
 ·refine At.O4 (T3 _ _) ?_;refine At.done (T3 _ _) (fun _=>?_);exact AtR.saved (T3 _ _) hsv rfl func151 rfl hm
 ·exact I9 _ hg
end
section
attribute [local irreducible] KK
theorem Rg.side {S:Nat->Prop} {B:Nat} {w0 w:World} {Bs:Nat} {R:Rn} (h:Rg S B w0 w Bs R) {b:Nat} {cs k7:Array Value} {T:TypeId} {f:Nat×Nat} (hb:O1 w b cs T f) (hT:T≠173/\T≠123/\T≠67/\T≠63/\T≠3/\T≠65/\T≠248) (hS:S b\/B <=b):Rg S B w0 (S1 w b k7 T f) Bs R:=by
 have j3:=C2 w b k7 T f;have hr:∀T':TypeId,T'≠T->∀r,some b=some r->∃k7 T'' f',O1 w r k7 T'' f'/\T'≠T'':=fun T' hT r e=>by cases e;exact⟨_,_,_,hb,hT⟩
 have hm:w5 (S1 w b k7 T f) Bs R:=⟨T2 h.m.run j3 (hr _ (Ne.symm hT.1)),R4 h.m.cls j3 (hr _ (Ne.symm hT.2.1)),R4 h.m.evs j3 (hr _ (Ne.symm hT.2.2.1)),R4 h.m.nts j3 (hr _ (Ne.symm hT.2.2.2.1)),T2 h.m.ends j3 (hr _ (Ne.symm hT.2.2.2.2.1)),T2 h.m.wts j3 (hr _ (Ne.symm hT.2.2.2.2.2.1)),h.m.hw0,h.m.mj0,h.m.lcl,fun i c hc=>T2 (h.m.blk i c hc) j3 (hr _ (Ne.symm hT.2.2.2.2.2.2))⟩
 exact⟨hm,h.md.grown j3 h.le (fun r e=>by cases e;exact hS),h.fp,by rw[O6];exact h.le⟩
def mc1 (c:CB) (x:Int):Ending->Prop
 | .returned _=>(c.st=true/\x=0)\/(c.st=false/\x=1)
 | .panicked ch=>m6 ch/\((c.st=true/\x=0)\/(c.st=false/\x=2))
 | .outgrown=>False
structure Pk0 (top:List Frame) (M8 Y7 rb cb:Nat):Prop where
 leave:∀{Post:Value->World->Prop} {X:Gh} {g:Nat} {S:Nat->Prop} {B:Nat} {w0:World} {Bs:Nat} {R:Rn} {w:World} {i:Nat} {c:CB} {z0:Value} {me0:Goroutine} {fr:Frame} {e:Ending} (x:Int),Rg S B w0 w Bs R->R.rb=rb->R.cl[i]? =some c->c.cb=cb ->
  O1 w M8 #[.p cb] 123 (0,0)->O1 w Y7 #[.bool false] 4 (0,0)->(S Y7\/B <=Y7)->mc1 c x e->0<g->X.W1 0=some ⟨R.yb,z0,me0⟩->X.dn=0->X.J4=some ⟨rb,8⟩ ->
  (∀w',Rg S B w0 w' Bs {R with ends:=R.ends.set i x,cl:=R.cl.set i {c with wt:=false}}->(∃en,O1 w' Y7 #[.bool en] 4 (0,0))->Fin prog Post (X.pass g 0 none) 0 (Go.Conc.served me0 (.i (i:Int))) w') ->
  Leaves prog fr w e->Fin prog Post X g (G fr top) w
theorem w5.af1 {w:World} {Bs:Nat} {R:Rn} (h:w5 w Bs R) {b:Nat} {cs:Array Value} {T:TypeId} {f:Nat×Nat} (hb:O1 w b cs T f) (hT:T≠173/\T≠123/\T≠67/\T≠63/\T≠3/\T≠65/\T≠248):¬R.fp b:=by
 intro hk;have own:∀{E:TypeId} {s n c:Nat} {a:Option Addr} {xs:List Value},Own w Bs E s a n c xs->a≠none->b=ab a->T≠E->False:=fun ho ha e N3=>by
  obtain⟨cur,hB,_⟩:=ho.row ha;exact O1.ne (f:=(0,0)) hB hb (Ne.symm N3) e.symm
 rcases hk with rfl|rfl|rfl|⟨ha,e⟩|⟨ha,e⟩|⟨ha,e⟩|⟨i,c,hc,rfl⟩
 ·exact O1.ne hb h.run hT.1 rfl
 ·exact O1.ne hb h.ends hT.2.2.2.2.1 rfl
 ·exact O1.ne hb h.wts hT.2.2.2.2.2.1 rfl
 ·exact own h.cls ha e hT.2.1
 ·exact own h.evs ha e hT.2.2.1
 ·exact own h.nts ha e hT.2.2.2.1
 ·exact O1.ne hb (h.blk i c hc) hT.2.2.2.2.2.2 rfl
theorem Rg.then {S:Nat->Prop} {B:Nat} {w0 w w':World} {Bs:Nat} {R R':Rn} (h:Rg S B w0 w Bs R) (h':Rg R.fp w.heap.size w w' Bs R'):Rg S B w0 w' Bs R' :=
 ⟨h'.m,⟨h'.md.os.trans h.md.os,h'.md.tape.trans h.md.tape,h'.md.output.trans h.md.output,Nat.le_trans h.md.size h'.md.size,fun k hk hs=>(h'.md.block k (Nat.lt_of_lt_of_le hk h.le) fun z=>(h.fp k z).elim hs (Nat.not_le_of_lt hk)).trans (h.md.block k hk hs)⟩,fun k hk=>by
  rcases h'.fp k hk with z|z
  ·exact h.fp k z
  ·exact .inr (Nat.le_trans h.le z),Nat.le_trans h.le h'.md.size⟩
theorem Pl0 {Post:Value->World->Prop} {X:Gh} {g:Nat} {S:Nat->Prop} {B:Nat} {w0:World} {Bs:Nat} {R:Rn} {w:World} {i:Nat} {c:CB} {z0:Value} {me0:Goroutine} {M8 Y7:Nat} {en:Bool} {a45:Act} {o9:List Item} {md:FrameMode} {x:Int}
  (hg:Rg S B w0 w Bs R) (hc:R.cl[i]? =some c) (hx:(c.st=true/\x=0)\/(c.st=false/\en=true/\x=1)\/(c.st=false/\en=false/\x=2)) (hA:O1 w M8 #[.p c.cb] 123 (0,0)) (hE:O1 w Y7 #[.bool en] 4 (0,0)) (hg0:0<g) (hX0:X.W1 0=some ⟨R.yb,z0,me0⟩) (hdn:X.dn=0) (qi0:X.J4=some ⟨R.rb,8⟩)
  (hmd:md= .returning\/∃v H4,md= .panicking ({v,recovered:=false} :: H4)/\H4.dropWhile (!·.goexit)=[]) (zl0:a45.defers={target:=.fn (.func 151) (fh0 M8 Y7),args:=#[]} :: [dcall 62 #[.pointer (some ⟨R.rb,8,none⟩)]])
  (I9:∀w',Rg S B w0 w' Bs {R with ends:=R.ends.set i x,cl:=R.cl.set i {c with wt:=false}}->Fin prog Post (X.pass g 0 none) 0 (Go.Conc.served me0 (.i (i:Int))) w') :
  Fin prog Post X g (G {(baseD 128).at a45 o9 with mode:=md} [G9 prog]) w:=by
 refine(ft0 prog Post X g).ctl rfl rfl (fun w=>ea0 (f:=151) (fn:=Tryz.f151) (caps:=fh0 M8 Y7) (args:=#[]) (ds:=[dcall 62 #[.pointer (some ⟨R.rb,8,none⟩)]]) (by rcases hmd with rfl|⟨_,_,rfl,_⟩ <;> simp) zl0 func151 lf1 rfl) ?_;rcases hx with⟨h1,rfl⟩|⟨h1,rfl,rfl⟩|⟨h1,rfl,rfl⟩
 ·exact Ph0 hg hc h1 hA hE hg0 hX0 hdn qi0 hmd rfl I9
 ·exact Pi0 (en:=true) hg hc h1 hA hE hg0 hX0 hdn qi0 hmd rfl I9
 ·exact Pj0 (en:=false) hg hc h1 hA hE hg0 hX0 hdn qi0 hmd rfl I9
theorem xi0 {Post:Value->World->Prop} {X:Gh} {g:Nat} {S:Nat->Prop} {B:Nat} {w0:World} {Bs:Nat} {R:Rn} {w:World} {i:Nat} {c:CB} {z0:Value} {me0:Goroutine} {M8 Y7:Nat} {en:Bool} {a45:Act} {o9:List Item} {md:FrameMode} {x:Int}
  (hg:Rg S B w0 w Bs R) (hc:R.cl[i]? =some c) (hx:(c.st=true/\x=0)\/(c.st=false/\en=true/\x=1)\/(c.st=false/\en=false/\x=2)) (hA:O1 w M8 #[.p c.cb] 123 (0,0)) (hE:O1 w Y7 #[.bool en] 4 (0,0)) (hg0:0<g) (hX0:X.W1 0=some ⟨R.yb,z0,me0⟩) (hdn:X.dn=0) (qi0:X.J4=some ⟨R.rb,8⟩)
  (hmd:md= .returning\/∃v H4,md= .panicking ({v,recovered:=false} :: H4)/\H4.dropWhile (!·.goexit)=[]) (zl0:a45.defers={target:=.fn (.func 151) (fh0 M8 Y7),args:=#[]} :: [dcall 62 #[.pointer (some ⟨R.rb,8,none⟩)]])
  (I9:∀w',Rg S B w0 w' Bs {R with ends:=R.ends.set i x,cl:=R.cl.set i {c with wt:=false}}->(∃en,O1 w' Y7 #[.bool en] 4 (0,0))->Fin prog Post (X.pass g 0 none) 0 (Go.Conc.served me0 (.i (i:Int))) w') :
  Fin prog Post X g (G {(baseD 128).at a45 o9 with mode:=md} [G9 prog]) w:=by
 refine Pl0 hg.m.rg hc hx hA hE hg0 hX0 hdn qi0 hmd zl0 fun w' hg'=>I9 w' (hg.then hg') ⟨en,?_⟩;exact(hg'.md.block Y7 hE.lt (hg.m.af1 hE (by decide))).trans hE
set_option maxRecDepth 20000 in
theorem Pm0 {Post:Value->World->Prop} {X:Gh} {g:Nat} {w:World} {Bs:Nat} {R:Rn} {i:Nat} {c:CB} {f:FuncId} {fn:Func} {caps:Array Value} (hf:prog.funcs[f]? =some fn) (hbd:fn.body.isSome=true) (hnm:(fn.name== "runtime.NumGoroutine")=false)
  (hM:w5 w Bs R) (hc:R.cl[i]? =some c)
  (K3:∀w1 top M8 Y7,Below w.heap.size w w1->w.heap.size <=M8->w.heap.size <=Y7->O1 w1 M8 #[.p c.cb] 123 (0,0)->O1 w1 Y7 #[.bool false] 4 (0,0)->Pk0 top M8 Y7 R.rb c.cb->Fin prog Post X g (G (Frame.enter prog f (#[] ++ #[.p c.cb]++caps) .normal) top) w1) :
  Fin prog Post X g (born prog (dcall 128 #[.p c.cb,.func (.func f) #[] caps])) w:=by
 refine(ft0 prog Post X g).ctl rfl rfl (fun w=>Kc0 func128 la1 rfl) ?_;letI:Ctx prog:=B2 prog (g==0);have hZ:Ctx.Zs prog (Fin prog Post X g):=E6;have hb:=bkd 128;refine(?_:ZA (Fin prog Post X g) 15 (baseD 128) [G9 prog] (Vc.bq0 #[.p c.cb,.func (.func f) #[] caps]) [.code (Tryz.f128.body.getD .skip)] w) _ (p8 _ _ rfl);refine U4 ?_;refine L.box (cs:=#[.p c.cb]) rfl rfl (fun w1 M8 FA=>?_);refine U2 ?_;refine U4 ?_;refine L.alloc (cs:=#[.bool false]) zr4 rfl (fun w2 Y7 FE=>?_);refine L.pu 0 [.bool false] #[.bool false] sz4 FE.blk (fun w3 hE j3 N2=>?_);refine U2 ?_;have O7:Below w.heap.size w w1:=FA.below;have lA:w.heap.size <=M8:=by have:=FA.here;omega
 have lE:w.heap.size <=Y7:=by have:=FE.here;have:=O7.size;omega
 have hb2:Below w.heap.size w w2:=G0 O7 FE.below;have hb3:Below w.heap.size w w3:=M4 hb2 hb2.size j3 lE;have hA:O1 w3 M8 #[.p c.cb] 123 (0,0):=(P3 (FA.blk.j0 FE.below)).other j3 (O1.ne (P3 (FA.blk.j0 FE.below)) (P3 FE.blk) (by decide));have hM3:=hM.j0 hb3;refine ZA.zd ?_;refine U317 ?_;refine ZD.va hZ hb (i:=0) (rest:=[1,2,3,4,5,6]) rfl rfl (A0 rfl underlying123 rfl (hA.q0 0 (v:=.p c.cb) rfl)) ?_;refine ZD.va hZ hb (i:=1) rfl rfl (E1 rfl) ?_;refine ZD.va hZ hb (i:=2) rfl rfl (B0 rfl underlying248 rfl Hy0 (by decide)) ?_;refine ZD.va hZ hb (i:=3) rfl rfl (A0 rfl underlying169 rfl ((hM3.blk i c hc).q0 1 (v:=.p R.rb) rfl)) ?_;refine ZD.va hZ hb (i:=4) rfl rfl (E1 rfl) ?_;refine ZD.va hZ hb (i:=5) rfl rfl (B0 rfl underlying173 rfl Zi0 (by decide)) ?_;refine ZD.defer hZ hb (i:=6) (vs:=#[.pointer (some ⟨R.rb,8,none⟩)]) rfl (Wg.bk0 (vl:=[.pointer (some ⟨R.rb,8,none⟩)]) rfl) ?_;refine ZD.O4 hZ ?_;refine U317 ?_;refine ZD.va hZ hb (i:=0) (rest:=[1]) rfl rfl (u5 (l:=[.tmp 2,.tmp 4]) (vs:=[.p M8,.p Y7]) rfl) ?_;refine ZD.dc1 hZ hb (i:=1) (caps:=fh0 M8 Y7) rfl rfl ?_;refine ZD.O4 hZ ?_;refine U317 ?_;refine ZD.va hZ hb (i:=0) (rest:=[1,2]) rfl rfl (Mr0 rfl) ?_;refine ZD.va hZ hb (i:=1) rfl rfl (A0 rfl underlying123 rfl (hA.q0 0 (v:=.p c.cb) rfl)) ?_;refine ZD.call hZ hb (i:=2) rfl (cp0 (first:=#[]) (cap:=caps) (args:=#[.p c.cb]) rfl (Wg.bk0 (vl:=[.p c.cb]) rfl) hf hbd hnm) (fun a ha=>?_);refine K3 w3 _ M8 Y7 hb3 lA lE hA hE ⟨?_⟩;clear K3 hb3 hb2 O7 hM3 hA hE j3 N2 FA FE;intro Post X g S B w0 Bs R' w i c' z0 me0 fr e x hg hRb hc hcb hA hE hS hx hg0 hX0 hdn j3 I9 hl;rw[<- hcb]at hA;have dd1:X.J4=some ⟨R'.rb,8⟩:=by rw[hRb];exact j3
 letI:Ctx prog:=B2 prog (g==0);have hZ:Ctx.Zs prog (Fin prog Post X g):=E6;cases e with
 |outgrown=>exact hx.elim
 |panicked ch=>
  obtain⟨⟨v,H4,rfl,ho⟩,hx⟩:=hx;refine ii0 (ft0 _ _ _ _) hl ?_;rw[Frame.raise_at];exact xi0 (en:=false) hg hc (by rcases hx with h|h;exact .inl h;exact .inr (.inr ⟨h.1,rfl,h.2⟩)) hA hE hg0 hX0 hdn dd1 (.inr ⟨v,H4,rfl,ho⟩) (by rw[hRb];exact ha.defers) I9
 |returned v=>
  refine cm0 (ft0 _ _ _ _) hl ?_;have dd0:∀(ops:Array Oper) (k:List Item) (o:Oper),ops[2]? =some o->((baseD 128).at a (.inRegion ops [2]::k)).finish v=(baseD 128).at (a.put o.dst v) (.inRegion ops []::k):=fun ops k o ho=>by rw[Frame.finish_at,ho];rfl
  rw[dd0 _ _ _ rfl];refine(?_:ZD (Fin prog Post X g) 15 (baseD 128) [G9 prog] _ _ _ w) _ (ha.put rfl v);refine ZD.O4 hZ ?_;refine ZD.region hZ ?_;refine ZD.st hZ hb (i:=0) (rest:=[]) rfl (oo0 (v:=.bool true) (p:=⟨Y7,0,none⟩) (v0:=.bool false) rfl rfl sz4 rfl (hE.q0 0 rfl) (by rw[hE.frozen];rfl)) ?_;rw[gx0 hE];refine ZD.O4 hZ ?_;intro a5 ha5;refine(ft0 prog Post X g).ctl rfl rfl (fun _=>stepG_end) ?_;exact xi0 (en:=true) (hg.side hE (by decide) hS) hc (by rcases hx with h|h;exact .inl h;exact .inr (.inl ⟨h.1,rfl,h.2⟩)) (hA.other (C2 _ _ _ _ _) (O1.ne hA hE (by decide))) (D5 hE _ _ _) hg0 hX0 hdn dd1 (.inl rfl) (by rw[hRb];exact ha5.defers) I9
end
section
attribute [local irreducible] KK
def Fl0 (cs:List Frame) (me:Goroutine):Prop:=∀Z,@Ctx.Zs prog (B2 prog true) Z->∀(u:World) (v:Value),(∀fr,fr.fn=78->Leaves prog fr u (.returned (.tuple #[]))->Z (G fr cs) u)->Z (Go.Conc.served me v) u
theorem md1 (x0:Int) (x1:Int) (x2:Int) (x3:Int):prog.built 67 [(0,.i x0),(1,.agg #[.i x1,.i x2,.i x3])]=some #[.i x0,.i x1,.i x2,.i x3]:=by kernel_rfl
set_option maxRecDepth 20000 in
theorem Pn0 {Post:Value->World->Prop} {X:Gh} {g:Nat} {S:Nat->Prop} {B:Nat} {w0:World} {Bs:Nat} {R:Rn} {w:World} {i:Nat} {c:CB} {cs:List Frame} {z1:Value} {me1:Goroutine}
  (hg:Rg S B w0 w Bs R) (hBs:Bs <=w.heap.size) (hc:R.cl[i]? =some c) (hrm:R.evs.length <=1000000) (hpm:c.Z1 <=1000000) (hum:R.used <=1000000)
  (hg0:g≠0) (hX0:X.W1 g=some ⟨c.rc,z1,me1⟩) (hdn:X.dn=0) (S2:X.stay 0=[(⟨R.rb,7,none⟩,.chan (some R.yb))]) (hsh:X.chs R.yb/\∀i s2,i≠g->X.W1 i=some s2->s2.ch≠R.yb)
  (r7:∀w' a n me0,Rg S B w0 w' Bs {R with ea:=a,ec:=n,evs:=R.evs ++ [(i,c.sp)],used:=R.used+1,cl:=R.cl.set i {c with Z1:=c.Z1+1,wt:=false}}->Fl0 cs me0->Fin prog Post (X.pass 0 g (some ⟨R.yb,.i 0,me0⟩)) g (Go.Conc.served me1 (.bool true)) w') :
  Fin prog Post X 0 (G (Frame.enter prog 78 #[.p R.rb,.p c.cb] .normal) cs) w:=by
 letI:Ctx prog:=B2 prog true;rw[enter_at _ func78 rfl];refine(?_:ZA (Fin prog Post X 0) 52 (base 78) cs (Vc.bq0 #[.p R.rb,.p c.cb]) [.code (Tryz.f78.body.getD .skip)] w) _ (p8 _ _ rfl);have hZ:Ctx.Zs prog (Fin prog Post X 0):=E6;have hb:=M1 78;refine U88 ?_;refine U100 ?_;intro hR hC;refine W.fl 17 [15,16] [0,1,2,3,4,5,6,7,8,9,10,11,12,13,14,15,16] (fun w'=>O1 w' R.rb #[.slice R.ca R.cl.length R.cc,.slice R.ea R.evs.length R.ec,.slice R.na R.nts.length R.nc,.slice (pt R.eb) R.m R.m,.slice (pt R.wb) R.m R.m,.bool R.stuck,.i (R.used:Int),.chan (some R.yb)] 173 (7,8)/\O1 w' c.cb #[.i (i:Int),.p R.rb,.chan (some c.rc),.i c.sp.kind,.i c.sp.obj,.i c.sp.num,c.rf,c.df,.i (c.Z1:Int),.bool c.wt,.bool c.st] 248 (0,3)) (by kernel_rfl) (by kernel_rfl) (by kernel_rfl) (by kernel_rfl) (by kernel_rfl) (⟨hR.j0 (Below.refl w.heap.size w).drew,hC.j0 (Below.refl w.heap.size w).drew⟩) ?_;have V3:Below w.heap.size w w.drew:=(Below.refl w.heap.size w).drew;have hBs:=Nat.le_trans hBs V3.size;have hg:=hg.j0 V3;have hR:=hR.j0 V3;have hC:=hC.j0 V3;clear V3;generalize w.drew=w at *;refine U531 ?_;refine F.va rfl rfl (fun w' L1=>(B0 rfl underlying173 rfl lf0 (by decide))) ?_;refine U383 ?_;refine U27 ?_;refine U398 ?_;refine U27 ?_;refine F.va rfl rfl (fun w' L1=>(B0 rfl underlying248 rfl ta0 (by decide))) ?_;refine F.va rfl rfl (fun w' L1=>(D2 (cs:=[.i c.sp.kind,.i c.sp.obj,.i c.sp.num]) rfl underlying65 rfl ta0 rfl (L1.2.T6 rfl))) ?_;refine F.va rfl rfl (fun w' L1=>(G2 (parts:=[(0,.tmp 13),(1,.tmp 17)]) rfl (md1 (i:Int) c.sp.kind c.sp.obj c.sp.num))) ?_;refine F.doo rfl rfl ?_;refine L.ct0 (cs:=#[.i (i:Int),.i c.sp.kind,.i c.sp.obj,.i c.sp.num]) rfl rfl underlying41 cq1 rfl ⟨_,qg1⟩ (by decide) (fun w b19 F19=>?_);have hBs:=Nat.le_trans hBs F19.below.size;have hg:=hg.j0 F19.below;have hR:=hR.j0 F19.below;have hC:=hC.j0 F19.below;have Vq0:=F19.blk;refine L.nil ⟨rfl,⟨hR,hC⟩,?_⟩;refine F.doo rfl rfl ?_;refine L.gk0 (B:=Bs) (m:=1) rfl rfl underlying41 qh1 rfl (by decide) hg.m.evs (news:=[.i (i:Int),.i c.sp.kind,.i c.sp.obj,.i c.sp.num]) rfl (fun j u hj=>by
  rw[Addr.add_lit]
  match j,hj with
  |0,hj=>cases hj;exact Vq0.q0 0 rfl
  |1,hj=>cases hj;exact Vq0.q0 1 rfl
  |2,hj=>cases hj;exact Vq0.q0 2 rfl
  |3,hj=>cases hj;exact Vq0.q0 3 rfl) (fun u hu=>by simp only[List.mem_cons,List.not_mem_nil,or_false]at hu;rcases hu with rfl|rfl|rfl|rfl <;> rfl) (by omega) (by omega) hBs (fun a20 c20 w2 hO j3 hli=>?_)
 have hR:=T2 hR j3 (K5 hg.m.evs (by decide));have hC:=T2 hC j3 (K5 hg.m.evs (by decide));refine L.nil ⟨rfl,⟨hR,hC⟩,?_⟩;refine U8 ?_;refine U79 ?_;refine L.va (B0 rfl underlying45 rfl Jx0 (by decide)) ?_;refine L.rs1 (o:=0) (v:=undef) hg (i,c.sp) j3 hO hli rfl rfl Jx0 (fun w hg=>?_)
 try clear j3
 refine L.nil ?_
 try clear hR
 try clear hC
 refine U91 ?_;refine U4 ?_;refine U290 ?_;refine L.va (B0 rfl underlying45 rfl sz3 (by decide)) ?_;refine L.va (A0 rfl underlying3 rfl (hg.m.run.q0 6 (v:=.i (R.used:Int)) rfl)) ?_;refine L.va (pm0 rfl rfl (by omega)) ?_;refine U79 ?_;refine L.va (B0 rfl underlying45 rfl sz3 (by decide)) ?_;refine L.stR (o:=6) (vs:=[.i ((R.used+1:Nat):Int)]) hg R.stuck (R.used+1) rfl rfl rfl sz3 rfl rfl (by decide) rfl (fun w hg j3=>?_)
 try clear j3
 refine U2 ?_;refine U4 ?_;refine U10 ?_;refine L.va (B0 rfl underlying248 rfl sz3 (by decide)) ?_;refine L.va (A0 rfl underlying3 rfl ((hg.m.blk i c hc).q0 8 (v:=.i (c.Z1:Int)) rfl)) ?_;refine L.va (pm0 rfl rfl (by omega)) ?_;refine L.va (E1 rfl) ?_;refine L.va (B0 rfl underlying248 rfl sz3 (by decide)) ?_;refine L.stC (i:=i) (o:=8) (vs:=[.i ((c.Z1+1:Nat):Int)]) hg {c with Z1:=c.Z1+1} hc rfl rfl rfl rfl sz3 rfl rfl (by decide) rfl (fun w hg j3=>?_)
 try clear j3
 refine U2 ?_;refine U4 ?_;refine U63 ?_;refine L.stC (i:=i) (o:=9) (vs:=[.bool false]) hg {{c with Z1:=c.Z1+1} with wt:=false} (B7 hc) rfl rfl rfl rfl sz4 rfl rfl (by decide) rfl (fun w hg j3=>?_)
 try clear j3
 refine U11 ?_;refine ZA.upto hZ hb 4 rfl rfl (R:=fun e' w'=>ZA _ _ _ _ e' _ w') ?_ (fun _ _ h=>h);refine U498 ?_;refine L.va (A0 rfl underlying246 rfl ((hg.m.blk i _ (B7 (B7 hc))).q0 2 (v:=.chan (some c.rc)) rfl)) ?_;refine U2 ?_;refine ZA.give (i:=4) (rest:=[]) (s:=⟨c.rc,z1,me1⟩) (j:=g) (st:=[(⟨R.rb,7,none⟩,.chan (some R.yb))]) (K:=fun s=>s.ch=R.yb/\s.z= .i 0/\Fl0 cs s.me) (ft:=60) hb rfl rfl rfl hX0 hg0 hdn S2 ?_ ?_ ?_
 ·have hY:=zj0 (P:=prog) (main:=true) (l:=[((⟨R.rb,7,none⟩:Addr),Value.chan (some R.yb))]) (K:=fun s=>s.ch=R.yb/\s.z= .i 0/\Fl0 cs s.me);refine U310 ?_;refine U278 ?_;refine U265 ?_;refine N0.W1 (E:=3) (z:=.i 0) hb underlying170 zr3 rfl (fun me hs=>⟨rfl,rfl,?_⟩) rfl;intro Z hZ w v hK;refine hs.go ?_;letI:Ctx prog:=B2 prog true;refine ZA.O4 hZ ?_;refine ZA.done hZ ?_;exact ZA.leaves (fn:=Tryz.f78) (f:=78) rfl func78 rfl (fun fr h8 h9=>hK fr h8 h9)
 ·rintro s2 ⟨h1,_,_⟩;rw[h1];exact hsh
 ·rintro⟨ch,z,me⟩ ⟨h1,h2,h3⟩;cases h1;cases h2;exact r7 _ _ _ me (by simpa using hg) h3
end
section
attribute [local irreducible] KK
noncomputable def endLoop:Code:=match Tryz.f80.body with|some (.seq (.seq _ (.block _ (.loop c))) _)=>c|_=>.skip
noncomputable def Ic0:Code:=match Tryz.f80.body with|some (.seq _ c)=>c|_=>.skip
structure Vr0 (rb0 m:Nat) (ca:Option Addr) (cc:Nat) (Bs:Nat) (Post:Value->World->Prop) (cs:List Frame) (J:Nat->Gh->Rn->World->Prop):Prop where
 mem:∀i X R w,J i X R w->w5 w Bs R/\R.rb=rb0/\R.cl.length=m/\R.ca=ca/\R.cc=cc
 skip:∀i X R w c,J i X R w->R.cl[i]? =some c->c.wt=false->J (i+1) X R w
 stop:∀i X R w c,J i X R w->R.cl[i]? =some c->c.wt=true->∃g z1 me1,g≠0/\X.W1 g=some ⟨c.rc,z1,me1⟩/\X.dn=0/\X.stay 0=[(⟨R.rb,7,none⟩,.chan (some R.yb))]/\(X.chs R.yb/\∀i s2,i≠g->X.W1 i=some s2->s2.ch≠R.yb) /\
  ∀w' me0,Rg R.fp w.heap.size w w' Bs {R with wts:=R.wts.set i c.sp}->(∀X' R' u v,J (i+1) X' R' u->Fin prog Post X' 0 (Go.Conc.served me0 v) u)->Fin prog Post (X.pass 0 g (some ⟨R.yb,.i 0,me0⟩)) g (Go.Conc.served me1 (.bool false)) w'
 fin:∀X R w,J m X R w->(∀i,X.W1 i=none)/\X.J4=some ⟨rb0,8⟩/\X.pend=0/\X.dn=0/\X.cap<2147483648/\∀fr,fr.fn=80->Leaves prog fr w (.returned (.tuple #[]))->Fin prog Post {X with pend:=0,cap:=0,dn:=0} 0 (G fr cs) w
set_option maxRecDepth 20000 in
theorem Po0 {rb0 m:Nat} {ca:Option Addr} {cc:Nat} {Bs:Nat} {Post:Value->World->Prop} {cs:List Frame} {J:Nat->Gh->Rn->World->Prop} (hE:Vr0 rb0 m ca cc Bs Post cs J) {X:Gh} {R:Rn} {w:World} (hJ:J m X R w) {e:Env} (s0:e 0= .p rb0):ZA (Fin prog Post X 0) 43 (base 80) cs e [.code Ic0] w:=by
 obtain⟨hM,hrb,hm,hca,hcc⟩:=hE.mem _ _ _ _ hJ;obtain⟨hno,j3,hp,hdn,yu0,hK⟩:=hE.fin _ _ _ hJ;letI:Ctx prog:=B2 prog true;refine U213 ?_;intro hZ hb;rw[<- hrb]at s0;rw[P0 s0];clear s0;refine ZA.upto hZ hb 3 rfl rfl (R:=fun e' w'=>ZA _ _ _ _ e' _ w') ?_ (fun _ _ h=>h);refine U313 ?_;refine U497 ?_;refine ZA.call (i:=3) (rest:=[]) hZ hb (f:=64) (args:=#[.pointer (some ⟨R.rb,8,none⟩)]) rfl rfl (K2 rfl func64 rfl rf1 rfl) (fun a ha=>?_);rw[hrb];refine Fin.wait (G:=⟨rb0,8⟩) (K:=fun g'=>g'=_) j3 hno hp hdn (cx1 ⟨rb0,8⟩ (fun g'=>g'=_) rfl X.cap yu0) (fun g' hg'=>?_);subst hg';refine ZA.home (i:=3) rfl rfl ha ?_;have hZ':Ctx.Zs prog (Fin prog Post {X with pend:=0,cap:=0,dn:=0} 0):=E6;refine ZA.O4 hZ' ?_;refine ZA.done hZ' ?_;exact ZA.leaves (fn:=Tryz.f80) (f:=80) rfl func80 rfl hK
set_option maxRecDepth 20000 in
theorem Pp0 {rb0 m:Nat} {ca:Option Addr} {cc:Nat} {Bs:Nat} {Post:Value->World->Prop} {cs:List Frame} {J:Nat->Gh->Rn->World->Prop} (hE:Vr0 rb0 m ca cc Bs Post cs J) (hm1:m <=1000):∀(k i:Nat),i+k=m->∀X R w,J i X R w->∀e:Env,e 0= .p rb0->e 7= .slice ca m cc->e 8= .i (m:Int)->e 9= .i (i:Int)->ZA (Fin prog Post X 0) 43 (base 80) cs e [.code endLoop,.inLoop endLoop,.inBlock 0,.code Ic0] w:=by
 intro k
 induction k with
 |zero=>
  intro i hk X R w hJ e s0 s7 s8 s9;obtain⟨hM,hrb,hm,hca,hcc⟩:=hE.mem _ _ _ _ hJ;letI:Ctx prog:=B2 prog true;refine U213 ?_;intro hZ hb;rw[<- hrb]at s0;rw[<- hca,<- hm,<- hcc]at s7;rw[<- hm]at s8;refine U199 ?_;refine ZA.seq hZ ?_;obtain rfl:i=R.cl.length:=by omega
  refine U150 ?_;refine U408 ?_;refine U287 ?_;exact Po0 hE (by rw[<- hm];exact hJ) (by rw[<- hrb];rfl)
 |succ k ih=>
  intro i hk X R w hJ e s0 s7 s8 s9;obtain⟨hM,hrb,hm,hca,hcc⟩:=hE.mem _ _ _ _ hJ;letI:Ctx prog:=B2 prog true;refine U213 ?_;intro hZ hb;rw[<- hrb]at s0;rw[<- hca,<- hm,<- hcc]at s7;rw[<- hm]at s8;refine U199 ?_;have J1:i<R.cl.length:=by omega
  obtain⟨c,hc⟩:∃c,R.cl[i]? =some c:=⟨_,List.getElem?_eq_getElem J1⟩
  refine U139 ?_;refine U289 ?_;refine U316 ?_;refine U322 ?_;refine U418 ?_;refine L.va (gt0 rfl) ?_;refine U121 ?_;refine U4 ?_;refine U461 ?_;refine U2 ?_;by_cases hwt:c.wt=false
  ·refine ZA.V6 hZ (rb hwt) ?_;refine ZA.skip hZ ?_;refine ZA.inBlock hZ ?_;refine U136 ?_;exact ih (i+1) (by omega) X R w (hE.skip i X R w c hJ hc hwt) _ (by rw[<- hrb];rfl) (by rw[<- hca,<- hm,<- hcc];rfl) (by rw[<- hm];rfl) rfl
  ·have hwt:c.wt=true:=by simpa using hwt
   refine ZA.W7 hZ (rb hwt) ?_;obtain⟨g,z1,me1,hg0,hX0,hdn,S2,hsh,r7⟩:=hE.stop i X R w c hJ hc hwt;have hg:=hM.rg;refine U88 ?_;refine U100 ?_;intro hR hC;refine W.nt0 11 (fun w'=>Below w.heap.size w w') (by kernel_rfl) (by kernel_rfl) (by kernel_rfl) (by kernel_rfl) ((Below.refl w.heap.size w).drew) ?_;refine U60 ?_;refine D.va (fun w' L1=>(B0 rfl underlying173 rfl lf0 (by decide))) ?_;refine D.va (fun w' L1=>(B0 rfl underlying45 rfl cn1 (by decide))) ?_;refine D.va (fun w' L1=>(A0 rfl underlying43 rfl ((hR.j0 L1).q0 4 (v:=.slice (pt R.wb) R.m R.m) rfl))) ?_;refine D.va (fun w' L1=>(C4 rfl)) ?_;refine U60 ?_;refine D.va (fun w' L1=>(B0 rfl underlying248 rfl ta0 (by decide))) ?_;refine D.va (fun w' L1=>(D2 (cs:=[.i c.sp.kind,.i c.sp.obj,.i c.sp.num]) rfl underlying65 rfl ta0 rfl ((hC.j0 L1).T6 rfl))) ?_;refine D.va (fun w' L1=>az0 (i:=i) rfl rfl underlying43 ta0 (Nat.lt_of_lt_of_le J1 hM.lcl)) ?_;refine U149 ?_;intro w O2 hg;have hR:=hR.j0 O2;have hC:=hC.j0 O2;clear O2;refine L.stW (i:=i) (z:=c.sp) hg (Nat.lt_of_lt_of_le J1 hM.lcl) rfl rfl ta0 (fun w hg j3=>?_);clear j3;refine L.nil ?_
   try clear hR
   try clear hC
   refine U91 ?_;refine ZA.seq hZ ?_;refine ZA.upto hZ hb 4 rfl rfl (R:=fun e' w'=>ZA _ _ _ _ e' _ w') ?_ (fun _ _ h=>h);refine U498 ?_;refine L.va (A0 rfl underlying246 rfl ((hg.m.blk i c hc).q0 2 (v:=.chan (some c.rc)) rfl)) ?_;refine U2 ?_;refine ZA.give (i:=4) (rest:=[]) (s:=⟨c.rc,z1,me1⟩) (j:=g) (st:=[(⟨R.rb,7,none⟩,.chan (some R.yb))]) (K:=fun s=>s.ch=R.yb/\s.z= .i 0/\∀X' R' u v,J (i+1) X' R' u->Fin prog Post X' 0 (Go.Conc.served s.me v) u) (ft:=60) hb rfl rfl rfl hX0 hg0 hdn S2 ?_ ?_ ?_
   ·have hY:=zj0 (P:=prog) (main:=true) (l:=[((⟨R.rb,7,none⟩:Addr),Value.chan (some R.yb))]) (K:=fun s=>s.ch=R.yb/\s.z= .i 0/\∀X' R' u v,J (i+1) X' R' u->Fin prog Post X' 0 (Go.Conc.served s.me v) u);refine U310 ?_;refine U278 ?_;refine U265 ?_;refine N0.W1 (E:=3) (z:=.i 0) hb underlying170 zr3 rfl (fun me hs=>⟨rfl,rfl,?_⟩) rfl;intro X R' w v hJ';refine hs.go ?_;have hZ:Ctx.Zs prog (Fin prog Post X 0):=E6;refine U308 ?_;refine U136 ?_;exact ih (i+1) (by omega) X R' w hJ' _ (by rw[<- hrb];rfl) (by rw[<- hca,<- hm,<- hcc];rfl) (by rw[<- hm];rfl) rfl
   ·rintro s2 ⟨h1,_,_⟩;rw[h1];exact hsh
   ·rintro⟨ch,z,me⟩ ⟨h1,h2,h3⟩;cases h1;cases h2;exact r7 _ me hg h3
set_option maxRecDepth 20000 in
theorem Id0 {rb0 m:Nat} {ca:Option Addr} {cc:Nat} {Bs:Nat} {Post:Value->World->Prop} {cs:List Frame} {J:Nat->Gh->Rn->World->Prop} (hE:Vr0 rb0 m ca cc Bs Post cs J) (hm1:m <=1000) {X:Gh} {R:Rn} {w:World} (hJ:J 0 X R w):Fin prog Post X 0 (G (Frame.enter prog 80 #[.p rb0] .normal) cs) w:=by
 obtain⟨hM,hrb,hm,hca,hcc⟩:=hE.mem _ _ _ _ hJ;letI:Ctx prog:=B2 prog true;refine U213 ?_;intro hZ hb;rw[enter_at _ func80 rfl];rw[<- hrb];refine(?_:ZA (Fin prog Post X 0) 43 (base 80) cs (Vc.bq0 #[.p R.rb]) [.code (Tryz.f80.body.getD .skip)] w) _ (p8 _ _ rfl);refine ZA.seq hZ ?_;refine U4 ?_;refine U185 ?_;refine U419 ?_;refine U325 ?_;refine U318 ?_;exact Pp0 hE hm1 m 0 (by omega) X R w hJ _ (by rw[<- hrb];rfl) (by rw[<- hca,<- hm,<- hcc];rfl) (by rw[<- hm];rfl) rfl
end
end Go.Vy.Sc
end
section
namespace Go.Vy
open Go Go.Conc Go.Yc Go.RowKit
open Go.Vc Go.Wg
def ChanAt (w:World) (b:Nat):Prop:=w.heap[b]? =some (.chan 0 #[] false 0 0 false)
section
variable {w w':World}{b:Nat}
theorem ChanAt.lt (h:ChanAt w b):b<w.heap.size:=(Array.getElem?_eq_some_iff.1 h).1
theorem ChanAt.j0 (h:ChanAt w b) (hb:Below w.heap.size w w'):ChanAt w' b:=(hb.block b h.lt).trans h
theorem ChanAt.grown {row:Option Nat} (h:ChanAt w b) (hg:w.grownBy w' row) (hr:∀r,row=some r->∃cs T f,O1 w r cs T f):ChanAt w' b :=
 (hg.block b h.lt fun e=>by
  obtain⟨cs,T,f,h'⟩:=hr b e.symm;unfold ChanAt at h;unfold O1 at h';rw[h]at h';cases h').trans h
end
theorem L.makeChan {P:Program} [Ctx P] {n:Nat} {Q:Exit->Env->World->Prop} {e:Env} {w:World} {ops:Array Oper} {rest:List Oper} {d:Nat} {ty:TypeId} {ps:String} {af:Array Edge} {T E:TypeId} {x:Operand} {dd:ChanDir} (hx:ev e x= .int .i64 0) (hT:P.underlying T=some (.chan dd E)) (hi:∃z,(P.info? E).map (·.size)=some z)
  (k:∀w1,Below w.heap.size w w1->ChanAt w1 w.heap.size->w1.heap.size=w.heap.size+1->L P n ops Q rest (upd e d (.chan (some w.heap.size))) w1):L P n ops Q (⟨some d,.makeChan T x,ty,ps,af,none⟩::rest) e w:=by
 obtain⟨z,hz⟩:=hi;obtain⟨i,hi,_⟩:=Option.map_eq_some_iff.1 hz;refine L.va (v:=.chan (some w.heap.size)) (w':=w.alloc (.chan 0 #[] false 0 0 false)) (.Q0 (Y1 rfl _) rfl rfl fun τ d'=>?_) (k _ ((Below.refl _ _).alloc (Nat.le_refl _) _) (by unfold ChanAt;show(w.heap.push _)[_]? =_;simp) (by show(w.heap.push _).size=_;simp));have:=run_makeChan (P:=P) (w:=V2 w τ d') hT hi .i64 0 (by decide) (by simp);show _=Result.ok (Next.value (.chan (some (V2 w τ d').heap.size))) ((V2 w τ d').alloc (.chan 0 #[] false 0 0 false));simp only[execOp,hx];have h2:((0:Nat):Int)=0:=rfl;rw[h2]at this;simp[this]
section
variable {P:Program}{Post:Value->World->Prop}{X:Gh}{h n:Nat}{b:Frame}{cs:List Frame}{e:Env}{k:List Item}{w:World}
theorem ZA.freeze {bb:Nat} {cells:Array Value} {T:TypeId} {f:Nat×Nat} (hl:md0 X bb) (hB:O1 w bb cells T (0,0)) (hz:ZA (Fin P Post (X.lower bb) h) n b cs e k (S1 w bb cells T f)):ZA (Fin P Post X h) n b cs e k w :=
 fun a ha=>Fin.freeze (f:=(0,0)) (f':=f) hl hB (fun i hi=>by unfold inR at hi;omega) (hz a ha)
def zm0 (X:Gh) (rb yb off:Nat):Gh:=⟨X.W1,Go.ConcN.upd X.stay 0 [(⟨rb,off-1,none⟩,.chan (some yb))],some ⟨rb,off⟩,X.J4.toList++X.old,X.y5,fun c=>X.chs c\/c=yb,fun k=>(X.low k\/k=yb)\/k=rb,X.w7,X.cap,X.pend,X.dn,X.n⟩
theorem ZA.begin {rb yb:Nat} {c8:Array Value} {T:TypeId} (yu0:X.cap=0) (hU:X.ev0 rb) (hUy:X.ev0 yb) (hpr:X.w7 rb= .all) (hpy:X.w7 yb= .all) (hch:ChanAt w yb) (hB:K0 w rb (c8 ++ #[.int .u64 0,.int .u32 0]) T) (h0:0<c8.size) (hy:c8[c8.size-1]? =some (.chan (some yb)))
  (hz:ZA (Fin P Post (zm0 X rb yb c8.size) 0) n b cs e k (S1 (X2 w yb nothing) rb c8 T (c8.size-1,c8.size))):ZA (Fin P Post X 0) n b cs e k w:=by
 have N3:yb≠rb:=by
  intro e;subst e;unfold ChanAt at hch;unfold K0 at hB;rw[hch]at hB;cases hB
 intro a ha;refine Fin.chan (b:=yb) (k:=0) (hUy.ju0 (Nat.le_refl _)) (fun hl=>absurd (hUy.low _ hl) (Nat.lt_irrefl _)) hpy hch ?_;have N5:(X2 w yb nothing).heap[rb]? =some (.cells (c8 ++ #[.int .u64 0,.int .u32 0]) T (0,0)):=by rw[z7 _ _ N3];exact hB
 refine Fin.bi1 (f':=(c8.size-1,c8.size)) (b:=rb) yu0 ?_ ?_ hpr N5 (Nat.zero_le _) ?_
 ·have hl:=hU.ju0 (Nat.le_refl rb);exact⟨hl.stay,hl.y5,fun h=>h.elim hl.chs fun h=>N3 h.symm,hl.J4⟩
 ·intro h;rcases h with h|h
  ·exact absurd (hU.low _ h) (Nat.lt_irrefl _)
  ·exact N3 h.symm
 have A2:(X2 (X2 w yb nothing) rb (.cells c8 T (c8.size-1,c8.size))).heap[rb]? =some (.cells c8 T (c8.size-1,c8.size)):=v8 _ N5;refine Fin.stay (l:=[(⟨rb,c8.size-1,none⟩,.chan (some yb))]) (fun p hp=>?_) (hz a ha);obtain rfl:p=(⟨rb,c8.size-1,none⟩,.chan (some yb)):=by simpa using hp
 exact⟨O1.cell (f:=(c8.size-1,c8.size)) A2 hy,by rw[O1.frozen (f:=(c8.size-1,c8.size)) A2];simp;omega⟩
end
end Go.Vy
end
section
namespace Go.Vy.Sc
open Go Go.Conc Go.Yc Go.RowKit Go.Proofs Go.Proofs.YtinppmaojmdmhaaGreat Tryz
open Go.Vc Go.Wg
section
attribute [local irreducible] KK
noncomputable def Ie0:Code:=match Tryz.f76.body with|some (.seq _ (.block _ (.loop c)))=>c|_=>.skip
def sp0:Stp:=⟨0,0,0⟩
abbrev T4 (cb rc:Nat):CB:=⟨cb,rc,sp0,.nilFunc,.nilFunc,0,false,false⟩
structure de1 (rb0 m:Nat) (ba:Option Addr) (fv:Nat->Value) (Bs:Nat) (Post:Value->World->Prop) (cs:List Frame) (J:Nat->Gh->Rn->World->Prop):Prop where
 sl:SL ba m
 fn:∀i,i<m->fv i= .nilFunc\/∃f fn caps,fv i= .func (.func f) #[] caps/\prog.funcs[f]? =some fn/\fn.body.isSome=true/\(fn.name== "runtime.NumGoroutine")=false
 mem:∀i X R w,J i X R w->w5 w Bs R/\R.rb=rb0/\R.cl.length=i/\R.m=m/\Bs <=w.heap.size/\X.ev0 w.heap.size/\∀j,j<m->w.cell? ⟨ab ba,ao ba+j*1,none⟩=some (fv j)
 nil:∀i X R w w' a n cb rc,i<m->J i X R w->fv i= .nilFunc->w.heap.size <=cb->w.heap.size <=rc->Rg R.fp w.heap.size w w' Bs {R with ca:=a,cc:=n,cl:=R.cl ++ [T4 cb rc],ends:=R.ends.set i 1}->J (i+1) (X.lower cb) {R with ca:=a,cc:=n,cl:=R.cl ++ [T4 cb rc],ends:=R.ends.set i 1} w'
 go:∀i X R w w' a n cb rc,i<m->J i X R w->fv i≠.nilFunc->w.heap.size <=cb->w.heap.size <=rc->cb≠rc->ChanAt w' rc->Rg R.fp w.heap.size w w' Bs {R with ca:=a,cc:=n,cl:=R.cl ++ [T4 cb rc]} ->
  X.J4=some ⟨rb0,8⟩/\X.pend=0/\X.cap<65536/\X.dn=0/\X.stay 0=[(⟨R.rb,7,none⟩,.chan (some R.yb))]/\(X.chs R.yb/\∀i s2,X.W1 i=some s2->s2.ch≠R.yb) /\
  ∀me0,(∀X' R' u v,J (i+1) X' R' u->Fin prog Post X' 0 (Go.Conc.served me0 v) u)->Fin prog Post (Gh.hire {X.lower cb with pend:=1,cap:=X.cap+1,dn:=0} ⟨R.yb,.i 0,me0⟩) X.n (born prog (dcall 128 #[.p cb,fv i])) w'
 fin:∀X R w,J m X R w->∀fr,fr.fn=76->Leaves prog fr w (.returned (.tuple #[]))->Fin prog Post X 0 (G fr cs) w
theorem mf1 (x0:Int) (x1:Option Addr) (x2:Option Nat):prog.built 248 [(0,.i x0),(1,.pointer x1),(2,.chan x2)]=some #[.i x0,.pointer x1,.chan x2,.i 0,.i 0,.i 0,.nilFunc,.nilFunc,.i 0,.bool false,.bool false]:=by kernel_rfl
set_option maxRecDepth 20000 in
theorem Pq0 {rb0 m:Nat} {ba:Option Addr} {fv:Nat->Value} {Bs:Nat} {Post:Value->World->Prop} {cs:List Frame} {J:Nat->Gh->Rn->World->Prop} (hE:de1 rb0 m ba fv Bs Post cs J) (hm1:m <=1000) {bc:Nat}:∀(k i:Nat),i+k=m->∀X R w1,J i X R w1->∀e:Env,e 0= .p rb0->e 7= .slice ba m bc->e 8= .i (m:Int)->e 9= .i (i:Int)->ZA (Fin prog Post X 0) 50 (base 76) cs e [.code Ie0,.inLoop Ie0,.inBlock 0] w1:=by
 intro k
 induction k with
 |zero=>
  intro i hk X R w1 hJ e s0 s7 s8 s9;obtain⟨hM,hrb,hlen,hRm,hBs,hU,gy0⟩:=hE.mem _ _ _ _ hJ;letI:Ctx prog:=B2 prog true;refine U332 ?_;intro hZ hb;rw[<- hrb]at s0;refine U199 ?_;have hg:=hM.rg;refine U139 ?_;refine U287 ?_;refine ZA.done hZ ?_;obtain rfl:i=m:=by omega
  exact ZA.leaves (fn:=Tryz.f76) (f:=76) rfl func76 rfl (hE.fin X R w1 hJ)
 |succ k ih=>
  intro i hk X R w1 hJ e s0 s7 s8 s9;obtain⟨hM,hrb,hlen,hRm,hBs,hU,gy0⟩:=hE.mem _ _ _ _ hJ;letI:Ctx prog:=B2 prog true;refine U332 ?_;intro hZ hb;rw[<- hrb]at s0;refine U199 ?_;have hg:=hM.rg;have J1:i<m:=by omega
  refine U139 ?_;refine U289 ?_;refine U316 ?_;refine U322 ?_;refine L.va (S5 (i:=i) rfl rfl underlying101 jm1 hE.sl J1) ?_;refine L.va (A0 (v:=fv i) rfl underlying72 rfl (gy0 i J1)) ?_;refine L.va (gt0 rfl) ?_;refine L.va E7 ?_;refine U2 ?_;refine U322 ?_;refine L.va (H3 rfl) ?_;refine L.makeChan rfl underlying246 ⟨_,sz4⟩ (fun w2 O2 hch mg1=>?_);obtain⟨rc,hrc⟩:∃rc,rc=w1.heap.size:=⟨_,rfl⟩
  have lrc:w1.heap.size <=rc:=Nat.le_of_eq hrc.symm;rw[<- hrc]at hch⊢;have hg:=hg.j0 O2;refine L.va (G2 (parts:=[(0,.tmp 14),(1,.tmp 15),(2,.tmp 16)]) rfl (mf1 (i:Int) ((pt R.rb)) (some rc))) ?_;refine L.box (cs:=(T4 0 rc).cells R.rb i) rfl rfl (fun w3 cb F=>?_);have lcb:w1.heap.size <=cb:=by have:=F.here;have:=O2.size;omega
  have N3:cb≠rc:=by have:=F.here;omega
  have hg:=hg.j0 F.below;have hch:=hch.j0 F.below;have hX:=P3 F.blk;have hBs:=Nat.le_trans hBs (Nat.le_trans O2.size F.below.size);clear F O2;refine U121 ?_;have hfb:∀k,R.fp k->k≠cb:=fun k hk e=>by have:=hM.lt hk;omega
  refine ZA.freeze (f:=(0,3)) (hU.ju0 lcb) hX ?_;have hg:=hg.fresh ((T4 0 rc).cells R.rb i) 248 (0,3) hfb lcb;have hch:ChanAt (S1 w3 cb ((T4 0 rc).cells R.rb i) 248 (0,3)) rc:=hch.grown (C2 _ _ _ _ _) (fun r e=>by cases e;exact⟨_,_,_,hX⟩);have hX:O1 (S1 w3 cb ((T4 0 rc).cells R.rb i) 248 (0,3)) cb ((T4 cb rc).cells R.rb R.cl.length) 248 (0,3):=by rw[hlen];exact D5 hX _ _ _
  rw[<- O6 (w:=w3) (b:=cb) (cs:=(T4 0 rc).cells R.rb i) (T:=248) (f:=(0,3))]at hBs;generalize S1 w3 cb ((T4 0 rc).cells R.rb i) 248 (0,3)=w at *;have hZ:Ctx.Zs prog (Fin prog Post (X.lower cb) 0):=E6;refine U12 ?_;refine U185 ?_;refine L.va (A0 rfl underlying171 rfl (hg.m.run.q0 0 (v:=.slice R.ca R.cl.length R.cc) rfl)) ?_;refine L.va (H3 rfl) ?_;refine L.ct0 (cs:=#[.p cb]) rfl rfl underlying171 Bx0 rfl ⟨_,Zg0⟩ (by decide) (fun w b25 F25=>?_);have hBs:=Nat.le_trans hBs F25.below.size;have hg:=hg.j0 F25.below;have hch:=hch.j0 F25.below;have hX:=hX.j0 F25.below;have mn0:=F25.blk;have hX0:=hX;have hR:=hg.m.run;refine L.gk0 (B:=Bs) (m:=1) rfl rfl underlying171 Oh0 rfl (by decide) hg.m.cls (news:=[.p cb]) rfl (fun j u hj=>by
   rw[Addr.add_lit]
   match j,hj with
   |0,hj=>cases hj;exact mn0.q0 0 rfl) (fun u hu=>by simp only[List.mem_cons,List.not_mem_nil,or_false]at hu;subst hu;rfl) (by omega) (by omega) hBs (fun a26 c26 w2 hO j3 hli=>?_)
  have hch:=hch.grown j3 (Vn0 hg.m.cls);have hX:=True.intro;have hR:=T2 hR j3 (K5 hg.m.cls (by decide));refine L.va (E1 rfl) ?_;refine L.va (B0 rfl underlying173 rfl Ol0 (by decide)) ?_;refine L.ru1 hg (T4 cb rc) hX0 (.inr lcb) (by rw[hlen,hRm];exact J1) j3 hO hli rfl rfl Ol0 (fun w hg mh1=>?_);have hch:=hch.grown mh1 (fun r e=>by cases e;exact⟨_,_,_,hR⟩);clear mh1 j3 hO hli;refine U11 ?_;refine ZA.seq hZ ?_;by_cases Jo0:fv i= .nilFunc
  ·refine ZA.W hZ hb ?_;refine U126 ?_;refine L.va (ch0 (v:=fv i) (b:=true) rfl (.inl ⟨Jo0,rfl⟩) rfl underlying72 ⟨_,_,_,rfl⟩) ?_;refine U50 ?_;refine U4 ?_;refine U290 ?_;refine L.va (B0 rfl underlying45 rfl Bw0 (by decide)) ?_;refine L.va (A0 rfl underlying37 rfl (hg.m.run.q0 3 (v:=.slice (pt R.eb) R.m R.m) rfl)) ?_;refine L.va (C4 rfl) ?_;refine L.va (az0 (i:=i) rfl rfl underlying37 sz3 (by rw[hRm];exact J1)) ?_;refine L.stE (i:=i) hg (by show i<R.m;rw[hRm];exact J1) rfl rfl sz3 (fun w hg j3=>?_);clear j3;refine U2 ?_;refine ZA.exit hZ rfl ?_;refine U136 ?_;exact ih (i+1) (by omega) _ _ w (hE.nil i X R w1 w _ _ cb rc J1 hJ Jo0 lcb lrc hg) _ (by rw[<- hrb];rfl) rfl rfl rfl
  ·refine ZA.W hZ hb ?_;refine U126 ?_;obtain⟨f,fn,caps,hfv,hff,hbd,hnm⟩:=(hE.fn i J1).resolve_left Jo0;refine L.va (ch0 (v:=fv i) (b:=false) rfl (.inr ⟨_,_,_,hfv,rfl⟩) rfl underlying72 ⟨_,_,_,rfl⟩) ?_;refine U72 ?_;obtain⟨Uh0,Hh0,yu0,hdn,S2,hsh,hgo⟩:=hE.go i X R w1 w _ _ cb rc J1 hJ Jo0 lcb lrc N3 hch hg;refine ZA.upto hZ hb 3 rfl rfl (R:=fun e' w'=>ZA _ _ _ _ e' _ w') ?_ (fun _ _ h=>h);refine U313 ?_;refine U497 ?_;refine ZA.call (i:=3) (rest:=[]) hZ hb (f:=60) (args:=#[.pointer (some ⟨R.rb,8,none⟩),.i 1]) rfl rfl (P2 rfl rfl func60 rfl kh1 rfl) (fun a ha=>?_);have hXe:X.lower cb={X.lower cb with dn:=0}:=by show X.lower cb={X.lower cb with dn:=0};cases X;simp only[Gh.lower]at hdn⊢;subst hdn;rfl
   rw[hXe,hrb];refine Fin.Um0 (G:=⟨rb0,8⟩) (X:=X.lower cb) (K:=fun g'=>g'=_) Uh0 Hh0 yu0 (fun g' hg'=>?_) _ _ _ (lv1 ⟨rb0,8⟩ (fun g'=>g'=_) rfl);subst hg';refine ZA.home (i:=3) rfl rfl ha ?_;have hZ:Ctx.Zs prog (Fin prog Post {X.lower cb with pend:=1,cap:=(X.lower cb).cap+1,dn:=0} 0):=E6;refine U47 ?_;refine ZA.upto hZ hb 2 rfl rfl (R:=fun e' w'=>ZA _ _ _ _ e' _ w') ?_ (fun _ _ h=>h);refine U125 ?_;refine L.va v5 ?_;refine U2 ?_;refine ZA.spawn (i:=2) (rest:=[]) (gr:=⟨rb0,8⟩) (vs:=#[.p cb,fv i]) (st:=[(⟨R.rb,7,none⟩,.chan (some R.yb))]) (K:=fun s=>s.ch=R.yb/\s.z= .i 0/\∀X' R' u v,J (i+1) X' R' u->Fin prog Post X' 0 (Go.Conc.served s.me v) u) (ft:=60) hb rfl (Wg.bk0 (vl:=[.p cb,fv i]) rfl) rfl rfl Uh0 S2 ?_ ?_ ?_
   ·have hY:=zj0 (P:=prog) (main:=true) (l:=[((⟨R.rb,7,none⟩:Addr),Value.chan (some R.yb))]) (K:=fun s=>s.ch=R.yb/\s.z= .i 0/\∀X' R' u v,J (i+1) X' R' u->Fin prog Post X' 0 (Go.Conc.served s.me v) u);refine U310 ?_;refine U278 ?_;refine U265 ?_;refine N0.W1 (E:=3) (z:=.i 0) hb underlying170 zr3 rfl (fun me hs=>⟨rfl,rfl,?_⟩) rfl;intro X' R' w v hJ';refine hs.go ?_;have hZ:Ctx.Zs prog (Fin prog Post X' 0):=E6;refine U308 ?_;refine U136 ?_;exact ih (i+1) (by omega) X' R' w hJ' _ (by rw[<- hrb];rfl) rfl rfl rfl
   ·rintro s2 ⟨h1,_,_⟩;rw[h1];exact hsh
   ·rintro⟨ch,z,me⟩ ⟨h1,h2,h3⟩;cases h1;cases h2;exact hgo me h3
set_option maxRecDepth 20000 in
theorem Vs0 {rb0 m:Nat} {ba:Option Addr} {fv:Nat->Value} {Bs:Nat} {Post:Value->World->Prop} {cs:List Frame} {J:Nat->Gh->Rn->World->Prop} (hE:de1 rb0 m ba fv Bs Post cs J) (hm1:m <=1000) {bc:Nat} {X:Gh} {R:Rn} {w:World} (hJ:J 0 X R w):Fin prog Post X 0 (G (Frame.enter prog 76 #[.p rb0,.slice ba m bc] .normal) cs) w:=by
 obtain⟨hM,hrb,hlen,hRm,hBs,hU,gy0⟩:=hE.mem _ _ _ _ hJ;letI:Ctx prog:=B2 prog true;refine U332 ?_;intro hZ hb;rw[enter_at _ func76 rfl];rw[<- hrb];have hg:=hM.rg;refine(?_:ZA (Fin prog Post X 0) 50 (base 76) cs (Vc.bq0 #[.p R.rb,.slice ba m bc]) [.code (Tryz.f76.body.getD .skip)] w) _ (p8 _ _ rfl);refine U4 ?_;refine U190 ?_;refine U325 ?_;refine U318 ?_;exact Pq0 hE hm1 m 0 (by omega) X R w hJ _ (by rw[<- hrb];rfl) rfl rfl rfl
end
section
attribute [local irreducible] KK
noncomputable def If0:Code:=match Tryz.f41.body with|some (.seq _ (.seq _ (.seq _ (.seq _ (.seq _ (.seq _ (.seq _ (.seq (.seq _ (.block _ (.loop c))) _))))))))=>c|_=>.skip
noncomputable def zn0:Code:=match Tryz.f41.body with|some (.seq _ (.seq _ (.seq _ (.seq _ (.seq _ (.seq _ (.seq _ (.seq _ c))))))))=>c|_=>.skip
def rn0 (rb yb eb wb m:Nat):Rn:=⟨rb,yb,eb,wb,m,none,0,[],none,0,[],none,0,[],List.replicate m 0,List.replicate m sp0,false,0⟩
def aa0 (e:Int) (n:Nat):Nat:=(e%(n:Int)).toNat
theorem Kg0 (e:Int) {n:Nat} (hn:0<n):aa0 e n<n:=by
 refine U533 ?_;intro h1 h2;unfold aa0;omega
theorem mi1 (e:Int) {n:Nat} (hn:0<n):(e.tmod (n:Int)+(n:Int)).tmod (n:Int)=((aa0 e n:Nat):Int):=by
 refine U533 ?_;intro h1 h2;have h3:-(n:Int)<e.tmod (n:Int):=by
  have:=Int.lt_tmod_of_pos e (b:=(n:Int)) (by omega);omega
 have h4:((aa0 e n:Nat):Int)=e%(n:Int):=by unfold aa0;omega
 rw[h4,Int.tmod_eq_emod_of_nonneg (by omega),Int.add_emod_right];rw[Int.tmod_eq_emod];split
 ·simp
 ·rw[Int.sub_emod,Int.emod_emod];have:(((n:Int).natAbs:Int))%(n:Int)=0:=by simp
  rw[this,Int.sub_zero,Int.emod_emod]
theorem Ig0 (e:Int) {n:Nat} (hn:0<n) (h:n <=1000):-1000 <=e.tmod (n:Int)/\e.tmod (n:Int) <=1000:=by
 have h1:=Int.lt_tmod_of_pos e (b:=(n:Int)) (by omega);have h2:=Int.tmod_lt_of_pos e (b:=(n:Int)) (by omega);omega
structure Pr0 (rb0 m sn tb:Nat) (ba sa:Option Addr) (fv:Nat->Value) (sc:Nat->Int) (Bs:Nat) (Post:Value->World->Prop) (JB J2 JE:Nat->Gh->Rn->World->Prop) (rr:Nat->Nat->Bool):Prop where
 beg:∀cs,(∀X R w,JB m X R w->∀fr,fr.fn=76->Leaves prog fr w (.returned (.tuple #[]))->Fin prog Post X 0 (G fr cs) w)->de1 rb0 m ba fv Bs Post cs JB
 b2s:∀X R w,JB m X R w->J2 0 X R w
 ssl:SL sa sn
 mem:∀n X R w,J2 n X R w->w5 w Bs R/\R.rb=rb0/\R.cl.length=m/\Bs <=w.heap.size/\R.evs.length <=1000000/\R.used <=1000000/\(∀(i:Nat) (c:CB),R.cl[i]? =some c->c.Z1 <=1000000)/\∀j,j<sn->w.cell? ⟨ab sa,ao sa+j*1,none⟩=some (.i (sc j))
 j0:∀n X R w w',J2 n X R w->Below w.heap.size w w'->J2 n X R w'
 rdy:∀n X R w,J2 n X R w->∀(i:Nat) (c:CB),R.cl[i]? =some c->c.wt=true->@zi0 (B2 prog true) w c.rf (rr n i)
 pick:∀n X R w i c,J2 n X R w->n<sn->(rdl R.cl (rr n) m)[aa0 (sc n) (rdl R.cl (rr n) m).length]? =some i->R.cl[i]? =some c->∃g z1 me1,g≠0/\X.W1 g=some ⟨c.rc,z1,me1⟩/\X.dn=0/\X.stay 0=[(⟨R.rb,7,none⟩,.chan (some R.yb))]/\(X.chs R.yb/\∀i s2,i≠g->X.W1 i=some s2->s2.ch≠R.yb) /\
  ∀w' a nn me0,Rg R.fp w.heap.size w w' Bs {R with ea:=a,ec:=nn,evs:=R.evs ++ [(i,c.sp)],used:=R.used+1,cl:=R.cl.set i {c with Z1:=c.Z1+1,wt:=false}}->(∀X' R' u v,J2 (n+1) X' R' u->Fin prog Post X' 0 (Go.Conc.served me0 v) u)->Fin prog Post (X.pass 0 g (some ⟨R.yb,.i 0,me0⟩)) g (Go.Conc.served me1 (.bool true)) w'
 toE:∀n X R w w' b,J2 n X R w->(n=sn\/rdl R.cl (rr n) m=[])->b=(R.cl.any (·.wt)&&(rdl R.cl (rr n) m).isEmpty)->Rg R.fp w.heap.size w w' Bs {R with stuck:=b}->JE 0 X {R with stuck:=b} w'
 en:∀ca cc cs,(∀X R w,JE m X R w->R.ca=ca->R.cc=cc->∀fr,fr.fn=80->Leaves prog fr w (.returned (.tuple #[]))->Fin prog Post {X with pend:=0,cap:=0,dn:=0} 0 (G fr cs) w)->Vr0 rb0 m ca cc Bs Post cs (fun i X R w=>JE i X R w/\R.ca=ca/\R.cc=cc)
 rx1:∀X R w,JE m X R w->w5 w Bs R/\R.rb=rb0/\O1 w tb #[.slice none 0 0,.slice none 0 0,.slice none 0 0,.slice none 0 0,.bool false,.i 0] 45 (0,0)
abbrev Ps0 (R:Rn):Value:=.agg #[.slice R.ea R.evs.length R.ec,.slice R.na R.nts.length R.nc,.slice (pt R.eb) R.m R.m,.slice (pt R.wb) R.m R.m,.bool R.stuck,.i (R.used:Int)]
structure Vt0 (m tb:Nat) (Post:Value->World->Prop) (cs:List Frame) (JE:Nat->Gh->Rn->World->Prop):Prop where
 ret:∀X R w w' fr,JE m X R w->w.grownBy w' (some tb)->fr.fn=41->Leaves prog fr w' (.returned (.tuple #[Ps0 R,.i 0]))->Fin prog Post {X with pend:=0,cap:=0,dn:=0} 0 (G fr cs) w'
theorem qj0 {Z:Goroutine->World->Prop} {n:Nat} {cs:List Frame} {e:Env} {w:World} {t u b:Nat} {T E:TypeId} {fn:Func} {f:FuncId} {cells:Array Value} {d:TypeDesc} {v:Value} (hf:prog.funcs[f]? =some fn) (hr:fn.results=#[.cell t T,.tmp u]) (he:e t= .p b) (hu0:e u=v) (hT:prog.underlying T=some d) (hu:bt0 d=false) (hB:K0 w b cells E) (hs:(prog.info? T).map (·.size)=some cells.size)
  (h:∀fr,fr.fn=f->Leaves prog fr w (.returned (.tuple #[.agg cells,v]))->Z (G fr cs) w):ZR Z n (base f) cs e w:=by
 intro todo a ha;letI:Ctx prog:=B2 prog true;have h1:ends prog fn (fun v' w'=>v'= .tuple #[.agg cells,v]/\w'=w) .ret e w:=ends.Uz0 (.inr rfl) hr he hT hu hs hB ⟨by rw[hu0],rfl⟩;obtain⟨_,v',h2,h3,h4⟩:=h1;subst h3;refine h _ rfl ⟨rfl,ha.defers,rfl,fn,hf,?_⟩;exact h2 _ ha.get
noncomputable def Vu0:Code:=match zn0 with| .seq _ (.seq _ c)=>c|_=>.skip
theorem Pt0 {l:List Nat} (n:Nat) (h:l.length=n:=by rfl):decide (((n:Nat):Int)=0)=l.isEmpty:=by
 subst h;cases l <;> simp
 omega
theorem df1 {cl:List CB} {r:Nat->Bool} {m j i:Nat} (h:(rdl cl r m)[j]? =some i):∃c,cl[i]? =some c:=by
 have:=List.mem_of_getElem? h;simp only[rdl,List.mem_filter,Bool.and_eq_true]at this;cases hc:cl[i]? with
 |none=>rw[hc]at this;simp at this
 |some c=>exact⟨c,rfl⟩
theorem Pu0 {cl:List CB} {r:Nat->Bool} {m j i:Nat} {c:CB} (h:(rdl cl r m)[j]? =some i) (hc:cl[i]? =some c):((rdl cl r m).map (Pc0 cl))[j]? =some (.p c.cb):=by
 rw[List.getElem?_map,h];simp[Pc0,hc]
set_option maxRecDepth 20000 in
theorem Vv0 {rb0 m sn tb:Nat} {ba sa:Option Addr} {fv:Nat->Value} {sc:Nat->Int} {Bs:Nat} {Post:Value->World->Prop} {cs:List Frame} {JB J2 JE:Nat->Gh->Rn->World->Prop} {rr:Nat->Nat->Bool} (hE:Pr0 rb0 m sn tb ba sa fv sc Bs Post JB J2 JE rr) (hT:Vt0 m tb Post cs JE) {X:Gh} {R:Rn} {w:World} (hJ:JE m X R w) {e:Env} {ops:Array Oper} (s6:e 6= .p rb0) (s4:e 4= .p tb):ZA (Fin prog Post {X with pend:=0,cap:=0,dn:=0} 0) 83 (base 41) cs e [.inRegion ops [],.code Vu0] w:=by
 obtain⟨hM,hrb,hT0⟩:=hE.rx1 _ _ _ hJ;letI:Ctx prog:=B2 prog true;have hZ:Ctx.Zs prog (Fin prog Post {X with pend:=0,cap:=0,dn:=0} 0):=E6;have hb:=M1 41;rw[<- hrb]at s6;rw[P0 s6,P0 s4];clear s6 s4;refine ZA.O4 hZ ?_;refine U4 ?_;refine U290 ?_;refine L.va (D2 (cs:=[.slice R.ea R.evs.length R.ec,.slice R.na R.nts.length R.nc,.slice (pt R.eb) R.m R.m,.slice (pt R.wb) R.m R.m,.bool R.stuck,.i (R.used:Int)]) rfl underlying45 rfl lf0 rfl (hM.run.T6 rfl)) ?_;refine L.put (b:=tb) (o:=0) (s:=6) (vs:=[.slice R.ea R.evs.length R.ec,.slice R.na R.nts.length R.nc,.slice (pt R.eb) R.m R.m,.slice (pt R.wb) R.m R.m,.bool R.stuck,.i (R.used:Int)]) #[.slice R.ea R.evs.length R.ec,.slice R.na R.nts.length R.nc,.slice (pt R.eb) R.m R.m,.slice (pt R.wb) R.m R.m,.bool R.stuck,.i (R.used:Int)] rfl rfl rfl lf0 rfl rfl hT0 (Nat.le_of_ble_eq_true rfl) rfl (fun w2 hB j3 N2=>?_);refine U321 ?_;refine ZA.ret hZ ?_;exact qj0 (u:=5) (v:=.i 0) func41 rfl rfl rfl underlying45 rfl hB lf0 (fun fr h8 h9=>hT.ret X R w w2 fr hJ j3 h8 h9)
set_option maxRecDepth 20000 in
theorem Ca0 {rb0 m sn tb:Nat} {ba sa:Option Addr} {fv:Nat->Value} {sc:Nat->Int} {Bs:Nat} {Post:Value->World->Prop} {cs:List Frame} {JB J2 JE:Nat->Gh->Rn->World->Prop} {rr:Nat->Nat->Bool} (hE:Pr0 rb0 m sn tb ba sa fv sc Bs Post JB J2 JE rr) (hT:Vt0 m tb Post cs JE) (hm1:m <=16) (hs1:sn <=1000000) {n:Nat} {X:Gh} {R:Rn} {w:World} (hJ:J2 n X R w) (hn:n=sn\/rdl R.cl (rr n) m=[]) {e:Env} (s6:e 6= .p rb0) (s4:e 4= .p tb):ZA (Fin prog Post X 0) 83 (base 41) cs e [.code zn0] w:=by
 obtain⟨hM,hrb,hlen,hBs,hev,hus,hpk,gy0⟩:=hE.mem _ _ _ _ hJ;letI:Ctx prog:=B2 prog true;refine U214 ?_;intro hZ hb;rw[<- hrb]at s6;rw[P0 s6,P0 s4];clear s6 s4;have hg:=hM.rg;refine U12 ?_;refine L.va (H3 rfl) ?_;refine L.call (K2 rfl func79 rfl rl1 rfl) (Fi0 R Bs w hM (by omega)) ?_;rintro _ w1 ⟨rfl,hw⟩;refine U96 ?_;by_cases Vw0:R.cl.any (·.wt)=true
 ·rw[Vw0];refine U36 ?_;refine L.call (K2 rfl func77 rfl kk1 rfl) (xc0 R Bs w hM (by omega) (rr n) (hE.rdy n X R w hJ)) ?_;rintro _ w2 ⟨la,lc,rfl,hO,O2⟩;rw[hlen];have hg:=hg.j0 O2;refine L.on rfl ?_;refine L.va (M6 rfl underlying171 rfl) ?_;refine U205 ?_;refine L.va (p6 rfl) ?_;refine U504 ?_;refine L.stR (o:=5) (vs:=[.bool (decide ((((rdl R.cl (rr n) m).length:Nat):Int)=0))]) hg (decide ((((rdl R.cl (rr n) m).length:Nat):Int)=0)) R.used rfl rfl rfl sz4 rfl rfl (by decide) rfl (fun w hg j3=>?_);clear j3;refine U2 ?_;have hJE:=hE.toE n X R _ w _ hJ hn (by rw[Vw0,Bool.true_and];exact Pt0 _) hg;refine ZA.seq hZ ?_;refine ZA.upto hZ hb 1 rfl rfl (R:=fun e' w'=>ZA _ _ _ _ e' _ w') ?_ (fun _ _ h=>h);refine U125 ?_;refine U473 ?_;intro a ha;rw[hrb];refine Id0 (hE.en R.ca R.cc _ (fun X' R' u hJ' hca hcc fr h8 h9=>?_)) (by omega) ⟨hJE,rfl,rfl⟩;exact U478
 ·rw[show R.cl.any (·.wt)=false by simpa using Vw0];refine U186 ?_;refine U43 ?_;refine L.va (A7 rfl) ?_;refine U504 ?_;refine L.stR (o:=5) (vs:=[.bool false]) hg false R.used rfl rfl rfl sz4 rfl rfl (by decide) rfl (fun w hg j3=>?_);clear j3;refine U2 ?_;have hJE:=hE.toE n X R _ w _ hJ hn (by rw[show R.cl.any (·.wt)=false by simpa using Vw0];rfl) hg;refine ZA.seq hZ ?_;refine ZA.upto hZ hb 1 rfl rfl (R:=fun e' w'=>ZA _ _ _ _ e' _ w') ?_ (fun _ _ h=>h);refine U125 ?_;refine U473 ?_;intro a ha;rw[hrb];refine Id0 (hE.en R.ca R.cc _ (fun X' R' u hJ' hca hcc fr h8 h9=>?_)) (by omega) ⟨hJE,rfl,rfl⟩;exact U478
set_option maxRecDepth 20000 in
theorem Pv0 {rb0 m sn tb:Nat} {ba sa:Option Addr} {fv:Nat->Value} {sc:Nat->Int} {Bs:Nat} {Post:Value->World->Prop} {cs:List Frame} {JB J2 JE:Nat->Gh->Rn->World->Prop} {rr:Nat->Nat->Bool} (hE:Pr0 rb0 m sn tb ba sa fv sc Bs Post JB J2 JE rr) (hT:Vt0 m tb Post cs JE) (hm1:m <=16) (hs1:sn <=1000000) {scp:Nat}:∀(k n:Nat),n+k=sn->∀X R w,J2 n X R w->∀e:Env,e 6= .p rb0->e 39= .slice sa sn scp->e 40= .i (sn:Int)->e 41= .i (n:Int)->e 4= .p tb->e 1= .slice sa sn scp->ZA (Fin prog Post X 0) 83 (base 41) cs e [.code If0,.inLoop If0,.inBlock 0,.code zn0] w:=by
 intro k
 induction k with
 |zero=>
  intro n hk X R w hJ e s6 s39 s40 s41 s4 s1;obtain⟨hM,hrb,hlen,hBs,hev,hus,hpk,gy0⟩:=hE.mem _ _ _ _ hJ;letI:Ctx prog:=B2 prog true;refine U214 ?_;intro hZ hb;rw[<- hrb]at s6;refine U469 ?_;refine U139 ?_;refine U287 ?_;obtain rfl:n=sn:=by omega
  exact Ca0 hE hT hm1 hs1 hJ (.inl rfl) (by rw[<- hrb];rfl) rfl
 |succ k ih=>
  intro n hk X R w hJ e s6 s39 s40 s41 s4 s1;obtain⟨hM,hrb,hlen,hBs,hev,hus,hpk,gy0⟩:=hE.mem _ _ _ _ hJ;letI:Ctx prog:=B2 prog true;refine U214 ?_;intro hZ hb;rw[<- hrb]at s6;refine U469 ?_;have J1:n<sn:=by omega
  refine U139 ?_;refine U289 ?_;refine U316 ?_;refine U4 ?_;refine L.va (S5 (i:=n) rfl rfl underlying37 sz3 hE.ssl J1) ?_;refine L.va (A0 (v:=.i (sc n)) rfl underlying3 rfl (gy0 n J1)) ?_;refine U321 ?_;refine U12 ?_;refine L.call (K2 rfl func77 rfl kk1 rfl) (xc0 R Bs w hM (by omega) (rr n) (hE.rdy n X R w hJ)) ?_;rintro _ w2 ⟨la,lc,rfl,hO,O2⟩;rw[hlen]at hO⊢;have hJ:=hE.j0 n X R w w2 hJ O2;clear hM hBs gy0 O2;clear hev hus hpk;obtain⟨hM,_,_,hBs,hev,hus,hpk,gy0⟩:=hE.mem _ _ _ _ hJ;refine L.va (Bh0 rfl) ?_;refine U11 ?_;refine U537 ?_;refine L.va (S9 rfl rfl) ?_;refine U2 ?_;by_cases hnl:(rdl R.cl (rr n) m).length=0
  ·refine ZA.W7 hZ (rb (decide_eq_true (by omega))) ?_;refine ZA.exit hZ rfl ?_;exact Ca0 hE hT hm1 hs1 hJ (.inr (List.eq_nil_of_length_eq_zero hnl)) (by rw[<- hrb];rfl) rfl
  ·refine ZA.V6 hZ (rb (decide_eq_false (by omega))) ?_;refine ZA.skip hZ ?_;refine U537 ?_;refine U321 ?_;have hln:(rdl R.cl (rr n) m).length <=16:=Nat.le_trans (Fh0 m) hm1;have htb:=Ig0 (sc n) (n:=(rdl R.cl (rr n) m).length) (by omega) (by omega);have hpl:=Kg0 (sc n) (n:=(rdl R.cl (rr n) m).length) (by omega);obtain⟨i,hi⟩:∃i,(rdl R.cl (rr n) m)[aa0 (sc n) (rdl R.cl (rr n) m).length]? =some i:=⟨_,List.getElem?_eq_getElem hpl⟩
   obtain⟨c,hc⟩:=df1 hi;refine ZA.upto hZ hb 11 rfl rfl (R:=fun e' w'=>ZA _ _ _ _ e' _ w') ?_ (fun _ _ h=>h);refine U125 ?_;refine U23 ?_;refine L.va (C4 rfl) ?_;refine L.va (jq0 rfl rfl (by omega)) ?_;refine L.va (C4 rfl) ?_;refine U189 ?_;refine L.va (v:=.i ((aa0 (sc n) (rdl R.cl (rr n) m).length:Nat):Int)) (by rw[<- mi1 (sc n) (n:=(rdl R.cl (rr n) m).length) (by omega)];exact jq0 rfl rfl (by omega)) ?_;refine L.va (S5 (i:=aa0 (sc n) (rdl R.cl (rr n) m).length) rfl rfl underlying171 Bx0 hO.sl hpl) ?_;refine L.va (A0 (v:=.p c.cb) rfl underlying123 rfl (by rw[hO.off,Nat.zero_add,Nat.mul_one];exact hO.cell (Pu0 hi hc))) ?_;refine U2 ?_;obtain⟨g,z1,me1,hg0,hX0,hdn,S2,hsh,r7⟩:=hE.pick n X R w2 i c hJ J1 hi hc;refine ZA.call (i:=11) (rest:=[]) hZ hb (f:=78) (args:=#[.p R.rb,.p c.cb]) rfl rfl (P2 rfl rfl func78 rfl rk1 rfl) (fun a ha=>?_);refine Pn0 hM.rg hBs hc hev (hpk i c hc) hus hg0 hX0 hdn S2 hsh (fun w' a' nn me0 hg hme=>r7 w' a' nn me0 hg (fun X' R' u v hJ'=>hme _ E6 u v fun fr h8 h9=>?_));refine ZA.back (ft0 prog Post X' 0) (i:=11) rfl rfl ha h9 ?_;have hZ:Ctx.Zs prog (Fin prog Post X' 0):=E6;refine U308 ?_;refine U136 ?_;exact ih (n+1) (by omega) X' R' u hJ' _ (by rw[<- hrb];rfl) rfl rfl rfl rfl rfl
end
section
attribute [local irreducible] KK
theorem Pw0 (m:Nat):(Array.replicate (m*1) (Value.i 0))=((List.replicate m (0:Int)).map (Value.int .i64)).toArray:=by
 rw[Nat.mul_one];apply Array.toList_inj.1;simp
theorem Px0 (m:Nat):(Array.replicate (m*3) (Value.i 0))=((List.replicate m sp0).flatMap spC).toArray:=by
 apply Array.toList_inj.1;simp only[Array.toList_replicate]
 induction m with
 |zero=>rfl
 |succ m ih=>
  rw[List.replicate_succ,List.flatMap_cons,<- ih,Nat.succ_mul,Nat.add_comm (m*3) 3,<- List.replicate_append_replicate];rfl
structure ag1 (w0 w:World) (rb yb eb wb tb m:Nat):Prop where
 mem:w5 w w0.heap.size (rn0 rb yb eb wb m)
 low:Below w0.heap.size w0 w
 le:w0.heap.size <=rb/\w0.heap.size <=yb/\w0.heap.size <=eb/\w0.heap.size <=wb/\w0.heap.size <=tb
 yb:w.heap[yb]? =some nothing
 tb:O1 w tb #[.slice none 0 0,.slice none 0 0,.slice none 0 0,.slice none 0 0,.bool false,.i 0] 45 (0,0)
theorem mj1 (x0:Option Nat):prog.built 173 [(2,.chan x0)]=some #[.slice none 0 0,.slice none 0 0,.slice none 0 0,.slice none 0 0,.slice none 0 0,.bool false,.i 0,.chan x0,.int .u64 0,.int .u32 0]:=by kernel_rfl
set_option maxRecDepth 20000 in
theorem Vx0 {ba sa:Option Addr} {m bc sn scp:Nat} {fv:Nat->Value} {sc:Nat->Int} {Post:Value->World->Prop} {cs:List Frame} {X:Gh} {w0:World} (hm1:m <=16) (hs1:sn <=262144) (hU:X.ev0 w0.heap.size) (hpl:∀b,w0.heap.size <=b->X.w7 b= .all) (yu0:X.cap=0)
  (mk1:∀w4 rb yb eb wb tb,ag1 w0 w4 rb yb eb wb tb m->∃JB J2 JE rr,Pr0 rb m sn tb ba sa fv sc w0.heap.size Post JB J2 JE rr/\Vt0 m tb Post cs JE/\JB 0 (zm0 X rb yb 8) (rn0 rb yb eb wb m) w4) :
  Fin prog Post X 0 (G (Frame.enter prog 41 #[.slice ba m bc,.slice sa sn scp] .normal) cs) w0:=by
 letI:Ctx prog:=B2 prog true;refine U214 ?_;intro hZ hb;rw[enter_at _ func41 rfl];refine(?_:ZA (Fin prog Post X 0) 83 (base 41) cs (Vc.bq0 #[.slice ba m bc,.slice sa sn scp]) [.code (Tryz.f41.body.getD .skip)] w0) _ (p8 _ _ rfl);have hb0:Below w0.heap.size w0 w0:=Below.refl _ _;refine U4 ?_;refine L.alloc (cs:=#[.slice none 0 0,.slice none 0 0,.slice none 0 0,.slice none 0 0,.bool false,.i 0]) Oe0 rfl (fun w b4 F4=>?_);have lt4:=F4.lq hb0.size;have hb0:=G0 hb0 F4.below;have X1:=F4.blk;refine U215 ?_;refine U4 ?_;refine U190 ?_;refine L.va (np0 rfl rfl) ?_;refine U2 ?_;refine U501 ?_;refine ZA.seq hZ ?_;refine U307 ?_;refine L.va (M6 rfl underlying37 rfl) ?_;refine L.va (np0 rfl rfl) ?_;refine U2 ?_;refine U501 ?_;refine U4 ?_;refine L.makeChan rfl underlying170 ⟨_,sz3⟩ (fun w1 O2 hch dg1=>?_);obtain⟨yb,hyb⟩:∃yb,yb=w.heap.size:=⟨_,rfl⟩
 have dh1:w0.heap.size <=yb:=by rw[hyb];exact hb0.size
 rw[<- hyb]at hch⊢;have hb0:=G0 hb0 O2;have X1:=X1.j0 O2;clear O2 dg1 hyb
 rename World=>w
 refine L.va (G2 (parts:=[(2,.tmp 19)]) rfl (mj1 (some yb))) ?_;refine L.box (cs:=#[.slice none 0 0,.slice none 0 0,.slice none 0 0,.slice none 0 0,.slice none 0 0,.bool false,.i 0,.chan (some yb),.int .u64 0,.int .u32 0]) rfl rfl (fun w b21 F21=>?_);have Py0:=F21.lq hb0.size;have hb0:=G0 hb0 F21.below;have X1:=X1.j0 F21.below;have hch:=hch.j0 F21.below;have el0:=F21.blk;refine U121 ?_;refine U12 ?_;refine U190 ?_;refine L.make (m:=m) rfl rfl underlying37 in3 (z0:=.i 0) rfl (by decide) (by omega) (by omega) (fun w b25 F25=>?_);have ry1:=F25.lq hb0.size;have hb0:=G0 hb0 F25.below;have X1:=X1.j0 F25.below;have hch:=hch.j0 F25.below;have el0:=el0.j0 F25.below;have mn0:=F25.blk;have mn0:K0 w b25 (Array.replicate (m*1) (.i 0)) 3:=mn0;refine U79 ?_;refine L.va (B0 rfl underlying45 rfl Bw0 (by decide)) ?_;refine L.pu 3 [.slice (pt b25) m m] #[.slice none 0 0,.slice none 0 0,.slice none 0 0,.slice (pt b25) m m,.slice none 0 0,.bool false,.i 0,.chan (some yb),.int .u64 0,.int .u32 0] Bw0 el0 (fun w A1 hg N2=>?_);refine U494 ?_;intro X1 hch;have mn0:=mn0.other hg (K0.ne mn0 el0 (by decide));have hb0:=M4 hb0 hb0.size hg Py0;have Y5:=True.intro;have el0:=A1;clear Y5;refine U2 ?_;refine U12 ?_;refine U190 ?_;refine L.make (m:=m) rfl rfl underlying43 qf1 (z0:=.i 0) rfl (by decide) (by omega) (by omega) (fun w b32 F32=>?_);have rz1:=F32.lq hb0.size;have hb0:=G0 hb0 F32.below;have X1:=X1.j0 F32.below;have hch:=hch.j0 F32.below;have el0:=el0.j0 F32.below;have mn0:=mn0.j0 F32.below;have Kh0:=F32.blk;have Kh0:K0 w b32 (Array.replicate (m*3) (.i 0)) 65:=Kh0;refine U79 ?_;refine L.va (B0 rfl underlying45 rfl cn1 (by decide)) ?_;refine L.pu 4 [.slice (pt b32) m m] #[.slice none 0 0,.slice none 0 0,.slice none 0 0,.slice (pt b25) m m,.slice (pt b32) m m,.bool false,.i 0,.chan (some yb),.int .u64 0,.int .u32 0] cn1 el0 (fun w A1 hg N2=>?_);refine U494 ?_;intro X1 hch;have mn0:=mn0.other hg (K0.ne mn0 el0 (by decide));have Kh0:=Kh0.other hg (K0.ne Kh0 el0 (by decide));have hb0:=M4 hb0 hb0.size hg Py0;have Y5:=True.intro;have el0:=A1;clear Y5;refine U2 ?_;have el0:K0 w b21 (#[.slice none 0 0,.slice none 0 0,.slice none 0 0,.slice (pt b25) m m,.slice (pt b32) m m,.bool false,.i 0,.chan (some yb)] ++ #[.int .u64 0,.int .u32 0]) 173:=el0;have N3:yb≠b21:=fun e=>by subst e;unfold ChanAt at hch;unfold K0 at el0;rw[hch]at el0;cases el0
 refine ZA.begin yu0 (hU.mono Py0) (hU.mono dh1) (hpl _ Py0) (hpl _ dh1) hch el0 (Nat.zero_lt_succ _) rfl ?_;show ZA (Fin prog Post (zm0 X b21 yb 8) 0) _ _ _ _ _ (S1 (X2 w yb nothing) b21 _ _ (7,8));have hX:X.ev0 w0.heap.size:=hU;have hap:∀(b:Nat) (cs:Array Value) (T:TypeId),K0 w b cs T->T≠173->O1 (S1 (X2 w yb nothing) b21 #[.slice none 0 0,.slice none 0 0,.slice none 0 0,.slice (pt b25) m m,.slice (pt b32) m m,.bool false,.i 0,.chan (some yb)] 173 (7,8)) b cs T (0,0):=fun b cs T h hT=>by
  have h1:b≠b21:=K0.ne h el0 hT;have h2:yb≠b:=fun e=>by subst e;unfold ChanAt at hch;unfold K0 at h;rw[hch]at h;cases h
  unfold O1;rw[V8 h1,z7 _ _ h2];exact h
 have sb1:ag1 w0 (S1 (X2 w yb nothing) b21 #[.slice none 0 0,.slice none 0 0,.slice none 0 0,.slice (pt b25) m m,.slice (pt b32) m m,.bool false,.i 0,.chan (some yb)] 173 (7,8)) b21 yb b25 b32 b4 m:=by
  have N2:b21<(X2 w yb nothing).heap.size:=by have:=el0.lt;simpa [X2]using this
  refine⟨⟨?_,Own.nil _ _ _ _,Own.nil _ _ _ _,Own.nil _ _ _ _,?_,?_,by simp[rn0],by simp[rn0],Nat.zero_le _,fun i c hc=>by simp[rn0]at hc⟩,⟨hb0.os,hb0.tape,hb0.output,by rw[O6];simpa [X2]using hb0.size,fun k hk=>?_⟩,⟨Py0,dh1,ry1,rz1,lt4⟩,?_,hap _ _ _ X1 (by decide)⟩
  ·simp[O1,S1,N2,rn0,Rn.cells]
  ·have:=hap _ _ _ mn0 (by decide);rw[Pw0]at this;exact this
  ·have:=hap _ _ _ Kh0 (by decide);rw[Px0]at this;exact this
  ·rw[V8 (by omega),z7 _ _ (by omega)];exact hb0.block k hk
  ·rw[V8 N3];exact v8 w hch
 obtain⟨JB,J2,JE,rr,hE,hT,hJ0⟩:=mk1 _ _ _ _ _ _ sb1;generalize S1 (X2 w yb nothing) b21 #[.slice none 0 0,.slice none 0 0,.slice none 0 0,.slice (pt b25) m m,.slice (pt b32) m m,.bool false,.i 0,.chan (some yb)] 173 (7,8)=w4 at *;have hZ:Ctx.Zs prog (Fin prog Post (zm0 X b21 yb 8) 0):=E6;refine ZA.seq hZ ?_;refine ZA.upto hZ hb 2 rfl rfl (R:=fun e' w'=>ZA _ _ _ _ e' _ w') ?_ (fun _ _ h=>h);refine U125 ?_;refine L.va (R9 rfl) ?_;refine U2 ?_;refine ZA.call (i:=2) (rest:=[]) hZ hb (f:=76) (args:=#[.p b21,.slice ba m bc]) rfl rfl (P2 rfl rfl func76 rfl rj1 rfl) (fun a ha=>?_);refine Vs0 (hE.beg _ (fun X' R' u hJ' fr h8 h9=>?_)) (by omega) hJ0;have hZ:Ctx.Zs prog (Fin prog Post X' 0):=E6;refine ZA.back (ft0 prog Post X' 0) (i:=2) rfl rfl ha h9 ?_;refine U47 ?_;refine U307 ?_;refine L.va (M6 rfl underlying37 rfl) ?_;refine U325 ?_;refine U318 ?_;exact Pv0 hE hT hm1 (by omega) sn 0 (by omega) X' R' u (hE.b2s _ _ _ hJ') _ rfl rfl rfl rfl rfl rfl
end
end Go.Vy.Sc
end
section
namespace Go.Vy.Sc
open Go Go.Conc Go.Yc Go.RowKit Go.Proofs Go.Proofs.YtinppmaojmdmhaaGreat Tryz
open Go.Vc Go.Wg
attribute [local irreducible] KK
structure Sys where
 S:Type
 L:Type
 m:Nat
 s0:S
 nil:Nat->Bool
 stp:Nat->L->Stp
 rdy:Nat->L->S->Bool
 beg:Nat->S->k6 S L
 go:Nat->L->S->k6 S L
 le:Nat->Gm->Gm->Prop
 Inv:S->Gm->World->(Nat->Prop)->Prop
 lb:Nat
 pl:Nat->C7
structure PR (Y:Sys) where
 s:Y.S
 ft:List (Y.L ⊕ Nat)
 evs:List (Nat×Stp)
 nts:List (Nat×Nat×Nte)
 outs:List (k6 Y.S Y.L)
 who:List (Option Nat)
 used:Nat
def tell (i n:Nat) (l:List Nte):List (Nat×Nat×Nte):=l.map fun k=>(n,i,k)
namespace Sys
section
variable (Y:Sys)
def p0:PR Y:=⟨Y.s0,[],[],[],[],[],0⟩
def bgn (p:PR Y):PR Y:=if Y.nil p.ft.length then{p with ft:=p.ft ++ [.inr 1]} else
 {p with s:=(Y.beg p.ft.length p.s).s,ft:=p.ft ++ [(Y.beg p.ft.length p.s).N1],nts:=p.nts++tell p.ft.length p.evs.length (Y.beg p.ft.length p.s).nts,outs:=p.outs ++ [Y.beg p.ft.length p.s],who:=p.who ++ [none]}
def D3:Nat->PR Y
 |0=>Y.p0
 |n+1=>Y.bgn (D3 n)
def V4 (p:PR Y) (i:Nat):PR Y:=match p.ft[i]? with
 |some (.inl l)=>{p with s:=(Y.go i l p.s).s,ft:=p.ft.set i (Y.go i l p.s).N1,evs:=p.evs ++ [(i,Y.stp i l)],nts:=p.nts++tell i (p.evs.length+1) (Y.go i l p.s).nts,outs:=p.outs ++ [Y.go i l p.s],who:=p.who ++ [some i],used:=p.used+1}
 |_=>p
def gz0 (p:PR Y) (i:Nat):Bool:=match p.ft[i]? with
 |some (.inl l)=>Y.rdy i l p.s
 |_=>false
def rds (p:PR Y):List Nat:=(List.range Y.m).filter (Y.gz0 p)
def step (p:PR Y) (e:Int):PR Y:=match(Y.rds p)[aa0 e (Y.rds p).length]? with
 |some i=>Y.V4 p i
 |none=>p
def pn (sc:Nat->Int):Nat->PR Y
 |0=>Y.D3 Y.m
 |n+1=>Y.step (pn sc n) (sc n)
def o0:k6 Y.S Y.L:=⟨Y.s0,[],.inr 0⟩
def S4 (q:PR Y) (t:Nat):k6 Y.S Y.L:=(q.outs[t]?).getD Y.o0
def sAt (q:PR Y):Nat->Y.S
 |0=>Y.s0
 |t+1=>(Y.S4 q t).s
def Z1 (q:PR Y) (i t:Nat):Nat:=(q.who.take (t+1)).count (some i)
structure Le (p q:PR Y):Prop where
 outs:p.outs <+: q.outs
 who:p.who <+: q.who
theorem Le.refl (p:PR Y):Y.Le p p:=⟨List.prefix_refl _,List.prefix_refl _⟩
variable {Y}
theorem Le.trans {p q r:PR Y} (h:Y.Le p q) (h':Y.Le q r):Y.Le p r:=⟨h.outs.trans h'.outs,h.who.trans h'.who⟩
theorem di1 (p:PR Y):Y.Le p (Y.bgn p):=by
 unfold bgn;split
 ·exact⟨List.prefix_refl _,List.prefix_refl _⟩
 ·exact⟨List.prefix_append _ _,List.prefix_append _ _⟩
theorem Vy0 (p:PR Y) (i:Nat):Y.Le p (Y.V4 p i):=by
 unfold V4;split
 ·exact⟨List.prefix_append _ _,List.prefix_append _ _⟩
 ·exact Le.refl Y p
theorem le_step (p:PR Y) (e:Int):Y.Le p (Y.step p e):=by
 unfold step;split
 ·exact Vy0 p _
 ·exact Le.refl Y p
theorem Vz0 {n k:Nat}:Y.Le (Y.D3 n) (Y.D3 (n+k)):=by
 induction k with
 |zero=>exact Le.refl Y _
 |succ k ih=>exact ih.trans (di1 _)
theorem ah1 {sc:Nat->Int} {n k:Nat}:Y.Le (Y.pn sc n) (Y.pn sc (n+k)):=by
 induction k with
 |zero=>exact Le.refl Y _
 |succ k ih=>exact ih.trans (le_step _ _)
structure Ok (p:PR Y):Prop where
 s:p.s=Y.sAt p p.outs.length
 who:p.who.length=p.outs.length
 used:p.evs.length=p.used
theorem dj1 {p q:PR Y} (h:Y.Le p q) {t:Nat} (ht:t <=p.outs.length):Y.sAt q t=Y.sAt p t:=by
 cases t with
 |zero=>rfl
 |succ t=>
  obtain⟨l,hl⟩:=h.outs;show(Y.S4 q t).s=(Y.S4 p t).s;unfold S4;rw[<- hl,List.getElem?_append_left (by omega)]
theorem ml1:Ok (Y.p0):=⟨rfl,rfl,rfl⟩
theorem Ih0 (p:PR Y) (o:k6 Y.S Y.L) {q:PR Y} (hq:q.outs=p.outs ++ [o]):Y.sAt q (p.outs.length+1)=o.s:=by
 show(Y.S4 q p.outs.length).s=o.s;unfold S4;rw[hq];simp
theorem Ok.bgn {p:PR Y} (h:Ok p):Ok (Y.bgn p):=by
 unfold Sys.bgn;split
 ·exact⟨h.s,h.who,h.used⟩
 ·refine⟨?_,by simp[h.who],h.used⟩;simp only[List.length_append,List.length_cons,List.length_nil,Nat.zero_add];exact(Ih0 p _ rfl).symm
theorem Ok.V4 {p:PR Y} (h:Ok p) (i:Nat):Ok (Y.V4 p i):=by
 unfold Sys.V4;split
 ·refine⟨?_,by simp[h.who],by simp[h.used]⟩;simp only[List.length_append,List.length_cons,List.length_nil,Nat.zero_add];exact(Ih0 p _ rfl).symm
 ·exact h
theorem Ok.step {p:PR Y} (h:Ok p) (e:Int):Ok (Y.step p e):=by
 unfold Sys.step;split
 ·exact h.V4 _
 ·exact h
theorem zo0:∀n,Ok (Y.D3 n)
 |0=>ml1
 |n+1=>(zo0 n).bgn
theorem Cb0 (sc:Nat->Int):∀n,Ok (Y.pn sc n)
 |0=>zo0 _
 |n+1=>(Cb0 sc n).step _
theorem Wa0 {p q:PR Y} (h:Ok p) (hl:Y.Le p q):Y.sAt q p.outs.length=p.s:=by rw[dj1 hl (Nat.le_refl _),h.s]
theorem Pz0 {p q:PR Y} {o:k6 Y.S Y.L} {p':PR Y} (hp:p'.outs=p.outs ++ [o]) (hl:Y.Le p' q):Y.S4 q p.outs.length=o:=by
 obtain⟨l,hl⟩:=hl.outs;unfold S4;rw[<- hl,hp,List.append_assoc,List.getElem?_append_right (Nat.le_refl _)];simp
theorem m7:∀n,(Y.D3 n).ft.length=n
 |0=>rfl
 |n+1=>by
  show(Y.bgn (Y.D3 n)).ft.length=n+1;unfold bgn;split <;> simp[m7 n]
theorem Cc0 (p:PR Y) (i:Nat):(Y.V4 p i).ft.length=p.ft.length:=by
 unfold V4;split <;> simp
theorem Qa0 (p:PR Y) (e:Int):(Y.step p e).ft.length=p.ft.length:=by
 unfold step;split
 ·exact Cc0 p _
 ·rfl
def Reach (Y:Sys) (p:PR Y):Prop:=(∃n,n <=Y.m/\p=Y.D3 n)\/∃sc n,p=Y.pn sc n
theorem br0 (sc:Nat->Int):∀n,(Y.pn sc n).ft.length=Y.m
 |0=>m7 _
 |n+1=>(Qa0 _ _).trans (br0 sc n)
end
end Sys
structure LeOk (Y:Sys):Prop where
 refl:∀i a,Y.le i a a
 trans:∀i a b c,Y.le i a b->Y.le i b c->Y.le i a c
noncomputable def Sys.cfg (Y:Sys) (fb:Nat->FuncId) (q:PR Y) (w0:World) (i cb:Nat) (top:List Frame):Y9 prog where
 S:=Y.S
 L:=Y.L
 stp:=Y.stp i
 rdy:=Y.rdy i
 go:=Y.go i
 out:=Y.S4 q
 sOf:=Y.sAt q
 Z1:=Y.Z1 q i
 le:=Y.le i
 gu:=fun a b=>∀j,j≠i->Y.le j a b
 Inv:=Y.Inv
 At:=fun t l=>t <=300000/\∃p:PR Y,Y.Reach p/\p.outs.length=t/\p.s=Y.sAt q t/\p.ft[i]? =some (.inl l)
 BAt:=fun t=>t <=300000/\∃p:PR Y,Y.Reach p/\p.outs.length=t/\p.s=Y.sAt q t/\p.ft.length=i
 num:=i
 ptr:=cb
 base:=w0
 le0:=126
 Nq0:=some 74
 P4:=172
 Nr0:=none
 Ns0:=fb i
 top:=top
structure Geo where
 gm:Gm
 gi:Nat->Nat
 ab:Nat->Nat
 eb:Nat->Nat
 top:Nat->List Frame
 pv:Nat->Nat->Prop
section
variable (Y:Sys)(fb:Nat->FuncId)(q:PR Y)(w0:World)(Γ:Geo)(X:Gh)(R:Rn)(w:World)
structure Wt (j:Nat) (c:CB) (l:Y.L):Prop where
 wt:c.wt=true
 st:c.st=false
 sp:c.sp=Y.stp j l
 he:O1 w (Γ.eb j) #[.bool false] 4 (0,0)
 node:∃(me:Goroutine) (cs:List Frame) (wn:World) (mn:Gm) (Fn:Nat->Prop) (Rdo:World->World->Prop),X.W1 (Γ.gi j)=some ⟨c.rc,.bool false,me⟩/\qh0 cs c.cb c.df me/\(Y.cfg fb q w0 j c.cb (Γ.top j)).gi0 wn mn Fn c.rf l/\FnV prog c.df /\
  (∀b,Γ.pv j b↔b<wn.heap.size/\wn.heap[b]? ≠some nothing/\¬Fn b)/\(∀b,Γ.pv j b->w.heap[b]? =wn.heap[b]?)/\wn.os=w0.os/\wn.output=w0.output/\wn.heap.size <=w.heap.size/\Y.le j mn Γ.gm /\
  (∀u F',(Y.cfg fb q w0 j c.cb (Γ.top j)).Goes wn mn Fn l u F'->Jt0 prog (Y.cfg fb q w0 j c.cb (Γ.top j)).I5 c.df u (Rdo u)) /\
  (∀u F' u2,(Y.cfg fb q w0 j c.cb (Γ.top j)).Goes wn mn Fn l u F'->Rdo u u2->u2.tape=u.tape->∀fr,fr.fn=126->Leaves prog fr u2 (.returned (.tuple #[]))->ah0 (Y.cfg fb q w0 j c.cb (Γ.top j)) (G fr cs) u2) /\
  (∀u F',(Y.cfg fb q w0 j c.cb (Γ.top j)).y6 wn mn Fn u F'->gh u 2=1->∀fr ch,fr.fn=126->m6 ch->Leaves prog fr u (.panicked ch)->ah0 (Y.cfg fb q w0 j c.cb (Γ.top j)) (G fr cs) u)
structure Ck (j:Nat) (c:CB):Prop where
 top:Pk0 (Γ.top j) (Γ.ab j) (Γ.eb j) R.rb c.cb
 ha:O1 w (Γ.ab j) #[.p c.cb] 123 (0,0)
 he:∃en,O1 w (Γ.eb j) #[.bool en] 4 (0,0)
 fi0:0<Γ.gi j/\Γ.gi j<X.n
 stay:X.stay (Γ.gi j)=[(⟨c.cb,2,none⟩,.chan (some c.rc))]
 ch:X.chs c.rc
def Cl1 (j:Nat) (c:CB) (f:Y.L ⊕ Nat):Prop :=
 (Y.nil j=true/\f= .inr 1/\c.wt=false/\R.ends[j]? =some 1)\/(Y.nil j=false/\match f with
  | .inl l=>Wt Y fb q w0 Γ X w j c l
  | .inr x=>c.wt=false/\R.ends[j]? =some (x:Int)/\X.W1 (Γ.gi j)=none)
variable (Mn:Nat->Option Obj)
structure dk1:Prop where
 le:Y.lb <=w0.heap.size
 low:∀b,X.low b->Y.lb <=b
 pl:X.w7=Y.pl
structure Fix (hold:Option Nat) (ft:Nat->Option (Y.L ⊕ Nat)):Prop where
 mem:w5 w w0.heap.size R
 m:R.m=Y.m
 cl:∀j c,R.cl[j]? =some c->some j≠hold->∃f,ft j=some f/\Cl1 Y fb q w0 Γ X R w j c f
 ck:∀j c,R.cl[j]? =some c->Y.nil j=false->Ck Γ X R w j c
 fpB:∀b,R.fp b->w0.heap.size <=b
 side:∀j,j<R.cl.length->Y.nil j=false->w0.heap.size <=Γ.ab j/\w0.heap.size <=Γ.eb j/\¬R.fp (Γ.ab j)/\¬R.fp (Γ.eb j)
 pv:∀j b,Γ.pv j b->b<w.heap.size/\¬R.fp b/\¬Mn b≠none/\(∀k,k<R.cl.length->Y.nil k=false->b≠Γ.ab k/\b≠Γ.eb k)/\∀k,k≠j->¬Γ.pv k b
 mn:∀b,Mn b≠none->w.heap[b]? =Mn b/\¬R.fp b/\∀k,k<R.cl.length->Y.nil k=false->b≠Γ.ab k/\b≠Γ.eb k
 qk0:0<X.n
 os:hold=none->w.os=w0.os
 output:hold=none->w.output=w0.output
 size:w0.heap.size <=w.heap.size
 J4:X.J4=some ⟨R.rb,8⟩
 nz0:X.stay 0=[(⟨R.rb,7,none⟩,.chan (some R.yb))]
 chy:X.chs R.yb
 L4:∀g s,g≠0->X.W1 g=some s->∃j c,R.cl[j]? =some c/\Y.nil j=false/\g=Γ.gi j/\s.ch=c.rc/\some j≠hold
 Fm0:∀j k,j<R.cl.length->k<R.cl.length->Y.nil j=false->Y.nil k=false->Γ.gi j=Γ.gi k->j=k
 xo0:∀j k,j<R.cl.length->k<R.cl.length->Y.nil j=false->Y.nil k=false->Γ.eb j=Γ.eb k->j=k
 Ki0:∀j k c d,R.cl[j]? =some c->R.cl[k]? =some d->Y.nil j=false->Y.nil k=false->c.rc=d.rc->j=k
 ry:∀j c,R.cl[j]? =some c->Y.nil j=false->c.rc≠R.yb
 dn:X.dn=0
 pend:X.pend=0
 cap:X.cap <=R.cl.length
 under:X.ev0 w.heap.size
 w7:∀b,w.heap.size <=b->X.w7 b= .all
 ql0:hold=none->X.W1 0=none
 base:dk1 Y w0 X
end
section
variable {Y:Sys}{fb:Nat->FuncId}{q:PR Y}{Γ Γ':Geo}{X X':Gh}{R R':Rn}{w w':World}{Mn:Nat->Option Obj}{w0:World}{hold:Option Nat}{ft:Nat->Option (Y.L ⊕ Nat)}
def Kept (Y:Sys) (Γ:Geo) (R:Rn) (Mn:Nat->Option Obj) (b:Nat):Prop:=Mn b≠none\/(∃k,k<R.cl.length/\Y.nil k=false/\(b=Γ.ab k\/b=Γ.eb k))\/∃j,Γ.pv j b
theorem Wt.V4 {j:Nat} (hle:∀a b c,Y.le j a b->Y.le j b c->Y.le j a c) (hgm:Y.le j Γ.gm Γ'.gm) {c:CB} {l:Y.L} (h:Wt Y fb q w0 Γ X w j c l) (hb:∀b,Γ.pv j b->w'.heap[b]? =w.heap[b]?) (N2:w.heap.size <=w'.heap.size) (hs:X'.W1 (Γ.gi j)=X.W1 (Γ.gi j)) (he:w'.heap[Γ.eb j]? =w.heap[Γ.eb j]?) (hge:Γ'.eb j=Γ.eb j) (hg:Γ'.gi j=Γ.gi j) (ht:Γ'.top j=Γ.top j) (hp:Γ'.pv j=Γ.pv j):Wt Y fb q w0 Γ' X' w' j c l:=by
 obtain⟨h1,h2,h3,h4,me,cs,wn,mn,Fn,Rdo,a1,a2,a3,a4,a5,a6,a7,a8,a9,ale,a10,a11,a12⟩:=h;refine⟨h1,h2,h3,by rw[hge];exact he.trans h4,me,cs,wn,mn,Fn,Rdo,?_⟩;rw[hg,ht,hp,hs];exact⟨a1,a2,a3,a4,a5,fun b p7=>(hb b p7).trans (a6 b p7),a7,a8,Nat.le_trans a9 N2,hle _ _ _ ale hgm,a10,a11,a12⟩
theorem Cl1.V4 {j:Nat} (hle:∀a b c,Y.le j a b->Y.le j b c->Y.le j a c) (hgm:Y.le j Γ.gm Γ'.gm) {c:CB} {f:Y.L ⊕ Nat} (h:Cl1 Y fb q w0 Γ X R w j c f) (hb:∀b,Γ.pv j b->w'.heap[b]? =w.heap[b]?) (N2:w.heap.size <=w'.heap.size) (hs:Y.nil j=false->X'.W1 (Γ.gi j)=X.W1 (Γ.gi j)) (heb:Y.nil j=false->w'.heap[Γ.eb j]? =w.heap[Γ.eb j]?) (hge:Γ'.eb j=Γ.eb j) (hg:Γ'.gi j=Γ.gi j) (ht:Γ'.top j=Γ.top j) (hp:Γ'.pv j=Γ.pv j) (he:R'.ends[j]? =R.ends[j]?):Cl1 Y fb q w0 Γ' X' R' w' j c f:=by
 rcases h with⟨h1,h2,h3,h4⟩|⟨h1,h2⟩
 ·exact .inl ⟨h1,h2,h3,by rw[he];exact h4⟩
 ·refine .inr ⟨h1,?_⟩;cases f with
  |inl l=>exact Wt.V4 hle hgm h2 hb N2 (hs h1) (heb h1) hge hg ht hp
  |inr x=>exact⟨h2.1,by rw[he];exact h2.2.1,by rw[hg,hs h1];exact h2.2.2⟩
theorem Fix.V4 (hY:LeOk Y) (h:Fix Y fb q w0 Γ X R w Mn hold ft) (hM:w5 w' w0.heap.size R') (hrb:R'.rb=R.rb) (hyb:R'.yb=R.yb) (hm:R'.m=R.m) (hfp:∀b,R'.fp b->R.fp b\/w.heap.size <=b) (hlen:R'.cl.length=R.cl.length)
  (r7:∀j c',R'.cl[j]? =some c'->∃c,R.cl[j]? =some c/\c'.cb=c.cb/\c'.rc=c.rc/\(some j≠hold->c'=c/\R'.ends[j]? =R.ends[j]?)) (N2:w.heap.size <=w'.heap.size) (cx0:∀b,b<w.heap.size->¬R.fp b->Kept Y Γ R Mn b->w'.heap[b]? =w.heap[b]?\/∃i en,hold=some i/\i<R.cl.length/\Y.nil i=false/\b=Γ.eb i/\O1 w' b #[.bool en] 4 (0,0)) (hos:hold=none->w'.os=w.os/\w'.output=w.output) :
  Fix Y fb q w0 Γ X R' w' Mn hold ft:=by
 have lt:∀j c',R'.cl[j]? =some c'->j<R.cl.length:=fun j c' hc=>by rw[<- hlen];exact(List.getElem?_eq_some_iff.1 hc).1
 have hpv:∀j b,Γ.pv j b->w'.heap[b]? =w.heap[b]?:=fun j b hb=>by
  have hp:=h.pv j b hb;rcases cx0 b hp.1 hp.2.1 (.inr (.inr ⟨j,hb⟩))with z|⟨i,en,_,z1,z2,z3,_⟩
  ·exact z
  ·exact absurd z3 (hp.2.2.2.1 i z1 z2).2
 have heb:∀j,j<R.cl.length->Y.nil j=false->w'.heap[Γ.eb j]? =w.heap[Γ.eb j]?\/(hold=some j/\∃en,O1 w' (Γ.eb j) #[.bool en] 4 (0,0)):=fun j hj hn=>by
  obtain⟨en,he⟩:=(h.ck j _ (List.getElem?_eq_getElem hj) hn).he;rcases cx0 _ he.lt (h.side j hj hn).2.2.2 (.inr (.inl ⟨j,hj,hn,.inr rfl⟩))with z|⟨i,en,z0,z1,z2,z3,z4⟩
  ·exact .inl z
  ·obtain rfl:=h.xo0 j i hj z1 hn z2 z3;exact .inr ⟨z0,en,z4⟩
 have sc1:∀j,j<R.cl.length->Y.nil j=false->some j≠hold->w'.heap[Γ.eb j]? =w.heap[Γ.eb j]?:=fun j hj hn hh=>by
  rcases heb j hj hn with z|⟨z,_⟩
  ·exact z
  ·exact absurd z.symm hh
 refine⟨hM,hm.trans h.m,fun j c' hc hj=>?_,fun j c' hc hn=>?_,fun b hb=>?_,fun j hj hn=>?_,fun j b hb=>?_,fun b hb=>?_,h.qk0,fun z=>(hos z).1.trans (h.os z),fun z=>(hos z).2.trans (h.output z),Nat.le_trans h.size N2,by rw[hrb];exact h.J4,by rw[hrb,hyb];exact h.nz0,by rw[hyb];exact h.chy,fun g s hg hs=>?_,by rw[hlen];exact h.Fm0,by rw[hlen];exact h.xo0,fun j k c d hc hd hn hk e=>?_,fun j c' hc hn=>?_,h.dn,h.pend,by rw[hlen];exact h.cap,h.under.mono N2,fun b hb=>h.w7 b (Nat.le_trans N2 hb),h.ql0,h.base⟩
 ·obtain⟨c,hc0,_,_,h4⟩:=r7 j c' hc;obtain⟨rfl,h5⟩:=h4 hj;obtain⟨f,hf,h6⟩:=h.cl j c' hc0 hj;exact⟨f,hf,h6.V4 (hY.trans _) (hY.refl _ Γ.gm) (fun b hb=>hpv j b hb) N2 (fun _=>rfl) (fun hn=>sc1 j (lt j c' hc) hn hj) rfl rfl rfl rfl h5⟩
 ·obtain⟨c,hc0,hcb,hrc,_⟩:=r7 j c' hc;have hk:=h.ck j c hc0 hn;have hs:=h.side j (lt j c' hc) hn;refine⟨by rw[hrb,hcb];exact hk.top,?_,?_,hk.fi0,by rw[hcb,hrc];exact hk.stay,by rw[hrc];exact hk.ch⟩
  ·rw[hcb];rcases cx0 _ hk.ha.lt hs.2.2.1 (.inr (.inl ⟨j,lt j c' hc,hn,.inl rfl⟩))with z|⟨i,en,_,z1,z2,z3,_⟩
   ·exact z.trans hk.ha
   ·obtain⟨en',x9⟩:=(h.ck i _ (List.getElem?_eq_getElem z1) z2).he;exact absurd z3 (O1.ne hk.ha x9 (by decide))
  ·rcases heb j (lt j c' hc) hn with z|⟨_,z⟩
   ·obtain⟨en',x9⟩:=hk.he;exact⟨en',z.trans x9⟩
   ·exact z
 ·rcases hfp b hb with z|z
  ·exact h.fpB b z
  ·exact Nat.le_trans h.size z
 ·rw[hlen]at hj;have hs:=h.side j hj hn;obtain⟨c,hc⟩:∃c,R.cl[j]? =some c:=⟨_,List.getElem?_eq_getElem hj⟩
  have hk:=h.ck j c hc hn;exact⟨hs.1,hs.2.1,fun z=>by rcases hfp _ z with y|y;exact hs.2.2.1 y;have:=hk.ha.lt;omega,fun z=>by rcases hfp _ z with y|y;exact hs.2.2.2 y;have:=hk.he.choose_spec.lt;omega⟩
 ·have hp:=h.pv j b hb;exact⟨Nat.lt_of_lt_of_le hp.1 N2,fun z=>by rcases hfp _ z with y|y;exact hp.2.1 y;have:=hp.1;omega,hp.2.2.1,by rw[hlen];exact hp.2.2.2.1,hp.2.2.2.2⟩
 ·have hm':=h.mn b hb;have J1:b<w.heap.size:=by
   rcases Nat.lt_or_ge b w.heap.size with z|z
   ·exact z
   ·exact absurd (hm'.1.symm.trans (Array.getElem?_eq_none z)) hb
  refine⟨?_,fun z=>by rcases hfp b z with y|y;exact hm'.2.1 y;omega,by rw[hlen];exact hm'.2.2⟩;rcases cx0 b J1 hm'.2.1 (.inl hb)with z|⟨i,en,_,z1,z2,z3,_⟩
  ·exact z.trans hm'.1
  ·exact absurd z3 (hm'.2.2 i z1 z2).2
 ·obtain⟨j,c,h1,h2,h3,h4,h5⟩:=h.L4 g s hg hs;have hj:j<R'.cl.length:=by rw[hlen];exact(List.getElem?_eq_some_iff.1 h1).1
  obtain⟨c',H8⟩:∃c',R'.cl[j]? =some c':=⟨_,List.getElem?_eq_getElem hj⟩
  obtain⟨c2,e1,_,e3,_⟩:=r7 j c' H8;rw[h1]at e1;obtain rfl:=Option.some.inj e1;exact⟨j,c',H8,h2,h3,by rw[e3];exact h4,h5⟩
 ·obtain⟨c2,e1,_,e3,_⟩:=r7 j c hc;obtain⟨d2,f1,_,f3,_⟩:=r7 k d hd;exact h.Ki0 j k c2 d2 e1 f1 hn hk (by rw[<- e3,<- f3];exact e)
 ·obtain⟨c2,e1,_,e3,_⟩:=r7 j c' hc;rw[e3,hyb];exact h.ry j c2 e1 hn
end
end Go.Vy.Sc
end
section
namespace Go.Vy.Sc
open Go Go.Conc Go.Yc Go.RowKit Go.Proofs Go.Proofs.YtinppmaojmdmhaaGreat Tryz
open Go.Vc Go.Wg
section
attribute [local irreducible] KK
structure qm0 (Y:Sys):Prop extends LeOk Y where
 loc:∀s m (w w':World) F,Y.Inv s m w F->(∀b,F b->w'.heap[b]? =w.heap[b]?)->Y.Inv s m w' F
 vis:∀s m (w:World) F,Y.Inv s m w F->∀b,F b->b<w.heap.size/\w.heap[b]? ≠some nothing
section
variable {Y:Sys}{fb:Nat->FuncId}{q:PR Y}{Γ:Geo}{X:Gh}{R:Rn}{w:World}{Mn:Nat->Option Obj}{w0:World}{ft:Nat->Option (Y.L ⊕ Nat)}{i:Nat}
theorem ja0 {h j:Nat} {sh:Option S6} {g:Nat} (h1:g≠h) (h2:g≠j):(X.pass h j sh).W1 g=X.W1 g:=by
 show Go.ConcN.upd (Go.ConcN.upd X.W1 j none) h sh g=_;rw[Go.ConcN.upd_ne _ _ h1,Go.ConcN.upd_ne _ _ h2]
theorem bm0 {h j:Nat} {sh:Option S6}:(X.pass h j sh).W1 h=sh:=Go.ConcN.upd_same _ _ _
theorem oa0 {h j:Nat} {sh:Option S6} (hj:j≠h):(X.pass h j sh).W1 j=none:=by
 show Go.ConcN.upd (Go.ConcN.upd X.W1 j none) h sh j=_;rw[Go.ConcN.upd_ne _ _ hj,Go.ConcN.upd_same]
def Geo.put (Γ:Geo) (i:Nat) (N:Nat->Prop):Geo:={Γ with pv:=fun j b=>if j=i then N b else Γ.pv j b}
def Geo.ok0 (Γ:Geo) (i:Nat) (N:Nat->Prop) (m:Gm):Geo:={Γ.put i N with gm:=m}
theorem lj0 {N:Nat->Prop} {m:Gm} {j:Nat} (h:j≠i):(Γ.ok0 i N m).pv j=Γ.pv j:=by funext b;simp[Geo.ok0,Geo.put,h]
theorem zp0 {N:Nat->Prop} {j:Nat} (h:j≠i):(Γ.put i N).pv j=Γ.pv j:=by funext b;simp[Geo.put,h]
theorem Fix.back (hY:LeOk Y) {m:Gm} (hm:∀j,j≠i->Y.le j Γ.gm m) (h:Fix Y fb q w0 Γ X R w Mn (some i) ft) (hn:Y.nil i=false) {c:CB} (hc:R.cl[i]? =some c) {N:Nat->Prop} (hN:∀b,N b->b<w.heap.size/\¬R.fp b/\¬Kept Y Γ R Mn b) {sh:Option S6} (hsh:∀s,sh=some s->s.ch=c.rc) {f:Y.L ⊕ Nat}
  (hf:Cl1 Y fb q w0 (Γ.ok0 i N m) (X.pass (Γ.gi i) 0 sh) R w i c f) (hos:w.os=w0.os/\w.output=w0.output):Fix Y fb q w0 (Γ.ok0 i N m) (X.pass (Γ.gi i) 0 sh) R w Mn none (fun j=>if j=i then some f else ft j):=by
 have hi:=(List.getElem?_eq_some_iff.1 hc).1;have hg:=(h.ck i c hc hn).fi0;have hg0:Γ.gi i≠0:=by omega
 refine⟨h.mem,h.m,fun j c' H8 _=>?_,fun j c' H8 hn'=>?_,h.fpB,h.side,fun j b hb=>?_,h.mn,h.qk0,fun _=>hos.1,fun _=>hos.2,h.size,h.J4,h.nz0,h.chy,fun g s hg' hs=>?_,h.Fm0,h.xo0,h.Ki0,h.ry,h.dn,h.pend,h.cap,⟨h.under.stay,h.under.y5,h.under.chs,h.under.J4,h.under.low⟩,h.w7,fun _=>oa0 hg0.symm,⟨h.base.le,h.base.low,h.base.pl⟩⟩
 ·by_cases hj:j=i
  ·subst hj;rw[hc]at H8;obtain rfl:=Option.some.inj H8;exact⟨f,by simp,hf⟩
  ·obtain⟨f',h1,h2⟩:=h.cl j c' H8 (by simpa using hj);have hjl:=(List.getElem?_eq_some_iff.1 H8).1;refine⟨f',by simp[hj,h1],h2.V4 (Γ':=Γ.ok0 i N m) (hY.trans _) (hm j hj) (fun _ _=>rfl) (Nat.le_refl _) (fun p9=>ja0 (fun e=>hj (h.Fm0 j i hjl hi p9 hn e)) ?_) (fun _=>rfl) rfl rfl rfl (lj0 hj) rfl⟩;have:=(h.ck j c' H8 p9).fi0;omega
 ·have:=h.ck j c' H8 hn';exact⟨this.top,this.ha,this.he,this.fi0,this.stay,this.ch⟩
 ·by_cases hj:j=i
  ·subst hj;have p7:N b:=by simpa [Geo.ok0,Geo.put]using hb
   obtain⟨h1,h2,h3⟩:=hN b p7;refine⟨h1,h2,fun z=>h3 (.inl z),fun k hk hnk=>⟨fun e=>h3 (.inr (.inl ⟨k,hk,hnk,.inl e⟩)),fun e=>h3 (.inr (.inl ⟨k,hk,hnk,.inr e⟩))⟩,fun k hk hp=>?_⟩;rw[lj0 hk]at hp;exact h3 (.inr (.inr ⟨k,hp⟩))
  ·rw[lj0 hj]at hb;obtain⟨h1,h2,h3,h4,h5⟩:=h.pv j b hb;refine⟨h1,h2,h3,h4,fun k hk hp=>?_⟩;by_cases hki:k=i
   ·subst hki;have p7:N b:=by simpa [Geo.ok0,Geo.put]using hp
    exact(hN b p7).2.2 (.inr (.inr ⟨j,hb⟩))
   ·rw[lj0 hki]at hp;exact h5 k hk hp
 ·by_cases hgi:g=Γ.gi i
  ·subst hgi;rw[bm0]at hs;exact⟨i,c,hc,hn,rfl,hsh s hs,by simp⟩
  ·rw[ja0 hgi hg']at hs;obtain⟨j,c',h1,h2,h3,h4,_⟩:=h.L4 g s hg' hs;exact⟨j,c',h1,h2,h3,h4,by simp⟩
theorem Fix.mm1 (hY:LeOk Y) (h:Fix Y fb q w0 Γ X R w Mn none ft) (hn:Y.nil i=false) {c:CB} (hc:R.cl[i]? =some c) {s0:S6}:Fix Y fb q w0 (Γ.put i fun _=>False) (X.pass 0 (Γ.gi i) (some s0)) R w Mn (some i) ft:=by
 have hi:=(List.getElem?_eq_some_iff.1 hc).1;have hg:=(h.ck i c hc hn).fi0;have hg0:Γ.gi i≠0:=by omega
 refine⟨h.mem,h.m,fun j c' H8 r9=>?_,fun j c' H8 hn'=>?_,h.fpB,h.side,fun j b hb=>?_,h.mn,h.qk0,fun z=>by simp at z,fun z=>by simp at z,h.size,h.J4,h.nz0,h.chy,fun g s hg' hs=>?_,h.Fm0,h.xo0,h.Ki0,h.ry,h.dn,h.pend,h.cap,⟨h.under.stay,h.under.y5,h.under.chs,h.under.J4,h.under.low⟩,h.w7,(fun z=>by simp at z),⟨h.base.le,h.base.low,h.base.pl⟩⟩
 ·have hj:j≠i:=by simpa using r9
  obtain⟨f',h1,h2⟩:=h.cl j c' H8 (by simp);have hjl:=(List.getElem?_eq_some_iff.1 H8).1;refine⟨f',h1,h2.V4 (Γ':=Γ.put i fun _=>False) (hY.trans _) (hY.refl _ Γ.gm) (fun _ _=>rfl) (Nat.le_refl _) (fun p9=>ja0 ?_ (fun e=>hj (h.Fm0 j i hjl hi p9 hn e))) (fun _=>rfl) rfl rfl rfl (zp0 hj) rfl⟩;have:=(h.ck j c' H8 p9).fi0;omega
 ·have:=h.ck j c' H8 hn';exact⟨this.top,this.ha,this.he,this.fi0,this.stay,this.ch⟩
 ·by_cases hj:j=i
  ·subst hj;simp[Geo.put]at hb
  ·rw[zp0 hj]at hb;obtain⟨h1,h2,h3,h4,h5⟩:=h.pv j b hb;refine⟨h1,h2,h3,h4,fun k hk hp=>?_⟩;by_cases hki:k=i
   ·subst hki;simp[Geo.put]at hp
   ·rw[zp0 hki]at hp;exact h5 k hk hp
 ·by_cases hgi:g=Γ.gi i
  ·subst hgi;rw[oa0 hg0]at hs;cases hs
  ·rw[ja0 hg' hgi]at hs;obtain⟨j,c',h1,h2,h3,h4,_⟩:=h.L4 g s hg' hs;refine⟨j,c',h1,h2,h3,h4,?_⟩;intro e;obtain rfl:j=i:=by simpa using e
   exact hgi h3
structure Main (Y:Sys) (fb:Nat->FuncId) (q:PR Y) (w0:World) (Γ:Geo) (X:Gh) (R:Rn) (w:World) (Mn:Nat->Option Obj) (ft:Nat->Option (Y.L ⊕ Nat)) (s:Y.S):Prop where
 fix:Fix Y fb q w0 Γ X R w Mn none ft
 inv:∃F,Y.Inv s Γ.gm w F/\∀b,F b->¬R.fp b/\¬Kept Y Γ R Mn b
def mo0 {L:Type} (e:List Int) (i:Nat):L ⊕ Nat->List Int
 | .inl _=>e
 | .inr x=>e.set i (x:Int)
def Rel (R0 R':Rn) (i:Nat) (nts:List (Nat×Nat×Nte)) (ends:List Int):Prop:=∃na nc c c',R0.cl[i]? =some c/\c'.Z1=c.Z1/\R'={R0 with na:=na,nc:=nc,nts:=nts,cl:=R0.cl.set i c',ends:=ends}
structure bs0 (Y:Sys) (fb:Nat->FuncId) (q:PR Y) (w0:World) (Γ:Geo) (X:Gh) (Mn:Nat->Option Obj) (ft:Nat->Option (Y.L ⊕ Nat)) (i t at_ cb:Nat) (n0:List (Nat×Nat×Nte)) (R0 R:Rn) (H:Hid) (v:World):Prop where
 fix:Fix Y fb q w0 Γ X R (over H v) Mn (some i) ft
 y5:n8 H v
 no:∀b o,H b=some o->v.heap[b]? =some nothing
 all:∀b,(R.fp b\/Kept Y Γ R Mn b)->H b≠none
 tq:gh v 0=t
 gmq:gm v=Γ.gm
 atq:R.evs.length=at_
 cl:∃c,R.cl[i]? =some c/\c.cb=cb/\((gh v 2=0/\c.st=false/\R.nts=n0++tell i at_ ((Y.S4 q t).nts.take (gh v 1))/\c.Z1=Y.Z1 q i t)\/(gh v 2=1/\c.st=true/\R.nts=n0))
 rel:∃na nc nts,R={R0 with na:=na,nc:=nc,nts:=nts}
 nil:Y.nil i=false
 he:O1 (over H v) (Γ.eb i) #[.bool false] 4 (0,0)
theorem bs0.il {Y:Sys} {fb:Nat->FuncId} {q:PR Y} {w0:World} {Γ:Geo} {X:Gh} {Mn:Nat->Option Obj} {ft:Nat->Option (Y.L ⊕ Nat)} {i t at_ cb:Nat} {n0:List (Nat×Nat×Nte)} {R0 R:Rn} {H:Hid} {v:World} (h:bs0 Y fb q w0 Γ X Mn ft i t at_ cb n0 R0 R H v):i<R.cl.length:=by
 obtain⟨c,hc,_⟩:=h.cl;exact(List.getElem?_eq_some_iff.1 hc).1
theorem Ii0 {H:Hid} {v:World} {b:Nat} {o:Obj} (y5:n8 H v) (h:H b=some o):(over H v).heap[b]? =some o:=bj0 h (y5.gone b o h).lt
theorem Cd0 {v v':World} (he:Evo v v') {b:Nat} (h:v.heap[b]? =some nothing):v'.heap[b]? =some nothing:=by
 obtain⟨y,hy,hk⟩:=he.obj _ _ h;obtain⟨c,rfl,h1,_⟩:=v9 hk;have:c=#[]:=by simpa using h1
 subst this;exact hy
theorem bs0.evo {Y:Sys} (hY:LeOk Y) {fb:Nat->FuncId} {q:PR Y} {w0:World} {Γ:Geo} {X:Gh} {Mn:Nat->Option Obj} {ft:Nat->Option (Y.L ⊕ Nat)} {i t at_ cb:Nat} {n0:List (Nat×Nat×Nte)} {R0 R:Rn} {H:Hid} {v v':World} (h:bs0 Y fb q w0 Γ X Mn ft i t at_ cb n0 R0 R H v) (he:Evo v v') (ht:v'.tape=v.tape):bs0 Y fb q w0 Γ X Mn ft i t at_ cb n0 R0 R H v':=by
 have mo1:=h.y5.evo he;have hk:∀b,(R.fp b\/Kept Y Γ R Mn b)->(over H v').heap[b]? =(over H v).heap[b]?:=fun b hb=>by
  cases hh:H b with
  |none=>exact absurd hh (h.all b hb)
  |some o=>rw[Ii0 mo1 hh,Ii0 h.y5 hh]
 refine⟨h.fix.V4 hY (h.fix.mem.congr fun b hb=>hk b (.inl hb)) rfl rfl rfl (fun b hb=>.inl hb) rfl (fun j c hc=>⟨c,hc,rfl,rfl,fun _=>⟨rfl,rfl⟩⟩) (by rw[o5,o5];exact he.size) (fun b _ _ hb=>.inl (hk b (.inr hb))) (fun z=>by cases z),mo1,fun b o hb=>Cd0 he (h.no b o hb),h.all,by rw[J3 ht];exact h.tq,by rw[ca0 ht];exact h.gmq,h.atq,?_,h.rel,h.nil,(hk _ (.inr (.inr (.inl ⟨i,h.il,h.nil,.inr rfl⟩)))).trans h.he⟩;rw[J3 ht,J3 ht];exact h.cl
end
end
section
attribute [local irreducible] KK
theorem Fix.V2 {Y:Sys} (hY:LeOk Y) {fb:Nat->FuncId} {q:PR Y} {Γ:Geo} {X:Gh} {R:Rn} {w:World} {Mn:Nat->Option Obj} {w0:World} {ft:Nat->Option (Y.L ⊕ Nat)} {hold:Option Nat} (h:Fix Y fb q w0 Γ X R w Mn hold ft) (τ:Tape) (d:Nat):Fix Y fb q w0 Γ X R (Yc.V2 w τ d) Mn hold ft :=
 h.V4 hY (h.mem.congr fun _ _=>rfl) rfl rfl rfl (fun _b hb=>.inl hb) rfl (fun _j c hc=>⟨c,hc,rfl,rfl,fun _=>⟨rfl,rfl⟩⟩) (Nat.le_refl _) (fun _ _ _ _=>.inl rfl) (fun _=>⟨rfl,rfl⟩)
theorem xp0 {v:Value} (h:FnV prog v):v.cells=#[v]/\v.oneCell'=true:=by
 rcases h with rfl|⟨f,caps,rfl,_⟩ <;> exact⟨rfl,rfl⟩
theorem Y9.gi0.fnV {K:Y9 prog} {w:World} {m:Gm} {F:Nat->Prop} {rf:Value} {l:K.L} (h:K.gi0 w m F rf l):FnV prog rf:=by
 rcases h with⟨h,_⟩|⟨f,caps,h,_⟩
 ·exact .inl h
 ·exact .inr ⟨f,caps,h⟩
theorem Ce0 {fr:Frame} {w w':World} {v:Value} {fn:Func} (hf:prog.funcs[fr.fn]? =some fn) (hr:fn.results=#[]\/∃t,fn.results=#[.tmp t]) (hv:fn.results=#[]->v= .tuple #[]) (h:Leaves prog fr w (.returned v)) (hnv:Q7 w):Leaves prog fr w' (.returned v):=by
 obtain⟨h1,h2,h3,fn',h4,h5⟩:=h;rw[hf]at h4;obtain rfl:=Option.some.inj h4;refine⟨h1,h2,h3,fn,hf,?_⟩;rcases hr with hr|⟨t,hr⟩
 ·rw[hv hr];exact z8 (fun w=>results_none hr _ _ w) (fun w=>events_results_none hr _ _)
 ·obtain⟨x',es,h6,_⟩:=h5 w.tape w.drawn _ w hnv.sim;have h7:=results_tmp hr fr.tmps prog w;rw[Sem.runT_eq]at h6;have h8:=(Prod.mk.inj h6).1;rw[h7]at h8;injection h8 with h9 h10
  rw[<- h9];exact z8 (fun w=>results_tmp hr _ _ w) (fun w=>events_results_tmp hr _ _)
section
variable {Y:Sys}{fb:Nat->FuncId}{q:PR Y}{Γ:Geo}{X:Gh}{R R0:Rn}{w:World}{Mn:Nat->Option Obj}{w0:World}{ft:Nat->Option (Y.L ⊕ Nat)}{i t at_ cb:Nat}{n0:List (Nat×Nat×Nte)}
theorem Fix.Wb0 (h:Fix Y fb q w0 Γ X R w Mn (some i) ft) {b:Nat} (hb:R.fp b\/Kept Y Γ R Mn b):b<w.heap.size:=by
 rcases hb with hb|hb|⟨k,hk,hn,hb⟩|⟨j,hb⟩
 ·exact h.mem.lt hb
 ·rcases Nat.lt_or_ge b w.heap.size with z|z
  ·exact z
  ·exact absurd ((h.mn b hb).1.symm.trans (Array.getElem?_eq_none z)) hb
 ·have:=h.ck k _ (List.getElem?_eq_getElem hk) hn;rcases hb with rfl|rfl
  ·exact this.ha.lt
  ·exact this.he.choose_spec.lt
 ·exact(h.pv j b hb).1
theorem bs0.enter (hY:LeOk Y) (V:Nat->Prop) [DecidablePred V] {τ:Tape} {d:Nat} (fix:Fix Y fb q w0 Γ X R w Mn (some i) ft) (hV:∀b,(R.fp b\/Kept Y Γ R Mn b)->¬V b) (nv:Q7 w) (h1:gh (Yc.V2 (S3 V w) τ d) 0=t) (hgm:gm (Yc.V2 (S3 V w) τ d)=Γ.gm) (h2:R.evs.length=at_)
  (h3:∃c,R.cl[i]? =some c/\c.cb=cb/\((gh (Yc.V2 (S3 V w) τ d) 2=0/\c.st=false/\R.nts=n0++tell i at_ ((Y.S4 q t).nts.take (gh (Yc.V2 (S3 V w) τ d) 1))/\c.Z1=Y.Z1 q i t)\/(gh (Yc.V2 (S3 V w) τ d) 2=1/\c.st=true/\R.nts=n0)))
  (h4:∃na nc nts,R={R0 with na:=na,nc:=nc,nts:=nts}) (hn:Y.nil i=false) (he:O1 w (Γ.eb i) #[.bool false] 4 (0,0)):bs0 Y fb q w0 Γ X Mn ft i t at_ cb n0 R0 R (X9 V w) (Yc.V2 (S3 V w) τ d):=by
 refine⟨?_,(pw0 nv).V2 τ d,fun b o hb=>?_,fun b hb=>?_,h1,hgm,h2,h3,h4,hn,?_⟩
 ·rw[W9,lb0];exact fix.V2 hY τ d
 ·by_cases hv:V b
  ·simp[X9,hv]at hb
  ·simp only[X9,hv,if_false]at hb;exact jz0 hv (Array.getElem?_eq_some_iff.1 hb).1
 ·have hv:=hV b hb;have J1:=fix.Wb0 hb;simp only[X9,hv,if_false];rw[Array.getElem?_eq_getElem J1];simp
 ·rw[W9,lb0];exact he
def After (Y:Sys) (fb:Nat->FuncId) (q:PR Y) (w0:World) (Mn:Nat->Option Obj) (ft:Nat->Option (Y.L ⊕ Nat)) (i t:Nat) (n0:List (Nat×Nat×Nte)) (R0:Rn) (st:Bool) (Γ':Geo) (X':Gh) (R':Rn) (w':World):Prop :=
 (st=false/\Main Y fb q w0 Γ' X' R' w' Mn (fun j=>if j=i then some (Y.S4 q t).N1 else ft j) (Y.S4 q t).s/\Rel R0 R' i (n0++tell i R0.evs.length (Y.S4 q t).nts) (mo0 R0.ends i (Y.S4 q t).N1)) \/
 (st=true/\Main Y fb q w0 Γ' X' R' w' Mn (fun j=>if j=i then some (.inr 0) else ft j) (Y.sAt q t)/\Rel R0 R' i n0 (R0.ends.set i 0))
theorem bs0.dl1 {H:Hid} {v:World} (h:bs0 Y fb q w0 Γ X Mn ft i t at_ cb n0 R0 R H v) {b:Nat} (hb:v.heap[b]? ≠some nothing):H b=none/\¬R.fp b/\¬Kept Y Γ R Mn b:=by
 have hn:H b=none:=by
  cases hh:H b with
  |none=>rfl
  |some o=>exact absurd (h.no b o hh) hb
 exact⟨hn,fun z=>h.all b (.inl z) hn,fun z=>h.all b (.inr z) hn⟩
theorem bs0.chs {H:Hid} {v:World} (h:bs0 Y fb q w0 Γ X Mn ft i t at_ cb n0 R0 R H v) (hn:Y.nil i=false) {c:CB} (hc:R.cl[i]? =some c):∀g s2,g≠0->X.W1 g=some s2->s2.ch≠c.rc:=by
 intro g s2 hg hs e;obtain⟨j,d,h1,h2,h3,h4,h5⟩:=h.fix.L4 g s2 hg hs;have:=h.fix.Ki0 j i d c h1 hc h2 hn (h4.symm.trans e);subst this;exact h5 rfl
theorem bs0.home (hY:qm0 Y) {H:Hid} {v w':World} (h:bs0 Y fb q w0 Γ X Mn ft i t at_ cb n0 R0 R H v) (hn:Y.nil i=false) {c c':CB} {ends:List Int} {S:Nat->Prop} {B:Nat} (hc:R.cl[i]? =some c) (mp1:c'.cb=c.cb) (sd1:c'.rc=c.rc) (_hc'p:c'.Z1=c.Z1) (hg:Rg S B (over H v) w' w0.heap.size {R with cl:=R.cl.set i c',ends:=ends}) (hB:B=(over H v).heap.size) (hS:∀k,S k->R.fp k\/(k=Γ.eb i)) (se1:∃en,O1 w' (Γ.eb i) #[.bool en] 4 (0,0)) (Qb0:∀j,j≠i->ends[j]? =R.ends[j]?)
  (F:Nat->Prop) {s:Y.S} {m:Gm} (hm:∀j,j≠i->Y.le j (gm v) m) (hinv:Y.Inv s m v F) (hos:v.os=w0.os/\v.output=w0.output) {sh:Option S6} (hsh:∀s,sh=some s->s.ch=c'.rc) {f:Y.L ⊕ Nat} {N:Nat->Prop} (hN:∀b,N b->v.heap[b]? ≠some nothing/\b<v.heap.size/\¬F b) (hf:(∀b,v.heap[b]? ≠some nothing->b<v.heap.size->w'.heap[b]? =v.heap[b]?)->Cl1 Y fb q w0 (Γ.ok0 i N m) (X.pass (Γ.gi i) 0 sh) {R with cl:=R.cl.set i c',ends:=ends} w' i c' f) :
  Main Y fb q w0 (Γ.ok0 i N m) (X.pass (Γ.gi i) 0 sh) {R with cl:=R.cl.set i c',ends:=ends} w' Mn (fun j=>if j=i then some f else ft j) s/\(∃na nc,{R with cl:=R.cl.set i c',ends:=ends}={R0 with na:=na,nc:=nc,nts:=R.nts,cl:=R0.cl.set i c',ends:=ends}):=by
 subst hB;have M7:=(List.getElem?_eq_some_iff.1 hc).1;have ai1:∀b,b<(over H v).heap.size->¬R.fp b->b≠Γ.eb i->w'.heap[b]? =(over H v).heap[b]?:=fun b hb hf he=>hg.md.block b hb fun hs=>(hS b hs).elim hf he;have bn0:∀b,v.heap[b]? ≠some nothing->b<v.heap.size->w'.heap[b]? =v.heap[b]?:=fun b hb J1=>by
  obtain⟨h1,h2,h3⟩:=h.dl1 hb;rw[ai1 b (by rw[o5];exact J1) h2 (fun e=>h3 (.inr (.inl ⟨i,M7,hn,.inr e⟩))),G6 v h1]
 have hfp:∀b,Rn.fp {R with cl:=R.cl.set i c',ends:=ends} b->R.fp b:=fun b hb=>Rn.Hz0 (R:=R) hc mp1 hb;have hK:∀b,Kept Y Γ {R with cl:=R.cl.set i c',ends:=ends} Mn b↔Kept Y Γ R Mn b:=fun b=>by simp[Kept]
 have mq1:=h.fix.V4 hY.toLeOk (R':={R with cl:=R.cl.set i c',ends:=ends}) (w':=w') hg.m rfl rfl rfl (fun b hb=>.inl (hfp b hb)) (by simp) (fun j d hd=>by
  have L6:(R.cl.set i c')[j]? =some d:=hd;rw[List.getElem?_set]at L6;by_cases hj:i=j
  ·subst hj;rw[if_pos rfl,if_pos M7]at L6;obtain rfl:=Option.some.inj L6;exact⟨c,hc,mp1,sd1,fun z=>absurd rfl z⟩
  ·rw[if_neg hj]at L6;exact⟨d,L6,rfl,rfl,fun _=>⟨rfl,Qb0 j (Ne.symm hj)⟩⟩) hg.md.size (fun b hb hf _=>by
   by_cases he:b=Γ.eb i
   ·subst he;obtain⟨en,he⟩:=se1;exact .inr ⟨i,en,rfl,M7,hn,rfl,he⟩
   ·exact .inl (ai1 b hb hf he)) (fun z=>by cases z)
 have H8:Rn.cl {R with cl:=R.cl.set i c',ends:=ends}=R.cl.set i c':=rfl;have hci:(Rn.cl {R with cl:=R.cl.set i c',ends:=ends})[i]? =some c':=by rw[H8];simp[M7]
 have mr1:=mq1.back hY.toLeOk (m:=m) (by rw[<- h.gmq];exact hm) hn hci (N:=N) (fun b hb=>by
  obtain⟨h1,h2,h3⟩:=hN b hb;obtain⟨h4,h5,h6⟩:=h.dl1 h1;refine⟨Nat.lt_of_lt_of_le h2 (by have:=hg.md.size;rw[o5]at this;exact this),fun z=>h5 (hfp b z),fun z=>h6 ((hK b).1 z)⟩) hsh (hf bn0) ⟨hg.md.os.trans hos.1,hg.md.output.trans hos.2⟩
 refine⟨⟨mr1,F,hY.loc _ _ v w' F hinv fun b hb=>?_,fun b hb=>?_⟩,?_⟩
 ·have:=hY.vis _ _ v F hinv b hb;exact bn0 b this.2 this.1
 ·have hv:=hY.vis _ _ v F hinv b hb;obtain⟨h4,h5,h6⟩:=h.dl1 hv.2;refine⟨fun z=>h5 (hfp b z),fun z=>?_⟩;rcases z with z|z|⟨j,z⟩
  ·exact h6 (.inl z)
  ·exact h6 ((hK b).1 (.inr (.inl z)))
  ·by_cases hj:j=i
   ·subst hj;have:N b:=by simpa [Geo.ok0,Geo.put]using z
    exact(hN b this).2.2 hb
   ·rw[lj0 hj]at z;exact h6 (.inr (.inr ⟨j,z⟩))
 ·obtain⟨na,nc,nts,rfl⟩:=h.rel;exact⟨na,nc,rfl⟩
end
end
section
attribute [local irreducible] KK
section
variable {Y:Sys}{fb:Nat->FuncId}{q:PR Y}{Γ:Geo}{X:Gh}{R R0:Rn}{Mn:Nat->Option Obj}{w0:World}{ft:Nat->Option (Y.L ⊕ Nat)}{i t at_ cb:Nat}{n0:List (Nat×Nat×Nte)}{H:Hid}{v:World}
theorem bs0.fi0 (h:bs0 Y fb q w0 Γ X Mn ft i t at_ cb n0 R0 R H v):0<Γ.gi i:=(h.fix.ck i _ (List.getElem?_eq_getElem h.il) h.nil).fi0.1
theorem bs0.ms1 (h:bs0 Y fb q w0 Γ X Mn ft i t at_ cb n0 R0 R H v) {b:Nat} (hb:H b=none):¬R.fp b/\¬Kept Y Γ R Mn b:=⟨fun z=>h.all b (.inl z) hb,fun z=>h.all b (.inr z) hb⟩
theorem bs0.again (hY:LeOk Y) (h:bs0 Y fb q w0 Γ X Mn ft i t at_ cb n0 R0 R H v) {w':World} {R':Rn} {τ:Tape} {d:Nat} (hg:Rg R.fp (over H v).heap.size (over H v) w' w0.heap.size R') (V:Nat->Prop) [DecidablePred V] (hV:∀b,V b↔(H b=none/\¬R'.fp b)) (nv:Q7 w') (hR:∃na nc nts,R'={R with na:=na,nc:=nc,nts:=nts})
  (h1:gh (Yc.V2 (S3 V w') τ d) 0=t) (hgm:gm (Yc.V2 (S3 V w') τ d)=gm v) (h3:∃c,R'.cl[i]? =some c/\c.cb=cb/\((gh (Yc.V2 (S3 V w') τ d) 2=0/\c.st=false/\R'.nts=n0++tell i at_ ((Y.S4 q t).nts.take (gh (Yc.V2 (S3 V w') τ d) 1))/\c.Z1=Y.Z1 q i t)\/(gh (Yc.V2 (S3 V w') τ d) 2=1/\c.st=true/\R'.nts=n0))) :
  bs0 Y fb q w0 Γ X Mn ft i t at_ cb n0 R0 R' (X9 V w') (Yc.V2 (S3 V w') τ d)/\io0 v (Yc.V2 (S3 V w') τ d):=by
 obtain⟨na,nc,nts,rfl⟩:=hR;have hkb:∀b,b<(over H v).heap.size->¬R.fp b->w'.heap[b]? =(over H v).heap[b]?:=fun b hb hf=>hg.md.block b hb hf;have oh0:=h.fix.V4 hY (R':={R with na:=na,nc:=nc,nts:=nts}) (w':=w') hg.m rfl rfl rfl hg.fp rfl (fun j c hc=>⟨c,hc,rfl,rfl,fun _=>⟨rfl,rfl⟩⟩) hg.md.size (fun b hb hf _=>.inl (hkb b hb hf)) (fun z=>by cases z);have heL:=h.he.lt;have heF:¬R.fp (Γ.eb i):=(h.fix.side i h.il h.nil).2.2.2;refine⟨bs0.enter hY V oh0 (fun b hb hv=>?_) nv h1 (hgm.trans h.gmq) h.atq h3 ?_ h.nil ((hkb _ heL heF).trans h.he),⟨?_,?_,?_,fun b hb=>?_⟩⟩
 ·obtain⟨h4,h5⟩:=(hV b).1 hv;rcases hb with hb|hb
  ·exact h5 hb
  ·exact h.all b (.inr hb) h4
 ·obtain⟨a,c,n,e⟩:=h.rel;exact⟨na,nc,nts,by rw[e]⟩
 ·exact hg.md.os
 ·exact hg.md.output
 ·show v.heap.size <=(S3 V w').heap.size;rw[aq0,<- o5 H v];exact hg.md.size
 ·show(S3 V w').heap[b]? =v.heap[b]?;have p7:b<(over H v).heap.size:=by rw[o5];exact hb
  cases hh:H b with
  |none=>
   have hf:=h.ms1 hh;have hf':¬Rn.fp {R with na:=na,nc:=nc,nts:=nts} b:=fun z=>(hg.fp b z).elim hf.1 (Nat.not_le_of_lt p7);rw[ci0 _ ((hV b).2 ⟨hh,hf'⟩),hkb b p7 hf.1,G6 v hh]
  |some o=>
   rw[jz0 (fun z=>by rw[((hV b).1 z).1]at hh;cases hh) (Nat.lt_of_lt_of_le p7 hg.md.size),h.no b o hh]
theorem kf0 {Post:Value->World->Prop} {z0:Value} {me0:Goroutine} {st:Bool} (hY:qm0 Y) (hX0:X.W1 0=some ⟨R0.yb,z0,me0⟩) (hnt:n0.length+(Y.S4 q t).nts.length <=1000000000)
  (I9:∀Γ' X' R' w',After Y fb q w0 Mn ft i t n0 R0 st Γ' X' R' w'->Fin prog Post X' 0 (Go.Conc.served me0 (.i (i:Int))) w') {g:Goroutine} {v:World} (hp:ah0 (Y.cfg fb q w0 i cb (Γ.top i)) g v) :
  ∀H R,bs0 Y fb q w0 Γ X Mn ft i t at_ cb n0 R0 R H v->(∀c,R.cl[i]? =some c->c.st=st)->la0 prog Post X (Γ.gi i) H g v:=by
 induction hp with
 |own hr g' u' d' hf hk ih=>
  intro H R h S2;have hg0:(Γ.gi i==0)=false:=by have:=h.fi0;simp;omega
  refine pv0 hr fun τ d=>⟨g' τ d,u' τ d,by rw[hg0];exact hf τ d,fun he=>cu0 (ih τ d H R (h.evo hY.toLeOk ⟨he.size,he.obj⟩ rfl) S2)⟩
 |ign h0 ih=>
  intro H R h S2;exact Ib0.2 _ _ fun hv=>ih hv H R h S2
 | @number cs v hN k ih=>
  obtain⟨fn,h1,h2⟩:=hN;have h1:prog.funcs[172]? =some fn:=h1;rw[func172]at h1;cases h1;exact absurd h2 (by rw[show Tryz.f172.body.isSome=false by kernel_rfl];exact fun h=>by cases h)
 |Z1 hfn=>cases hfn
 | @again cs v s rf df h2 hs k ih=>
  intro H R h S2 hH;obtain⟨c,hc,hcb,r7⟩:=h.cl;have hB:=h.fix.mem.blk i c hc;have pc0:c.st=true/\R.nts=n0:=by
   rcases r7 with r7|r7
   ·have:=r7.1;omega
   ·exact r7.2
  have hg0:(Γ.gi i==0)=false:=by have:=h.fi0;simp;omega
  obtain⟨s0,rfl⟩:=hs;subst hcb;refine Fk0 (Z:=Fin prog Post X (Γ.gi i)) (by have:=@E6 prog Post X (Γ.gi i);rw[hg0]at this;exact this) hB pc0.1 fun w' fr ch hb hf hr hl=>?_;refine bz0 _ _ fun nv=>?_;haveI:DecidablePred fun b=>H b=none/\¬R.fp b:=fun _=>Classical.propDecidable _;have hg:Rg R.fp (over H v).heap.size (over H v) w' w0.heap.size R:=h.fix.mem.rg.j0 hb;have htp:w'.tape=v.tape:=hb.tape;obtain⟨h5,h6⟩:=h.again hY.toLeOk (τ:=w'.tape) (d:=w'.drawn) hg (fun b=>H b=none/\¬R.fp b) (fun _=>Iff.rfl) nv ⟨R.na,R.nc,R.nts,rfl⟩ ((J3 htp 0).trans h.tq) (ca0 htp) ⟨c,hc,rfl,.inr ⟨(J3 htp 2).trans h2,pc0⟩⟩;exact lh0 (fun b=>H b=none/\¬R.fp b) (ih _ fr ch h6 htp hf hr hl _ R h5 S2)
 | @note cs v kind text f hfn h2 hx k ih=>
  intro H R h S2 hH;obtain rfl:=Option.some.inj hfn;obtain⟨c,hc,hcb,r7⟩:=h.cl;have htq:=h.tq;have jl0:c.st=false/\R.nts=n0++tell i at_ ((Y.S4 q t).nts.take (gh v 1))/\c.Z1=Y.Z1 q i t:=by
   rcases r7 with r7|r7
   ·exact r7.2
   ·have:=r7.1;omega
  have V5:(Y.S4 q t).nts[gh v 1]? =some ⟨kind,text⟩:=by rw[<- htq];exact hx
  have J1:=(List.getElem?_eq_some_iff.1 V5).1;have hle:w0.heap.size <=(over H v).heap.size:=h.fix.size;subst hcb;refine @db1 (B2 prog (Γ.gi i==0)) R.fp (over H v).heap.size (over H v) w0.heap.size R (over H v) h.fix.mem.rg hle i c hc jl0.1 (by
   rw[jl0.2.1];simp[tell];omega) kind text _ E6 cs fun e w' fr he hf hl=>?_
  cases e with
  |returned x=>
   obtain⟨rfl,a,n,hg⟩:=he;refine bz0 _ _ fun nv=>?_;haveI:DecidablePred fun b=>H b=none/\¬Rn.fp {R with na:=a,nc:=n,nts:=R.nts ++ [(R.evs.length,i,⟨kind,text⟩)]} b:=fun _=>Classical.propDecidable _;have htp:w'.tape=v.tape:=hg.md.tape;have hg1:∀U:World,gh (Yc.V2 U (ez0 w' 1 (gh v 1+1)).tape w'.drawn) 1=gh v 1+1:=fun U=>bz1 w' 1 _;have hgn:∀(U:World) (j:Nat),j≠1->gh (Yc.V2 U (ez0 w' 1 (gh v 1+1)).tape w'.drawn) j=gh v j:=fun U j hj=>(Js0 w' _ hj).trans (J3 htp j);obtain⟨h5,h6⟩:=h.again hY.toLeOk (τ:=(ez0 w' 1 (gh v 1+1)).tape) (d:=w'.drawn) hg (fun b=>H b=none/\¬Rn.fp {R with na:=a,nc:=n,nts:=R.nts ++ [(R.evs.length,i,⟨kind,text⟩)]} b) (fun _=>Iff.rfl) nv ⟨a,n,_,rfl⟩ ((hgn _ 0 (by decide)).trans h.tq) (funext fun j=>hgn _ (j+3) (by omega))
    ⟨c,hc,rfl,.inl ⟨(hgn _ 2 (by decide)).trans h2,jl0.1,by
     rw[hg1,jl0.2.1,h.atq,List.take_add_one,V5];simp[tell],jl0.2.2⟩⟩
   refine lh0 (fun b=>H b=none/\¬Rn.fp {R with na:=a,nc:=n,nts:=R.nts ++ [(R.evs.length,i,⟨kind,text⟩)]} b) (cu0 (ih _ fr h6 (hgn _ 0 (by decide)) (hg1 _) ((hgn _ 2 (by decide)).trans h2) (funext fun j=>hgn _ (j+3) (by omega)) hf (Ce0 (by rw[hf];exact func74) (.inl rfl) (fun _=>rfl) hl nv) _ _ h5 S2))
  |panicked ch=>exact he.elim
  |outgrown=>exact he.elim
 | @step cs v s rf df l m F ht hs hr hdf Rdo hdo go stop ihg ihs=>
  intro H R h S2 hH;obtain⟨c,hc,hcb,r7⟩:=h.cl;have htq:=h.tq;have hn:=h.nil;have h2:gh v 2=0:=ht.on;have jl0:c.st=false/\R.nts=n0++tell i at_ ((Y.S4 q t).nts.take (gh v 1))/\c.Z1=Y.Z1 q i t:=by
   rcases r7 with r7|r7
   ·exact r7.2
   ·have:=r7.1;omega
  have aj1:(Y.S4 q t).N1= .inl l:=by rw[<- htq];exact ht.N1
  have mp0:gh v 1=(Y.S4 q t).nts.length:=by rw[<- htq];exact ht.nts
  have hinv:Y.Inv (Y.S4 q t).s m v F:=by rw[<- htq];exact ht.inv
  have hck:=h.fix.ck i c hc hn;have M7:=h.il;obtain⟨na,nc,nts,tf0⟩:=h.rel;have hyb:R.yb=R0.yb:=by rw[tf0]
  have hR0:R0.cl=R.cl:=by rw[tf0]
  have dm1:R0.evs=R.evs:=by rw[tf0]
  subst hcb hs;refine step_fin (Bs:=w0.heap.size) h.fix.mem.rg hc jl0.1 (xp0 (Y9.gi0.fnV hr)) (xp0 hdf) (by have:=h.fi0;omega) (by rw[hyb];exact hX0) h.fix.dn hck.stay ⟨hck.ch,h.chs hn hc⟩ fun w' me hg hme=>?_;have hef:=(h.fix.side i M7 hn).2.2.2;have heb:O1 w' (Γ.eb i) #[.bool false] 4 (0,0):=(hg.md.block _ h.he.lt hef).trans h.he;obtain⟨h7,h8⟩:=h.home hY hn (c':={c with sp:=Y.stp i l,rf:=rf,df:=df,wt:=true}) (ends:=R.ends) hc rfl rfl rfl hg rfl (fun k hk=>.inl hk) ⟨_,heb⟩ (fun _ _=>rfl) F ht.le hinv ⟨ht.os,ht.output⟩ (sh:=some ⟨c.rc,.bool false,me⟩) (fun s e=>by cases e;rfl) (f:=.inl l)
   (N:=fun b=>b<v.heap.size/\v.heap[b]? ≠some nothing/\¬F b) (fun b hb=>⟨hb.2.1,hb.1,hb.2.2⟩) (fun bn0=>.inr ⟨hn,rfl,jl0.1,rfl,heb,me,cs,v,m,F,Rdo,bm0,hme,hr,hdf,fun b=>by simp[Geo.ok0,Geo.put],fun b hb=>by
    have p7:b<v.heap.size/\v.heap[b]? ≠some nothing/\¬F b:=by simpa [Geo.ok0,Geo.put]using hb
    exact bn0 b p7.2.1 p7.1,ht.os,ht.output,by have:=hg.md.size;rw[o5]at this;exact this,hY.refl _ _,hdo,go,stop⟩)
  rw[<- aj1]at h7;obtain⟨a,b,e⟩:=h8;refine I9 _ _ _ _ (.inl ⟨(S2 c hc).symm.trans jl0.1,h7,a,b,c,{c with sp:=Y.stp i l,rf:=rf,df:=df,wt:=true},by rw[hR0];exact hc,rfl,e.trans ?_⟩)
  ·rw[aj1,show mo0 R0.ends i (Sum.inl l:Y.L ⊕ Nat)=R.ends from by rw[tf0];rfl,jl0.2.1,mp0,List.take_length,dm1,h.atq]
 | @done fr v e F hf hl hd=>
  intro H R h S2 hH;obtain⟨c,hc,hcb,r7⟩:=h.cl;have htq:=h.tq;have hn:=h.nil;have hck:=h.fix.ck i c hc hn;have M7:=h.il;obtain⟨na,nc,nts,tf0⟩:=h.rel;have hyb:R.yb=R0.yb:=by rw[tf0]
  have hR0:R0.cl=R.cl:=by rw[tf0]
  have dm1:R0.evs=R.evs:=by rw[tf0]
  have hsd:=h.fix.side i M7 hn;have hlen:R.ends.length=R.m:=h.fix.mem.hw0;have him:i<R.ends.length:=by have:=h.fix.mem.lcl;omega
  have key:∀x:Nat,mc1 c (x:Int) e->((st=false/\(Y.S4 q t).N1= .inr x/\gh v 1=(Y.S4 q t).nts.length/\∃m,(∀j,j≠i->Y.le j (gm v) m)/\Y.Inv (Y.S4 q t).s m v F)\/(st=true/\x=0/\∃m,(∀j,j≠i->Y.le j (gm v) m)/\Y.Inv (Y.sAt q t) m v F))->v.os=w0.os->v.output=w0.output->Fin prog Post X (Γ.gi i) (G fr (Γ.top i)) (over H v):=by
   intro x hx hk hos gl0;have hg:Rg (fun b=>R.fp b\/b=Γ.eb i) (over H v).heap.size (over H v) (over H v) w0.heap.size R:=⟨h.fix.mem,ke0.refl _ _ _,fun k hk=>.inl (.inl hk),Nat.le_refl _⟩
   refine hck.top.leave (x:Int) hg rfl hc rfl hck.ha h.he (.inl (.inr rfl)) hx h.fi0 (by rw[hyb];exact hX0) h.fix.dn h.fix.J4 (fun w' hg' heb=>?_) (nv0 hH hl);have Qb0:∀j,j≠i->(R.ends.set i (x:Int))[j]? =R.ends[j]?:=fun j hj=>by rw[List.getElem?_set_ne (Ne.symm hj)]
   have hmk:∀s m,(∀j,j≠i->Y.le j (gm v) m)->Y.Inv s m v F->_:=fun s m hm hs=>h.home hY hn (c':={c with wt:=false}) (ends:=R.ends.set i (x:Int)) hc rfl rfl rfl hg' rfl (fun k hk=>hk) heb Qb0 F hm hs ⟨hos,gl0⟩ (sh:=none) (fun s e=>by cases e) (f:=.inr x) (N:=fun _=>False) (fun b hb=>hb.elim) (fun bn0=>.inr ⟨hn,rfl,by simp[him],bm0⟩);rcases hk with⟨h1,h2,h3,m,hm,h4⟩|⟨h1,h2,m,hm,h3⟩
   ·have pc0:c.st=false:=(S2 c hc).trans h1;have jl0:R.nts=n0++tell i at_ ((Y.S4 q t).nts.take (gh v 1)):=by
     rcases r7 with r7|r7
     ·exact r7.2.2.1
     ·rw[pc0]at r7;exact absurd r7.2.1 (by decide)
    obtain⟨h7,a,b,e'⟩:=hmk _ m hm h4;rw[<- h2]at h7;refine I9 _ _ _ _ (.inl ⟨h1,h7,a,b,c,{c with wt:=false},by rw[hR0];exact hc,rfl,e'.trans ?_⟩)
    ·rw[h2,show mo0 R0.ends i (Sum.inr x:Y.L ⊕ Nat)=R.ends.set i (x:Int)from by rw[tf0];rfl,jl0,h3,List.take_length,dm1,h.atq]
   ·have pc0:c.st=true:=(S2 c hc).trans h1;have jl0:R.nts=n0:=by
     rcases r7 with r7|r7
     ·rw[pc0]at r7;exact absurd r7.2.1 (by decide)
     ·exact r7.2.2
    obtain⟨h7,a,b,e'⟩:=hmk _ m hm h3;subst h2;refine I9 _ _ _ _ (.inr ⟨h1,h7,a,b,c,{c with wt:=false},by rw[hR0];exact hc,rfl,e'.trans ?_⟩)
    ·rw[show R0.ends.set i 0=R.ends.set i ((0:Nat):Int)from by rw[tf0];rfl,jl0]
  have dn1:gh v 2=0->c.st=false:=fun z=>by rcases r7 with r7|r7;exact r7.2.1;have:=r7.1;omega
  have Wc0:gh v 2=1->c.st=true:=fun z=>by rcases r7 with r7|r7;have:=r7.1;omega;exact r7.2.1
  have iq0:∀(x:Nat) m,(Y.cfg fb q w0 i cb (Γ.top i)).Told v m F (.inr x)->(st=false/\(Y.S4 q t).N1= .inr x/\gh v 1=(Y.S4 q t).nts.length/\∃m,(∀j,j≠i->Y.le j (gm v) m)/\Y.Inv (Y.S4 q t).s m v F):=fun x m ht=>
   ⟨(S2 c hc).symm.trans (dn1 ht.on),by rw[<- htq];exact ht.N1,by rw[<- htq];exact ht.nts,m,ht.le,by rw[<- htq];exact ht.inv⟩
  cases e with
  |outgrown=>exact hd.elim
  |returned x=>
   rcases hd with⟨m,ht⟩|⟨h2,h3,h4,h5⟩
   ·exact key 1 (.inr ⟨dn1 ht.on,rfl⟩) (.inl (iq0 1 m ht)) ht.os ht.output
   ·exact key 0 (.inl ⟨Wc0 h2,rfl⟩) (.inr ⟨(S2 c hc).symm.trans (Wc0 h2),rfl,by rw[<- htq];exact h3⟩) h4 h5
  |panicked ch=>
   obtain⟨l7,⟨m,ht⟩|⟨h2,h3,h4,h5⟩⟩:=hd
   ·exact key 2 ⟨l7,.inr ⟨dn1 ht.on,rfl⟩⟩ (.inl (iq0 2 m ht)) ht.os ht.output
   ·exact key 0 ⟨l7,.inl ⟨Wc0 h2,rfl⟩⟩ (.inr ⟨(S2 c hc).symm.trans (Wc0 h2),rfl,by rw[<- htq];exact h3⟩) h4 h5
end
end
section
attribute [local irreducible] KK
def o3 {α:Type} (f:Nat->α) (i:Nat) (x:α):Nat->α:=fun j=>if j=i then x else f j
theorem Z0 {α:Type} {f:Nat->α} {i:Nat} {x:α} {j:Nat} (h:j≠i):o3 f i x j=f j:=by simp[o3,h]
theorem Y0 {α:Type} {f:Nat->α} {i:Nat} {x:α}:o3 f i x i=x:=by simp[o3]
def Geo.add (Γ:Geo) (i g a e:Nat) (top:List Frame):Geo:=⟨Γ.gm,o3 Γ.gi i g,o3 Γ.ab i a,o3 Γ.eb i e,o3 Γ.top i top,o3 Γ.pv i fun _=>False⟩
def Cf0 (X:Gh) (cb rc:Nat) (s:S6):Gh :=
 {((Gh.hire {X.lower cb with pend:=1,cap:=X.cap+1,dn:=0} s).lower rc)with chs:=fun c=>X.chs c\/c=rc,stay:=Go.ConcN.upd X.stay X.n [(⟨cb,2,none⟩,.chan (some rc))]}
section
variable {Y:Sys}{fb:Nat->FuncId}{q:PR Y}{Γ:Geo}{X:Gh}{R:Rn}{w w1:World}{Mn:Nat->Option Obj}{w0:World}{ft:Nat->Option (Y.L ⊕ Nat)}{i:Nat}
theorem ac0 {α:Type} {l:List α} {x y:α} {j:Nat} (h:(l ++ [x])[j]? =some y):l[j]? =some y\/(j=l.length/\x=y):=by
 rcases Nat.lt_trichotomy j l.length with z|z|z
 ·rw[List.getElem?_append_left z]at h;exact .inl h
 ·subst z;simp at h;exact .inr ⟨rfl,h⟩
 ·rw[List.getElem?_eq_none (by simp;omega)]at h;cases h
theorem Fix.do1 (hY:LeOk Y) (h:Fix Y fb q w0 Γ X R w Mn none ft) (hn:Y.nil i=true) (hi:R.cl.length=i) {cb rc:Nat} {a:Option Addr} {n:Nat} (him:i<R.m) (hcb:w.heap.size <=cb) (hg:Rg R.fp w.heap.size w w1 w0.heap.size {R with ca:=a,cc:=n,cl:=R.cl ++ [T4 cb rc],ends:=R.ends.set i 1}) (hft:ft i=none) :
  Fix Y fb q w0 Γ (X.lower cb) {R with ca:=a,cc:=n,cl:=R.cl ++ [T4 cb rc],ends:=R.ends.set i 1} w1 Mn none (fun j=>if j=i then some (.inr 1) else ft j):=by
 have J1:∀b,b<w.heap.size->¬R.fp b->w1.heap[b]? =w.heap[b]?:=hg.md.block;have hle:∀j,j<(R.cl ++ [T4 cb rc]).length->Y.nil j=false->j<R.cl.length:=fun j hj p9=>by
  rw[List.length_append,List.length_singleton]at hj;rcases Nat.lt_or_ge j R.cl.length with z|z
  ·exact z
  ·have:j=i:=by omega
   rw[this,hn]at p9;cases p9
 have hold:∀j c,(R.cl ++ [T4 cb rc])[j]? =some c->Y.nil j=false->R.cl[j]? =some c:=fun j c hc p9=>by
  rcases ac0 hc with z|⟨z,_⟩
  ·exact z
  ·rw[z,hi,hn]at p9;cases p9
 have N3:R.ends.length=R.m:=h.mem.hw0;have hfp:∀b,Rn.fp {R with ca:=a,cc:=n,cl:=R.cl ++ [T4 cb rc],ends:=R.ends.set i 1} b->R.fp b\/w.heap.size <=b:=hg.fp;have hnf:∀b,b<w.heap.size->¬R.fp b->¬Rn.fp {R with ca:=a,cc:=n,cl:=R.cl ++ [T4 cb rc],ends:=R.ends.set i 1} b:=fun b hb hf z=>(hfp b z).elim hf (Nat.not_le_of_lt hb);refine⟨hg.m,h.m,fun j c hc _=>?_,fun j c hc p9=>?_,fun b hb=>?_,fun j hj p9=>?_,fun j b hb=>?_,fun b hb=>?_,h.qk0,fun z=>hg.md.os.trans (h.os z),fun z=>hg.md.output.trans (h.output z),Nat.le_trans h.size hg.md.size,h.J4,h.nz0,h.chy,fun g s hg' hs=>?_,fun j k hj hk p9 hnk=>h.Fm0 j k (hle j hj p9) (hle k hk hnk) p9 hnk,fun j k hj hk p9 hnk=>h.xo0 j k (hle j hj p9) (hle k hk hnk) p9 hnk,fun j k c d hc hd p9 hnk=>h.Ki0 j k c d (hold j c hc p9) (hold k d hd hnk) p9 hnk,fun j c hc p9=>h.ry j c (hold j c hc p9) p9,h.dn,h.pend,?_,?_,fun b hb=>h.w7 b (Nat.le_trans hg.md.size hb),h.ql0,⟨h.base.le,fun b hb=>hb.elim (h.base.low b) fun e=>by have:=h.base.le;have:=h.size;omega,h.base.pl⟩⟩
 ·rcases ac0 hc with z|⟨z,rfl⟩
  ·have hjl:=(List.getElem?_eq_some_iff.1 z).1;obtain⟨f,h1,h2⟩:=h.cl j c z (by simp);have O3:j≠i:=by omega
   refine⟨f,by simp[O3,h1],h2.V4 (Γ':=Γ) (hY.trans _) (hY.refl _ Γ.gm) (fun b hb=>J1 b (h.pv j b hb).1 (h.pv j b hb).2.1) hg.md.size (fun _=>rfl) (fun p9=>?_) rfl rfl rfl rfl (by show(R.ends.set i 1)[j]? =_;rw[List.getElem?_set_ne (Ne.symm O3)])⟩;exact J1 _ (h.ck j c z p9).he.choose_spec.lt (h.side j hjl p9).2.2.2
  ·rw[hi]at z;subst z;refine⟨.inr 1,by simp,.inl ⟨hn,rfl,rfl,?_⟩⟩;show(R.ends.set j 1)[j]? =some 1;simp[N3,him]
 ·have H8:=hold j c hc p9;have hk:=h.ck j c H8 p9;have hjl:=(List.getElem?_eq_some_iff.1 H8).1;have hs:=h.side j hjl p9;refine⟨hk.top,(J1 _ hk.ha.lt hs.2.2.1).trans hk.ha,?_,hk.fi0,hk.stay,hk.ch⟩;obtain⟨en,he⟩:=hk.he;exact⟨en,(J1 _ he.lt hs.2.2.2).trans he⟩
 ·rcases hfp b hb with z|z
  ·exact h.fpB b z
  ·exact Nat.le_trans h.size z
 ·have hjl:=hle j hj p9;have hs:=h.side j hjl p9;have hk:=h.ck j _ (List.getElem?_eq_getElem hjl) p9;exact⟨hs.1,hs.2.1,hnf _ hk.ha.lt hs.2.2.1,hnf _ hk.he.choose_spec.lt hs.2.2.2⟩
 ·have hp:=h.pv j b hb;exact⟨Nat.lt_of_lt_of_le hp.1 hg.md.size,hnf b hp.1 hp.2.1,hp.2.2.1,fun k hk hnk=>hp.2.2.2.1 k (hle k hk hnk) hnk,hp.2.2.2.2⟩
 ·have hm:=h.mn b hb;have p7:b<w.heap.size:=by
   rcases Nat.lt_or_ge b w.heap.size with z|z
   ·exact z
   ·exact absurd (hm.1.symm.trans (Array.getElem?_eq_none z)) hb
  exact⟨(J1 b p7 hm.2.1).trans hm.1,hnf b p7 hm.2.1,fun k hk hnk=>hm.2.2 k (hle k hk hnk) hnk⟩
 ·obtain⟨j,c,h1,h2⟩:=h.L4 g s hg' hs;have hjl:=(List.getElem?_eq_some_iff.1 h1).1;exact⟨j,c,by show(R.cl ++ [T4 cb rc])[j]? =some c;rw[List.getElem?_append_left hjl];exact h1,h2⟩
 ·show X.cap <=(R.cl ++ [T4 cb rc]).length;have:=h.cap;simp;omega
 ·have hu:=h.under.mono hg.md.size;have r7:cb<w1.heap.size:=(hg.m.blk i (T4 cb rc) (by show(R.cl ++ [T4 cb rc])[i]? =_;rw[<- hi];simp)).lt;exact⟨hu.stay,hu.y5,hu.chs,hu.J4,fun b hb=>by
   rcases hb with z|rfl
   ·exact hu.low b z
   ·exact r7⟩
theorem Fix.hire (hY:LeOk Y) (h:Fix Y fb q w0 Γ X R w Mn none ft) (hn:Y.nil i=false) (hi:R.cl.length=i) {cb rc M8 Y7:Nat} {a:Option Addr} {n:Nat} {top:List Frame} {s:S6} (hs:s.ch=R.yb) (hM:w5 w1 w0.heap.size {R with ca:=a,cc:=n,cl:=R.cl ++ [T4 cb rc]}) (N2:w.heap.size <=w1.heap.size) (_hos:w1.os=w.os/\w1.output=w.output)
  (J1:∀b,b<w.heap.size->¬R.fp b->w1.heap[b]? =w.heap[b]?) (hfp:∀b,Rn.fp {R with ca:=a,cc:=n,cl:=R.cl ++ [T4 cb rc]} b->R.fp b\/w.heap.size <=b) (hcb:w.heap.size <=cb) (hrc:w.heap.size <=rc/\rc<w1.heap.size) (hab:w.heap.size <=M8) (heb:w.heap.size <=Y7) (hA:O1 w1 M8 #[.p cb] 123 (0,0)) (hE:O1 w1 Y7 #[.bool false] 4 (0,0))
  (hnA:¬Rn.fp {R with ca:=a,cc:=n,cl:=R.cl ++ [T4 cb rc]} M8) (hnE:¬Rn.fp {R with ca:=a,cc:=n,cl:=R.cl ++ [T4 cb rc]} Y7) (hT:Pk0 top M8 Y7 R.rb cb) :
  Fix Y fb q w0 (Γ.add i X.n M8 Y7 top) (Cf0 X cb rc s) {R with ca:=a,cc:=n,cl:=R.cl ++ [T4 cb rc]} w1 Mn (some i) ft:=by
 have hle:∀j,j<(R.cl ++ [T4 cb rc]).length->j≠i->j<R.cl.length:=fun j hj O3=>by
  rw[List.length_append,List.length_singleton]at hj;omega
 have hold:∀j c,(R.cl ++ [T4 cb rc])[j]? =some c->j≠i->R.cl[j]? =some c:=fun j c hc O3=>by
  rcases ac0 hc with z|⟨z,_⟩
  ·exact z
  ·exact absurd (z.trans hi) O3
 have A1:∀c,(R.cl ++ [T4 cb rc])[i]? =some c->c=T4 cb rc:=fun c hc=>by
  rw[<- hi]at hc;simp at hc;exact hc.symm
 have hnf:∀b,b<w.heap.size->¬R.fp b->¬Rn.fp {R with ca:=a,cc:=n,cl:=R.cl ++ [T4 cb rc]} b:=fun b hb hf z=>(hfp b z).elim hf (Nat.not_le_of_lt hb);have hgi:∀{j},j≠i->(Γ.add i X.n M8 Y7 top).gi j=Γ.gi j:=fun hj=>Z0 hj;have Qc0:(Γ.add i X.n M8 Y7 top).gi i=X.n:=Y0;have Wd0:∀{j},j≠i->(Γ.add i X.n M8 Y7 top).ab j=Γ.ab j:=fun hj=>Z0 hj;have We0:(Γ.add i X.n M8 Y7 top).ab i=M8:=Y0;have zq0:∀{j},j≠i->(Γ.add i X.n M8 Y7 top).eb j=Γ.eb j:=fun hj=>Z0 hj;have Cg0:(Γ.add i X.n M8 Y7 top).eb i=Y7:=Y0;have htn:∀{j},j≠i->(Γ.add i X.n M8 Y7 top).top j=Γ.top j:=fun hj=>Z0 hj;have hti:(Γ.add i X.n M8 Y7 top).top i=top:=Y0;have hpn:∀{j},j≠i->(Γ.add i X.n M8 Y7 top).pv j=Γ.pv j:=fun hj=>Z0 hj;have hpi:(Γ.add i X.n M8 Y7 top).pv i=fun _=>False:=Y0;have hgn:∀j,j<R.cl.length->Y.nil j=false->Γ.gi j≠X.n:=fun j hj p9 e=>by
  have:=(h.ck j _ (List.getElem?_eq_getElem hj) p9).fi0;omega
 have S7:∀g,g≠0->(Cf0 X cb rc s).W1 g=X.W1 g:=fun g hg=>Go.ConcN.upd_ne _ _ hg;have Ch0:∀g,g≠X.n->(Cf0 X cb rc s).stay g=X.stay g:=fun g hg=>Go.ConcN.upd_ne _ _ hg;have Qd0:∀b,b<w.heap.size->(∀k,k<R.cl.length->Y.nil k=false->b≠Γ.ab k/\b≠Γ.eb k)->∀k,k<(R.cl ++ [T4 cb rc]).length->Y.nil k=false->b≠(Γ.add i X.n M8 Y7 top).ab k/\b≠(Γ.add i X.n M8 Y7 top).eb k:=fun b hb hk k hkl hnk=>by
  by_cases hki:k=i
  ·rw[hki,We0,Cg0];constructor <;> omega
  ·rw[Wd0 hki,zq0 hki];exact hk k (hle k hkl hki) hnk
 refine⟨hM,h.m,fun j c hc hj=>?_,fun j c hc p9=>?_,fun b hb=>?_,fun j hj p9=>?_,fun j b hb=>?_,fun b hb=>?_,Nat.succ_pos _,(fun z=>by cases z),(fun z=>by cases z),Nat.le_trans h.size N2,h.J4,?_,.inl h.chy,fun g s' hg' hs'=>?_,fun j k hj hk p9 hnk=>?_,fun j k hj hk p9 hnk=>?_,fun j k c d hc hd p9 hnk=>?_,fun j c hc p9=>?_,rfl,rfl,?_,?_,fun b hb=>h.w7 b (Nat.le_trans N2 hb),(fun z=>by cases z),⟨h.base.le,fun b hb=>?_,h.base.pl⟩⟩
 ·have O3:j≠i:=fun e=>hj (by rw[e]);have z:=hold j c hc O3;have hjl:=(List.getElem?_eq_some_iff.1 z).1;obtain⟨f,h1,h2⟩:=h.cl j c z (by simp);refine⟨f,h1,h2.V4 (Γ':=Γ.add i X.n M8 Y7 top) (hY.trans _) (hY.refl _ Γ.gm) (fun b hb=>J1 b (h.pv j b hb).1 (h.pv j b hb).2.1) N2 (fun p9=>?_) (fun p9=>?_) (zq0 O3) (hgi O3) (htn O3) (hpn O3) rfl⟩
  ·have:=(h.ck j c z p9).fi0;exact S7 _ (by omega)
  ·exact J1 _ (h.ck j c z p9).he.choose_spec.lt (h.side j hjl p9).2.2.2
 ·by_cases O3:j=i
  ·subst O3;obtain rfl:=A1 c hc;refine⟨by rw[hti,We0,Cg0];exact hT,by rw[We0];exact hA,⟨false,by rw[Cg0];exact hE⟩,⟨by rw[Qc0];exact h.qk0,by rw[Qc0];exact Nat.lt_succ_self _⟩,by rw[Qc0];exact Go.ConcN.upd_same _ _ _,.inr rfl⟩
  ·have z:=hold j c hc O3;have hk:=h.ck j c z p9;have hjl:=(List.getElem?_eq_some_iff.1 z).1;have hs:=h.side j hjl p9;refine⟨by rw[htn O3,Wd0 O3,zq0 O3];exact hk.top,by rw[Wd0 O3];exact(J1 _ hk.ha.lt hs.2.2.1).trans hk.ha,?_,⟨by rw[hgi O3];exact hk.fi0.1,by rw[hgi O3];exact Nat.lt_succ_of_lt hk.fi0.2⟩,by rw[hgi O3,Ch0 _ (hgn j hjl p9)];exact hk.stay,.inl hk.ch⟩;obtain⟨en,he⟩:=hk.he;exact⟨en,by rw[zq0 O3];exact(J1 _ he.lt hs.2.2.2).trans he⟩
 ·rcases hfp b hb with z|z
  ·exact h.fpB b z
  ·exact Nat.le_trans h.size z
 ·by_cases O3:j=i
  ·subst O3;rw[We0,Cg0];exact⟨Nat.le_trans h.size hab,Nat.le_trans h.size heb,hnA,hnE⟩
  ·have hjl:=hle j hj O3;have hs:=h.side j hjl p9;have hk:=h.ck j _ (List.getElem?_eq_getElem hjl) p9;rw[Wd0 O3,zq0 O3];exact⟨hs.1,hs.2.1,hnf _ hk.ha.lt hs.2.2.1,hnf _ hk.he.choose_spec.lt hs.2.2.2⟩
 ·by_cases O3:j=i
  ·subst O3;rw[hpi]at hb;exact hb.elim
  ·rw[hpn O3]at hb;have hp:=h.pv j b hb;refine⟨Nat.lt_of_lt_of_le hp.1 N2,hnf b hp.1 hp.2.1,hp.2.2.1,Qd0 b hp.1 hp.2.2.2.1,fun k hk hkp=>?_⟩;by_cases hki:k=i
   ·subst hki;rw[hpi]at hkp;exact hkp
   ·rw[hpn hki]at hkp;exact hp.2.2.2.2 k hk hkp
 ·have hm:=h.mn b hb;have p7:b<w.heap.size:=by
   rcases Nat.lt_or_ge b w.heap.size with z|z
   ·exact z
   ·exact absurd (hm.1.symm.trans (Array.getElem?_eq_none z)) hb
  exact⟨(J1 b p7 hm.2.1).trans hm.1,hnf b p7 hm.2.1,Qd0 b p7 hm.2.2⟩
 ·rw[Ch0 0 (by have:=h.qk0;omega)];exact h.nz0
 ·rw[S7 g hg']at hs';obtain⟨j,c,h1,h2,h3,h4,_⟩:=h.L4 g s' hg' hs';have hjl:=(List.getElem?_eq_some_iff.1 h1).1;have O3:j≠i:=by omega
  exact⟨j,c,by show(R.cl ++ [T4 cb rc])[j]? =some c;rw[List.getElem?_append_left hjl];exact h1,h2,by rw[hgi O3];exact h3,h4,fun e=>O3 (Option.some.inj e)⟩
 ·intro e;by_cases O3:j=i <;> by_cases hki:k=i
  ·rw[O3,hki]
  ·rw[O3,Qc0,hgi hki]at e;exact absurd e.symm (hgn k (hle k hk hki) hnk)
  ·rw[hki,Qc0,hgi O3]at e;exact absurd e (hgn j (hle j hj O3) p9)
  ·rw[hgi O3,hgi hki]at e;exact h.Fm0 j k (hle j hj O3) (hle k hk hki) p9 hnk e
 ·have hlo:∀j,j<R.cl.length->Y.nil j=false->Γ.eb j<w.heap.size:=fun j hj p9=>(h.ck j _ (List.getElem?_eq_getElem hj) p9).he.choose_spec.lt;intro e;by_cases O3:j=i <;> by_cases hki:k=i
  ·rw[O3,hki]
  ·rw[O3,Cg0,zq0 hki]at e;have:=hlo k (hle k hk hki) hnk;omega
  ·rw[hki,Cg0,zq0 O3]at e;have:=hlo j (hle j hj O3) p9;omega
  ·rw[zq0 O3,zq0 hki]at e;exact h.xo0 j k (hle j hj O3) (hle k hk hki) p9 hnk e
 ·have hlo:∀j c,R.cl[j]? =some c->Y.nil j=false->c.rc<w.heap.size:=fun j c hc p9=>h.under.chs _ (h.ck j c hc p9).ch;intro e;by_cases O3:j=i <;> by_cases hki:k=i
  ·rw[O3,hki]
  ·subst O3;obtain rfl:=A1 c hc;have:=hlo k d (hold k d hd hki) hnk;have e:rc=d.rc:=e;omega
  ·subst hki;obtain rfl:=A1 d hd;have:=hlo j c (hold j c hc O3) p9;have e:c.rc=rc:=e;omega
  ·exact h.Ki0 j k c d (hold j c hc O3) (hold k d hd hki) p9 hnk e
 ·by_cases O3:j=i
  ·subst O3;obtain rfl:=A1 c hc;have:=h.under.chs _ h.chy;show rc≠R.yb;omega
  ·exact h.ry j c (hold j c hc O3) p9
 ·show X.cap+1 <=(R.cl ++ [T4 cb rc]).length;have:=h.cap;simp;omega
 ·have hu:=h.under.mono N2;have r7:cb<w1.heap.size:=(hM.blk i (T4 cb rc) (by show(R.cl ++ [T4 cb rc])[i]? =_;rw[<- hi];simp)).lt;refine⟨fun g p hp=>?_,hu.y5,fun b hb=>?_,hu.J4,fun b hb=>?_⟩
  ·by_cases hg:g=X.n
   ·subst hg;have hp':p∈Go.ConcN.upd X.stay X.n [((⟨cb,2,none⟩:Addr),Value.chan (some rc))] X.n:=hp;rw[Go.ConcN.upd_same]at hp';simp at hp';rw[hp'];exact r7
   ·rw[Ch0 g hg]at hp;exact hu.stay g p hp
  ·rcases hb with z|rfl
   ·exact hu.chs b z
   ·exact hrc.2
  ·rcases hb with(z|rfl)|rfl
   ·exact hu.low b z
   ·exact r7
   ·exact hrc.2
 ·have h1:=h.base.le;have h2:=h.size;rcases hb with(z|rfl)|rfl
  ·exact h.base.low b z
  ·omega
  ·omega
end
end
end Go.Vy.Sc
end
