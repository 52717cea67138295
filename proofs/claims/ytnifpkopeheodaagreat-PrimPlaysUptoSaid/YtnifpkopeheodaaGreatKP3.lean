/- What the claim leans on, part 3. Laws. -/
import Derived.Test.YtnifpkopeheodaaGreatKP2
import Derived.Test.YtnifpkopeheodaaGreatRows
import Derived.KernelRfl
import Derived.Conc.SmallLaws
set_option linter.unusedVariables false
section
namespace Go.Vy
open Go Go.Conc Go.Yc Go.RowKit
open Go.Vc
def S1 (w:World) (b:Nat) (cs:Array Value) (T:TypeId) (f:Nat×Nat):Prop:=w.heap[b]? =some (.cells cs T f)
section
variable {w w':World}{b o:Nat}{cs:Array Value}{T:TypeId}{f:Nat×Nat}{v:Value}
theorem K3 (h:O0 w b cs T):S1 w b cs T (0,0):=h
theorem S1.lt (h:S1 w b cs T f):b<w.heap.size:=(Array.getElem?_eq_some_iff.1 h).1
theorem S1.cell (h:S1 w b cs T f) (hv:cs[o]? =some v):w.cell? ⟨b,o,none⟩=some v:=by
 unfold S1 at h;simp[World.cell?,h,hv]
theorem S1.E0 (h:S1 w b cs T f) (o:Nat) {v:Value} (hv:cs[o]? =some v):w.cell? ⟨b,o,none⟩=some v:=h.cell hv
theorem S1.J4 (h:S1 w b cs T f) {o:Nat} {l:List Value} (hl:(cs.toList.drop o).take l.length=l):∀(j:Nat) (v:Value),l[j]? =some v->w.cell? ⟨b,o+j,none⟩=some v:=by
 intro j v hj;refine h.cell ?_;have Y1:j<l.length:=(List.getElem?_eq_some_iff.1 hj).1;rw[<- hl,List.getElem?_take_of_lt Y1,List.getElem?_drop]at hj;simpa using hj
theorem S1.frozen (h:S1 w b cs T f) (o:Nat):w.frozen? ⟨b,o,none⟩=(decide (f.1 <=o)&&decide (o<f.2)):=by
 unfold S1 at h;obtain⟨lo,hi⟩:=f;simp[World.frozen?,h]
theorem S1.j0 (h:S1 w b cs T f) (hb:Below w.heap.size w w'):S1 w' b cs T f:=(hb.block b h.lt).trans h
theorem S1.other {b':Nat} (h:S1 w b cs T f) (hg:w.grownBy w' (some b')) (o3:b≠b'):S1 w' b cs T f:=(hg.block b h.lt (by simpa using o3)).trans h
theorem S1.grown {row:Option Nat} (h:S1 w b cs T f) (hg:w.grownBy w' row) (o3:some b≠row):S1 w' b cs T f:=(hg.block b h.lt o3).trans h
theorem S1.ne {b':Nat} {H6:Array Value} {T':TypeId} {f':Nat×Nat} (h:S1 w b cs T f) (h':S1 w b' H6 T' f') (hT:T≠T'):b≠b':=by
 intro hb;subst hb;unfold S1 at h h';rw[h]at h';exact hT (by cases h';rfl)
end
def V1 (w:World) (b:Nat) (cs:Array Value) (T:TypeId) (f:Nat×Nat):World:={w with heap:=w.heap.setIfInBounds b (.cells cs T f)}
section
variable {w:World}{b:Nat}{cs H6:Array Value}{T T':TypeId}{f:Nat×Nat}
theorem S5:(V1 w b cs T f).heap.size=w.heap.size:=by simp[V1]
theorem w5 (h:S1 w b cs T f) (H6:Array Value) (T':TypeId) (f':Nat×Nat):S1 (V1 w b H6 T' f') b H6 T' f':=by
 have:=h.lt;simp[S1,V1,this]
theorem N7 {k:Nat} (h:k≠b):(V1 w b cs T f).heap[k]? =w.heap[k]?:=by
 simp only[V1];rw[Array.getElem?_setIfInBounds_ne (Ne.symm h)]
theorem E2 (w:World) (b:Nat) (cs:Array Value) (T:TypeId) (f:Nat×Nat):w.grownBy (V1 w b cs T f) (some b) :=
 ⟨rfl,rfl,rfl,Nat.le_of_eq S5.symm,fun k _ hk=>N7 (fun e=>hk (by rw[e]))⟩
theorem ek0 {o:Nat} (h:S1 w b cs T f) (v:Value):w.setCell ⟨b,o,none⟩ v=V1 w b (cs.setIfInBounds o v) T f:=by
 have hl:=h.lt;have hg:w.heap[b]= .cells cs T f:=by have:=h;unfold S1 at this;rw[Array.getElem?_eq_getElem hl]at this;exact Option.some.inj this
 simp only[World.setCell,V1];congr 1;apply Array.ext_getElem?;intro i;by_cases hi:i=b
 ·subst hi;rw[Array.getElem?_modify,if_pos rfl,Array.getElem?_eq_getElem hl,hg];simp[hl]
 ·rw[Array.getElem?_modify,Array.getElem?_setIfInBounds_ne (Ne.symm hi),if_neg (Ne.symm hi)]
theorem ql0 (w:World) (b:Nat) (cs H6:Array Value) (T:TypeId) (f:Nat×Nat):V1 (V1 w b cs T f) b H6 T f=V1 w b H6 T f:=by
 simp[V1]
theorem wi0 (h:S1 w b cs T f):V1 w b cs T f=w:=by
 have hl:=h.lt;have hg:w.heap[b]= .cells cs T f:=by have:=h;unfold S1 at this;rw[Array.getElem?_eq_getElem hl]at this;exact Option.some.inj this
 have:w.heap.setIfInBounds b (.cells cs T f)=w.heap:=by
  apply Array.ext_getElem?;intro i;by_cases hi:i=b
  ·subst hi;simp[hl,hg]
  ·rw[Array.getElem?_setIfInBounds_ne (Ne.symm hi)]
 simp only[V1,this]
end
theorem X9 {P:Program} (b:Nat) (T:TypeId) (f:Nat×Nat):∀(vs:List Value) (o i:Nat) (cs:Array Value) (w:World),S1 w b cs T f->o+i+vs.length <=cs.size->(o+i+vs.length <=f.1\/f.2 <=o+i)->(∀v∈vs,v.oneCell'=true) ->
  (storeCells ⟨b,o,none⟩ vs i).run P w= .ok () (V1 w b (setRow cs (o+i) vs) T f)
 | [],o,i,cs,w,h,_,_,_=>by simp[storeCells,setRow,wi0 h]
 |v::vs,o,i,cs,w,h,hl,hf,h1=>by
  have ha:Addr.add ⟨b,o,none⟩ i=⟨b,o+i,none⟩:=by
   unfold Addr.add;split
   ·rename_i h0;simp[]
   ·rfl
  have Y1:o+i<cs.size:=by simp only[List.length_cons]at hl;omega
  have hc:=h.cell (Array.getElem?_eq_getElem Y1);have hfr:w.frozen? ⟨b,o+i,none⟩=false:=by
   rw[h.frozen];simp only[List.length_cons]at hf;rw[Bool.and_eq_false_iff];rcases hf with hf|hf
   ·exact .inl (decide_eq_false (by omega))
   ·exact .inr (decide_eq_false (by omega))
  have ih:=X9 (P:=P) b T f vs o (i+1) (cs.setIfInBounds (o+i) v) (V1 w b (cs.setIfInBounds (o+i) v) T f) (w5 h _ _ _) (by simp only[List.length_cons]at hl;simp;omega) (by simp only[List.length_cons]at hf;omega) (fun u hu=>h1 u (List.mem_cons_of_mem _ hu));rw[ql0]at ih;simp only[storeCells,Sem.run_bind,ha,run_store P w _ v .plain (h1 v List.mem_cons_self),hc,hfr,Bool.false_eq_true,if_false,Result.andThen_ok,ek0 h v];rw[ih];rfl
section
variable {P:Program}[Ctx P]{n:Nat}{ops:Array Oper}{Q:Exit->Env->World->Prop}{rest:List Oper}{e:Env}{w:World}{ty:TypeId}{ps:String}{af:Array Edge}{x y:Operand}{T:TypeId}
theorem L.Fe0 {b o s:Nat} {cs:Array Value} {vs:List Value} {E:TypeId} {f:Nat×Nat} {v:Value} (H6:Array Value) (hx:ev e x= .pointer (some ⟨b,o,none⟩)) (hy:ev e y=v) (hvs:v.cells.toList=vs) (hs:(P.info? T).map (·.size)=some s) (hl:vs.length=s) (h1:vs.all Value.oneCell'=true) (hB:S1 w b cs E f) (ho:o+s <=cs.size) (hf:o+s <=f.1\/f.2 <=o) (hcs:setRow cs o vs=H6)
  (k:L P n ops Q rest e (V1 w b H6 E f)):L P n ops Q (⟨none,.store T x y,ty,ps,af,none⟩::rest) e w:=by
 have Ve0:v.cells=vs.toArray:=by rw[<- hvs]
 have h1':∀u∈vs,u.oneCell'=true:=fun u hu=>List.all_eq_true.1 h1 u hu;rw[<- hcs]at k;refine L.st (w':=V1 w b (setRow cs o vs) E f) (.B1 (K2 rfl _) rfl rfl fun τ d=>?_) k;have:=X9 (P:=P) b E f vs o 0 cs (N2 w τ d) hB (by simp;omega) (by simp;omega) h1';show _=Result.ok Next.skip (V1 (N2 w τ d) b (setRow cs o vs) E f);simp[execOp,Instr.storeAt,hx,hy,Instr.sureAddr,storeVar,Go.Vc.run_sizeOf hs,Ve0,hl,this]
end
section
variable {P:Program}[Ctx P]{n:Nat}{Q:Exit->Env->World->Prop}{e:Env}{w:World}{ops:Array Oper}{rest:List Oper}
variable {d:Nat}{ty:TypeId}{ps:String}{af:Array Edge}{T E:TypeId}{x y:Operand}
theorem L.iy0 {B s bytes m c':Nat} {a:Option Addr} {k c:Nat} {xs news:List Value} {zv:Value} {ad:Addr} (hx:ev e x= .slice a k c) (hy:ev e y= .slice (some ad) m c') (hT:P.underlying T=some (.slice E))
  (hi:(P.info? E).map (fun i=>(i.zero,i.size,i.bytes))=some (some zv,s,bytes)) (hz:zv.cells.size=s) (hs:0<s) (Y7:Own w B E s a k c xs)
  (hl:news.length=m*s) (bu0:∀(j:Nat) u,news[j]? =some u->w.cell? (ad.add j)=some u) (h1:∀u∈news,u.oneCell'=true) (yr0:k+m <=9223372036854775807) (hb:(k+m)*bytes <=140737488355328) (hB:B <=w.heap.size)
  (h:∀a' c2 w',Own w' B E s a' (k+m) c2 (xs++news)->w.grownBy w' (Value.ownBlock (.slice a k c))->(a'≠none->(a≠none/\ab a'=ab a)\/w.heap.size <=ab a')->L P n ops Q rest (upd e d (.slice a' (k+m) c2)) w') :
  L P n ops Q (⟨some d,.call ⟨.builtin .append,#[x,y],#[T,T]⟩,ty,ps,af,none⟩::rest) e w:=by
 cases a with
 |none=>
  have h0:k=0/\c=0/\xs=[]:=by
   have hln:=Y7.1;rcases Y7.2 with⟨hv,h0⟩|⟨g,cap,cur,hv,_⟩
   ·cases hv;exact⟨rfl,rfl,by
     rw[Nat.zero_mul]at hln;exact List.eq_nil_of_length_eq_zero hln⟩
   ·cases hv
  obtain⟨rfl,rfl,rfl⟩:=h0;refine L.cy0 hx hy hT hi hz hs (Own.nil w w.heap.size E s) (fun h=>by cases h) hl (fun ad' e=>by cases e;exact bu0) h1 yr0 hb (Nat.le_refl _) fun a' c2 w' hO hg _ _=>?_;refine h a' c2 w' (hO.down hB) hg fun ha=>.inr ?_;exact(hO.row ha).choose_spec.2.1
 |some a0=>
  have ha0:∃b,a0=⟨b,0,none⟩:=by
   rcases Y7.2 with⟨hv,_⟩|⟨g,cap,cur,hv,_⟩
   ·cases hv
   ·cases hv;exact⟨g,rfl⟩
  obtain⟨b,rfl⟩:=ha0;refine L.Ou0 hx hy hT hi hz hs Y7 hl bu0 h1 yr0 hb hB fun b' c2 w' hO hg hw=>?_;refine h _ c2 w' hO hg fun _=>?_;rcases hw with⟨rfl,_⟩|⟨rfl,_⟩
  ·exact .inl ⟨by simp,rfl⟩
  ·exact .inr (Nat.le_refl _)
end
structure gu0 (S:Nat->Prop) (B:Nat) (w w':World):Prop where
 os:w'.os=w.os
 tape:w'.tape=w.tape
 output:w'.output=w.output
 size:w.heap.size <=w'.heap.size
 block:∀k,k<B->¬S k->w'.heap[k]? =w.heap[k]?
section
variable {S:Nat->Prop}{B:Nat}{w w1 w2:World}
theorem gu0.refl (S:Nat->Prop) (B:Nat) (w:World):gu0 S B w w:=⟨rfl,rfl,rfl,Nat.le_refl _,fun _ _ _=>rfl⟩
theorem gu0.trans (h:gu0 S B w w1) (h':gu0 S B w1 w2):gu0 S B w w2:=⟨h'.os.trans h.os,h'.tape.trans h.tape,h'.output.trans h.output,Nat.le_trans h.size h'.size,fun k hk hs=>(h'.block k hk hs).trans (h.block k hk hs)⟩
theorem gu0.below (h:gu0 S B w w1) (hb:Below w1.heap.size w1 w2) (hB:B <=w1.heap.size):gu0 S B w w2:=h.trans ⟨hb.os,hb.tape,hb.output,hb.size,fun k hk _=>hb.block k (by omega)⟩
theorem gu0.grown {row:Option Nat} (h:gu0 S B w w1) (hg:w1.grownBy w2 row) (hB:B <=w1.heap.size) (hr:∀r,row=some r->S r\/B <=r):gu0 S B w w2 :=
 h.trans ⟨hg.os,hg.tape,hg.output,hg.size,fun k hk hs=>hg.block k (by omega) (fun e=>by rcases hr k e.symm with z|z;exact hs z;omega)⟩
theorem Own.congr {E:TypeId} {s n c:Nat} {a:Option Addr} {xs:List Value} (h:Own w B E s a n c xs) (he:a≠none->w1.heap[ab a]? =w.heap[ab a]?):Own w1 B E s a n c xs:=by
 refine⟨h.1,?_⟩;rcases h.2 with h1|⟨g,cap,cur,hv,hb,hg,h2⟩
 ·exact .inl h1
 ·refine .inr ⟨g,cap,cur,hv,hb,?_,h2⟩;cases hv;exact(he (by simp)).trans hg
end
end Go.Vy
end
section
namespace Go.Proofs.YtnifpkopeheodaaGreat
theorem sz1:(Tryz.prog.info? 1).map (·.size)=some 1:=by kernel_rfl
theorem zr1:(Tryz.prog.info? 1).bind (·.zero)=some (.nilFunc):=by kernel_rfl
theorem sz2:(Tryz.prog.info? 2).map (·.size)=some 1:=by kernel_rfl
theorem zr2:(Tryz.prog.info? 2).bind (·.zero)=some (.int .i64 0):=by kernel_rfl
theorem in2:(Tryz.prog.info? 2).map (fun i=>(i.zero,i.size,i.bytes))=some (some (.int .i64 0),1,8):=by kernel_rfl
theorem z8:(Tryz.prog.info? 3).map (·.size)=some 1:=by kernel_rfl
theorem zr3:(Tryz.prog.info? 3).bind (·.zero)=some (.int .i64 0):=by kernel_rfl
theorem in3:(Tryz.prog.info? 3).map (fun i=>(i.zero,i.size,i.bytes))=some (some (.int .i64 0),1,8):=by kernel_rfl
theorem sz4:(Tryz.prog.info? 4).map (·.size)=some 1:=by kernel_rfl
theorem zr4:(Tryz.prog.info? 4).bind (·.zero)=some (.bool false):=by kernel_rfl
theorem wj0:(Tryz.prog.info? 23).map (·.size)=some 1:=by kernel_rfl
theorem Vr0:(Tryz.prog.info? 25).map (·.size)=some 1:=by kernel_rfl
theorem nq0:(Tryz.prog.info? 26).map (·.size)=some 1:=by kernel_rfl
theorem Pc0:(Tryz.prog.info? 27).map (·.size)=some 1:=by kernel_rfl
theorem Bi0:(Tryz.prog.info? 28).map (·.size)=some 1:=by kernel_rfl
theorem df0:(Tryz.prog.info? 30).map (·.size)=some 6:=by kernel_rfl
theorem Bj0:(Tryz.prog.info? 30).bind (·.zero)=some (.agg #[.slice none 0 0,.slice none 0 0,.slice none 0 0,.slice none 0 0,.bool false,.int .i64 0]):=by kernel_rfl
theorem im1:(Tryz.prog.info? 31).map (·.size)=some 1:=by kernel_rfl
theorem in1:(Tryz.prog.info? 31).bind (·.zero)=some (.slice none 0 0):=by kernel_rfl
theorem Pd0:(Tryz.prog.info? 34).map (·.size)=some 2:=by kernel_rfl
theorem Pe0:(Tryz.prog.info? 35).map (·.size)=some 12:=by kernel_rfl
theorem Vs0:(Tryz.prog.info? 36).map (·.size)=some 2:=by kernel_rfl
theorem bc1:(Tryz.prog.info? 37).map (·.size)=some 2:=by kernel_rfl
theorem bd1:(Tryz.prog.info? 38).map (·.size)=some 12:=by kernel_rfl
theorem Jb0:(Tryz.prog.info? 40).map (·.size)=some 26:=by kernel_rfl
theorem Pf0:(Tryz.prog.info? 40).bind (·.zero)=some (.agg #[.bool false,.bool false,.bool false,.bool false,.bool false,.bool false,.bool false,.bool false,.bool false,.bool false,.bool false,.bool false,.int .i64 0,.int .i64 0,.int .i64 0,.int .i64 0,.int .i64 0,.int .i64 0,.int .i64 0,.int .i64 0,.int .i64 0,.int .i64 0,.int .i64 0,.int .i64 0,.int .i64 0,.int .i64 0]):=by kernel_rfl
theorem yv0:(Tryz.prog.info? 45).map (·.size)=some 1:=by kernel_rfl
theorem be1:(Tryz.prog.info? 45).map (fun i=>(i.zero,i.size,i.bytes))=some (some (.slice none 0 0),1,24):=by kernel_rfl
theorem dg0:(Tryz.prog.info? 47).map (·.size)=some 3:=by kernel_rfl
theorem io1:(Tryz.prog.info? 47).bind (·.zero)=some (.agg #[.int .i64 0,.int .i64 0,.int .i64 0]):=by kernel_rfl
theorem bf1:(Tryz.prog.info? 47).map (fun i=>(i.zero,i.size,i.bytes))=some (some (.agg #[.int .i64 0,.int .i64 0,.int .i64 0]),3,24):=by kernel_rfl
theorem yw0:(Tryz.prog.info? 49).map (·.size)=some 4:=by kernel_rfl
theorem bg1:(Tryz.prog.info? 49).bind (·.zero)=some (.agg #[.int .i64 0,.int .i64 0,.int .i64 0,.int .i64 0]):=by kernel_rfl
theorem bh1:(Tryz.prog.info? 49).map (fun i=>(i.zero,i.size,i.bytes))=some (some (.agg #[.int .i64 0,.int .i64 0,.int .i64 0,.int .i64 0]),4,32):=by kernel_rfl
theorem Bk0:(Tryz.prog.info? 50).map (·.size)=some 1:=by kernel_rfl
theorem bi1:(Tryz.prog.info? 50).bind (·.zero)=some (.slice none 0 0):=by kernel_rfl
theorem w6:(Tryz.prog.info? 52).map (·.size)=some 4:=by kernel_rfl
theorem bj1:(Tryz.prog.info? 52).bind (·.zero)=some (.agg #[.int .i64 0,.int .i64 0,.int .i64 0,.int .i64 0]):=by kernel_rfl
theorem ip1:(Tryz.prog.info? 54).map (·.size)=some 1:=by kernel_rfl
theorem iq1:(Tryz.prog.info? 54).bind (·.zero)=some (.pointer none):=by kernel_rfl
theorem Jc0:(Tryz.prog.info? 56).map (·.size)=some 1:=by kernel_rfl
theorem Ff0:(Tryz.prog.info? 61).map (·.size)=some 1:=by kernel_rfl
theorem bk1:(Tryz.prog.info? 62).map (·.size)=some 2:=by kernel_rfl
theorem yx0:(Tryz.prog.info? 63).map (·.size)=some 1:=by kernel_rfl
theorem bl1:(Tryz.prog.info? 64).map (·.size)=some 2:=by kernel_rfl
theorem Fg0:(Tryz.prog.info? 65).map (·.size)=some 1:=by kernel_rfl
theorem Vt0:(Tryz.prog.info? 66).map (·.size)=some 2:=by kernel_rfl
theorem Fh0:(Tryz.prog.info? 67).map (·.size)=some 1:=by kernel_rfl
theorem Vu0:(Tryz.prog.info? 68).map (·.size)=some 2:=by kernel_rfl
theorem Fi0:(Tryz.prog.info? 69).map (·.size)=some 1:=by kernel_rfl
theorem Vv0:(Tryz.prog.info? 70).map (·.size)=some 2:=by kernel_rfl
theorem bm1:(Tryz.prog.info? 73).map (·.size)=some 1:=by kernel_rfl
theorem ir1:(Tryz.prog.info? 73).bind (·.zero)=some (.nilFunc):=by kernel_rfl
theorem is1:(Tryz.prog.info? 73).map (fun i=>(i.zero,i.size,i.bytes))=some (some (.nilFunc),1,8):=by kernel_rfl
theorem it1:(Tryz.prog.info? 86).map (·.size)=some 1:=by kernel_rfl
theorem iu1:(Tryz.prog.info? 86).bind (·.zero)=some (.pointer none):=by kernel_rfl
theorem Jd0:(Tryz.prog.info? 91).map (·.size)=some 1:=by kernel_rfl
theorem bn1:(Tryz.prog.info? 91).bind (·.zero)=some (.pointer none):=by kernel_rfl
theorem Vw0:(Tryz.prog.info? 91).map (fun i=>(i.zero,i.size,i.bytes))=some (some (.pointer none),1,8):=by kernel_rfl
theorem Pg0:(Tryz.prog.info? 98).map (·.size)=some 4:=by kernel_rfl
theorem li0:(Tryz.prog.info? 107).map (·.size)=some 2:=by kernel_rfl
theorem Tc0:(Tryz.prog.info? 111).map (·.size)=some 1:=by kernel_rfl
theorem bo1:(Tryz.prog.info? 121).map (·.size)=some 1:=by kernel_rfl
theorem bp1:(Tryz.prog.info? 128).map (·.size)=some 1:=by kernel_rfl
theorem bq1:(Tryz.prog.info? 130).map (·.size)=some 1:=by kernel_rfl
theorem nr0:(Tryz.prog.info? 136).map (·.size)=some 1:=by kernel_rfl
theorem ns0:(Tryz.prog.info? 138).map (·.size)=some 1:=by kernel_rfl
theorem Je0:(Tryz.prog.info? 139).map (·.size)=some 1:=by kernel_rfl
theorem Td0:(Tryz.prog.info? 141).map (·.size)=some 2:=by kernel_rfl
theorem br1:(Tryz.prog.info? 141).bind (·.zero)=some (.agg #[.int .u64 0,.int .u32 0]):=by kernel_rfl
theorem Jf0:(Tryz.prog.info? 146).map (·.size)=some 1:=by kernel_rfl
theorem Te0:(Tryz.prog.info? 147).map (·.size)=some 1:=by kernel_rfl
theorem Tf0:(Tryz.prog.info? 150).map (·.size)=some 1:=by kernel_rfl
theorem Jg0:(Tryz.prog.info? 151).map (·.size)=some 1:=by kernel_rfl
theorem nm9:(Tryz.f9.name== "runtime.NumGoroutine")=false:=by kernel_rfl
theorem bs1:(Tryz.f10.name== "runtime.NumGoroutine")=false:=by kernel_rfl
theorem bt1:(Tryz.f11.name== "runtime.NumGoroutine")=false:=by kernel_rfl
theorem iv1:(Tryz.f12.name== "runtime.NumGoroutine")=false:=by kernel_rfl
theorem iw1:(Tryz.f13.name== "runtime.NumGoroutine")=false:=by kernel_rfl
theorem ix1:(Tryz.f14.name== "runtime.NumGoroutine")=false:=by kernel_rfl
theorem E9:(Tryz.f15.name== "runtime.NumGoroutine")=false:=by kernel_rfl
theorem iy1:(Tryz.f16.name== "runtime.NumGoroutine")=false:=by kernel_rfl
theorem bu1:(Tryz.f17.name== "runtime.NumGoroutine")=false:=by kernel_rfl
theorem iz1:(Tryz.f20.name== "runtime.NumGoroutine")=false:=by kernel_rfl
theorem ja1:(Tryz.f21.name== "runtime.NumGoroutine")=false:=by kernel_rfl
theorem jb1:(Tryz.f22.name== "runtime.NumGoroutine")=false:=by kernel_rfl
theorem jc1:(Tryz.f23.name== "runtime.NumGoroutine")=false:=by kernel_rfl
theorem jd1:(Tryz.f24.name== "runtime.NumGoroutine")=false:=by kernel_rfl
theorem je1:(Tryz.f25.name== "runtime.NumGoroutine")=false:=by kernel_rfl
theorem jf1:(Tryz.f26.name== "runtime.NumGoroutine")=false:=by kernel_rfl
theorem jg1:(Tryz.f27.name== "runtime.NumGoroutine")=false:=by kernel_rfl
theorem jh1:(Tryz.f28.name== "runtime.NumGoroutine")=false:=by kernel_rfl
theorem ji1:(Tryz.f29.name== "runtime.NumGoroutine")=false:=by kernel_rfl
theorem jj1:(Tryz.f30.name== "runtime.NumGoroutine")=false:=by kernel_rfl
theorem jk1:(Tryz.f33.name== "runtime.NumGoroutine")=false:=by kernel_rfl
theorem jl1:(Tryz.f34.name== "runtime.NumGoroutine")=false:=by kernel_rfl
theorem bv1:(Tryz.f36.name== "runtime.NumGoroutine")=false:=by kernel_rfl
theorem jm1:(Tryz.f37.name== "runtime.NumGoroutine")=false:=by kernel_rfl
theorem jn1:(Tryz.f38.name== "runtime.NumGoroutine")=false:=by kernel_rfl
theorem jo1:(Tryz.f39.name== "runtime.NumGoroutine")=false:=by kernel_rfl
theorem jp1:(Tryz.f40.name== "runtime.NumGoroutine")=false:=by kernel_rfl
theorem jq1:(Tryz.f41.name== "runtime.NumGoroutine")=false:=by kernel_rfl
theorem jr1:(Tryz.f42.name== "runtime.NumGoroutine")=false:=by kernel_rfl
theorem js1:(Tryz.f43.name== "runtime.NumGoroutine")=false:=by kernel_rfl
theorem Bl0:(Tryz.f44.name== "runtime.NumGoroutine")=false:=by kernel_rfl
theorem jt1:(Tryz.f45.name== "runtime.NumGoroutine")=false:=by kernel_rfl
theorem ju1:(Tryz.f46.name== "runtime.NumGoroutine")=false:=by kernel_rfl
theorem jv1:(Tryz.f47.name== "runtime.NumGoroutine")=false:=by kernel_rfl
theorem jw1:(Tryz.f48.name== "runtime.NumGoroutine")=false:=by kernel_rfl
theorem jx1:(Tryz.f49.name== "runtime.NumGoroutine")=false:=by kernel_rfl
theorem jy1:(Tryz.f50.name== "runtime.NumGoroutine")=false:=by kernel_rfl
theorem bw1:(Tryz.f51.name== "runtime.NumGoroutine")=false:=by kernel_rfl
theorem bx1:(Tryz.f52.name== "runtime.NumGoroutine")=false:=by kernel_rfl
theorem by1:(Tryz.f53.name== "runtime.NumGoroutine")=false:=by kernel_rfl
theorem bz1:(Tryz.f54.name== "runtime.NumGoroutine")=false:=by kernel_rfl
theorem ca1:(Tryz.f55.name== "runtime.NumGoroutine")=false:=by kernel_rfl
theorem qm0:(Tryz.f56.name== "runtime.NumGoroutine")=false:=by kernel_rfl
theorem cb1:(Tryz.f57.name== "runtime.NumGoroutine")=false:=by kernel_rfl
theorem cc1:(Tryz.f58.name== "runtime.NumGoroutine")=false:=by kernel_rfl
theorem cd1:(Tryz.f60.name== "runtime.NumGoroutine")=false:=by kernel_rfl
theorem jz1:(Tryz.f61.name== "runtime.NumGoroutine")=false:=by kernel_rfl
theorem ce1:(Tryz.f62.name== "runtime.NumGoroutine")=false:=by kernel_rfl
theorem cg1:(Tryz.f64.name== "runtime.NumGoroutine")=false:=by kernel_rfl
theorem Ph0:(Tryz.f66.name== "runtime.NumGoroutine")=false:=by kernel_rfl
theorem ka1:(Tryz.f67.name== "runtime.NumGoroutine")=false:=by kernel_rfl
theorem ch1:(Tryz.f68.name== "runtime.NumGoroutine")=false:=by kernel_rfl
theorem kb1:(Tryz.f69.name== "runtime.NumGoroutine")=false:=by kernel_rfl
theorem ci1:(Tryz.f70.name== "runtime.NumGoroutine")=false:=by kernel_rfl
theorem cj1:(Tryz.f72.name== "runtime.NumGoroutine")=false:=by kernel_rfl
theorem kc1:(Tryz.f76.name== "runtime.NumGoroutine")=false:=by kernel_rfl
theorem ck1:(Tryz.f77.name== "runtime.NumGoroutine")=false:=by kernel_rfl
theorem kd1:(Tryz.f78.name== "runtime.NumGoroutine")=false:=by kernel_rfl
theorem ke1:(Tryz.f79.name== "runtime.NumGoroutine")=false:=by kernel_rfl
theorem kf1:(Tryz.f80.name== "runtime.NumGoroutine")=false:=by kernel_rfl
theorem kg1:(Tryz.f81.name== "runtime.NumGoroutine")=false:=by kernel_rfl
theorem kh1:(Tryz.f82.name== "runtime.NumGoroutine")=false:=by kernel_rfl
theorem ki1:(Tryz.f83.name== "runtime.NumGoroutine")=false:=by kernel_rfl
theorem kj1:(Tryz.f85.name== "runtime.NumGoroutine")=false:=by kernel_rfl
theorem cl1:(Tryz.f87.name== "runtime.NumGoroutine")=false:=by kernel_rfl
theorem Vx0:(Tryz.f88.name== "runtime.NumGoroutine")=false:=by kernel_rfl
theorem lu0:(Tryz.f89.name== "runtime.NumGoroutine")=false:=by kernel_rfl
theorem cm1:(Tryz.f90.name== "runtime.NumGoroutine")=false:=by kernel_rfl
theorem cn1:(Tryz.f94.name== "runtime.NumGoroutine")=false:=by kernel_rfl
theorem kk1:(Tryz.f95.name== "runtime.NumGoroutine")=false:=by kernel_rfl
theorem Pi0:(Tryz.f96.name== "runtime.NumGoroutine")=false:=by kernel_rfl
theorem kl1:(Tryz.f97.name== "runtime.NumGoroutine")=false:=by kernel_rfl
theorem km1:(Tryz.f99.name== "runtime.NumGoroutine")=false:=by kernel_rfl
theorem Tg0:(Tryz.f100.name== "runtime.NumGoroutine")=false:=by kernel_rfl
theorem co1:(Tryz.f102.name== "runtime.NumGoroutine")=false:=by kernel_rfl
theorem cp1:(Tryz.f103.name== "runtime.NumGoroutine")=false:=by kernel_rfl
theorem cq1:(Tryz.f104.name== "runtime.NumGoroutine")=false:=by kernel_rfl
theorem cr1:(Tryz.f106.name== "runtime.NumGoroutine")=false:=by kernel_rfl
theorem ct1:(Tryz.f107.name== "runtime.NumGoroutine")=false:=by kernel_rfl
theorem Jh0:(Tryz.f109.name== "runtime.NumGoroutine")=false:=by kernel_rfl
theorem yy0:(Tryz.f110.name== "runtime.NumGoroutine")=false:=by kernel_rfl
theorem cu1:(Tryz.f111.name== "runtime.NumGoroutine")=false:=by kernel_rfl
theorem Th0:(Tryz.f112.name== "runtime.NumGoroutine")=false:=by kernel_rfl
theorem cv1:(Tryz.f113.name== "runtime.NumGoroutine")=false:=by kernel_rfl
theorem Ti0:(Tryz.f162.name== "runtime.NumGoroutine")=false:=by kernel_rfl
theorem cw1:(Tryz.f163.name== "runtime.NumGoroutine")=false:=by kernel_rfl
theorem cx1:(Tryz.f164.name== "runtime.NumGoroutine")=false:=by kernel_rfl
theorem Tj0:(Tryz.f165.name== "runtime.NumGoroutine")=false:=by kernel_rfl
theorem cy1:(Tryz.f166.name== "runtime.NumGoroutine")=false:=by kernel_rfl
theorem Tk0:(Tryz.f167.name== "runtime.NumGoroutine")=false:=by kernel_rfl
theorem cz1:(Tryz.f168.name== "runtime.NumGoroutine")=false:=by kernel_rfl
theorem Tl0:(Tryz.f169.name== "runtime.NumGoroutine")=false:=by kernel_rfl
theorem Tm0:(Tryz.f170.name== "runtime.NumGoroutine")=false:=by kernel_rfl
theorem Tn0:(Tryz.f171.name== "runtime.NumGoroutine")=false:=by kernel_rfl
end Go.Proofs.YtnifpkopeheodaaGreat
end
section
namespace Go.Proofs.YtnifpkopeheodaaGreat
open Go.Conc Go.Yc Go.Wg
open Go.Vc (Env upd j3 ev I4 W2)
section
attribute [local irreducible] KK
theorem ff0 (d:Nat):deafBehind d #[(⟨.mark .disable,false,true⟩:Event)]=d+1:=rfl
theorem T6 (d:Nat):deafBehind (d+1) #[(⟨.mark .enable,false,true⟩:Event)]=d:=rfl
theorem Z8 (d:Nat) {m:Mark} (h:(match m with| .disable| .enable=>false|_=>true)=true):deafBehind d #[(⟨.mark m,false,true⟩:Event)]=d:=by cases m <;> first|rfl|cases h
theorem add1 (v:Nat) (h:v<2147483648):IntKind.u64.wrap (((v*4294967296+0:Nat):Int)+1)=((v*4294967296+1:Nat):Int):=by rw[IntKind.wrap_u64];omega
theorem da1:Extern.find Tryz.f87=some (Extern.Race.marked .releaseMerge):=by kernel_rfl
theorem kn1:Extern.find Tryz.f95=some (Extern.Race.marked .read):=by kernel_rfl
theorem db1:Extern.find Tryz.f103=some (Extern.Race.marked .write):=by kernel_rfl
theorem To0:Extern.find Tryz.f100=some (Extern.Race.marked .acquire):=by kernel_rfl
theorem Vy0:Extern.find Tryz.f88=some (fun _=>do mark .disable;pure Extern.Race.none_):=by kernel_rfl
theorem lv0:Extern.find Tryz.f89=some (fun _=>do mark .enable;pure Extern.Race.none_):=by kernel_rfl
theorem dc1:Extern.find Tryz.f90=some (fun _=>pure (.bool false)):=by kernel_rfl
theorem Ji0:Extern.find Tryz.f109=some (Extern.Atomic.update (Op.intArith .add) .u64 true):=by kernel_rfl
theorem yz0:Extern.find Tryz.f110=some (Extern.Atomic.loadT (.int .u64)):=by kernel_rfl
theorem dd1:Extern.find Tryz.f111=some Extern.Atomic.storeT:=by kernel_rfl
theorem Tp0:Extern.find Tryz.f112=some (Extern.Atomic.casT (.int .u64)):=by kernel_rfl
theorem ko1:Extern.find Tryz.f99=some Extern.Sync.semrelease:=by kernel_rfl
theorem de1:Extern.find Tryz.f104=some Extern.Sync.semacquire:=by kernel_rfl
theorem Tq0:(Tryz.prog.info? 139).map (fun i=>decide (i.size=0))=some false:=by kernel_rfl
theorem Dk0:(Tryz.prog.info? 141).map (fun i=>decide (i.size=0))=some false:=by kernel_rfl
set_option maxRecDepth 20000 in
theorem Pj0 (gr:j5) {c:Frame} {cs:List Frame} (hcm:c.mode= .returning) {N:Nat} (hT:QuitsD Tryz.prog N 0 (Conc.G c cs)):∃n,Lt Tryz.prog gr n 0 (Conc.G ((baseD 68).at {tmps:=#[.pointer (some ⟨gr.blk,gr.off,none⟩)]++Array.replicate (Tryz.f68.ntmps-1) undef,defers:=[]} [.code (Tryz.f68.body.getD .skip)]) (c::cs)):=by
 refine⟨N+500,(?_:At (fun m d g=>Lt Tryz.prog gr m d g) (N+500) 4 (baseD 68) (c::cs) [] 0 (Wg.y8 #[.pointer (some ⟨gr.blk,gr.off,none⟩)]) [.code (Tryz.f68.body.getD .skip)]) _ (p8 _ _ rfl)⟩;refine At.region (H3 _ gr) ?_;refine I0.val (H3 _ gr) (bkd _) rfl (v:=.pointer (some ⟨gr.blk,gr.off,none⟩)) (M0 rfl) ?_;refine I0.call (H3 _ gr) (bkd _) [.pointer (some ⟨gr.blk,gr.off,none⟩),.i (-1)] 117 rfl Tryz.func66 Ph0 rfl rfl rfl (fun cs1 Y5=>?_);refine At.seq (H3 _ gr) ?_;refine At.Q4 (H3 _ gr) rfl ?_;refine U306 ?_;refine I0.val (H3 _ gr) (A1 _) rfl (v:=.i (-1)) (M0 rfl) ?_;refine I0.val (H3 _ gr) (A1 _) rfl (v:=.bool true) (bv0 (r:=true) rfl rfl (by decide)) ?_;refine I0.nil (H3 _ gr) ?_;refine At.Q4 (H3 _ gr) rfl ?_;refine At.region (H3 _ gr) ?_;refine I0.val (H3 _ gr) (A1 _) rfl (v:=.pointer (some ⟨gr.blk,gr.off,none⟩)) (M0 rfl) ?_;refine I0.toUnsafe (ax1 _ gr) (A1 _) rfl rfl (.inl rfl) Tryz.underlying165 Tryz.underlying128 Dk0 ?_;refine I0.wg0 (H3 _ gr) (A1 _) .releaseMerge (by simp) rfl rfl Tryz.func87 cl1 rfl rfl da1 rfl ?_;rw[Z8 _ rfl];refine U481 ?_;simp only[ff0];refine I0.nil (H3 _ gr) ?_;refine U555 ?_;refine U188 ?_;refine U492 ?_;refine U306 ?_;refine U452 ?_;refine U587 ?_;refine U111 ?_;refine U395 ?_;refine I0.val (H3 _ gr) (A1 _) rfl (v:=.i (-1)) (M0 rfl) ?_;refine U342 ?_;refine U448 ?_;intro cs2 hb2;refine U536 ?_;refine U231 ?_;refine U353 ?_;refine I0.Ta0 (A1 _) rfl Tryz.func109 Jh0 rfl rfl Ji0 rfl rfl (fun v wt hwt hv o3=>?_) ?_
 ·by_cases hv0:0<v
  ·have hwc:wt=0\/wt=1:=by omega
   rcases hwc with rfl|rfl
   ·refine I0.val (F0 _) (A1 _) rfl (v:=.int .u64 (((v*4294967296+0:Nat):Int))) (Y0 rfl) ?_;refine I0.nil (F0 _) ?_;refine At.ret (F0 _) (fun _=>?_);refine U367 ?_;refine U37 ?_;refine U360 ?_;refine U98 ?_;refine U161 ?_;refine U409 ?_;refine I0.nil (F0 _) ?_;refine U161 ?_;refine U434 ?_;refine U37 ?_;refine U156 ?_;refine U216 ?_;refine U220 ?_;refine U287 ?_;refine U217 ?_;refine At.ret (F0 _) (fun _=>?_);refine AtR.mark (F0 _) .enable (by simp) rfl Tryz.func89 lu0 rfl rfl lv0 ?_;simp only[T6];refine U47 ?_;refine At.done (F0 _) (fun _=>?_);exact U46
   ·refine I0.val (F0 _) (A1 _) rfl (v:=.int .u64 (((v*4294967296+1:Nat):Int))) (Y0 rfl) ?_;refine I0.nil (F0 _) ?_;refine At.ret (F0 _) (fun _=>?_);refine U368 ?_;refine U37 ?_;refine U361 ?_;refine U98 ?_;refine U162 ?_;refine U408 ?_;refine I0.nil (F0 _) ?_;refine U162 ?_;refine U356 ?_;refine U518 ?_;refine U156 ?_;refine U216 ?_;refine U43 ?_;refine U400 ?_;refine U156 ?_;refine U296 ?_;refine U217 ?_;refine At.ret (F0 _) (fun _=>?_);refine AtR.mark (F0 _) .enable (by simp) rfl Tryz.func89 lu0 rfl rfl lv0 ?_;simp only[T6];refine U47 ?_;refine At.done (F0 _) (fun _=>?_);exact U46
  ·obtain rfl:v=0:=by omega
   obtain rfl:wt=0:=by omega
   refine U240 ?_;refine At.ret (F0 _) (fun _=>?_);refine U457 ?_;refine U43 ?_;refine U363 ?_;refine U98 ?_;refine U164 ?_;refine U341 ?_;refine U449 ?_;refine U164 ?_;refine U435 ?_;refine U37 ?_;refine U156 ?_;refine U227 ?_;refine U223 ?_;refine U462 ?_;refine U220 ?_;refine U223 ?_;refine U401 ?_;refine U390 ?_;refine U471 ?_;refine At.Q4 (F0 _) rfl ?_;refine At.ret (F0 _) (fun _=>?_);refine AtR.mark (F0 _) .enable (by simp) rfl Tryz.func89 lu0 rfl rfl lv0 ?_;simp only[T6];refine U47 ?_;refine At.done (F0 _) (fun _=>?_);exact U46
 ·refine I0.val (W0 _ gr 2) (A1 _) rfl (v:=.int .u64 (((0*4294967296+1:Nat):Int))) (Y0 rfl) ?_;refine I0.nil (W0 _ gr 2) ?_;refine At.ret (W0 _ gr 2) (fun _=>?_);refine U365 ?_;refine U583 ?_;refine U81 ?_;refine U364 ?_;refine U84 ?_;refine U52 ?_;refine U81 ?_;refine U339 ?_;refine U445 ?_;refine U81 ?_;refine U354 ?_;refine U464 ?_;refine U62 ?_;refine U416 ?_;refine U149 ?_;refine U84 ?_;refine U110 ?_;refine U52 ?_;refine U166 ?_;refine U429 ?_;refine U232 ?_;refine U62 ?_;refine U396 ?_;refine U416 ?_;refine U149 ?_;refine U84 ?_;refine U110 ?_;refine U52 ?_;refine U166 ?_;refine U394 ?_;refine U389 ?_;refine U52 ?_;refine U62 ?_;refine U147 ?_;refine U355 ?_;intro cs3 hb3;refine U78 ?_;refine U465 ?_;refine U78 ?_;refine U147 ?_;refine U358 ?_;refine U466 ?_;refine At.ret (W0 _ gr 1) (fun _=>?_);refine U521 ?_;refine U573 ?_;refine U584 ?_;refine U191 ?_;refine U350 ?_;intro cs4 hb4;refine U191 ?_;refine U357 ?_;refine U476 ?_;refine At.done (W0 _ gr 0) (fun _=>?_);refine U504 ?_;refine U196 ?_;refine U472 ?_;refine U574 ?_;refine U581 ?_;refine U196 ?_;refine U397 ?_;refine U575 ?_;refine At.skip (W0 _ gr 0) ?_;refine U582 ?_;refine U424 ?_;refine U345 ?_;refine U500 ?_;refine At.inBlock (F0 _) ?_;refine U482 ?_;refine U402 ?_;refine U589 ?_;refine U241 ?_;refine U468 ?_;refine At.exit (F0 _) rfl ?_;refine At.done (F0 _) (fun _=>?_);refine AtR.mark (F0 _) .enable (by simp) rfl Tryz.func89 lu0 rfl rfl lv0 ?_;simp only[T6];refine U47 ?_;refine At.done (F0 _) (fun _=>?_);exact U46
set_option maxRecDepth 20000 in
theorem Tr0 (gr:j5) (K:Goroutine->Prop) {c:Frame} {cs:List Frame} (hK:K (Conc.G (c.finish (.tuple #[])) cs)):Gz0 Tryz.prog gr K 500 0 (Conc.G (Frame.enter Tryz.prog 66 #[.pointer (some ⟨gr.blk,gr.off,none⟩),.i 1] .normal) (c::cs)):=by
 rw[enter_at _ Tryz.func66 rfl];refine(?_:At (Iv0 Tryz.prog gr K) 500 117 (base 66) (c::cs) [] 0 (Wg.y8 #[.pointer (some ⟨gr.blk,gr.off,none⟩),.i 1]) [.code (Tryz.f66.body.getD .skip)]) _ (p8 _ _ rfl);refine At.seq r3 ?_;refine At.Q4 r3 rfl ?_;refine At.seq r3 ?_;refine U64 ?_;refine I0.val r3 (A1 _) rfl (v:=.i 1) (M0 rfl) ?_;refine I0.val r3 (A1 _) rfl (v:=.bool false) (bv0 (r:=false) rfl rfl (by decide)) ?_;refine U599 ?_;refine At.skip r3 ?_;refine U64 ?_;refine I0.yt0 r3 (A1 _) .disable (by simp) (.inl rfl) rfl Tryz.func88 Vx0 rfl rfl Vy0 ?_;simp only[ff0];refine I0.nil r3 ?_;refine At.region r3 ?_;refine I0.defer r3 (A1 _) [] rfl ?_;refine I0.nil r3 ?_;refine U64 ?_;refine I0.val r3 (A1 _) rfl (v:=.bool false) (Y0 rfl) ?_;refine I0.nil r3 ?_;refine At.seq r3 ?_;refine U64 ?_;refine I0.tm0 r3 (A1 _) (.bool false) rfl Tryz.func90 cm1 rfl rfl dc1 ?_;refine U599 ?_;refine At.skip r3 ?_;refine U64 ?_;refine U382 ?_;refine I0.val r3 (A1 _) rfl (v:=.pointer (some ⟨gr.blk,gr.off,none⟩)) (G3 (s:=1) gr.off gr.off rfl Tryz.underlying141 rfl ns0 (by decide) rfl) ?_;refine I0.val r3 (A1 _) rfl (v:=.i 1) (M0 rfl) ?_;refine I0.val r3 (A1 _) rfl (v:=.int .u64 1) (B3 (r:=1) rfl Tryz.underlying3 Tryz.underlying136 (by decide)) ?_;refine I0.val r3 (A1 _) rfl (v:=.int .u64 4294967296) (Ir0 (r:=4294967296) rfl rfl (by decide) (by decide)) ?_;refine I0.call r3 (A1 _) [.pointer (some ⟨gr.blk,gr.off,none⟩),.int .u64 4294967296] 10 rfl Tryz.func94 cn1 rfl rfl rfl (fun cs1 Y5=>?_);refine U64 ?_;refine I0.val r3 (A1 _) rfl (v:=.int .u64 0) (Y0 rfl) ?_;refine I0.nil r3 ?_;refine U64 ?_;refine U382 ?_;refine I0.val r3 (A1 _) rfl (v:=.pointer (some ⟨gr.blk,gr.off,none⟩)) (G3 (s:=1) gr.off gr.off rfl Tryz.underlying138 rfl nr0 (by decide) rfl) ?_;refine I0.val r3 (A1 _) rfl (v:=.int .u64 4294967296) (M0 rfl) ?_;refine I0.Ha0 (A1 _) rfl Tryz.func109 Jh0 rfl rfl Ji0 rfl rfl (fun v hv=>?_);rcases Nat.eq_zero_or_pos v with rfl|hv0
 ·refine I0.val u1 (A1 _) rfl (v:=.int .u64 ((((0+1)*4294967296+0:Nat):Int))) (Y0 rfl) ?_;refine I0.nil u1 ?_;refine At.ret u1 (fun _=>?_);refine AtR.leave1 u1 Y5 rfl Tryz.func94 rfl (.int .u64 ((((0+1)*4294967296+0:Nat):Int))) rfl ?_;refine I0.val u1 (A1 _) rfl (v:=.int .u64 ((((0+1)*4294967296+0:Nat):Int))) (Y0 rfl) ?_;refine U127 ?_;refine I0.val u1 (A1 _) rfl (v:=.int .u64 ((((0+1)*4294967296+0:Nat):Int))) (M0 rfl) ?_;refine I0.val u1 (A1 _) rfl (v:=.int .u64 0) (l7 (r:=0) rfl rfl (no0 (0+1) 0 (by omega) (by omega))) ?_;refine U238 ?_;refine U86 ?_;refine U93 ?_;refine U460 ?_;refine I0.val u1 (A1 _) rfl (v:=.int .u64 ((((0+1):Nat):Int))) (ef0 (r:=(((0+1):Nat):Int)) rfl rfl (by decide) (np0 (0+1) 0 (by omega))) ?_;refine I0.val u1 (A1 _) rfl (v:=.int .i32 ((((0+1):Nat):Int))) (B3 (r:=(((0+1):Nat):Int)) rfl Tryz.underlying136 Tryz.underlying21 (dc0 (0+1) (by omega))) ?_;refine I0.val u1 (A1 _) rfl (v:=.int .i32 ((((0+1):Nat):Int))) (Y0 rfl) ?_;refine I0.nil u1 ?_;refine U460 ?_;refine I0.val u1 (A1 _) rfl (v:=.int .u64 0) (l7 (r:=0) rfl rfl (gr0 (0+1) 0 (by omega) (by omega))) ?_;refine U377 ?_;refine U127 ?_;refine U433 ?_;refine U553 ?_;refine I0.D9 u1 (A1 _) rfl rfl (v:=.int .i32 ((((0+1):Nat):Int))) (M0 rfl) ?_;refine U383 ?_;refine I0.D9 u1 (A1 _) rfl rfl (v:=.bool true) (ai0 (r:=true) rfl rfl (decide_eq_true (by omega))) ?_;refine U302 ?_;refine At.region u1 ?_;refine I0.val u1 (A1 _) rfl (v:=.pointer (some ⟨gr.blk,gr.off,none⟩)) (M0 rfl) ?_;refine I0.val u1 (A1 _) rfl (v:=.pointer (some ⟨gr.blk,gr.off,none⟩)) (N3 rfl) ?_;refine I0.val u1 (A1 _) rfl (v:=.pointer (some ⟨gr.blk,gr.off+1,none⟩)) (G3 (s:=1) gr.off (gr.off+1) rfl Tryz.underlying141 rfl Je0 (by decide) rfl) ?_;refine I0.toUnsafe Pb0 (A1 _) rfl rfl (.inr rfl) Tryz.underlying172 Tryz.underlying128 Tq0 ?_;refine I0.wg0 u1 (A1 _) .read (by simp) (.inr (.inl rfl)) rfl Tryz.func95 kk1 rfl rfl kn1 rfl ?_;rw[Z8 _ rfl];refine U127 ?_;refine I0.val u1 (A1 _) rfl (v:=.int .i32 ((((0+1):Nat):Int))) (M0 rfl) ?_;refine U447 ?_;refine U119 ?_;refine U545 ?_;refine U86 ?_;refine U544 ?_;refine U86 ?_;refine U93 ?_;refine U119 ?_;refine I0.val u1 (A1 _) rfl (v:=.int .i32 ((((0+1):Nat):Int))) (M0 rfl) ?_;refine U399 ?_;refine U150 ?_;refine U302 ?_;refine At.ret u1 (fun _=>?_);refine AtR.mark u1 .enable (by simp) (.inl rfl) Tryz.func89 lu0 rfl rfl lv0 ?_;simp only[T6];exact U585
 ·refine I0.val u1 (A1 _) rfl (v:=.int .u64 ((((v+1)*4294967296+0:Nat):Int))) (Y0 rfl) ?_;refine I0.nil u1 ?_;refine At.ret u1 (fun _=>?_);refine AtR.leave1 u1 Y5 rfl Tryz.func94 rfl (.int .u64 ((((v+1)*4294967296+0:Nat):Int))) rfl ?_;refine I0.val u1 (A1 _) rfl (v:=.int .u64 ((((v+1)*4294967296+0:Nat):Int))) (Y0 rfl) ?_;refine U127 ?_;refine I0.val u1 (A1 _) rfl (v:=.int .u64 ((((v+1)*4294967296+0:Nat):Int))) (M0 rfl) ?_;refine I0.val u1 (A1 _) rfl (v:=.int .u64 0) (l7 (r:=0) rfl rfl (no0 (v+1) 0 (by omega) (by omega))) ?_;refine U238 ?_;refine U86 ?_;refine U93 ?_;refine U459 ?_;refine I0.val u1 (A1 _) rfl (v:=.int .u64 ((((v+1):Nat):Int))) (ef0 (r:=(((v+1):Nat):Int)) rfl rfl (by decide) (np0 (v+1) 0 (by omega))) ?_;refine I0.val u1 (A1 _) rfl (v:=.int .i32 ((((v+1):Nat):Int))) (B3 (r:=(((v+1):Nat):Int)) rfl Tryz.underlying136 Tryz.underlying21 (dc0 (v+1) (by omega))) ?_;refine I0.val u1 (A1 _) rfl (v:=.int .i32 ((((v+1):Nat):Int))) (Y0 rfl) ?_;refine I0.nil u1 ?_;refine U459 ?_;refine I0.val u1 (A1 _) rfl (v:=.int .u64 0) (l7 (r:=0) rfl rfl (gr0 (v+1) 0 (by omega) (by omega))) ?_;refine U377 ?_;refine U127 ?_;refine U433 ?_;refine U553 ?_;refine I0.D9 u1 (A1 _) rfl rfl (v:=.int .i32 ((((v+1):Nat):Int))) (M0 rfl) ?_;refine U383 ?_;refine I0.D9 u1 (A1 _) rfl rfl (v:=.bool false) (ai0 (r:=false) rfl rfl (decide_eq_false (by omega))) ?_;refine I0.val u1 (A1 _) rfl (v:=.bool false) (L8 rfl rfl) ?_;refine U93 ?_;refine U497 ?_;refine U447 ?_;refine U119 ?_;refine U545 ?_;refine U86 ?_;refine U544 ?_;refine U86 ?_;refine U93 ?_;refine U497 ?_;refine U399 ?_;refine U150 ?_;refine U302 ?_;refine At.ret u1 (fun _=>?_);refine AtR.mark u1 .enable (by simp) (.inl rfl) Tryz.func89 lu0 rfl rfl lv0 ?_;simp only[T6];exact U585
noncomputable def Dl0:Code:=match Tryz.f70.body with|some (.seq _ (.block _ (.loop c)))=>c|_=>.skip
set_option maxRecDepth 20000 in
theorem Fj0 (gr:j5) (K:Goroutine->Prop) {c:Frame} {cs:List Frame} (hK:K (Conc.G (c.finish (.tuple #[])) cs)):∀(V:Nat),V<2147483648->∀(e:Env),At (YWH Tryz.prog gr K none V) (500*V+500) 84 (base 70) (c::cs) [] 1 (upd e 0 (.pointer (some ⟨gr.blk,gr.off,none⟩))) [.code Dl0,.inLoop Dl0,.inBlock 0]:=by
 intro V
 induction V using Nat.strongRecOn with
 |_ V ih=>
 intro hV e;refine At.block L2 ?_;refine U12 ?_;refine U152 ?_;refine U537 ?_;intro cs1 Y5;refine U520 ?_;refine U12 ?_;refine U151 ?_;refine I0.Ja0 (A1 _) rfl Tryz.func110 yy0 rfl rfl yz0 rfl ?_ (fun v hv hv0=>?_)
 ·refine I0.val S2 (A1 _) rfl (v:=.int .u64 0) (Y0 rfl) ?_;refine I0.nil S2 ?_;refine At.ret S2 (fun _=>?_);refine AtR.leave1 S2 Y5 rfl Tryz.func96 rfl (.int .u64 0) rfl ?_;refine U267 ?_;refine U558 ?_;refine I0.val S2 (A1 _) rfl (v:=.int .u64 0) (ef0 (r:=0) rfl rfl (by decide) (by decide)) ?_;refine I0.val S2 (A1 _) rfl (v:=.int .i32 0) (B3 (r:=0) rfl Tryz.underlying136 Tryz.underlying21 (by decide)) ?_;refine I0.val S2 (A1 _) rfl (v:=.int .i32 0) (Y0 rfl) ?_;refine I0.nil S2 ?_;refine U558 ?_;refine I0.val S2 (A1 _) rfl (v:=.int .u64 0) (l7 (r:=0) rfl rfl (by decide)) ?_;refine I0.val S2 (A1 _) rfl (v:=.int .u32 0) (B3 (r:=0) rfl Tryz.underlying136 Tryz.underlying139 (by decide)) ?_;refine I0.val S2 (A1 _) rfl (v:=.int .u32 0) (Y0 rfl) ?_;refine U91 ?_;refine U35 ?_;refine I0.val S2 (A1 _) rfl (v:=.int .i32 0) (M0 rfl) ?_;refine I0.val S2 (A1 _) rfl (v:=.bool true) (ai0 (r:=true) rfl rfl (by decide)) ?_;refine I0.nil S2 ?_;refine At.Q4 S2 rfl ?_;refine At.seq S2 ?_;refine At.Q4 S2 rfl ?_;refine U477 ?_;simp only[T6];refine I0.nil S2 ?_;refine U450 ?_;refine U373 ?_;rw[Z8 _ rfl];refine U91 ?_;refine U35 ?_;refine U412 ?_;refine U430 ?_;refine U387 ?_;refine U426 ?_;refine I0.off S2 rfl rfl ?_;refine U495 ?_;refine U206 ?_;refine At.ret S2 (fun _=>?_);exact U186
 ·refine I0.val L2 (A1 _) rfl (v:=.int .u64 (((v*4294967296+0:Nat):Int))) (Y0 rfl) ?_;refine I0.nil L2 ?_;refine At.ret L2 (fun _=>?_);refine U378 ?_;refine I0.nil L2 ?_;refine U165 ?_;refine U343 ?_;refine U483 ?_;refine U165 ?_;refine U359 ?_;refine U509 ?_;refine At.seq L2 ?_;refine U12 ?_;refine U388 ?_;refine U297 ?_;refine U12 ?_;refine U152 ?_;refine U385 ?_;refine U340 ?_;intro cs2 hb2;refine U12 ?_;refine U510 ?_;refine U12 ?_;refine U151 ?_;refine U386 ?_;refine I0.Tb0 (vs:=v) (A1 _) rfl Tryz.func112 Th0 rfl rfl Tp0 rfl rfl rfl ?_ (fun v2 hv2=>?_)
  ·refine I0.val R4 (A1 _) rfl (v:=.bool true) (Y0 rfl) ?_;refine I0.nil R4 ?_;refine At.ret R4 (fun _=>?_);refine U542 ?_;refine U554 ?_;refine U539 ?_;refine U280 ?_;refine U222 ?_;refine U369 ?_;rw[Z8 _ rfl];refine I0.nil R4 ?_;refine U261 ?_;refine U505 ?_;refine U298 ?_;refine U371 ?_;refine U406 ?_;refine U489 ?_;refine U600 ?_;refine At.skip R4 ?_;refine At.seq R4 ?_;refine U222 ?_;refine U431 ?_;refine I0.nil S2 ?_;refine U35 ?_;refine U384 ?_;refine I0.val S2 (A1 _) rfl (v:=.pointer (some ⟨gr.blk,gr.off,none⟩)) (G3 (s:=1) gr.off gr.off rfl Tryz.underlying141 rfl ns0 (by decide) rfl) ?_;refine I0.call S2 (A1 _) [.pointer (some ⟨gr.blk,gr.off,none⟩)] 7 rfl Tryz.func96 Pi0 rfl rfl rfl (fun cs3 hb3=>?_);refine U35 ?_;refine U267 ?_;refine U35 ?_;refine U384 ?_;refine I0.val S2 (A1 _) rfl (v:=.pointer (some ⟨gr.blk,gr.off,none⟩)) (G3 (s:=1) gr.off gr.off rfl Tryz.underlying138 rfl nr0 (by decide) rfl) ?_;refine I0.Vp0 (A1 _) rfl Tryz.func110 yy0 rfl rfl yz0 rfl ?_;refine U267 ?_;refine At.ret S2 (fun _=>?_);refine AtR.leave1 S2 hb3 rfl Tryz.func96 rfl (.int .u64 0) rfl ?_;refine I0.val S2 (A1 _) rfl (v:=.bool false) (T7 (r:=false) rfl rfl (by decide)) ?_;refine I0.val S2 (A1 _) rfl (v:=.bool false) (Y0 rfl) ?_;refine U91 ?_;refine At.Q4 S2 rfl ?_;refine U477 ?_;simp only[T6];refine I0.nil S2 ?_;refine U450 ?_;refine U373 ?_;rw[Z8 _ rfl];refine U91 ?_;refine U546 ?_;refine U206 ?_;refine At.ret S2 (fun _=>?_);exact U186
  ·refine I0.val L2 (A1 _) rfl (v:=.bool false) (Y0 rfl) ?_;refine I0.nil L2 ?_;refine At.ret L2 (fun _=>?_);refine U540 ?_;refine U601 ?_;exact At.Ix0 (At.mg0 (fun e=>ih v2 (by omega) (by omega) e) rfl) (by omega)
set_option maxRecDepth 20000 in
theorem Vz0 (gr:j5) (K:Goroutine->Prop) {c:Frame} {cs:List Frame} (hK:K (Conc.G (c.finish (.tuple #[])) cs)) (V:Nat) (hV:V<2147483648):WH Tryz.prog gr (WE Tryz.prog gr K) (500*V+510) none V 0 (Conc.G (Frame.enter Tryz.prog 70 #[.pointer (some ⟨gr.blk,gr.off,none⟩)] .normal) (c::cs)):=by
 rw[enter_at _ Tryz.func70 rfl];refine(?_:At (YWH Tryz.prog gr K none V) (500*V+510) 84 (base 70) (c::cs) [] 0 (Wg.y8 #[.pointer (some ⟨gr.blk,gr.off,none⟩)]) [.code (Tryz.f70.body.getD .skip)]) _ (p8 _ _ rfl);refine At.seq L2 ?_;refine At.Q4 L2 rfl ?_;refine U453 ?_;simp only[ff0];refine I0.nil L2 ?_;refine At.block L2 ?_;refine At.loop L2 ?_;exact At.Ix0 (At.mg0 (fun e=>Fj0 gr K hK V hV e) rfl) (by omega)
end
end Go.Proofs.YtnifpkopeheodaaGreat
end
section
namespace Go.Vy.Sc
open Go Go.Conc Go.Yc Go.RowKit Go.Proofs Go.Proofs.YtnifpkopeheodaaGreat Tryz
open Go.Vc
structure CB where
 cb:Nat
 rc:Nat
 sp:Stp
 rf:Value
 df:Value
 n2:Nat
 wt:Bool
 st:Bool
def CB.cells (rb i:Nat) (c:CB):Array Value:=#[.i (i:Int),.p rb,.chan (some c.rc),.i c.sp.kind,.i c.sp.obj,.i c.sp.num,c.rf,c.df,.i (c.n2:Int),.bool c.wt,.bool c.st]
def evC (x:Nat×Stp):List Value:=[.i (x.1:Int),.i x.2.kind,.i x.2.obj,.i x.2.num]
def ntC (x:Nat×Nat×Nte):List Value:=[.i (x.1:Int),.i (x.2.1:Int),.i x.2.2.kind,.string x.2.2.text]
def spC (s:Stp):List Value:=[.i s.kind,.i s.obj,.i s.num]
structure Rn where
 rb:Nat
 yb:Nat
 eb:Nat
 wb:Nat
 m:Nat
 ca:Option Addr
 cc:Nat
 cl:List CB
 ea:Option Addr
 ec:Nat
 evs:List (Nat×Stp)
 na:Option Addr
 nc:Nat
 r2:List (Nat×Nat×Nte)
 ends:List Int
 W4:List Stp
 stuck:Bool
 used:Nat
def Rn.cells (R:Rn):Array Value:=#[.slice R.ca R.cl.length R.cc,.slice R.ea R.evs.length R.ec,.slice R.na R.r2.length R.nc,.slice (pt R.eb) R.m R.m,.slice (pt R.wb) R.m R.m,.bool R.stuck,.i (R.used:Int),.chan (some R.yb)]
structure k4 (w:World) (Bs:Nat) (R:Rn):Prop where
 run:S1 w R.rb R.cells 153 (7,8)
 cls:Own w Bs 91 1 R.ca R.cl.length R.cc (R.cl.map fun c=>.p c.cb)
 evs:Own w Bs 49 4 R.ea R.evs.length R.ec (R.evs.flatMap evC)
 r2:Own w Bs 98 4 R.na R.r2.length R.nc (R.r2.flatMap ntC)
 ends:S1 w R.eb (R.ends.map (Value.int .i64)).toArray 3 (0,0)
 W4:S1 w R.wb (R.W4.flatMap spC).toArray 47 (0,0)
 ep0:R.ends.length=R.m
 iz0:R.W4.length=R.m
 lcl:R.cl.length <=R.m
 blk:∀(i:Nat) (c:CB),R.cl[i]? =some c->S1 w c.cb (c.cells R.rb i) 149 (0,3)
def Rn.fp (R:Rn) (k:Nat):Prop:=k=R.rb\/k=R.eb\/k=R.wb\/(R.ca≠none/\k=ab R.ca)\/(R.ea≠none/\k=ab R.ea)\/(R.na≠none/\k=ab R.na)\/∃(i:Nat) (c:CB),R.cl[i]? =some c/\k=c.cb
section
variable {w w':World}{Bs:Nat}{R:Rn}
theorem k4.congr (h:k4 w Bs R) (he:∀k,R.fp k->w'.heap[k]? =w.heap[k]?):k4 w' Bs R :=
 ⟨(he _ (.inl rfl)).trans h.run,Own.congr h.cls fun ha=>he _ (.inr (.inr (.inr (.inl ⟨ha,rfl⟩)))),Own.congr h.evs fun ha=>he _ (.inr (.inr (.inr (.inr (.inl ⟨ha,rfl⟩))))),Own.congr h.r2 fun ha=>he _ (.inr (.inr (.inr (.inr (.inr (.inl ⟨ha,rfl⟩)))))),
  (he _ (.inr (.inl rfl))).trans h.ends,(he _ (.inr (.inr (.inl rfl)))).trans h.W4,h.ep0,h.iz0,h.lcl,fun i c hc=>(he _ (.inr (.inr (.inr (.inr (.inr (.inr ⟨i,c,hc,rfl⟩))))))).trans (h.blk i c hc)⟩
theorem k4.lt (h:k4 w Bs R) {k:Nat} (hk:R.fp k):k<w.heap.size:=by
 rcases hk with rfl|rfl|rfl|⟨ha,rfl⟩|⟨ha,rfl⟩|⟨ha,rfl⟩|⟨i,c,hc,rfl⟩
 ·exact h.run.lt
 ·exact h.ends.lt
 ·exact h.W4.lt
 ·exact h.cls.lt ha
 ·exact h.evs.lt ha
 ·exact h.r2.lt ha
 ·exact(h.blk i c hc).lt
theorem k4.j0 (h:k4 w Bs R) (hb:Below w.heap.size w w'):k4 w' Bs R:=h.congr fun k hk=>hb.block k (h.lt hk)
theorem O3 {b:Nat} {cs:Array Value} {T:TypeId} {f:Nat×Nat} {row:Option Nat} (h:S1 w b cs T f) (hg:w.grownBy w' row) (hr:∀r,row=some r->∃H6 T' f',S1 w r H6 T' f'/\T≠T'):S1 w' b cs T f :=
 h.grown hg fun e=>by
  obtain⟨H6,T',f',h',hT⟩:=hr b e.symm;exact h.ne h' hT rfl
theorem r5 {E:TypeId} {s n c:Nat} {a:Option Addr} {xs:List Value} {row:Option Nat} (h:Own w Bs E s a n c xs) (hg:w.grownBy w' row) (hr:∀r,row=some r->∃H6 T' f',S1 w r H6 T' f'/\E≠T'):Own w' Bs E s a n c xs :=
 Own.congr h fun ha=>by
  obtain⟨cur,hB,_⟩:=h.row ha;refine hg.block _ hB.lt fun e=>?_;obtain⟨H6,T',f',h',hT⟩:=hr (ab a) e.symm;exact S1.ne (f:=(0,0)) hB h' hT rfl
theorem k4.kp1 (h:k4 w Bs R) {i j:Nat} {c d:CB} (hc:R.cl[i]? =some c) (hd:R.cl[j]? =some d) (he:c.cb=d.cb):i=j:=by
 have h1:=h.blk i c hc;have h2:=h.blk j d hd;unfold S1 at h1 h2;rw[he,h2]at h1;have:=congrArg (fun o=>match o with|some (Obj.cells c _ _)=>c[0]? |_=>none) h1;simp[CB.cells]at this;omega
theorem Jj0 (l:List CB) (i:Nat) (c c':CB) (hc:l[i]? =some c) (he:c'.cb=c.cb):(l.set i c').map (fun c=>Value.p c.cb)=l.map fun c=>Value.p c.cb:=by
 apply List.ext_getElem?;intro j;rw[List.getElem?_map,List.getElem?_map,List.getElem?_set];by_cases hj:i=j
 ·subst hj;have Y1:=(List.getElem?_eq_some_iff.1 hc).1;rw[List.getElem?_eq_getElem Y1]at hc;obtain rfl:=Option.some.inj hc;simp[Y1,he]
 ·simp[hj]
theorem Rn.Dm0 {i:Nat} {c c':CB} (hc:R.cl[i]? =some c) (he:c'.cb=c.cb) {k:Nat} (hk:Rn.fp {R with cl:=R.cl.set i c'} k):R.fp k:=by
 rcases hk with h|h|h|h|h|h|⟨j,d,hd,rfl⟩
 ·exact .inl h
 ·exact .inr (.inl h)
 ·exact .inr (.inr (.inl h))
 ·exact .inr (.inr (.inr (.inl h)))
 ·exact .inr (.inr (.inr (.inr (.inl h))))
 ·exact .inr (.inr (.inr (.inr (.inr (.inl h)))))
 ·refine .inr (.inr (.inr (.inr (.inr (.inr ?_)))));have g6:(R.cl.set i c')[j]? =some d:=hd;rw[List.getElem?_set]at g6;by_cases hj:i=j
  ·subst hj;rw[if_pos rfl]at g6;split at g6
   ·obtain rfl:=Option.some.inj g6;exact⟨i,c,hc,he⟩
   ·cases g6
  ·rw[if_neg hj]at g6;exact⟨j,d,g6,rfl⟩
theorem k4.Wa0 (h:k4 w Bs R) {i:Nat} {c:CB} (c':CB) (hc:R.cl[i]? =some c) (he:c'.cb=c.cb):k4 (V1 w c.cb (c'.cells R.rb i) 149 (0,3)) Bs {R with cl:=R.cl.set i c'}:=by
 have hg:=E2 w c.cb (c'.cells R.rb i) 149 (0,3);have hb:=h.blk i c hc;have hr:∀T:TypeId,T≠149->∀r,some c.cb=some r->∃H6 T' f',S1 w r H6 T' f'/\T≠T':=fun T hT r e=>by cases e;exact⟨_,_,_,hb,hT⟩
 refine⟨?_,?_,r5 h.evs hg (hr _ (by decide)),r5 h.r2 hg (hr _ (by decide)),O3 h.ends hg (hr _ (by decide)),O3 h.W4 hg (hr _ (by decide)),h.ep0,h.iz0,by simpa using h.lcl,fun j d hd=>?_⟩
 ·have:=O3 h.run hg (hr _ (by decide));simpa [Rn.cells]using this
 ·have:=r5 h.cls hg (hr _ (by decide));show Own _ Bs _ 1 R.ca (R.cl.set i c').length R.cc ((R.cl.set i c').map _);rw[Jj0 R.cl i c c' hc he,List.length_set];exact this
 ·have g6:(R.cl.set i c')[j]? =some d:=hd;rw[List.getElem?_set]at g6;by_cases hj:i=j
  ·subst hj;rw[if_pos rfl]at g6;split at g6
   ·obtain rfl:=Option.some.inj g6;rw[he];exact w5 hb _ _ _
   ·cases g6
  ·rw[if_neg hj]at g6;exact(h.blk j d g6).other hg fun e=>hj (h.kp1 g6 hc e).symm
theorem k4.Wb0 (h:k4 w Bs R) (st:Bool) (us:Nat):k4 (V1 w R.rb (Rn.cells {R with stuck:=st,used:=us}) 153 (7,8)) Bs {R with stuck:=st,used:=us}:=by
 have hg:=E2 w R.rb (Rn.cells {R with stuck:=st,used:=us}) 153 (7,8);have hr:∀T:TypeId,T≠153->∀r,some R.rb=some r->∃H6 T' f',S1 w r H6 T' f'/\T≠T':=fun T hT r e=>by cases e;exact⟨_,_,_,h.run,hT⟩
 exact⟨w5 h.run _ _ _,r5 h.cls hg (hr _ (by decide)),r5 h.evs hg (hr _ (by decide)),r5 h.r2 hg (hr _ (by decide)),O3 h.ends hg (hr _ (by decide)),O3 h.W4 hg (hr _ (by decide)),h.ep0,h.iz0,h.lcl,fun j d hd=>O3 (h.blk j d hd) hg (hr _ (by decide))⟩
theorem Pk0 {E:TypeId} {s n c:Nat} {a:Option Addr} {xs:List Value} (h:Own w Bs E s a n c xs):∀r,Value.ownBlock (.slice a n c)=some r->∃H6 T' f',S1 w r H6 T' f':=by
 intro r e;cases a with
 |none=>cases e
 |some ad=>
  obtain⟨cur,hB,_⟩:=h.row (by simp);cases e;exact⟨_,_,_,hB⟩
theorem m7 {E T:TypeId} {s n c:Nat} {a:Option Addr} {xs:List Value} (h:Own w Bs E s a n c xs) (hT:T≠E):∀r,Value.ownBlock (.slice a n c)=some r->∃H6 T' f',S1 w r H6 T' f'/\T≠T':=by
 intro r e;cases a with
 |none=>cases e
 |some ad=>
  obtain⟨cur,hB,_⟩:=h.row (by simp);cases e;exact⟨_,_,_,hB,hT⟩
theorem k4.za0 (h:k4 w Bs R) {w1:World} {a':Option Addr} {c':Nat} (x:Nat×Stp) (hg:w.grownBy w1 (Value.ownBlock (.slice R.ea R.evs.length R.ec))) (hO:Own w1 Bs 49 4 a' (R.evs.length+1) c' (R.evs.flatMap evC++evC x)) :
  k4 (V1 w1 R.rb (Rn.cells {R with ea:=a',ec:=c',evs:=R.evs ++ [x]}) 153 (7,8)) Bs {R with ea:=a',ec:=c',evs:=R.evs ++ [x]}:=by
 have H4:=O3 h.run hg (m7 h.evs (by decide));have hg2:=E2 w1 R.rb (Rn.cells {R with ea:=a',ec:=c',evs:=R.evs ++ [x]}) 153 (7,8);have hr:∀T:TypeId,T≠153->∀r,some R.rb=some r->∃H6 T' f',S1 w1 r H6 T' f'/\T≠T':=fun T hT r e=>by cases e;exact⟨_,_,_,H4,hT⟩
 refine⟨w5 H4 _ _ _,r5 (r5 h.cls hg (m7 h.evs (by decide))) hg2 (hr _ (by decide)),?_,r5 (r5 h.r2 hg (m7 h.evs (by decide))) hg2 (hr _ (by decide)),O3 (O3 h.ends hg (m7 h.evs (by decide))) hg2 (hr _ (by decide)),O3 (O3 h.W4 hg (m7 h.evs (by decide))) hg2 (hr _ (by decide)),h.ep0,h.iz0,h.lcl,fun j d hd=>O3 (O3 (h.blk j d hd) hg (m7 h.evs (by decide))) hg2 (hr _ (by decide))⟩;have:=r5 hO hg2 (hr _ (by decide));simpa using this
theorem k4.Jk0 (h:k4 w Bs R) {w1:World} {a':Option Addr} {c':Nat} (x:CB) (hx:S1 w x.cb (x.cells R.rb R.cl.length) 149 (0,3)) (hm:R.cl.length<R.m) (hg:w.grownBy w1 (Value.ownBlock (.slice R.ca R.cl.length R.cc))) (hO:Own w1 Bs 91 1 a' (R.cl.length+1) c' ((R.cl.map fun c=>.p c.cb) ++ [.p x.cb])) :
  k4 (V1 w1 R.rb (Rn.cells {R with ca:=a',cc:=c',cl:=R.cl ++ [x]}) 153 (7,8)) Bs {R with ca:=a',cc:=c',cl:=R.cl ++ [x]}:=by
 have H4:=O3 h.run hg (m7 h.cls (by decide));have hg2:=E2 w1 R.rb (Rn.cells {R with ca:=a',cc:=c',cl:=R.cl ++ [x]}) 153 (7,8);have hr:∀T:TypeId,T≠153->∀r,some R.rb=some r->∃H6 T' f',S1 w1 r H6 T' f'/\T≠T':=fun T hT r e=>by cases e;exact⟨_,_,_,H4,hT⟩
 refine⟨w5 H4 _ _ _,?_,r5 (r5 h.evs hg (m7 h.cls (by decide))) hg2 (hr _ (by decide)),r5 (r5 h.r2 hg (m7 h.cls (by decide))) hg2 (hr _ (by decide)),O3 (O3 h.ends hg (m7 h.cls (by decide))) hg2 (hr _ (by decide)),O3 (O3 h.W4 hg (m7 h.cls (by decide))) hg2 (hr _ (by decide)),h.ep0,h.iz0,by simp;omega,fun j d hd=>?_⟩
 ·have:=r5 hO hg2 (hr _ (by decide));simpa using this
 ·have g6:(R.cl ++ [x])[j]? =some d:=hd;have hb:S1 w d.cb (d.cells R.rb j) 149 (0,3):=by
   rw[List.getElem?_append]at g6;split at g6
   ·exact h.blk j d g6
   ·rename_i Y1;have hj:j=R.cl.length:=by
     rcases Nat.lt_or_ge (j-R.cl.length) 1 with z|z
     ·omega
     ·rw[List.getElem?_eq_none (by simpa using z)]at g6;cases g6
    subst hj;simp at g6;subst g6;exact hx
  exact O3 (O3 hb hg (m7 h.cls (by decide))) hg2 (hr _ (by decide))
theorem k4.Jl0 (h:k4 w Bs R) (i:Nat) (v:Int):k4 (V1 w R.eb ((R.ends.set i v).map (Value.int .i64)).toArray 3 (0,0)) Bs {R with ends:=R.ends.set i v}:=by
 have hg:=E2 w R.eb ((R.ends.set i v).map (Value.int .i64)).toArray 3 (0,0);have hr:∀T:TypeId,T≠3->∀r,some R.eb=some r->∃H6 T' f',S1 w r H6 T' f'/\T≠T':=fun T hT r e=>by cases e;exact⟨_,_,_,h.ends,hT⟩
 exact⟨O3 h.run hg (hr _ (by decide)),r5 h.cls hg (hr _ (by decide)),r5 h.evs hg (hr _ (by decide)),r5 h.r2 hg (hr _ (by decide)),w5 h.ends _ _ _,O3 h.W4 hg (hr _ (by decide)),by simpa using h.ep0,h.iz0,h.lcl,fun j d hd=>O3 (h.blk j d hd) hg (hr _ (by decide))⟩
theorem k4.Wc0 (h:k4 w Bs R) (i:Nat) (v:Stp):k4 (V1 w R.wb ((R.W4.set i v).flatMap spC).toArray 47 (0,0)) Bs {R with W4:=R.W4.set i v}:=by
 have hg:=E2 w R.wb ((R.W4.set i v).flatMap spC).toArray 47 (0,0);have hr:∀T:TypeId,T≠47->∀r,some R.wb=some r->∃H6 T' f',S1 w r H6 T' f'/\T≠T':=fun T hT r e=>by cases e;exact⟨_,_,_,h.W4,hT⟩
 exact⟨O3 h.run hg (hr _ (by decide)),r5 h.cls hg (hr _ (by decide)),r5 h.evs hg (hr _ (by decide)),r5 h.r2 hg (hr _ (by decide)),O3 h.ends hg (hr _ (by decide)),w5 h.W4 _ _ _,h.ep0,by simpa using h.iz0,h.lcl,fun j d hd=>O3 (h.blk j d hd) hg (hr _ (by decide))⟩
structure Rg (S:Nat->Prop) (B:Nat) (w0 w:World) (Bs:Nat) (R:Rn):Prop where
 m:k4 w Bs R
 md:gu0 S B w0 w
 fp:∀k,R.fp k->S k\/B <=k
 le:B <=w.heap.size
end
section
variable {S:Nat->Prop}{B:Nat}{w0 w w':World}{Bs:Nat}{R:Rn}
theorem k4.rg (h:k4 w Bs R):Rg R.fp w.heap.size w w Bs R:=⟨h,gu0.refl _ _ _,fun _ h=>.inl h,Nat.le_refl _⟩
theorem Rg.j0 (h:Rg S B w0 w Bs R) (hb:Below w.heap.size w w'):Rg S B w0 w' Bs R:=⟨h.m.j0 hb,h.md.below hb h.le,h.fp,Nat.le_trans h.le hb.size⟩
theorem Rg.fresh (h:Rg S B w0 w Bs R) {b:Nat} (cs:Array Value) (T:TypeId) (f:Nat×Nat) (hb:∀k,R.fp k->k≠b) (hB:B <=b):Rg S B w0 (V1 w b cs T f) Bs R :=
 ⟨h.m.congr fun k hk=>N7 (hb k hk),h.md.grown (E2 w b cs T f) h.le (fun r e=>by cases e;exact .inr hB),h.fp,by rw[S5];exact h.le⟩
theorem Rg.put (h:Rg S B w0 w Bs R) {b:Nat} {cs:Array Value} {T:TypeId} {f:Nat×Nat} {R':Rn} (hb:R.fp b) (hm:k4 (V1 w b cs T f) Bs R') (hf:∀k,R'.fp k->R.fp k):Rg S B w0 (V1 w b cs T f) Bs R' :=
 ⟨hm,h.md.grown (E2 w b cs T f) h.le (fun r e=>by cases e;exact h.fp _ hb),fun k hk=>h.fp k (hf k hk),by rw[S5];exact h.le⟩
theorem df1 {i:Nat} {c:CB} (hc:R.cl[i]? =some c):R.fp c.cb:=.inr (.inr (.inr (.inr (.inr (.inr ⟨i,c,hc,rfl⟩)))))
theorem Rg.Wa0 (h:Rg S B w0 w Bs R) {i:Nat} {c:CB} (c':CB) (hc:R.cl[i]? =some c) (he:c'.cb=c.cb):Rg S B w0 (V1 w c.cb (c'.cells R.rb i) 149 (0,3)) Bs {R with cl:=R.cl.set i c'} :=
 h.put (df1 hc) (h.m.Wa0 c' hc he) fun _ hk=>Rn.Dm0 hc he hk
theorem Rg.Wb0 (h:Rg S B w0 w Bs R) (st:Bool) (us:Nat):Rg S B w0 (V1 w R.rb (Rn.cells {R with stuck:=st,used:=us}) 153 (7,8)) Bs {R with stuck:=st,used:=us} :=
 h.put (.inl rfl) (h.m.Wb0 st us) fun _ hk=>hk
theorem Rg.Jl0 (h:Rg S B w0 w Bs R) (i:Nat) (v:Int):Rg S B w0 (V1 w R.eb ((R.ends.set i v).map (Value.int .i64)).toArray 3 (0,0)) Bs {R with ends:=R.ends.set i v} :=
 h.put (.inr (.inl rfl)) (h.m.Jl0 i v) fun _ hk=>hk
theorem Rg.Wc0 (h:Rg S B w0 w Bs R) (i:Nat) (v:Stp):Rg S B w0 (V1 w R.wb ((R.W4.set i v).flatMap spC).toArray 47 (0,0)) Bs {R with W4:=R.W4.set i v} :=
 h.put (.inr (.inr (.inl rfl))) (h.m.Wc0 i v) fun _ hk=>hk
def Pl0 (w:World) (a a':Option Addr):Prop:=a'≠none->(a≠none/\ab a'=ab a)\/w.heap.size <=ab a'
theorem wk0 {a:Option Addr} {n c r:Nat} (e:Value.ownBlock (.slice a n c)=some r):a≠none/\r=ab a:=by
 cases a with
 |none=>cases e
 |some ad=>exact⟨by simp,by cases e;rfl⟩
theorem Rg.app (h:Rg S B w0 w Bs R) {R':Rn} {row:Option Nat} {w1:World} (hg:w.grownBy w1 row) (hr:∀r,row=some r->R.fp r) (hb:R'.rb=R.rb) (hm:k4 (V1 w1 R.rb R'.cells 153 (7,8)) Bs R') (hf:∀k,R'.fp k->R.fp k\/w.heap.size <=k) :
  Rg S B w0 (V1 w1 R.rb R'.cells 153 (7,8)) Bs R' :=
 ⟨hm,(h.md.grown hg h.le fun r e=>h.fp r (hr r e)).grown (E2 _ _ _ _ _) (Nat.le_trans h.le hg.size) (fun r e=>by cases e;exact h.fp _ (.inl rfl)),fun k hk=>by
  rcases hf k hk with z|z
  ·exact h.fp k z
  ·have:=h.le;exact .inr (by omega),by rw[S5];exact Nat.le_trans h.le hg.size⟩
theorem Rg.za0 (h:Rg S B w0 w Bs R) {w1:World} {a':Option Addr} {c':Nat} (x:Nat×Stp) (hg:w.grownBy w1 (Value.ownBlock (.slice R.ea R.evs.length R.ec))) (hO:Own w1 Bs 49 4 a' (R.evs.length+1) c' (R.evs.flatMap evC++evC x)) (hl:Pl0 w R.ea a') :
  Rg S B w0 (V1 w1 R.rb (Rn.cells {R with ea:=a',ec:=c',evs:=R.evs ++ [x]}) 153 (7,8)) Bs {R with ea:=a',ec:=c',evs:=R.evs ++ [x]} :=
 h.app (R':={R with ea:=a',ec:=c',evs:=R.evs ++ [x]}) hg (fun r e=>by obtain⟨h1,rfl⟩:=wk0 e;exact .inr (.inr (.inr (.inr (.inl ⟨h1,rfl⟩))))) rfl (h.m.za0 x hg hO) fun k hk=>by
  rcases hk with z|z|z|z|⟨z1,z2⟩|z|z
  ·exact .inl (.inl z)
  ·exact .inl (.inr (.inl z))
  ·exact .inl (.inr (.inr (.inl z)))
  ·exact .inl (.inr (.inr (.inr (.inl z))))
  ·rcases hl z1 with⟨y1,y2⟩|y
   ·exact .inl (.inr (.inr (.inr (.inr (.inl ⟨y1,by rw[z2];exact y2⟩)))))
   ·exact .inr (by rw[z2];exact y)
  ·exact .inl (.inr (.inr (.inr (.inr (.inr (.inl z))))))
  ·exact .inl (.inr (.inr (.inr (.inr (.inr (.inr z))))))
theorem Rg.Jk0 (h:Rg S B w0 w Bs R) {w1:World} {a':Option Addr} {c':Nat} (x:CB) (hx:S1 w x.cb (x.cells R.rb R.cl.length) 149 (0,3)) (hxS:S x.cb\/B <=x.cb) (hm:R.cl.length<R.m) (hg:w.grownBy w1 (Value.ownBlock (.slice R.ca R.cl.length R.cc)))
  (hO:Own w1 Bs 91 1 a' (R.cl.length+1) c' ((R.cl.map fun c=>.p c.cb) ++ [.p x.cb])) (hl:Pl0 w R.ca a') :
  Rg S B w0 (V1 w1 R.rb (Rn.cells {R with ca:=a',cc:=c',cl:=R.cl ++ [x]}) 153 (7,8)) Bs {R with ca:=a',cc:=c',cl:=R.cl ++ [x]}:=by
 have h1:=h.m.Jk0 x hx hm hg hO;refine⟨h1,(h.md.grown hg h.le fun r e=>h.fp r (by obtain⟨h1,rfl⟩:=wk0 e;exact .inr (.inr (.inr (.inl ⟨h1,rfl⟩))))).grown (E2 _ _ _ _ _) (Nat.le_trans h.le hg.size) (fun r e=>by cases e;exact h.fp _ (.inl rfl)),fun k hk=>?_,by rw[S5];exact Nat.le_trans h.le hg.size⟩;rcases hk with z|z|z|⟨z1,z2⟩|z|z|⟨i,d,hd,z⟩
 ·exact h.fp _ (.inl z)
 ·exact h.fp _ (.inr (.inl z))
 ·exact h.fp _ (.inr (.inr (.inl z)))
 ·rcases hl z1 with⟨y1,y2⟩|y
  ·exact h.fp _ (.inr (.inr (.inr (.inl ⟨y1,by rw[z2];exact y2⟩))))
  ·have:=h.le;exact .inr (by rw[z2];show B <=ab a';omega)
 ·exact h.fp _ (.inr (.inr (.inr (.inr (.inl z)))))
 ·exact h.fp _ (.inr (.inr (.inr (.inr (.inr (.inl z))))))
 ·have g6:(R.cl ++ [x])[i]? =some d:=hd;rw[List.getElem?_append]at g6;split at g6
  ·exact h.fp _ (.inr (.inr (.inr (.inr (.inr (.inr ⟨i,d,g6,z⟩))))))
  ·have hdx:d=x:=by
    have:=List.mem_of_getElem? g6;simpa using this
   subst hdx;rw[z];exact hxS
end
section
variable {w:World}{Bs:Nat}{R:Rn}
theorem Jm0 (hM:k4 w Bs R) {i:Nat} {c:CB} (hc:R.cl[i]? =some c):w.cell? ⟨ab R.ca,ao R.ca+i*1,none⟩=some (.p c.cb):=by
 rw[hM.cls.off,Nat.zero_add,Nat.mul_one];exact hM.cls.cell (by rw[List.getElem?_map,hc];rfl)
def rdl (cl:List CB) (r:Nat->Bool) (n:Nat):List Nat:=(List.range n).filter fun i=>(cl[i]?.any (·.wt))&&r i
def Jn0 (cl:List CB) (i:Nat):Value:=.pointer (some ⟨(cl[i]?.map (·.cb)).getD 0,0,none⟩)
theorem Jo0 {cl:List CB} {r:Nat->Bool} {i:Nat} {c:CB} (hc:cl[i]? =some c) (h:(c.wt&&r i)=false):rdl cl r (i+1)=rdl cl r i:=by
 unfold rdl;rw[List.range_succ,List.filter_append];simp[hc,h]
theorem Dn0 {cl:List CB} {r:Nat->Bool} {i:Nat} {c:CB} (hc:cl[i]? =some c) (h:(c.wt&&r i)=true):rdl cl r (i+1)=rdl cl r i ++ [i]:=by
 unfold rdl;rw[List.range_succ,List.filter_append];simp only[Bool.and_eq_true]at h;simp[hc,h.1,h.2]
theorem Bm0 {cl:List CB} {r:Nat->Bool} (n:Nat):(rdl cl r n).length <=n:=by
 have:=List.length_filter_le (fun i=>(cl[i]?.any (·.wt))&&r i) (List.range n);simpa [rdl]using this
theorem dg1 {cl:List CB} {i:Nat} (h:∀(j:Nat) (c:CB),j<i->cl[j]? =some c->c.wt=false) (hi:cl.length <=i):cl.any (·.wt)=false:=by
 rw[List.any_eq_false];intro c hc;obtain⟨j,hj⟩:=List.mem_iff_getElem?.1 hc;have:=h j c (by have:=(List.getElem?_eq_some_iff.1 hj).1;omega) hj;simp[this]
def wl0 [Ctx prog] (w0:World) (rf:Value) (b:Bool):Prop :=
 (rf= .nilFunc/\b=true)\/∃f fn caps,rf= .func (.func f) #[] caps/\prog.funcs[f]? =some fn/\fn.body.isSome=true/\(fn.name== "runtime.NumGoroutine")=false/\∀u,Below w0.heap.size w0 u->C prog f caps u fun v u'=>v= .bool b/\Below u.heap.size u u'
end
section
variable [Ctx prog]{n:Nat}{Q:Exit->Env->World->Prop}{e:Env}{ops:Array Oper}{rest:List Oper}{ty:TypeId}{ps:String}{af:Array Edge}{T:TypeId}{x y:Operand}
variable {S:Nat->Prop}{B:Nat}{w0 w:World}{Bs:Nat}{R:Rn}
theorem L.stC {i:Nat} {c:CB} {o s:Nat} {v:Value} {vs:List Value} (hg:Rg S B w0 w Bs R) (c':CB) (hc:R.cl[i]? =some c) (he:c'.cb=c.cb) (hx:ev e x= .pointer (some ⟨c.cb,o,none⟩)) (hy:ev e y=v) (hvs:v.cells.toList=vs) (hs:(prog.info? T).map (·.size)=some s) (hl:vs.length=s) (h1:vs.all Value.oneCell'=true) (ho:3 <=o/\o+s <=11) (hcs:setRow (c.cells R.rb i) o vs=c'.cells R.rb i)
  (k:∀w1,Rg S B w0 w1 Bs {R with cl:=R.cl.set i c'}->w.grownBy w1 (some c.cb)->L prog n ops Q rest e w1):L prog n ops Q (⟨none,.store T x y,ty,ps,af,none⟩::rest) e w :=
 L.Fe0 (c'.cells R.rb i) hx hy hvs hs hl h1 (hg.m.blk i c hc) ho.2 (.inr ho.1) hcs (k _ (hg.Wa0 c' hc he) (E2 _ _ _ _ _))
theorem L.stR {o s:Nat} {v:Value} {vs:List Value} (hg:Rg S B w0 w Bs R) (st:Bool) (us:Nat) (hx:ev e x= .pointer (some ⟨R.rb,o,none⟩)) (hy:ev e y=v) (hvs:v.cells.toList=vs) (hs:(prog.info? T).map (·.size)=some s) (hl:vs.length=s) (h1:vs.all Value.oneCell'=true) (ho:o+s <=7) (hcs:setRow R.cells o vs=Rn.cells {R with stuck:=st,used:=us})
  (k:∀w1,Rg S B w0 w1 Bs {R with stuck:=st,used:=us}->w.grownBy w1 (some R.rb)->L prog n ops Q rest e w1):L prog n ops Q (⟨none,.store T x y,ty,ps,af,none⟩::rest) e w :=
 L.Fe0 (Rn.cells {R with stuck:=st,used:=us}) hx hy hvs hs hl h1 hg.m.run (show o+s <=8 by omega) (.inl (show o+s <=7 by omega)) hcs (k _ (hg.Wb0 st us) (E2 _ _ _ _ _))
theorem L.kq1 {o:Nat} {v:Value} {w1:World} {a':Option Addr} {c':Nat} (hg:Rg S B w0 w Bs R) (x':Nat×Stp) (P3:w.grownBy w1 (Value.ownBlock (.slice R.ea R.evs.length R.ec))) (hO:Own w1 Bs 49 4 a' (R.evs.length+1) c' (R.evs.flatMap evC++evC x')) (hli:Pl0 w R.ea a')
  (hx:ev e x= .pointer (some ⟨R.rb,1,none⟩)) (hy:ev e y= .slice a' (R.evs.length+1) c') (hs:(prog.info? T).map (·.size)=some 1)
  (k:∀w2,Rg S B w0 w2 Bs {R with ea:=a',ec:=c',evs:=R.evs ++ [x']}->L prog n ops Q rest e w2):L prog n ops Q (⟨none,.store T x y,ty,ps,af,none⟩::rest) e w1 :=
 L.Fe0 (Rn.cells {R with ea:=a',ec:=c',evs:=R.evs ++ [x']}) hx hy rfl hs rfl rfl (O3 hg.m.run P3 (m7 hg.m.evs (by decide))) (show 1+1 <=8 by omega) (.inl (show 1+1 <=7 by omega)) (by simp[Rn.cells,setRow,Value.cells]) (k _ (hg.za0 x' P3 hO hli))
theorem L.kr1 {w1:World} {a':Option Addr} {c':Nat} (hg:Rg S B w0 w Bs R) (x':CB) (hx0:S1 w x'.cb (x'.cells R.rb R.cl.length) 149 (0,3)) (hxS:S x'.cb\/B <=x'.cb) (hm:R.cl.length<R.m) (P3:w.grownBy w1 (Value.ownBlock (.slice R.ca R.cl.length R.cc)))
  (hO:Own w1 Bs 91 1 a' (R.cl.length+1) c' ((R.cl.map fun c=>.p c.cb) ++ [.p x'.cb])) (hli:Pl0 w R.ca a')
  (hx:ev e x= .p R.rb) (hy:ev e y= .slice a' (R.cl.length+1) c') (hs:(prog.info? T).map (·.size)=some 1)
  (k:∀w2,Rg S B w0 w2 Bs {R with ca:=a',cc:=c',cl:=R.cl ++ [x']}->w1.grownBy w2 (some R.rb)->L prog n ops Q rest e w2):L prog n ops Q (⟨none,.store T x y,ty,ps,af,none⟩::rest) e w1 :=
 L.Fe0 (Rn.cells {R with ca:=a',cc:=c',cl:=R.cl ++ [x']}) hx hy rfl hs rfl rfl (O3 hg.m.run P3 (m7 hg.m.cls (by decide))) (show 0+1 <=8 by omega) (.inl (show 0+1 <=7 by omega)) (by simp[Rn.cells,setRow,Value.cells]) (k _ (hg.Jk0 x' hx0 hxS hm P3 hO hli) (E2 _ _ _ _ _))
end
section
theorem Fk0 (l:List Stp) (i:Nat) (s:Stp) (hi:i<l.length):setRow (l.flatMap spC).toArray (i*3) (spC s)=((l.set i s).flatMap spC).toArray:=by
 apply Array.toList_inj.1;have key:∀(l:List Stp) (i:Nat),i<l.length->(l.set i s).flatMap spC=(((l.flatMap spC).set (i*3) (.i s.kind)).set (i*3+1) (.i s.obj)).set (i*3+2) (.i s.num):=by
  intro l
  induction l with
  |nil=>intro i hi;simp at hi
  |cons a l ih=>
   intro i hi;cases i with
   |zero=>simp[spC,List.flatMap_cons]
   |succ i=>
    have:=ih i (by simpa using hi);simp only[List.set_cons_succ,List.flatMap_cons,spC,List.cons_append,List.nil_append];rw[show(i+1)*3=i*3+1+1+1 by omega];simp only[List.set_cons_succ];rw[this]
 rw[key l i hi];simp[setRow,spC]
end
section
variable [Ctx prog]{n:Nat}{Q:Exit->Env->World->Prop}{e:Env}{ops:Array Oper}{rest:List Oper}{ty:TypeId}{ps:String}{af:Array Edge}{T:TypeId}{x y:Operand}
variable {S:Nat->Prop}{B:Nat}{w0 w:World}{Bs:Nat}{R:Rn}
theorem L.stE {i:Nat} {z:Int} (hg:Rg S B w0 w Bs R) (hi:i<R.m) (hx:ev e x= .pointer (some ⟨R.eb,0+i*1,none⟩)) (hy:ev e y= .i z) (hs:(prog.info? T).map (·.size)=some 1)
  (k:∀w1,Rg S B w0 w1 Bs {R with ends:=R.ends.set i z}->w.grownBy w1 (some R.eb)->L prog n ops Q rest e w1):L prog n ops Q (⟨none,.store T x y,ty,ps,af,none⟩::rest) e w:=by
 refine L.Fe0 _ hx hy rfl hs rfl rfl hg.m.ends (by rw[Nat.zero_add,Nat.mul_one];simp[hg.m.ep0];omega) (.inr (by simp)) ?_ (k _ (hg.Jl0 i z) (E2 _ _ _ _ _));rw[Nat.zero_add,Nat.mul_one];apply Array.toList_inj.1;simp[setRow,Value.cells,List.map_set]
theorem L.stW {i:Nat} {z:Stp} (hg:Rg S B w0 w Bs R) (hi:i<R.m) (hx:ev e x= .pointer (some ⟨R.wb,0+i*3,none⟩)) (hy:ev e y=gk0 z) (hs:(prog.info? T).map (·.size)=some 3)
  (k:∀w1,Rg S B w0 w1 Bs {R with W4:=R.W4.set i z}->w.grownBy w1 (some R.wb)->L prog n ops Q rest e w1):L prog n ops Q (⟨none,.store T x y,ty,ps,af,none⟩::rest) e w:=by
 have hln:(R.W4.flatMap spC).length=R.m*3:=by
  rw[<- hg.m.iz0];generalize R.W4=l
  induction l with
  |nil=>rfl
  |cons a l ih=>simp only[List.flatMap_cons,List.length_append,ih,List.length_cons];simp[spC];omega
 refine L.Fe0 (vs:=spC z) _ hx hy rfl hs rfl rfl hg.m.W4 (by simp only[List.size_toArray,hln];omega) (.inr (by simp)) ?_ (k _ (hg.Wc0 i z) (E2 _ _ _ _ _));rw[Nat.zero_add];exact Fk0 R.W4 i z (by rw[hg.m.iz0];exact hi)
end
section
variable [Ctx prog]
theorem Jp0 (rb i:Nat) (c:CB) (w:World) (hC:S1 w c.cb (c.cells rb i) 149 (0,3)):C prog 47 #[.p c.cb] w fun v w1=>v= .i (i:Int)/\w1=w:=by
 refine C.enter (n:=9) func47 rfl rfl ?_;refine U2 ?_;refine U9 ?_;refine U14 ?_;refine L.va (W3 rfl) ?_;refine L.va (E5 rfl rfl underlying91) ?_;refine U102 ?_;refine U577 ?_;refine L.va (A0 rfl underlying3 rfl (hC.E0 0 (v:=.i (i:Int)) rfl)) ?_;refine U38 ?_;exact⟨rfl,rfl⟩
theorem Bn0 (R:Rn) (Bs:Nat) (w0:World) (hM:k4 w0 Bs R) (hm:R.cl.length <=1000):C prog 79 #[.p R.rb] w0 fun v w1=>v= .bool (R.cl.any (·.wt))/\w1=w0:=by
 refine C.enter (n:=19) func79 rfl rfl ?_;refine U2 ?_;refine U11 ?_;refine U14 ?_;refine U174 ?_;refine U421 ?_;refine L.va (m3 rfl) ?_;refine U5 ?_;refine W.block ?_;refine W.loop (fun k e w=>∃(i:Nat),k=R.cl.length-i/\e 0= .p R.rb/\e 2= .bool false/\e 8= .slice R.ca R.cl.length (R.cc)/\e 9= .i (R.cl.length:Nat)/\e 10= .i (i:Int)/\i <=R.cl.length/\(∀(j:Nat) (c:CB),j<i->R.cl[j]? =some c->c.wt=false)/\w=w0) _ ⟨0,rfl,rfl,rfl,rfl,rfl,rfl,Nat.zero_le _,fun j c hj=>absurd hj (Nat.not_lt_zero _),rfl⟩ ?_;rintro k e w ⟨i,hk,s0,s2,s8,s9,s10,hi,l9,hw⟩;rw[V0 s0,V0 s2,V0 s8,V0 s9,V0 s10];clear s0 s2 s8 s9 s10;subst hw;refine U2 ?_;refine U25 ?_;refine W.seq ?_;refine W.Q8 rfl (fun h11=>?_) (fun h11=>?_)
 ·have Y1:i<R.cl.length:=by omega
  obtain⟨c,hc⟩:∃c,R.cl[i]? =some c:=⟨_,List.getElem?_eq_getElem Y1⟩
  refine U135 ?_;refine U422 ?_;refine U55 ?_;refine U496 ?_;refine U5 ?_;refine W.cond rfl (fun h17=>?_) (fun h17=>?_)
  ·refine W.seq ?_;refine W.region rfl ?_;refine U36 ?_;exact⟨congrArg Value.bool (List.any_eq_true.2 ⟨c,List.mem_of_getElem? hc,h17⟩).symm,rfl⟩
  ·refine W.skip ?_;refine U153 ?_;refine U129 ?_;refine T.nrm ?_;exact⟨_,by omega,⟨i+1,rfl,rfl,rfl,rfl,rfl,rfl,(by omega),(fun j d hj hd=>by
     rcases Nat.lt_or_ge j i with z|z
     ·exact l9 j d z hd
     ·obtain rfl:j=i:=by omega
      rw[hc]at hd;obtain rfl:=Option.some.inj hd;exact h17),rfl⟩⟩
 ·refine W.exit ?_;refine U72 ?_;refine U36 ?_;exact⟨congrArg Value.bool (dg1 l9 (by omega)).symm,rfl⟩
theorem tq0 (R:Rn) (Bs:Nat) (w0:World) (hM:k4 w0 Bs R) (hm:R.cl.length <=1000) (r:Nat->Bool) (hrd:∀(i:Nat) (c:CB),R.cl[i]? =some c->c.wt=true->wl0 w0 c.rf (r i)):C prog 77 #[.p R.rb] w0 fun v w=>∃a cp,v= .slice a (rdl R.cl r R.cl.length).length cp/\Own w w0.heap.size 91 1 a (rdl R.cl r R.cl.length).length cp ((rdl R.cl r R.cl.length).map (Jn0 R.cl))/\Below w0.heap.size w0 w:=by
 refine C.enter (n:=39) func77 rfl rfl ?_;refine U3 ?_;intro hb;refine U310 ?_;refine U204 ?_;refine U14 ?_;refine U174 ?_;refine L.va (A0 rfl underlying151 rfl ((hM.j0 hb).run.E0 0 (v:=.slice R.ca R.cl.length R.cc) rfl)) ?_;refine L.va (S6 rfl underlying151 rfl) ?_;refine L.va (m3 rfl) ?_;refine U5 ?_;refine W.block ?_;refine W.loop (fun k e w=>∃(i:Nat),∃(a:Option Addr),∃(q:Nat),∃(cp:Nat),k=R.cl.length-i/\e 0= .p R.rb/\e 2= .slice none 0 0/\e 3= .slice a q cp/\e 9= .slice R.ca R.cl.length (R.cc)/\e 10= .i (R.cl.length:Nat)/\e 11= .i (i:Int)/\i <=R.cl.length/\q=(rdl R.cl r i).length/\Own w w0.heap.size 91 1 a q cp ((rdl R.cl r i).map (Jn0 R.cl))/\Below w0.heap.size w0 w) _ ⟨0,none,0,0,rfl,rfl,rfl,rfl,rfl,rfl,rfl,Nat.zero_le _,rfl,Own.nil _ _ _ _,hb⟩ ?_;rintro k e w ⟨i,a,q,cp,hk,s0,s2,s3,s9,s10,s11,hi,hq,hO,hb⟩;rw[V0 s0,V0 s2,V0 s3,V0 s9,V0 s10,V0 s11];clear s0 s2 s3 s9 s10 s11;refine U2 ?_;refine U25 ?_;refine W.seq ?_;refine W.Q8 rfl (fun h12=>?_) (fun h12=>?_)
 ·have Y1:i<R.cl.length:=by omega
  obtain⟨c,hc⟩:∃c,R.cl[i]? =some c:=⟨_,List.getElem?_eq_getElem Y1⟩
  obtain⟨cb,rc,sp,rf,df,pk,wt,st⟩:=c;refine U135 ?_;refine L.va (S3 (i:=i) rfl rfl underlying151 Jd0 hM.cls.sl Y1) ?_;refine L.va (A0 (v:=.p cb) rfl underlying91 rfl (Jm0 (hM.j0 hb) hc)) ?_;refine U45 ?_;refine W.seq ?_;cases wt with
  |false=>
   refine W.region rfl ?_;refine U60 ?_;refine L.va (A0 rfl underlying4 rfl (((hM.j0 hb).blk i _ hc).E0 9 (v:=.bool false) rfl)) ?_;refine U199 ?_;refine U70 ?_;refine U70 ?_;refine U115 ?_;have hrl:=Jo0 (r:=r) hc rfl;refine U538 ?_;refine U129 ?_;exact U418
  |true=>
   rcases hrd i _ hc rfl with⟨h1,h2⟩|⟨f,fn,caps,h1,hf,hbd,hnm,A5⟩
   all_goals dsimp only at h1
   all_goals subst h1
   ·refine W.region rfl ?_;refine U461 ?_;refine U133 ?_;refine U275 ?_;refine L.on rfl ?_;refine L.va (A0 rfl underlying25 rfl (((hM.j0 hb).blk i _ hc).E0 6 (v:=.nilFunc) rfl)) ?_;refine L.on rfl ?_;refine L.va (o8 (v:=.nilFunc) (b:=true) rfl (.inl ⟨rfl,rfl⟩) rfl underlying25 ⟨_,_,_,rfl⟩) ?_;refine L.on rfl ?_;refine U199 ?_;refine L.off rfl ?_;refine L.on rfl ?_;refine L.va (E8 rfl) ?_;refine U83 ?_;have hrl:=Dn0 (r:=r) hc h2;show W _ _ _ _ _ _;refine W.Q4 rfl ?_;refine U602 ?_;refine U543 ?_;intro w b35 F35;have hb:=P0 hb F35.below;have hO:=hO.j0 F35.below;have Wd0:=F35.blk;have hOl:=Bm0 (cl:=R.cl) (r:=r) i;refine L.cy0 (B:=w0.heap.size) (m:=1) rfl rfl underlying151 Vw0 rfl (by decide) hO (fun h=>by cases h) (news:=[.p cb]) rfl (fun ad had j u hj=>by
     cases had;rw[Addr.add_lit]
     match j,hj with
     |0,hj=>cases hj;exact Wd0.E0 0 rfl) (fun u hu=>by simp only[List.mem_cons,List.not_mem_nil,or_false]at hu;subst hu;rfl) (by omega) (by omega) hb.size (fun a2 cp2 w2 hO2 hg2 cg0 _=>?_)
    have hb:=hb.trans cg0
    rename World=>w
    refine U198 ?_;refine U129 ?_;exact U372
   ·refine W.region rfl ?_;refine U461 ?_;refine U133 ?_;refine U275 ?_;refine U427 ?_;refine L.on rfl ?_;refine L.va (o8 (v:=.func (.func f) #[] caps) (b:=false) rfl (.inr ⟨_,_,_,rfl,rfl⟩) rfl underlying25 ⟨_,_,_,rfl⟩) ?_;refine L.on rfl ?_;refine U133 ?_;refine U275 ?_;refine U427 ?_;refine L.on rfl ?_;refine L.call (ir0 rfl hf hbd hnm) (A5 w hb) ?_;rintro _ w ⟨rfl,P1⟩;have hb:=P0 hb P1;have hO:=hO.j0 P1;refine L.on rfl ?_;refine L.va (u7 rfl) ?_;refine L.va (E8 rfl) ?_;refine U5 ?_;refine W.cond rfl (fun h32=>?_) (fun h32=>?_)
    ·have hrl:=Dn0 (r:=r) hc h32;refine U602 ?_;refine U543 ?_;intro w b35 F35;have hb:=P0 hb F35.below;have hO:=hO.j0 F35.below;have Wd0:=F35.blk;have hOl:=Bm0 (cl:=R.cl) (r:=r) i;refine L.cy0 (B:=w0.heap.size) (m:=1) rfl rfl underlying151 Vw0 rfl (by decide) hO (fun h=>by cases h) (news:=[.p cb]) rfl (fun ad had j u hj=>by
      cases had;rw[Addr.add_lit]
      match j,hj with
      |0,hj=>cases hj;exact Wd0.E0 0 rfl) (fun u hu=>by simp only[List.mem_cons,List.not_mem_nil,or_false]at hu;subst hu;rfl) (by omega) (by omega) hb.size (fun a2 cp2 w2 hO2 hg2 cg0 _=>?_)
     have hb:=hb.trans cg0
     rename World=>w
     refine U198 ?_;refine U129 ?_;exact U372
    ·have hrl:=Jo0 (r:=r) hc h32;refine U185 ?_;refine U129 ?_;exact U418
 ·refine W.exit ?_;refine U72 ?_;refine L.va (I7 rfl) ?_;refine U204 ?_;refine U109 ?_;obtain rfl:i=R.cl.length:=by omega
  subst hq;exact⟨a,cp,rfl,hO,hb⟩
end
end Go.Vy.Sc
end
section
namespace Go.Vy
open Go Go.Conc Go.Yc Go.RowKit
open Go.Vc Go.Wg
def YS (P:Program) (main:Bool) (l:m4) (K:c6->Prop):Nat->Nat->Goroutine->Prop:=fun m _ g=>∃s,K s/\Yc.Way P main l s m g
def okS (l:m4) (e:Event):Prop:=∃p∈l,e=⟨.cell p.1,false,false⟩
theorem wm0 {P:Program} {main:Bool} {l:m4} {K:c6->Prop}:HF P main (okS l) (YS P main l K) :=
 ⟨fun m d g g' es h1 h2 h3 h4 ⟨s,hk,hw⟩=>⟨s,hk,.inr ⟨(by
  rcases hw.status with⟨_,h⟩|⟨h,_⟩
  ·exact h
  ·rw[h2]at h;cases h),h1,g',es,h3,fun w _=>h4 w,hw⟩⟩⟩
def Sits (n:Nat) (b:Frame) (cs:List Frame) (e:Env) (dst:Option Nat) (todo:List Item) (me:Goroutine):Prop:=∀v,∃a,Rep n a (j3 e dst v)/\Go.Conc.served me v=G (b.at a todo) cs
theorem Sits.go {Z:Goroutine->World->Prop} {n:Nat} {b:Frame} {cs:List Frame} {e:Env} {dst:Option Nat} {todo:List Item} {me:Goroutine} (h:Sits n b cs e dst todo me) {v:Value} {w:World} (hz:ZA Z n b cs (j3 e dst v) todo w):Z (Go.Conc.served me v) w:=by
 obtain⟨a,ha,he⟩:=h v;rw[he];exact hz a ha
theorem kc0 {b:Frame} {a:Act} {k:List Item} {cs:List Frame} {ops:Array Oper} {i:Nat} {rest:List Nat} {o:Oper} (ho:ops[i]? =some o) (v:Value):Go.Conc.served (G (b.at a (.inRegion ops (i::rest)::k)) cs) v=G (b.at (a.put o.dst v) (.inRegion ops rest::k)) cs:=by
 have:(b.at a (.inRegion ops (i::rest)::k)).finish v=b.at (a.put o.dst v) (.inRegion ops rest::k):=by rw[Frame.finish_at,ho];rfl
 show({frame:=(b.at a (.inRegion ops (i::rest)::k)).finish v,callers:=cs,status:=.running,dying:=none}:Goroutine)=_;rw[this];rfl
section
variable {P:Program}{main:Bool}{st:m4}{K:c6->Prop}{ft n:Nat}{b:Frame}{cs:List Frame}{d:Nat}{e:Env}{k:List Item}{ops:Array Oper}{i:Nat}{l:List Oper}{dst:Option Nat}{ty:TypeId}{ps:String}{af:Array Edge}{T E:TypeId}{x y:Operand}
theorem I0.stay {p:Addr} {v:Value} {u:TypeDesc} (hk:b.kind≠.early) (hd:I4 n dst=true) (hp:(p,v)∈st) (hx:ev e x= .pointer (some p)) (hT:P.underlying T=some u) (hu:g7 u=true)
  (h:I0 (YS P main st K) ft n b cs [] d (j3 e dst v) ops (i+1) l k):I0 (YS P main st K) (ft+1) n b cs [] d e ops i (⟨dst,.load T x,ty,ps,af,none⟩::l) k:=by
 intro hl a ha;obtain⟨ho,P5⟩:=J3 hl;obtain⟨s,hs,hw⟩:=h P5 _ (ha.put hd v);have h0:0<ft:=by
  rcases hw.status with⟨_,h⟩|⟨h,_⟩
  ·exact h
  ·cases h
 refine⟨s,hs,.inr ⟨h0,rfl,_,seen P b.fn #[⟨.cell p,false,false⟩],fun ev' he=>⟨(p,v),hp,?_⟩,fun w C1=>?_,hw⟩⟩
 ·have:=mem_seen he;simpa using this
 ·have hc:=C1 (p,v) hp;show stepG P main (G (b.at a (.inRegion ops (i::List.range' (i+1) l.length)::k)) cs) w=_;rw[stepG_value ho (by rw[ha.yielded];rfl) hk (by rw[ha.eval];exact Go.Vc.A0 hx hT hu hc),listed];have he:∀es,(isAgg T).events P w es=es:=fun es=>by
   cases u <;> simp[isAgg,go_sem,run_underlying hT]
  have hq:(execOp a.eval ⟨dst,.load T x,ty,ps,af,none⟩).events P w #[]=#[⟨.cell p,false,false⟩]:=by
   rw[ha.eval];simp[execOp,Instr.loadAt,hx,Instr.sureAddr,loadVar,Go.Vc.W8 hT,hu,hc,he]
  rw[hq]
theorem I0.N1 {c:Nat} {z:Value} {dd:ChanDir} (hk:b.kind≠.early) (hT:P.underlying T=some (.chan dd E)) (hz:(P.info? E).bind (·.zero)=some z) (hx:ev e x= .chan (some c))
  (hK:∀me,Sits n b cs e dst (.inRegion ops (List.range' (i+1) l.length)::k) me->K ⟨c,z,me⟩) (hd:I4 n dst=true):I0 (YS P main st K) (ft+1) n b cs [] d e ops i (⟨dst,.recv T x false,ty,ps,af,none⟩::l) k:=by
 intro hl a ha;obtain⟨ho,P5⟩:=J3 hl;refine⟨⟨c,z,G (b.at a (.inRegion ops (i::List.range' (i+1) l.length)::k)) cs⟩,hK _ fun v=>⟨a.put dst v,⟨(ha.put hd v).size,(ha.put hd v).defers,(ha.put hd v).get⟩,kc0 ho v⟩,.inl ⟨rfl,rfl,rfl,rfl,fun w=>?_⟩⟩;have hr:(execOp a.eval ⟨dst,.recv T x false,ty,ps,af,none⟩).run P w= .ok (.comm #[rcase c z] true (.recv false)) w:=by
  rw[ha.eval];obtain⟨inf,hi,hz'⟩:=Option.bind_eq_some_iff.1 hz;simp[execOp,hx,run_underlying hT,zeroValue,typeInfo,hi,hz',rcase,go_sem]
 show stepG P main (G (b.at a (.inRegion ops (i::List.range' (i+1) l.length)::k)) cs) w=_;have hq:(execOp a.eval ⟨dst,.recv T x false,ty,ps,af,none⟩).events P w #[]=#[]:=by
  rw[ha.eval];obtain⟨inf,hi,hz'⟩:=Option.bind_eq_some_iff.1 hz;simp[execOp,hx,run_underlying hT,zeroValue,typeInfo,hi,hz',go_sem]
 rw[stepG_comm ho (by rw[ha.yielded];rfl) hk hr,listed,hq,seen_none]
theorem tr0 {c:Nat} {v:Value} {a:Act} {rest:List Nat} (hk:b.kind≠.early) (ho:ops[i]? =some ⟨dst,.send x y,ty,ps,af,none⟩) (hx:a.eval x= .chan (some c)) (hy:a.eval y=v) (w:World) :
  stepG P main (G (b.at a (.inRegion ops (i::rest)::k)) cs) w= .comm (G (b.at a (.inRegion ops (i::rest)::k)) cs) #[scase c v (.tuple #[])] true .send w #[]:=by
 rw[stepG_comm (cases:=#[scase c v (.tuple #[])]) (blocking:=true) (shape:=.send) (w':=w) ho rfl hk (by simp[execOp,hx,hy,scase]),listed];have:(execOp a.eval ⟨dst,.send x y,ty,ps,af,none⟩).events P w #[]=#[]:=rfl;rw[this,seen_none]
theorem Jq0 {f:FuncId} {asx:Array Operand} {ats:Array TypeId} {a:Act} {rest:List Nat} (hk:b.kind≠.early) (ho:ops[i]? =some ⟨dst,.go {callee:=.value (.func f),args:=asx,argTypes:=ats},ty,ps,af,none⟩) (w:World) :
  stepG P main (G (b.at a (.inRegion ops (i::rest)::k)) cs) w= .spawn (G (b.at (a.put dst undef) (.inRegion ops rest::k)) cs) (born P (dcall f (asx.map a.eval))) w #[]:=by
 have ef:a.eval (.func f)= .func (.func f) #[] #[]:=rfl;have hr:(execOp a.eval ⟨dst,.go {callee:=.value (.func f),args:=asx,argTypes:=ats},ty,ps,af,none⟩).run P w= .ok (.spawn (dcall f (asx.map a.eval))) w:=by
  unfold execOp;simp[resolve,Deferred.ofValue,ef,dcall]
 have he:(execOp a.eval ⟨dst,.go {callee:=.value (.func f),args:=asx,argTypes:=ats},ty,ps,af,none⟩).events P w #[]=#[]:=by
  unfold execOp;simp[resolve,Deferred.ofValue,ef]
 rw[stepG_spawn ho rfl hk hr rfl,listed,he,seen_none]
end
section
variable {P:Program}{main:Bool}{b c:Frame}{a:Act}{k todo:List Item}{cs:List Frame}{w:World}{ops:Array Oper}{i:Nat}{rest:List Nat}{f:FuncId}{fn:Func}{args caps:Array Value}{ds:List Deferred}
theorem fg0 {md:FrameMode} {body:Code} (hmd:md≠.run) (hd:a.defers={target:=.fn (.func f) caps,args:=args} :: ds) (hf:P.funcs[f]? =some fn) (k3:(fn.name== "runtime.NumGoroutine")=false) (hb:fn.body=some body) :
  stepG P main (G {b.at a todo with mode:=md} cs) w= .go (G ((baseD f).at {tmps:=(args++caps)++Array.replicate (fn.ntmps-(args++caps).size) undef,defers:=[]} [.code body]) ({b.at ⟨a.tmps,ds⟩ todo with mode:=md} :: cs)) w #[]:=by
 have h1:¬fn.name= "runtime.NumGoroutine":=by simpa using k3
 rw[<- enter_atD (args++caps) hf hb];cases md with
 |run=>exact absurd rfl hmd
 |returning=>simp[G,stepG,unwind,callDeferred,Frame.at,hd,invoke,callFunc,hf,h1,hb,GStep.after,seen_none]
 |panicking ch=>simp[G,stepG,unwind,callDeferred,Frame.at,hd,invoke,callFunc,hf,h1,hb,GStep.after,seen_none]
theorem lj0 {ρ:Operand->Value} {dst:Option Nat} {ty:TypeId} {ps:String} {af:Array Edge}:((execOp ρ ⟨dst,.call {callee:=.builtin .recover,args:=#[],argTypes:=#[]},ty,ps,af,none⟩).run P w= .ok .recover w)/\(execOp ρ ⟨dst,.call {callee:=.builtin .recover,args:=#[],argTypes:=#[]},ty,ps,af,none⟩).events P w #[]=#[]:=by
 constructor <;> simp[execOp,resolve,invoke,builtin]
theorem el0 {dst:Option Nat} {ty:TypeId} {ps:String} {af:Array Edge} (ho:ops[i]? =some ⟨dst,.call {callee:=.builtin .recover,args:=#[],argTypes:=#[]},ty,ps,af,none⟩) (hk:b.kind= .deferred) (hr:b.roundOf=none) (hc:c.mode= .returning) :
  stepG P main (G (b.at a (.inRegion ops (i::rest)::k)) (c::cs)) w= .go (G (b.at (a.put dst .nilIface) (.inRegion ops rest::k)) (c::cs)) w #[]:=by
 have aa0:(b.at a (.inRegion ops (i::rest)::k)).finish .nilIface=b.at (a.put dst .nilIface) (.inRegion ops rest::k):=by rw[Frame.finish_at,ho];rfl
 rw[stepG_oper ho rfl,<- aa0];simp[stepG.apply,lj0,G,Frame.at,hk,tryRecover,hc,GStep.after,seen_none]
theorem kd0 {dst:Option Nat} {ty:TypeId} {ps:String} {af:Array Edge} {v:Value} {X4:List PanicEntry} (ho:ops[i]? =some ⟨dst,.call {callee:=.builtin .recover,args:=#[],argTypes:=#[]},ty,ps,af,none⟩) (hk:b.kind= .deferred) (hr:b.roundOf=none) (hc:c.mode= .panicking ({v,recovered:=false} :: X4)) :
  stepG P main (G (b.at a (.inRegion ops (i::rest)::k)) (c::cs)) w= .go (G (b.at (a.put dst v) (.inRegion ops rest::k)) ({c with mode:=.panicking ({v,recovered:=true} :: X4)} :: cs)) w #[]:=by
 have aa0:(b.at a (.inRegion ops (i::rest)::k)).finish v=b.at (a.put dst v) (.inRegion ops rest::k):=by rw[Frame.finish_at,ho];rfl
 rw[stepG_oper ho rfl,<- aa0];simp[stepG.apply,lj0,G,Frame.at,hk,tryRecover,hc,GStep.after,seen_none]
theorem ke0 {v v':Value} {X4:List PanicEntry} (hn:b.kind= .deferred) (hd:a.defers=[]) (hf:P.funcs[b.fn]? =some fn) (hr:(results fn a.tmps).run P w= .ok v w) (he:(results fn a.tmps).events P w #[]=#[])
  (hc:c.mode= .panicking ({v:=v',recovered:=true} :: X4)) (ho:X4.dropWhile (!·.goexit)=[]) :
  stepG P main (G {b.at a todo with mode:=.returning} (c::cs)) w= .go (G {c with mode:=.returning} cs) w #[]:=by
 simp[G,stepG,unwind,doReturn,Frame.at,hn,hd,hf,hr,he,hc,ho,seen,GStep.after]
theorem zb0 {dst:Option Nat} {ty:TypeId} {ps:String} {af:Array Edge} {x:Operand} (ho:ops[i]? =some ⟨dst,.defer {callee:=.value x,args:=#[],argTypes:=#[]},ty,ps,af,none⟩) (hk:b.kind≠.early) (hx:a.eval x= .func (.func f) #[] caps) :
  stepG P main (G (b.at a (.inRegion ops (i::rest)::k)) cs) w= .go (G (b.at (Act.put ⟨a.tmps,{target:=.fn (.func f) caps,args:=#[]} :: a.defers⟩ dst undef) (.inRegion ops rest::k)) cs) w #[]:=by
 have hr:(execOp a.eval ⟨dst,.defer {callee:=.value x,args:=#[],argTypes:=#[]},ty,ps,af,none⟩).run P w= .ok (.defer {target:=.fn (.func f) caps,args:=#[]}) w:=by
  simp[execOp,resolve,Deferred.ofValue,hx]
 have he:(execOp a.eval ⟨dst,.defer {callee:=.value x,args:=#[],argTypes:=#[]},ty,ps,af,none⟩).events P w #[]=#[]:=by
  simp[execOp,resolve,Deferred.ofValue,hx]
 have aa0:(b.at ⟨a.tmps,{target:=.fn (.func f) caps,args:=#[]} :: a.defers⟩ (.inRegion ops (i::rest)::k)).finish undef=b.at (Act.put ⟨a.tmps,{target:=.fn (.func f) caps,args:=#[]} :: a.defers⟩ dst undef) (.inRegion ops rest::k):=by rw[Frame.finish_at,ho];rfl
 have hk':(b.kind==CallKind.early)=false:=by simpa using hk
 rw[stepG_oper ho rfl,<- aa0];simp[stepG.apply,hr,he,G,Frame.at,hk',GStep.after,seen_none]
def I6 (P:Program):Frame:={fn:=P.funcs.size,tmps:=#[],todo:=[],defers:=[],mode:=.panicking [goexitEntry],kind:=.normal,roundOf:=none}
theorem Fl0 {body:Code} (hf:P.funcs[f]? =some fn) (k3:(fn.name== "runtime.NumGoroutine")=false) (hb:fn.body=some body) :
  stepG P main (born P (dcall f args)) w= .go (G ((baseD f).at {tmps:=args++Array.replicate (fn.ntmps-args.size) undef,defers:=[]} [.code body]) [I6 P]) w #[]:=by
 have h1:¬fn.name= "runtime.NumGoroutine":=by simpa using k3
 rw[<- enter_atD args hf hb];simp[born,G,stepG,unwind,callDeferred,dcall,invoke,callFunc,hf,h1,hb,GStep.after,seen_none,I6];exact⟨rfl,rfl,rfl,rfl⟩
theorem ts0 (hn:b.kind= .deferred) (hd:a.defers=[]) (hf:P.funcs[b.fn]? =some fn) {v:Value} (hr:(results fn a.tmps).run P w= .ok v w) (he:(results fn a.tmps).events P w #[]=#[]) :
  stepG P main (G {b.at a todo with mode:=.returning} [I6 P]) w= .go (G (I6 P) []) w #[]:=by
 simp[G,stepG,unwind,doReturn,Frame.at,hn,hd,hf,hr,he,seen,GStep.after,I6,goexitEntry]
theorem tt0:stepG P main (G (I6 P) []) w= .go {frame:=I6 P,callers:=[],status:=.finished,dying:=none} w #[]:=by
 simp[G,stepG,unwind,I6,goexitEntry,Frame.catches]
end
section
variable {P:Program}[Ctx P]{Z:Goroutine->World->Prop}{Q:Exit->Act->World->Prop}{ops:Array Oper}{b:Frame}{k:List Item}{cs:List Frame}{n:Nat}{e:Env}{w:World}
theorem ZA.Q4 (hZ:Ctx.Zs P Z) {c:Operand} {x y:Code} (hc:ev e c= .bool true) (h:ZA Z n b cs e (.code x::k) w):ZA Z n b cs e (.code (.cond c x y)::k) w:=ZA.cond hZ (t:=true) hc h
theorem ZA.r6 (hZ:Ctx.Zs P Z) {c:Operand} {x y:Code} (hc:ev e c= .bool false) (h:ZA Z n b cs e (.code y::k) w):ZA Z n b cs e (.code (.cond c x y)::k) w:=ZA.cond hZ (t:=false) hc h
theorem ZA.W (hZ:Ctx.Zs P Z) (hb:b.kind≠.early) {c:Code} (h:Vy.W P n c (W9 (fun e' w'=>ZA Z n b cs e' k w') fun _ _ _=>False) e w):ZA Z n b cs e (.code c::k) w:=ZA.piece hZ hb h fun _ _ h=>h
theorem ZA.panics (hZ:Ctx.Zs P Z) (hb:b.kind≠.early) {c:Code} (h:Vy.W P n c (fun x e' w'=>∃ch,x= .panic ch/\∀a todo,Rep n a e'->Z (G {b.at a todo with mode:=.panicking ch} cs) w') e w):ZA Z n b cs e (.code c::k) w:=by
 intro a ha;refine h a ha Z hZ b k cs hb fun x a' w' hx=>?_;obtain⟨e',r,ch,rfl,hq⟩:=hx;exact fun todo=>hq a' todo r
theorem L.Jr0 {x:Operand} {ty:TypeId} {ps:String} {af:Array Edge} {rest:List Oper} {Q:Exit->Env->World->Prop} {t:TypeId} {v0:Value} (hx:ev e x= .iface t v0) (k:Q (.panic [{v:=.iface t v0,recovered:=false}]) e w):L P n ops Q (⟨none,.panic x,ty,ps,af,none⟩::rest) e w:=by
 refine L.Vc0 rfl ⟨rfl,rfl,fun τ d ρ x' hs=>⟨S9.refl _,x',#[],?_,hs,fun e he=>by simp at he⟩⟩ k;rw[Sem.runT_eq];have h1:(execOp (ev e) ⟨none,.panic x,ty,ps,af,none⟩).run P x'= .halt (.panic (.iface t v0)) x':=by simp[execOp,Instr.panic,hx]
 have h2:(execOp (ev e) ⟨none,.panic x,ty,ps,af,none⟩).events P x' #[]=#[]:=by simp[execOp,Instr.panic,hx]
 rw[h1,h2];rfl
end
section
variable {P:Program}{Z:Goroutine->World->Prop}{b:Frame}{cs:List Frame}{n:Nat}{e:Env}{w:World}
theorem ZA.leaves {fn:Func} {f:FuncId} (hb:b=base f) (hf:P.funcs[f]? =some fn) (hr:fn.results=#[]) (h:∀fr,fr.fn=f->Leaves P fr w (.returned (.tuple #[]))->Z (G fr cs) w):ZR Z n b cs e w:=by
 intro todo a ha;subst hb;refine h _ rfl ⟨rfl,ha.defers,rfl,fn,hf,y7 (fun w=>results_none hr _ P w) (fun w=>events_results_none hr _ _)⟩
end
section
variable {P:Program}[Ctx P]{Z:Goroutine->World->Prop}{ops:Array Oper}{b:Frame}{k:List Item}{cs:List Frame}{n:Nat}{e:Env}{w:World}
theorem ZA.call (hZ:Ctx.Zs P Z) (hb:b.kind≠.early) {i:Nat} {rest:List Nat} {o:Oper} {f:FuncId} {args:Array Value} (ho:ops[i]? =some o) (hg:o.guard=none) (hr:Does P (execOp (ev e) o) w (.enter f args) w)
  (h:∀a,Rep n a e->Z (G (Frame.enter P f args .normal) (b.at a (.inRegion ops (i::rest)::k)::cs)) w):ZA Z n b cs e (.inRegion ops (i::rest)::k) w:=by
 intro a ha;have hw:Region.wanted o (yielded ops a.tmps)=true:=by
  obtain⟨d,op,ty,ps,af,g⟩:=o;cases hg;rfl
 refine(Ctx.cl Z hZ).own _ _ rfl fun τ d=>?_;refine⟨_,N2 w τ d,w.drawn,⟨rfl,fun ρ x hx=>?_⟩,h a ha⟩;obtain⟨h1,x',es,h2,h3,h4⟩:=hr.go τ d ρ x hx;rw[Sem.runT_eq]at h2;obtain⟨h5,h6⟩:=Prod.mk.inj h2;refine⟨h1,x',seen P b.fn es,?_,h3,fun e he=>h4 e (mem_seen he)⟩;have h5':(execOp a.eval o).run P x= .ok (.enter f args) x':=by rw[ha.eval];exact h5
 rw[stepG_enter ho hw hb h5',listed,ha.eval,h6]
theorem ZA.home {i:Nat} {rest:List Nat} {o:Oper} (ho:ops[i]? =some o) (hd:I4 n o.dst=true) {v:Value} {w':World} {a:Act} (ha:Rep n a e) (h:ZA Z n b cs (j3 e o.dst v) (.inRegion ops rest::k) w'):Z (G ((b.at a (.inRegion ops (i::rest)::k)).finish v) cs) w':=by
 have aa0:(b.at a (.inRegion ops (i::rest)::k)).finish v=b.at (a.put o.dst v) (.inRegion ops rest::k):=by rw[Frame.finish_at,ho];rfl
 rw[aa0];exact h _ (ha.put hd v)
end
section
variable {P:Program}{ops:Array Oper}{b:Frame}{k:List Item}{cs:List Frame}{n:Nat}{e:Env}
theorem ZA.back {Z':Goroutine->World->Prop} {main:Bool} (hZ':Cl P main Z') {i:Nat} {rest:List Nat} {o:Oper} (ho:ops[i]? =some o) (hd:I4 n o.dst=true) {v:Value} {w':World} {fr:Frame} {a:Act} (ha:Rep n a e) (hl:Leaves P fr w' (.returned v))
  (h:ZA Z' n b cs (j3 e o.dst v) (.inRegion ops rest::k) w'):Z' (G fr (b.at a (.inRegion ops (i::rest)::k)::cs)) w':=by
 refine as0 hZ' hl ?_;have aa0:(b.at a (.inRegion ops (i::rest)::k)).finish v=b.at (a.put o.dst v) (.inRegion ops rest::k):=by rw[Frame.finish_at,ho];rfl
 rw[aa0];exact h _ (ha.put hd v)
end
section
variable {P:Program}[Ctx P]
end
section
variable {P:Program}[Ctx P]{Z:Goroutine->World->Prop}{ops:Array Oper}{b c:Frame}{k:List Item}{cs:List Frame}{n:Nat}{e:Env}{w:World}{i:Nat}{rest:List Nat}{dst:Option Nat}{ty:TypeId}{ps:String}{af:Array Edge}
theorem ZA.kf0 (hZ:Ctx.Zs P Z) (ho:ops[i]? =some ⟨dst,.call {callee:=.builtin .recover,args:=#[],argTypes:=#[]},ty,ps,af,none⟩) (hd:I4 n dst=true) (hk:b.kind= .deferred) (hr:b.roundOf=none) (hc:c.mode= .returning) (h:ZA Z n b (c::cs) (j3 e dst .nilIface) (.inRegion ops rest::k) w):ZA Z n b (c::cs) e (.inRegion ops (i::rest)::k) w :=
 fun _a ha=>(Ctx.cl Z hZ).ctl rfl rfl (fun _w=>el0 ho hk hr hc) (h _ (ha.put hd _))
theorem ZA.Bo0 (hZ:Ctx.Zs P Z) {v:Value} {X4:List PanicEntry} (ho:ops[i]? =some ⟨dst,.call {callee:=.builtin .recover,args:=#[],argTypes:=#[]},ty,ps,af,none⟩) (hd:I4 n dst=true) (hk:b.kind= .deferred) (hr:b.roundOf=none) (hc:c.mode= .panicking ({v,recovered:=false} :: X4)) (h:ZA Z n b ({c with mode:=.panicking ({v,recovered:=true} :: X4)} :: cs) (j3 e dst v) (.inRegion ops rest::k) w):ZA Z n b (c::cs) e (.inRegion ops (i::rest)::k) w :=
 fun _a ha=>(Ctx.cl Z hZ).ctl rfl rfl (fun _w=>kd0 ho hk hr hc) (h _ (ha.put hd _))
def Ts0 (c c':Frame):Prop:=(c.mode= .returning/\c'=c)\/∃v X4,X4.dropWhile (!·.goexit)=[]/\c'={c with mode:=.panicking ({v,recovered:=true} :: X4)}
theorem ZA.recover (hZ:Ctx.Zs P Z) (ho:ops[i]? =some ⟨dst,.call {callee:=.builtin .recover,args:=#[],argTypes:=#[]},ty,ps,af,none⟩) (hd:I4 n dst=true) (hk:b.kind= .deferred) (hr:b.roundOf=none) (hc:c.mode= .returning\/∃v X4,c.mode= .panicking ({v,recovered:=false} :: X4)/\X4.dropWhile (!·.goexit)=[])
  (h:∀c' v,Ts0 c c'->ZA Z n b (c'::cs) (j3 e dst v) (.inRegion ops rest::k) w):ZA Z n b (c::cs) e (.inRegion ops (i::rest)::k) w:=by
 rcases hc with hc|⟨v,X4,hc,ho'⟩
 ·exact ZA.kf0 hZ ho hd hk hr hc (h c _ (.inl ⟨hc,rfl⟩))
 ·exact ZA.Bo0 hZ ho hd hk hr hc (h _ _ (.inr ⟨v,X4,ho',rfl⟩))
theorem ZA.region (hZ:Ctx.Zs P Z) {id:Nat} (h:ZA Z n b cs e (.inRegion ops (List.range ops.size)::k) w):ZA Z n b cs e (.code (.region id ops false)::k) w:=ZA.c hZ (fun _ _=>stepG_region) h
def ZD (Z:Goroutine->World->Prop) (n:Nat) (b:Frame) (cs:List Frame) (ds:List Deferred) (e:Env) (todo:List Item) (w:World):Prop:=∀a,fe0 n a e ds->Z (G (b.at a todo) cs) w
variable {ds:List Deferred}
theorem ZA.zd (h:ZD Z n b cs [] e k w):ZA Z n b cs e k w:=fun a ha=>h a (dh1 ha) where dh1 {n:Nat} {a:Act} {e:Env} (h:Rep n a e):fe0 n a e []:=⟨h.size,h.defers,h.get⟩
theorem ZD.ctl (hZ:Ctx.Zs P Z) {todo lh0:List Item} (hs:∀a w,stepG P (Ctx.main P) (G (b.at a todo) cs) w= .go (G (b.at a lh0) cs) w #[]) (h:ZD Z n b cs ds e lh0 w):ZD Z n b cs ds e todo w:=fun a ha=>(Ctx.cl Z hZ).ctl rfl rfl (hs a) (h a ha)
theorem ZD.seq (hZ:Ctx.Zs P Z) {x y:Code} (h:ZD Z n b cs ds e (.code x :: .code y::k) w):ZD Z n b cs ds e (.code (.seq x y)::k) w:=ZD.ctl hZ (fun _ _=>stepG_seq) h
theorem ZD.region (hZ:Ctx.Zs P Z) {id:Nat} (h:ZD Z n b cs ds e (.inRegion ops (List.range ops.size)::k) w):ZD Z n b cs ds e (.code (.region id ops false)::k) w:=ZD.ctl hZ (fun _ _=>stepG_region) h
theorem ZD.u3 (hZ:Ctx.Zs P Z) (h:ZD Z n b cs ds e k w):ZD Z n b cs ds e (.inRegion ops []::k) w:=ZD.ctl hZ (fun _ _=>stepG_region_end) h
variable {op:Op}{d:Nat}{v:Value}{w':World}
theorem ZD.va (hZ:Ctx.Zs P Z) (hb:b.kind≠.early) (ho:ops[i]? =some ⟨some d,op,ty,ps,af,none⟩) (hd:I4 n (some d)=true) (hr:Does P (execOp (ev e) ⟨some d,op,ty,ps,af,none⟩) w (.val v) w') (h:ZD Z n b cs ds (upd e d v) (.inRegion ops rest::k) w'):ZD Z n b cs ds e (.inRegion ops (i::rest)::k) w:=by
 intro a ha;refine U515 ?_;refine V8 (r:=.val v) (w':=w') (by rw[ha.eval];exact hr) ?_;exact h _ (ha.put hd v)
theorem ZD.st (hZ:Ctx.Zs P Z) (hb:b.kind≠.early) (ho:ops[i]? =some ⟨none,op,ty,ps,af,none⟩) (hr:Does P (execOp (ev e) ⟨none,op,ty,ps,af,none⟩) w .skip w') (h:ZD Z n b cs ds e (.inRegion ops rest::k) w'):ZD Z n b cs ds e (.inRegion ops (i::rest)::k) w:=by
 intro a ha;refine U515 ?_;refine V8 (r:=.skip) (w':=w') (by rw[ha.eval];exact hr) ?_;exact h _ ha
theorem ZD.defer (hZ:Ctx.Zs P Z) (hb:b.kind≠.early) {f:FuncId} {asx:Array Operand} {ats:Array TypeId} {vs:Array Value} (ho:ops[i]? =some ⟨none,.defer {callee:=.value (.func f),args:=asx,argTypes:=ats},ty,ps,af,none⟩) (hv:asx.map (ev e)=vs) (h:ZD Z n b cs (dcall f vs::ds) e (.inRegion ops rest::k) w):ZD Z n b cs ds e (.inRegion ops (i::rest)::k) w:=by
 intro a ha;refine(Ctx.cl Z hZ).ctl rfl rfl (fun w=>stepG_defer ho rfl hb rfl) ?_;rw[ha.eval,hv,ha.defers];exact h _ ⟨ha.size,rfl,ha.get⟩
theorem ZD.We0 (hZ:Ctx.Zs P Z) (hb:b.kind≠.early) {f:FuncId} {caps:Array Value} {x:Operand} (ho:ops[i]? =some ⟨none,.defer {callee:=.value x,args:=#[],argTypes:=#[]},ty,ps,af,none⟩) (hx:ev e x= .func (.func f) #[] caps) (h:ZD Z n b cs ({target:=.fn (.func f) caps,args:=#[]} :: ds) e (.inRegion ops rest::k) w):ZD Z n b cs ds e (.inRegion ops (i::rest)::k) w:=by
 intro a ha;refine(Ctx.cl Z hZ).ctl rfl rfl (fun w=>zb0 ho hb (by rw[ha.eval];exact hx)) ?_;rw[ha.defers];exact h _ ⟨ha.size,rfl,ha.get⟩
theorem ZD.call (hZ:Ctx.Zs P Z) (hb:b.kind≠.early) {f:FuncId} {args:Array Value} (ho:ops[i]? =some ⟨dst,op,ty,ps,af,none⟩) (hr:Does P (execOp (ev e) ⟨dst,op,ty,ps,af,none⟩) w (.enter f args) w)
  (h:∀a,fe0 n a e ds->Z (G (Frame.enter P f args .normal) (b.at a (.inRegion ops (i::rest)::k)::cs)) w):ZD Z n b cs ds e (.inRegion ops (i::rest)::k) w:=by
 intro a ha;refine(Ctx.cl Z hZ).own _ _ rfl fun τ d=>?_;refine⟨_,N2 w τ d,w.drawn,⟨rfl,fun ρ x hx=>?_⟩,h a ha⟩;obtain⟨h1,x',es,h2,h3,h4⟩:=hr.go τ d ρ x hx;rw[Sem.runT_eq]at h2;obtain⟨h5,h6⟩:=Prod.mk.inj h2;refine⟨h1,x',seen P b.fn es,?_,h3,fun e he=>h4 e (mem_seen he)⟩;have h5':(execOp a.eval ⟨dst,op,ty,ps,af,none⟩).run P x= .ok (.enter f args) x':=by rw[ha.eval];exact h5
 rw[stepG_enter ho rfl hb h5',listed,ha.eval,h6]
end
section
variable {P:Program}{Post:Value->World->Prop}{X:Gh}{h:Nat}{H:Hid}
theorem V4:@Ctx.Zs P (j2 P (h==0)) (Fin P Post X h):=⟨cc0 P Post X h,ah0⟩
theorem Do0:@Ctx.Zs P (j2 P (h==0)) (gb0 P Post X h H):=⟨Ox0 H,fun _g _u hz hH=>ah0 _ _ fun hv=>hz (iv0 hH hv) hH⟩
theorem mh0 (V:Nat->Prop) [DecidablePred V] {g:Goroutine} {U:World} (hf:gb0 P Post X h (J8 V U) g (M3 V U)):Fin P Post X h g U :=
 ah0 _ _ fun hv=>by have:=hf (nm0 hv);rwa [iu0]at this
theorem At.u3 {main:Bool} {ok:Event->Prop} {Y:Nat->Nat->Goroutine->Prop} {ft n d:Nat} {b:Frame} {cs:List Frame} {ds:List Deferred} {e:Env} {k:List Item} {ops:Array Oper} (hY:HF P main ok Y) (h:At Y ft n b cs ds d e k):At Y (ft+1) n b cs ds d e (.inRegion ops []::k):=At.c hY (fun _ _=>stepG_region_end) h
theorem J6 {n:Nat} (args:Array Value) (m:Nat) (hn:args.size+(m-args.size)=n):Rep n {tmps:=args++Array.replicate (m-args.size) undef,defers:=[]} (Vc.y8 args):=by
 have:=p8 args m hn;exact⟨this.size,this.defers,this.get⟩
theorem ja0 {n:Nat} {a:Act} {e:Env} (h:Rep n a e):fe0 n a e []:=⟨h.size,h.defers,h.get⟩
variable {n ft:Nat}{b:Frame}{cs:List Frame}{e:Env}{k:List Item}{ops:Array Oper}{i:Nat}{rest:List Nat}{ty:TypeId}{ps:String}{af:Array Edge}{x y:Operand}{v:Value}{w:World}
theorem ZA.more [Ctx P] {Z:Goroutine->World->Prop} (hZ:Ctx.Zs P Z) (hb:b.kind≠.early) {l:List Oper} (i:Nat) (hB:Ol0 n l=true) (h:L P n l.toArray (W9 (fun e' w'=>ZA Z n b cs e' k w') fun _ _ _=>False) (l.drop i) e w):ZA Z n b cs e (.inRegion l.toArray (List.range' i (l.drop i).length)::k) w:=by
 intro a ha;have h1:=h (fun o ho=>List.all_eq_true.1 hB o (List.mem_of_mem_drop ho)) a ha;have h2:=gt0 (l.drop i) i a w (fun j _=>by rw[List.getElem?_drop];simp) h1;have:=fw0 (Z:=Z) (b:=b) (k:=k) (cs:=cs) (suf:=[]) hZ hb (fun ch a' w' hx=>by obtain⟨_,_,hx⟩:=hx;exact hx.elim) (fun a' w' hx=>by
  obtain⟨e',r,hq⟩:=hx;exact ZA.u3 hZ hq a' r) _ a w h2
 rwa [List.append_nil]at this
theorem ZA.give {j:Nat} {s:c6} {st:m4} {K:c6->Prop} (hb:b.kind≠.early) (ho:ops[i]? =some ⟨none,.send x y,ty,ps,af,none⟩) (hx:ev e x= .chan (some s.ch)) (hy:ev e y=v) (hj:X.N1 j=some s) (hjh:j≠h) (V9:X.dn=0) (T2:X.stay h=st)
  (vm0:At (YS P (h==0) st K) ft n b cs [] 0 e (.inRegion ops rest::k)) (hsh:∀s',K s'->X.B8 s'.ch/\∀i s2,i≠j->X.N1 i=some s2->s2.ch≠s'.ch)
  (hF:∀s',K s'->Fin P Post (X.pass h j (some s')) j (Go.Conc.served s.me v) w):ZA (Fin P Post X h) n b cs e (.inRegion ops (i::rest)::k) w:=by
 intro a ha;have Js0:a.put none undef=a:=rfl;obtain⟨s',hK,hw⟩:=vm0 a (ja0 ha);refine Fin.give (a₂:=G (b.at a (.inRegion ops (i::rest)::k)) cs) (s:=s) (j:=j) (nh:=ft) (v:=v) (z':=.tuple #[]) rfl hj hjh V9 (tr0 hb ho (by rw[ha.eval];exact hx) (by rw[ha.eval];exact hy)) (some s') (fun s2 e2=>by cases e2;exact hsh s' hK) ?_ (hF s' hK);unfold vn0;rw[kc0 ho,T2];exact hw
theorem ZA.nt0 {j:Nat} {s:c6} {gr:j5} (hb:b.kind≠.early) (ho:ops[i]? =some ⟨none,.send x y,ty,ps,af,none⟩) (hx:ev e x= .chan (some s.ch)) (hy:ev e y=v) (hj:X.N1 j=some s) (hjh:j≠h) (V9:X.dn=0) (hh:0<h) (P3:X.l3=some gr)
  (vm0:At (YLt P gr) ft n b cs [] 0 e (.inRegion ops rest::k)) (hF:Fin P Post (X.pass h j none) j (Go.Conc.served s.me v) w):ZA (Fin P Post X h) n b cs e (.inRegion ops (i::rest)::k) w:=by
 intro a ha;refine Fin.give (a₂:=G (b.at a (.inRegion ops (i::rest)::k)) cs) (s:=s) (j:=j) (nh:=ft) (v:=v) (z':=.tuple #[]) rfl hj hjh V9 (tr0 hb ho (by rw[ha.eval];exact hx) (by rw[ha.eval];exact hy)) none (fun s2 e2=>by cases e2) ?_ hF;unfold vn0;rw[kc0 ho];exact⟨hh,gr,P3,vm0 a (ja0 ha)⟩
theorem ZA.spawn {f:FuncId} {asx:Array Operand} {ats:Array TypeId} {st:m4} {K:c6->Prop} {vs:Array Value} {gr:j5} (hb:b.kind≠.early) (ho:ops[i]? =some ⟨none,.go {callee:=.value (.func f),args:=asx,argTypes:=ats},ty,ps,af,none⟩) (hvs:asx.map (ev e)=vs) (V9:X.dn=0) (hp:X.pend=1) (P3:X.l3=some gr) (T2:X.stay 0=st)
  (vm0:At (YS P true st K) ft n b cs [] 0 e (.inRegion ops rest::k)) (hsh:∀s',K s'->X.B8 s'.ch/\∀i s2,X.N1 i=some s2->s2.ch≠s'.ch)
  (hF:∀s',K s'->Fin P Post (X.hire s') X.n (born P (dcall f vs)) w):ZA (Fin P Post X 0) n b cs e (.inRegion ops (i::rest)::k) w:=by
 intro a ha;have Js0:a.put none undef=a:=rfl;obtain⟨s',hK,hw⟩:=vm0 a (ja0 ha);refine Fin.spawn (g':=G (b.at (a.put none undef) (.inRegion ops rest::k)) cs) (child:=born P (dcall f vs)) (s:=s') (nh:=ft) (G:=gr) rfl V9 hp P3 (fun w=>?_) (hsh s' hK).1 (hsh s' hK).2 (by rw[T2];exact hw) (hF s' hK);rw[Jq0 hb ho,ha.eval,hvs]
theorem AtR.saved {Y:Nat->Nat->Goroutine->Prop} {main:Bool} {ok:Event->Prop} (hY:HF P main ok Y) {c c':Frame} {fn:Func} {todo:List Item} {d:Nat} (hs:Ts0 c c') (hn:b.kind= .deferred) (hf:P.funcs[b.fn]? =some fn) (hr:fn.results=#[]) (h:Y ft d (G {c with mode:=.returning} cs)):AtR Y (ft+1) n b (c'::cs) [] d e todo:=by
 intro a ha;rcases hs with⟨hc,rfl⟩|⟨v,X4,ho,rfl⟩
 ·have:({c' with mode:=.returning}:Frame)=c':=by rw[<- hc]
  rw[this]at h;exact hY.c rfl rfl (fun w=>stepG_leave_deferred hn ha.defers hf (results_none hr _ P w) (events_results_none hr _ _) hc) h
 ·refine hY.c rfl rfl (fun w=>?_) h;exact ke0 hn ha.defers hf (results_none hr _ P w) (events_results_none hr _ _) rfl ho
end
end Go.Vy
end
section
namespace Go.Vy.Sc
open Go Go.Conc Go.Yc Go.RowKit Go.Proofs Go.Proofs.YtnifpkopeheodaaGreat Tryz
open Go.Vc Go.Wg
structure nu0 (cs:List Frame) (cb:Nat) (df:Value) (me:Goroutine):Prop where
 yes:∀(C0:Ctx prog) (Z:Goroutine->World->Prop),@Ctx.Zs prog C0 Z->∀(u:World) (K:World->Prop),Fb0 prog C0 df u K->(∀u2 fr,K u2->fr.fn=83->Leaves prog fr u2 (.returned (.tuple #[]))->Z (G fr cs) u2)->Z (Go.Conc.served me (.bool true)) u
 no:∀Z,@Ctx.Zs prog (j2 prog false) Z->∀(u:World) (S:Nat->Prop) (B:Nat) (w0:World) (Bs:Nat) (R:Rn) (i:Nat) (c:CB),Rg S B w0 u Bs R->R.cl[i]? =some c->c.cb=cb->(∀u2 fr ch,Rg S B w0 u2 Bs {R with cl:=R.cl.set i {c with st:=true}}->fr.fn=83->cj0 ch->Leaves prog fr u2 (.panicked ch)->Z (G fr cs) u2)->Z (Go.Conc.served me (.bool false)) u
theorem jb0 {f:FuncId} {fn:Func} {n:Nat} {a:Act} {e:Env} {todo:List Item} {ch:List PanicEntry} {w:World} (hf:prog.funcs[f]? =some fn) (ha:Rep n a e):Leaves prog {(base f).at a todo with mode:=.panicking ch} w (.panicked ch) :=
 ⟨rfl,ha.defers,by simp[Frame.catches,Frame.at,base,hf]⟩
theorem di1:prog.built 197 []=some #[]:=by kernel_rfl
theorem B6 {l:List CB} {i:Nat} {c c':CB} (h:l[i]? =some c):(l.set i c')[i]? =some c':=by
 have:=(List.getElem?_eq_some_iff.1 h).1;simp[this]
theorem Pm0 {S:Nat->Prop} {B:Nat} {w0 w:World} {Bs:Nat} {R:Rn} {i:Nat} {c1 c2 c3 c4:CB} (h:Rg S B w0 w Bs {R with cl:=(((R.cl.set i c1).set i c2).set i c3).set i c4}):Rg S B w0 w Bs {R with cl:=R.cl.set i c4}:=by
 simpa using h
set_option maxRecDepth 20000 in
theorem step_fin {Post:Value->World->Prop} {X:Gh} {g:Nat} {S:Nat->Prop} {B:Nat} {w0:World} {Bs:Nat} {R:Rn} {w:World} {i:Nat} {c:CB} {s:Stp} {rf df:Value} {cs:List Frame} {z0:Value} {me0:Goroutine}
  (hg:Rg S B w0 w Bs R) (hc:R.cl[i]? =some c) (ks1:c.st=false) (hrf:rf.cells=#[rf]/\rf.oneCell'=true) (hdf:df.cells=#[df]/\df.oneCell'=true)
  (F9:g≠0) (hX0:X.N1 0=some ⟨R.yb,z0,me0⟩) (V9:X.dn=0) (T2:X.stay g=[(⟨c.cb,2,none⟩,.chan (some c.rc))]) (hsh:X.B8 c.rc/\∀i s2,i≠0->X.N1 i=some s2->s2.ch≠c.rc)
  (v8:∀w' me,Rg S B w0 w' Bs {R with cl:=R.cl.set i {c with sp:=s,rf:=rf,df:=df,wt:=true}}->nu0 cs c.cb df me->Fin prog Post (X.pass g 0 (some ⟨c.rc,.bool false,me⟩)) 0 (Go.Conc.served me0 (.i (i:Int))) w') :
  Fin prog Post X g (G (Frame.enter prog 83 #[.p c.cb,gk0 s,rf,df] .normal) cs) w:=by
 letI:Ctx prog:=j2 prog (g==0);rw[enter_at _ func83 rfl];refine(?_:ZA (Fin prog Post X g) 63 (base 83) cs (Vc.y8 #[.p c.cb,gk0 s,rf,df]) [.code (Tryz.f83.body.getD .skip)] w) _ (J6 _ _ rfl);have hZ:Ctx.Zs prog (Fin prog Post X g):=V4;have hb:=A1 83;refine U0 ?_;refine L.box (cs:=#[.i s.kind,.i s.obj,.i s.num]) rfl rfl (fun w b5 F5=>?_);have hg:=hg.j0 F5.below;have B5:=F5.blk;refine U24 ?_;refine U595 ?_;refine U136 ?_;refine U0 ?_;refine U60 ?_;refine L.va (A0 rfl underlying4 rfl ((hg.m.blk i c hc).E0 10 (v:=.bool c.st) rfl)) ?_;refine U1 ?_;refine ZA.r6 hZ (rb ks1) ?_;refine ZA.skip hZ ?_;refine U66 ?_;refine L.va (W3 rfl) ?_;refine L.va (W3 rfl) ?_;refine L.va (W3 rfl) ?_;refine L.va (j1 (cs:=[.i s.kind,.i s.obj,.i s.num]) rfl underlying47 rfl dg0 rfl (B5.J4 rfl)) ?_;refine L.va dw0 ?_;refine L.va dw0 ?_;refine L.va (J1 rfl) ?_;refine L.va (G0 rfl underlying149 rfl dg0 (by decide)) ?_;refine L.stC (i:=i) (o:=3) (vs:=[.i s.kind,.i s.obj,.i s.num]) hg {c with sp:=s} hc rfl rfl rfl rfl dg0 rfl rfl (by decide) rfl (fun w hg P3=>?_)
 try clear P3
 refine L.va (J1 rfl) ?_;refine L.va (G0 rfl underlying149 rfl Vr0 (by decide)) ?_;refine L.stC (i:=i) (o:=6) (vs:=[rf]) hg {{c with sp:=s} with rf:=rf} (B6 hc) rfl rfl rfl (congrArg Array.toList hrf.1) Vr0 rfl (by simp[hrf.2]) (by decide) rfl (fun w hg P3=>?_)
 try clear P3
 refine L.va (J1 rfl) ?_;refine L.va (G0 rfl underlying149 rfl sz1 (by decide)) ?_;refine L.stC (i:=i) (o:=7) (vs:=[df]) hg {{{c with sp:=s} with rf:=rf} with df:=df} (B6 (B6 hc)) rfl rfl rfl (congrArg Array.toList hdf.1) sz1 rfl (by simp[hdf.2]) (by decide) rfl (fun w hg P3=>?_)
 try clear P3
 refine U112 ?_;refine L.stC (i:=i) (o:=9) (vs:=[.bool true]) hg {{{{c with sp:=s} with rf:=rf} with df:=df} with wt:=true} (B6 (B6 (B6 hc))) rfl rfl rfl rfl sz4 rfl rfl (by decide) rfl (fun w hg P3=>?_)
 try clear P3
 refine U24 ?_;refine ZA.ej0 hZ hb 11 (fun w'=>Below w.heap.size w w') (by kernel_rfl) (by kernel_rfl) (by kernel_rfl) (by kernel_rfl) (Below.refl w.heap.size w).drew ?_;refine U273 ?_;refine D.va (fun w' C1=>(G0 rfl underlying149 rfl Jf0 (by decide))) ?_;refine D.va (fun w' C1=>(A0 rfl underlying146 rfl (((hg.m.blk i _ (B6 (B6 (B6 (B6 hc))))).j0 C1).E0 1 (v:=.p R.rb) rfl))) ?_;refine D.va (fun w' C1=>(J1 rfl)) ?_;refine U148 ?_;refine U273 ?_;refine D.va (fun w' C1=>(G0 rfl underlying149 rfl z8 (by decide))) ?_;refine D.va (fun w' C1=>(A0 rfl underlying3 rfl (((hg.m.blk i _ (B6 (B6 (B6 (B6 hc))))).j0 C1).E0 0 (v:=.i (i:Int)) rfl))) ?_;refine U140 ?_;intro w P1 hg;clear P1;refine ZA.give (i:=11) (rest:=[]) (s:=⟨R.yb,z0,me0⟩) (st:=[(⟨c.cb,2,none⟩,.chan (some c.rc))]) (K:=fun s=>s.ch=c.rc/\s.z= .bool false/\nu0 cs c.cb df s.me) (ft:=60) hb rfl rfl rfl hX0 F9.symm V9 T2 ?_ ?_ ?_
 ·have kt1:(g==0)=false:=by simpa using F9
  rw[kt1];have hY:=wm0 (P:=prog) (main:=false) (l:=[((⟨c.cb,2,none⟩:Addr),Value.chan (some c.rc))]) (K:=fun s=>s.ch=c.rc/\s.z= .bool false/\nu0 cs c.cb df s.me);refine At.u3 hY ?_;refine At.seq hY ?_;refine At.seq hY ?_;refine At.region hY ?_;refine I0.val hY hb rfl (v:=.p c.cb) (M0 rfl) ?_;refine I0.val hY hb rfl (N3 rfl) ?_;refine I0.val hY hb rfl (nn0 rfl underlying149 rfl Te0 (by decide)) ?_;refine I0.stay (v:=.chan (some c.rc)) hb rfl (by simp) rfl underlying147 rfl ?_;refine I0.N1 (E:=4) (z:=.bool false) hb underlying147 zr4 rfl (fun me hs=>⟨rfl,rfl,⟨?_,?_⟩⟩) rfl
  ·intro C0 Z hZ w K hdo hK;refine hs.go ?_;letI:Ctx prog:=C0;refine ZA.more hZ hb 5 rfl ?_;show L _ _ _ _ _ _ _;refine U39 ?_;refine U0 ?_;refine U190 ?_;refine U136 ?_;rcases hdo with⟨h1,h2⟩|⟨f,caps,⟨h1,fn,hf,hbd,hnm⟩,A5⟩
   all_goals subst h1
   ·refine ZA.W hZ hb ?_;refine U193 ?_;refine L.va (dx0 (v:=.nilFunc) (b:=false) rfl (.inl ⟨rfl,rfl⟩) rfl underlying1 ⟨_,_,_,rfl⟩) ?_;refine U269 ?_;refine ZA.skip hZ ?_;exact U469
   ·refine ZA.W hZ hb ?_;refine U193 ?_;refine L.va (dx0 (v:=.func (.func f) #[] caps) (b:=true) rfl (.inr ⟨_,_,_,rfl,rfl⟩) rfl underlying1 ⟨_,_,_,rfl⟩) ?_;refine U307 ?_;refine U108 ?_;refine L.va dw0 ?_;refine L.call (ir0 rfl hf hbd hnm) A5 ?_;rintro _ w h2;refine U1 ?_;exact U469
  ·intro Z hZ w S B w0 Bs R i c2 hg hc hcb hK;refine hs.go ?_;letI:Ctx prog:=j2 prog false
   skip
   refine ZA.more hZ hb 5 rfl ?_;show L _ _ _ _ _ _ _;refine U39 ?_;refine U0 ?_;refine U190 ?_;refine U307 ?_;refine U0 ?_;refine U60 ?_;refine L.stC (i:=i) (o:=10) (vs:=[.bool true]) hg {c2 with st:=true} hc rfl (by rw[hcb];rfl) rfl rfl sz4 rfl rfl (by decide) rfl (fun w hg P3=>?_)
   try clear P3
   refine U1 ?_;refine ZA.panics hZ hb ?_;refine W.region rfl ?_;refine L.va (C3 (parts:=[]) rfl di1) ?_;refine L.va (A9 (v:=.agg #[]) rfl underlying197 rfl) ?_;refine L.Jr0 rfl ⟨_,rfl,fun a todo ha=>?_⟩;exact hK _ _ _ hg rfl ⟨_,_,rfl,rfl⟩ (jb0 func83 ha)
 ·rintro s2 ⟨h1,_,_⟩;rw[h1];exact hsh
 ·rintro⟨ch,z,me⟩ ⟨h1,h2,h3⟩;cases h1;cases h2;exact v8 _ me (Pm0 hg) h3
section
attribute [local irreducible] KK
abbrev dj0 (a b:Nat):Array Value:=#[.p a,.p b]
theorem wn0 (gr:j5) {n:Nat} {a:Act} {todo:List Item} (hd:a.defers=[dcall 68 #[.pointer (some ⟨gr.blk,gr.off,none⟩)]]):∃m,Lt prog gr m 0 (G {(baseD 106).at a todo with mode:=.returning} [I6 prog]):=by
 have hq:QuitsD prog 2 0 (G {(baseD 106).at ⟨a.tmps,[]⟩ todo with mode:=.returning} [I6 prog]):=by
  refine .inr ⟨rfl,_,#[],fun e he=>by simp at he,fun w=>ts0 (fn:=Tryz.f106) rfl rfl func106 (results_none rfl _ _ w) (events_results_none rfl _ _),?_⟩;refine .inr ⟨rfl,_,#[],fun e he=>by simp at he,fun w=>tt0,?_⟩;exact⟨rfl,rfl⟩
 obtain⟨m,hm⟩:=Pj0 gr (c:={(baseD 106).at ⟨a.tmps,[]⟩ todo with mode:=.returning}) rfl hq;refine⟨m+1,?_⟩;exact(H3 prog gr).c rfl rfl (fun w=>fg0 (f:=68) (fn:=Tryz.f68) (caps:=#[]) (args:=#[.pointer (some ⟨gr.blk,gr.off,none⟩)]) (by simp) hd func68 ch1 rfl) hm
theorem dj1:prog.built 197 []=some #[]:=by kernel_rfl
set_option maxRecDepth 20000 in
theorem Bp0 {Z:Goroutine->World->Prop} (hZ:@Ctx.Zs prog (j2 prog false) Z) {rb0 i:Nat} {c:CB} {w0:World} (hC:S1 w0 c.cb (c.cells rb0 i) 149 (0,3)) (T2:c.st=true) {s:Stp} {rf df:Value} {cs:List Frame}
  (hK:∀w' fr ch,Below w0.heap.size w0 w'->fr.fn=83->cj0 ch->Leaves prog fr w' (.panicked ch)->Z (G fr cs) w'):Z (G (Frame.enter prog 83 #[.p c.cb,gk0 s,rf,df] .normal) cs) w0:=by
 letI:Ctx prog:=j2 prog false;rw[enter_at _ func83 rfl];refine(?_:ZA Z 63 (base 83) cs (Vc.y8 #[.p c.cb,gk0 s,rf,df]) [.code (Tryz.f83.body.getD .skip)] w0) _ (J6 _ _ rfl);have hb:=A1 83;have hb0:Below w0.heap.size w0 w0:=Below.refl _ _;refine U0 ?_;refine L.box (cs:=#[.i s.kind,.i s.obj,.i s.num]) rfl rfl (fun w b5 F5=>?_);have hb0:=P0 hb0 F5.below;have hC:=hC.j0 F5.below;refine U24 ?_;refine U595 ?_;refine U136 ?_;refine U0 ?_;refine U60 ?_;refine L.va (A0 rfl underlying4 rfl (hC.E0 10 (v:=.bool c.st) rfl)) ?_;refine U1 ?_;refine ZA.Q4 hZ (rb T2) ?_;refine ZA.panics hZ hb ?_;refine W.region rfl ?_;refine L.va (C3 (parts:=[]) rfl dj1) ?_;refine L.va (A9 (v:=.agg #[]) rfl underlying197 rfl) ?_;refine L.Jr0 rfl ⟨_,rfl,fun a todo ha=>?_⟩;exact hK _ _ _ hb0 rfl ⟨_,_,rfl,rfl⟩ (jb0 func83 ha)
set_option maxRecDepth 20000 in
theorem Jt0 {Post:Value->World->Prop} {X:Gh} {g:Nat} {S:Nat->Prop} {B:Nat} {w0:World} {Bs:Nat} {R:Rn} {w:World} {i:Nat} {c:CB} {z0:Value} {me0:Goroutine} {G7 X6:Nat} {en:Bool} {a45:Act} {Z7:List Item} {md:FrameMode}
  (hg:Rg S B w0 w Bs R) (hc:R.cl[i]? =some c) (T2:c.st=true) (hA:S1 w G7 #[.p c.cb] 91 (0,0)) (hE:S1 w X6 #[.bool en] 4 (0,0)) (F9:0<g) (hX0:X.N1 0=some ⟨R.yb,z0,me0⟩) (V9:X.dn=0) (nv0:X.l3=some ⟨R.rb,8⟩)
  (hmd:md= .returning\/∃v X4,md= .panicking ({v,recovered:=false} :: X4)/\X4.dropWhile (!·.goexit)=[]) (wo0:a45.defers=[dcall 68 #[.pointer (some ⟨R.rb,8,none⟩)]])
  (v8:∀w',Rg S B w0 w' Bs {R with ends:=R.ends.set i 0,cl:=R.cl.set i {c with wt:=false}}->Fin prog Post (X.pass g 0 none) 0 (Go.Conc.served me0 (.i (i:Int))) w') :
  Fin prog Post X g (G ((baseD 113).at {tmps:=((#[]:Array Value)++dj0 G7 X6)++Array.replicate (Tryz.f113.ntmps-((#[]:Array Value)++dj0 G7 X6).size) undef,defers:=[]} [.code (Tryz.f113.body.getD .skip)]) [{(baseD 106).at a45 Z7 with mode:=md},I6 prog]) w:=by
 letI:Ctx prog:=j2 prog (g==0);refine(?_:ZA (Fin prog Post X g) 63 (baseD 113) [{(baseD 106).at a45 Z7 with mode:=md},I6 prog] (Vc.y8 ((#[]:Array Value)++dj0 G7 X6)) [.code (Tryz.f113.body.getD .skip)] w) _ (J6 _ _ rfl);refine U315 ?_;intro hZ hb;have hi:i<R.m:=Nat.lt_of_lt_of_le (List.getElem?_eq_some_iff.1 hc).1 hg.m.lcl;refine ZA.seq hZ ?_;refine U288 ?_;intro c45 v hsv;refine U125 ?_;refine U320 ?_;refine U263 ?_;refine U39 ?_;refine ZA.Q4 hZ (rb T2) ?_;refine U142 ?_;intro hR hC;refine U251 ?_;refine U260 ?_;refine U242 ?_;refine U158 ?_;refine U248 ?_;refine D.nil (fun w P1=>?_);have hA:=hA.j0 P1;have hE:=hE.j0 P1;have hg:=hg.j0 P1;have hR:=hR.j0 P1;have hC:=hC.j0 P1;clear P1;have neA:=S1.ne hA hg.m.ends (by decide);refine U292 ?_;intro neE w hg P3;have hA:=hA.other P3 neA;clear neA neE P3;have hc:(Rn.cl {R with ends:=R.ends.set i 0})[i]? =some c:=hc;refine L.nil ?_
 try clear hR
 try clear hC
 refine U313 ?_;refine U159 ?_;refine U112 ?_;refine U253 ?_;intro neA w hg P3;have hA:=hA.other P3 neA;refine U250 ?_;refine U157 ?_;refine U249 ?_;refine U148 ?_;refine U255 ?_;refine U140 ?_;intro w P1 hg;clear P1;obtain⟨m,hm⟩:=wn0 ⟨R.rb,8⟩ (n:=0) (a:=a45) (todo:=Z7) wo0;refine ZA.nt0 (i:=11) (rest:=[]) (s:=⟨R.yb,z0,me0⟩) (gr:=⟨R.rb,8⟩) (ft:=m+3) hb rfl rfl rfl hX0 (Nat.ne_of_lt F9) V9 F9 nv0 ?_ ?_
 ·refine At.u3 (H3 _ _) ?_;refine At.done (H3 _ _) (fun _=>?_);exact AtR.saved (H3 _ _) hsv rfl func113 rfl hm
 ·exact v8 _ hg
set_option maxRecDepth 20000 in
theorem Ju0 {Post:Value->World->Prop} {X:Gh} {g:Nat} {S:Nat->Prop} {B:Nat} {w0:World} {Bs:Nat} {R:Rn} {w:World} {i:Nat} {c:CB} {z0:Value} {me0:Goroutine} {G7 X6:Nat} {en:Bool} {a45:Act} {Z7:List Item} {md:FrameMode}
  (hg:Rg S B w0 w Bs R) (hc:R.cl[i]? =some c) (T2:c.st=false) (hA:S1 w G7 #[.p c.cb] 91 (0,0)) (hE:S1 w X6 #[.bool true] 4 (0,0)) (F9:0<g) (hX0:X.N1 0=some ⟨R.yb,z0,me0⟩) (V9:X.dn=0) (nv0:X.l3=some ⟨R.rb,8⟩)
  (hmd:md= .returning\/∃v X4,md= .panicking ({v,recovered:=false} :: X4)/\X4.dropWhile (!·.goexit)=[]) (wo0:a45.defers=[dcall 68 #[.pointer (some ⟨R.rb,8,none⟩)]])
  (v8:∀w',Rg S B w0 w' Bs {R with ends:=R.ends.set i 1,cl:=R.cl.set i {c with wt:=false}}->Fin prog Post (X.pass g 0 none) 0 (Go.Conc.served me0 (.i (i:Int))) w') :
  Fin prog Post X g (G ((baseD 113).at {tmps:=((#[]:Array Value)++dj0 G7 X6)++Array.replicate (Tryz.f113.ntmps-((#[]:Array Value)++dj0 G7 X6).size) undef,defers:=[]} [.code (Tryz.f113.body.getD .skip)]) [{(baseD 106).at a45 Z7 with mode:=md},I6 prog]) w:=by
 letI:Ctx prog:=j2 prog (g==0);refine(?_:ZA (Fin prog Post X g) 63 (baseD 113) [{(baseD 106).at a45 Z7 with mode:=md},I6 prog] (Vc.y8 ((#[]:Array Value)++dj0 G7 X6)) [.code (Tryz.f113.body.getD .skip)] w) _ (J6 _ _ rfl);refine U315 ?_;intro hZ hb;have hi:i<R.m:=Nat.lt_of_lt_of_le (List.getElem?_eq_some_iff.1 hc).1 hg.m.lcl;refine ZA.seq hZ ?_;refine U288 ?_;intro c45 v hsv;refine U125 ?_;refine U320 ?_;refine U263 ?_;refine U39 ?_;refine ZA.r6 hZ (rb T2) ?_;refine U0 ?_;refine L.va (A0 rfl underlying4 rfl (hE.E0 0 (v:=.bool true) rfl)) ?_;refine U39 ?_;refine ZA.Q4 hZ rfl ?_;refine U142 ?_;intro hR hC;refine U251 ?_;refine U260 ?_;refine U242 ?_;refine U158 ?_;refine U248 ?_;refine D.nil (fun w P1=>?_);have hA:=hA.j0 P1;have hE:=hE.j0 P1;have hg:=hg.j0 P1;have hR:=hR.j0 P1;have hC:=hC.j0 P1;clear P1;have neA:=S1.ne hA hg.m.ends (by decide);refine U292 ?_;intro neE w hg P3;have hA:=hA.other P3 neA;clear neA neE P3;have hc:(Rn.cl {R with ends:=R.ends.set i 1})[i]? =some c:=hc;refine L.nil ?_
 try clear hR
 try clear hC
 refine U313 ?_;refine U159 ?_;refine U112 ?_;refine U253 ?_;intro neA w hg P3;have hA:=hA.other P3 neA;refine U250 ?_;refine U157 ?_;refine U249 ?_;refine U148 ?_;refine U255 ?_;refine U140 ?_;intro w P1 hg;clear P1;obtain⟨m,hm⟩:=wn0 ⟨R.rb,8⟩ (n:=0) (a:=a45) (todo:=Z7) wo0;refine ZA.nt0 (i:=11) (rest:=[]) (s:=⟨R.yb,z0,me0⟩) (gr:=⟨R.rb,8⟩) (ft:=m+3) hb rfl rfl rfl hX0 (Nat.ne_of_lt F9) V9 F9 nv0 ?_ ?_
 ·refine At.u3 (H3 _ _) ?_;refine At.done (H3 _ _) (fun _=>?_);exact AtR.saved (H3 _ _) hsv rfl func113 rfl hm
 ·exact v8 _ hg
set_option maxRecDepth 20000 in
theorem Jv0 {Post:Value->World->Prop} {X:Gh} {g:Nat} {S:Nat->Prop} {B:Nat} {w0:World} {Bs:Nat} {R:Rn} {w:World} {i:Nat} {c:CB} {z0:Value} {me0:Goroutine} {G7 X6:Nat} {en:Bool} {a45:Act} {Z7:List Item} {md:FrameMode}
  (hg:Rg S B w0 w Bs R) (hc:R.cl[i]? =some c) (T2:c.st=false) (hA:S1 w G7 #[.p c.cb] 91 (0,0)) (hE:S1 w X6 #[.bool false] 4 (0,0)) (F9:0<g) (hX0:X.N1 0=some ⟨R.yb,z0,me0⟩) (V9:X.dn=0) (nv0:X.l3=some ⟨R.rb,8⟩)
  (hmd:md= .returning\/∃v X4,md= .panicking ({v,recovered:=false} :: X4)/\X4.dropWhile (!·.goexit)=[]) (wo0:a45.defers=[dcall 68 #[.pointer (some ⟨R.rb,8,none⟩)]])
  (v8:∀w',Rg S B w0 w' Bs {R with ends:=R.ends.set i 2,cl:=R.cl.set i {c with wt:=false}}->Fin prog Post (X.pass g 0 none) 0 (Go.Conc.served me0 (.i (i:Int))) w') :
  Fin prog Post X g (G ((baseD 113).at {tmps:=((#[]:Array Value)++dj0 G7 X6)++Array.replicate (Tryz.f113.ntmps-((#[]:Array Value)++dj0 G7 X6).size) undef,defers:=[]} [.code (Tryz.f113.body.getD .skip)]) [{(baseD 106).at a45 Z7 with mode:=md},I6 prog]) w:=by
 letI:Ctx prog:=j2 prog (g==0);refine(?_:ZA (Fin prog Post X g) 63 (baseD 113) [{(baseD 106).at a45 Z7 with mode:=md},I6 prog] (Vc.y8 ((#[]:Array Value)++dj0 G7 X6)) [.code (Tryz.f113.body.getD .skip)] w) _ (J6 _ _ rfl);refine U315 ?_;intro hZ hb;have hi:i<R.m:=Nat.lt_of_lt_of_le (List.getElem?_eq_some_iff.1 hc).1 hg.m.lcl;refine ZA.seq hZ ?_;refine U288 ?_;intro c45 v hsv;refine U125 ?_;refine U320 ?_;refine U263 ?_;refine U39 ?_;refine ZA.r6 hZ (rb T2) ?_;refine U0 ?_;refine L.va (A0 rfl underlying4 rfl (hE.E0 0 (v:=.bool false) rfl)) ?_;refine U39 ?_;refine ZA.r6 hZ rfl ?_;refine U142 ?_;intro hR hC;refine U251 ?_;refine U260 ?_;refine U242 ?_;refine U158 ?_;refine U248 ?_;refine D.nil (fun w P1=>?_);have hA:=hA.j0 P1;have hE:=hE.j0 P1;have hg:=hg.j0 P1;have hR:=hR.j0 P1;have hC:=hC.j0 P1;clear P1;have neA:=S1.ne hA hg.m.ends (by decide);refine U292 ?_;intro neE w hg P3;have hA:=hA.other P3 neA;clear neA neE P3;have hc:(Rn.cl {R with ends:=R.ends.set i 2})[i]? =some c:=hc;refine L.nil ?_
 try clear hR
 try clear hC
 refine U313 ?_;refine U159 ?_;refine U112 ?_;refine U253 ?_;intro neA w hg P3;have hA:=hA.other P3 neA;refine U250 ?_;refine U157 ?_;refine U249 ?_;refine U148 ?_;refine U255 ?_;refine U140 ?_;intro w P1 hg;clear P1;obtain⟨m,hm⟩:=wn0 ⟨R.rb,8⟩ (n:=0) (a:=a45) (todo:=Z7) wo0;refine ZA.nt0 (i:=11) (rest:=[]) (s:=⟨R.yb,z0,me0⟩) (gr:=⟨R.rb,8⟩) (ft:=m+3) hb rfl rfl rfl hX0 (Nat.ne_of_lt F9) V9 F9 nv0 ?_ ?_
 ·refine At.u3 (H3 _ _) ?_;refine At.done (H3 _ _) (fun _=>?_);exact AtR.saved (H3 _ _) hsv rfl func113 rfl hm
 ·exact v8 _ hg
end
section
attribute [local irreducible] KK
theorem Rg.side {S:Nat->Prop} {B:Nat} {w0 w:World} {Bs:Nat} {R:Rn} (h:Rg S B w0 w Bs R) {b:Nat} {cs H6:Array Value} {T:TypeId} {f:Nat×Nat} (hb:S1 w b cs T f) (hT:T≠153/\T≠91/\T≠49/\T≠98/\T≠3/\T≠47/\T≠149) (hS:S b\/B <=b):Rg S B w0 (V1 w b H6 T f) Bs R:=by
 have P3:=E2 w b H6 T f;have hr:∀T':TypeId,T'≠T->∀r,some b=some r->∃H6 T'' f',S1 w r H6 T'' f'/\T'≠T'':=fun T' hT r e=>by cases e;exact⟨_,_,_,hb,hT⟩
 have hm:k4 (V1 w b H6 T f) Bs R:=⟨O3 h.m.run P3 (hr _ (Ne.symm hT.1)),r5 h.m.cls P3 (hr _ (Ne.symm hT.2.1)),r5 h.m.evs P3 (hr _ (Ne.symm hT.2.2.1)),r5 h.m.r2 P3 (hr _ (Ne.symm hT.2.2.2.1)),O3 h.m.ends P3 (hr _ (Ne.symm hT.2.2.2.2.1)),O3 h.m.W4 P3 (hr _ (Ne.symm hT.2.2.2.2.2.1)),h.m.ep0,h.m.iz0,h.m.lcl,fun i c hc=>O3 (h.m.blk i c hc) P3 (hr _ (Ne.symm hT.2.2.2.2.2.2))⟩
 exact⟨hm,h.md.grown P3 h.le (fun r e=>by cases e;exact hS),h.fp,by rw[S5];exact h.le⟩
def dk1 (c:CB) (x:Int):Ending->Prop
 | .returned _=>(c.st=true/\x=0)\/(c.st=false/\x=1)
 | .panicked ch=>cj0 ch/\((c.st=true/\x=0)\/(c.st=false/\x=2))
 | .outgrown=>False
structure Jw0 (top:List Frame) (G7 X6 rb cb:Nat):Prop where
 leave:∀{Post:Value->World->Prop} {X:Gh} {g:Nat} {S:Nat->Prop} {B:Nat} {w0:World} {Bs:Nat} {R:Rn} {w:World} {i:Nat} {c:CB} {z0:Value} {me0:Goroutine} {fr:Frame} {e:Ending} (x:Int),Rg S B w0 w Bs R->R.rb=rb->R.cl[i]? =some c->c.cb=cb ->
  S1 w G7 #[.p cb] 91 (0,0)->S1 w X6 #[.bool false] 4 (0,0)->(S X6\/B <=X6)->dk1 c x e->0<g->X.N1 0=some ⟨R.yb,z0,me0⟩->X.dn=0->X.l3=some ⟨rb,8⟩ ->
  (∀w',Rg S B w0 w' Bs {R with ends:=R.ends.set i x,cl:=R.cl.set i {c with wt:=false}}->(∃en,S1 w' X6 #[.bool en] 4 (0,0))->Fin prog Post (X.pass g 0 none) 0 (Go.Conc.served me0 (.i (i:Int))) w') ->
  Leaves prog fr w e->Fin prog Post X g (G fr top) w
theorem k4.Tt0 {w:World} {Bs:Nat} {R:Rn} (h:k4 w Bs R) {b:Nat} {cs:Array Value} {T:TypeId} {f:Nat×Nat} (hb:S1 w b cs T f) (hT:T≠153/\T≠91/\T≠49/\T≠98/\T≠3/\T≠47/\T≠149):¬R.fp b:=by
 intro hk;have own:∀{E:TypeId} {s n c:Nat} {a:Option Addr} {xs:List Value},Own w Bs E s a n c xs->a≠none->b=ab a->T≠E->False:=fun ho ha e o3=>by
  obtain⟨cur,hB,_⟩:=ho.row ha;exact S1.ne (f:=(0,0)) hB hb (Ne.symm o3) e.symm
 rcases hk with rfl|rfl|rfl|⟨ha,e⟩|⟨ha,e⟩|⟨ha,e⟩|⟨i,c,hc,rfl⟩
 ·exact S1.ne hb h.run hT.1 rfl
 ·exact S1.ne hb h.ends hT.2.2.2.2.1 rfl
 ·exact S1.ne hb h.W4 hT.2.2.2.2.2.1 rfl
 ·exact own h.cls ha e hT.2.1
 ·exact own h.evs ha e hT.2.2.1
 ·exact own h.r2 ha e hT.2.2.2.1
 ·exact S1.ne hb (h.blk i c hc) hT.2.2.2.2.2.2 rfl
theorem Rg.then {S:Nat->Prop} {B:Nat} {w0 w w':World} {Bs:Nat} {R R':Rn} (h:Rg S B w0 w Bs R) (h':Rg R.fp w.heap.size w w' Bs R'):Rg S B w0 w' Bs R' :=
 ⟨h'.m,⟨h'.md.os.trans h.md.os,h'.md.tape.trans h.md.tape,h'.md.output.trans h.md.output,Nat.le_trans h.md.size h'.md.size,fun k hk hs=>(h'.md.block k (Nat.lt_of_lt_of_le hk h.le) fun z=>(h.fp k z).elim hs (Nat.not_le_of_lt hk)).trans (h.md.block k hk hs)⟩,fun k hk=>by
  rcases h'.fp k hk with z|z
  ·exact h.fp k z
  ·exact .inr (Nat.le_trans h.le z),Nat.le_trans h.le h'.md.size⟩
theorem Jx0 {Post:Value->World->Prop} {X:Gh} {g:Nat} {S:Nat->Prop} {B:Nat} {w0:World} {Bs:Nat} {R:Rn} {w:World} {i:Nat} {c:CB} {z0:Value} {me0:Goroutine} {G7 X6:Nat} {en:Bool} {a45:Act} {Z7:List Item} {md:FrameMode} {x:Int}
  (hg:Rg S B w0 w Bs R) (hc:R.cl[i]? =some c) (hx:(c.st=true/\x=0)\/(c.st=false/\en=true/\x=1)\/(c.st=false/\en=false/\x=2)) (hA:S1 w G7 #[.p c.cb] 91 (0,0)) (hE:S1 w X6 #[.bool en] 4 (0,0)) (F9:0<g) (hX0:X.N1 0=some ⟨R.yb,z0,me0⟩) (V9:X.dn=0) (nv0:X.l3=some ⟨R.rb,8⟩)
  (hmd:md= .returning\/∃v X4,md= .panicking ({v,recovered:=false} :: X4)/\X4.dropWhile (!·.goexit)=[]) (wo0:a45.defers={target:=.fn (.func 113) (dj0 G7 X6),args:=#[]} :: [dcall 68 #[.pointer (some ⟨R.rb,8,none⟩)]])
  (v8:∀w',Rg S B w0 w' Bs {R with ends:=R.ends.set i x,cl:=R.cl.set i {c with wt:=false}}->Fin prog Post (X.pass g 0 none) 0 (Go.Conc.served me0 (.i (i:Int))) w') :
  Fin prog Post X g (G {(baseD 106).at a45 Z7 with mode:=md} [I6 prog]) w:=by
 refine(cc0 prog Post X g).ctl rfl rfl (fun w=>fg0 (f:=113) (fn:=Tryz.f113) (caps:=dj0 G7 X6) (args:=#[]) (ds:=[dcall 68 #[.pointer (some ⟨R.rb,8,none⟩)]]) (by rcases hmd with rfl|⟨_,_,rfl,_⟩ <;> simp) wo0 func113 cv1 rfl) ?_;rcases hx with⟨h1,rfl⟩|⟨h1,rfl,rfl⟩|⟨h1,rfl,rfl⟩
 ·exact Jt0 hg hc h1 hA hE F9 hX0 V9 nv0 hmd rfl v8
 ·exact Ju0 (en:=true) hg hc h1 hA hE F9 hX0 V9 nv0 hmd rfl v8
 ·exact Jv0 (en:=false) hg hc h1 hA hE F9 hX0 V9 nv0 hmd rfl v8
theorem tx0 {Post:Value->World->Prop} {X:Gh} {g:Nat} {S:Nat->Prop} {B:Nat} {w0:World} {Bs:Nat} {R:Rn} {w:World} {i:Nat} {c:CB} {z0:Value} {me0:Goroutine} {G7 X6:Nat} {en:Bool} {a45:Act} {Z7:List Item} {md:FrameMode} {x:Int}
  (hg:Rg S B w0 w Bs R) (hc:R.cl[i]? =some c) (hx:(c.st=true/\x=0)\/(c.st=false/\en=true/\x=1)\/(c.st=false/\en=false/\x=2)) (hA:S1 w G7 #[.p c.cb] 91 (0,0)) (hE:S1 w X6 #[.bool en] 4 (0,0)) (F9:0<g) (hX0:X.N1 0=some ⟨R.yb,z0,me0⟩) (V9:X.dn=0) (nv0:X.l3=some ⟨R.rb,8⟩)
  (hmd:md= .returning\/∃v X4,md= .panicking ({v,recovered:=false} :: X4)/\X4.dropWhile (!·.goexit)=[]) (wo0:a45.defers={target:=.fn (.func 113) (dj0 G7 X6),args:=#[]} :: [dcall 68 #[.pointer (some ⟨R.rb,8,none⟩)]])
  (v8:∀w',Rg S B w0 w' Bs {R with ends:=R.ends.set i x,cl:=R.cl.set i {c with wt:=false}}->(∃en,S1 w' X6 #[.bool en] 4 (0,0))->Fin prog Post (X.pass g 0 none) 0 (Go.Conc.served me0 (.i (i:Int))) w') :
  Fin prog Post X g (G {(baseD 106).at a45 Z7 with mode:=md} [I6 prog]) w:=by
 refine Jx0 hg.m.rg hc hx hA hE F9 hX0 V9 nv0 hmd wo0 fun w' o7=>v8 w' (hg.then o7) ⟨en,?_⟩;exact(o7.md.block X6 hE.lt (hg.m.Tt0 hE (by decide))).trans hE
set_option maxRecDepth 20000 in
theorem Jy0 {Post:Value->World->Prop} {X:Gh} {g:Nat} {w:World} {Bs:Nat} {R:Rn} {i:Nat} {c:CB} {f:FuncId} {fn:Func} {caps:Array Value} (hf:prog.funcs[f]? =some fn) (hbd:fn.body.isSome=true) (hnm:(fn.name== "runtime.NumGoroutine")=false)
  (hM:k4 w Bs R) (hc:R.cl[i]? =some c)
  (H4:∀w1 top G7 X6,Below w.heap.size w w1->w.heap.size <=G7->w.heap.size <=X6->S1 w1 G7 #[.p c.cb] 91 (0,0)->S1 w1 X6 #[.bool false] 4 (0,0)->Jw0 top G7 X6 R.rb c.cb->Fin prog Post X g (G (Frame.enter prog f (#[] ++ #[.p c.cb]++caps) .normal) top) w1) :
  Fin prog Post X g (born prog (dcall 106 #[.p c.cb,.func (.func f) #[] caps])) w:=by
 refine(cc0 prog Post X g).ctl rfl rfl (fun w=>Fl0 func106 cr1 rfl) ?_;letI:Ctx prog:=j2 prog (g==0);have hZ:Ctx.Zs prog (Fin prog Post X g):=V4;have hb:=bkd 106;refine(?_:ZA (Fin prog Post X g) 15 (baseD 106) [I6 prog] (Vc.y8 #[.p c.cb,.func (.func f) #[] caps]) [.code (Tryz.f106.body.getD .skip)] w) _ (J6 _ _ rfl);refine U0 ?_;refine L.box (cs:=#[.p c.cb]) rfl rfl (fun w1 G7 FA=>?_);refine U1 ?_;refine U0 ?_;refine L.alloc (cs:=#[.bool false]) zr4 rfl (fun w2 X6 FE=>?_);refine L.pu 0 [.bool false] #[.bool false] sz4 FE.blk (fun w3 hE P3 I2=>?_);refine U1 ?_;have Y5:Below w.heap.size w w1:=FA.below;have lA:w.heap.size <=G7:=by have:=FA.here;omega
 have lE:w.heap.size <=X6:=by have:=FE.here;have:=Y5.size;omega
 have hb2:Below w.heap.size w w2:=P0 Y5 FE.below;have hb3:Below w.heap.size w w3:=D3 hb2 hb2.size P3 lE;have hA:S1 w3 G7 #[.p c.cb] 91 (0,0):=(K3 (FA.blk.j0 FE.below)).other P3 (S1.ne (K3 (FA.blk.j0 FE.below)) (K3 FE.blk) (by decide));have hM3:=hM.j0 hb3;refine ZA.zd ?_;refine U305 ?_;refine ZD.va hZ hb (i:=0) (rest:=[1,2,3,4,5,6]) rfl rfl (A0 rfl underlying91 rfl (hA.E0 0 (v:=.p c.cb) rfl)) ?_;refine ZD.va hZ hb (i:=1) rfl rfl (J1 rfl) ?_;refine ZD.va hZ hb (i:=2) rfl rfl (G0 rfl underlying149 rfl Jf0 (by decide)) ?_;refine ZD.va hZ hb (i:=3) rfl rfl (A0 rfl underlying146 rfl ((hM3.blk i c hc).E0 1 (v:=.p R.rb) rfl)) ?_;refine ZD.va hZ hb (i:=4) rfl rfl (J1 rfl) ?_;refine ZD.va hZ hb (i:=5) rfl rfl (G0 rfl underlying153 rfl Td0 (by decide)) ?_;refine ZD.defer hZ hb (i:=6) (vs:=#[.pointer (some ⟨R.rb,8,none⟩)]) rfl (Wg.M7 (vl:=[.pointer (some ⟨R.rb,8,none⟩)]) rfl) ?_;refine ZD.u3 hZ ?_;refine U305 ?_;refine ZD.va hZ hb (i:=0) (rest:=[1]) rfl rfl (o4 (l:=[.tmp 2,.tmp 4]) (vs:=[.p G7,.p X6]) rfl) ?_;refine ZD.We0 hZ hb (i:=1) (caps:=dj0 G7 X6) rfl rfl ?_;refine ZD.u3 hZ ?_;refine U305 ?_;refine ZD.va hZ hb (i:=0) (rest:=[1,2]) rfl rfl (Hu0 rfl) ?_;refine ZD.va hZ hb (i:=1) rfl rfl (A0 rfl underlying91 rfl (hA.E0 0 (v:=.p c.cb) rfl)) ?_;refine ZD.call hZ hb (i:=2) rfl (cf0 (first:=#[]) (cap:=caps) (args:=#[.p c.cb]) rfl (Wg.M7 (vl:=[.p c.cb]) rfl) hf hbd hnm) (fun a ha=>?_);refine H4 w3 _ G7 X6 hb3 lA lE hA hE ⟨?_⟩;clear H4 hb3 hb2 Y5 hM3 hA hE P3 I2 FA FE;intro Post X g S B w0 Bs R' w i c' z0 me0 fr e x hg z7 hc hcb hA hE hS hx F9 hX0 V9 P3 v8 hl;rw[<- hcb]at hA;have dl1:X.l3=some ⟨R'.rb,8⟩:=by rw[z7];exact P3
 letI:Ctx prog:=j2 prog (g==0);have hZ:Ctx.Zs prog (Fin prog Post X g):=V4;cases e with
 |outgrown=>exact hx.elim
 |panicked ch=>
  obtain⟨⟨v,X4,rfl,ho⟩,hx⟩:=hx;refine ew0 (cc0 _ _ _ _) hl ?_;rw[Frame.raise_at];exact tx0 (en:=false) hg hc (by rcases hx with h|h;exact .inl h;exact .inr (.inr ⟨h.1,rfl,h.2⟩)) hA hE F9 hX0 V9 dl1 (.inr ⟨v,X4,rfl,ho⟩) (by rw[z7];exact ha.defers) v8
 |returned v=>
  refine as0 (cc0 _ _ _ _) hl ?_;have aa0:∀(ops:Array Oper) (k:List Item) (o:Oper),ops[2]? =some o->((baseD 106).at a (.inRegion ops [2]::k)).finish v=(baseD 106).at (a.put o.dst v) (.inRegion ops []::k):=fun ops k o ho=>by rw[Frame.finish_at,ho];rfl
  rw[aa0 _ _ _ rfl];refine(?_:ZD (Fin prog Post X g) 15 (baseD 106) [I6 prog] _ _ _ w) _ (ha.put rfl v);refine ZD.u3 hZ ?_;refine ZD.region hZ ?_;refine ZD.st hZ hb (i:=0) (rest:=[]) rfl (md0 (v:=.bool true) (p:=⟨X6,0,none⟩) (v0:=.bool false) rfl rfl sz4 rfl (hE.E0 0 rfl) (by rw[hE.frozen];rfl)) ?_;rw[ek0 hE];refine ZD.u3 hZ ?_;intro a5 ha5;refine(cc0 prog Post X g).ctl rfl rfl (fun _=>stepG_end) ?_;exact tx0 (en:=true) (hg.side hE (by decide) hS) hc (by rcases hx with h|h;exact .inl h;exact .inr (.inl ⟨h.1,rfl,h.2⟩)) (hA.other (E2 _ _ _ _ _) (S1.ne hA hE (by decide))) (w5 hE _ _ _) F9 hX0 V9 dl1 (.inl rfl) (by rw[z7];exact ha5.defers) v8
end
section
attribute [local irreducible] KK
def Bq0 (cs:List Frame) (me:Goroutine):Prop:=∀Z,@Ctx.Zs prog (j2 prog true) Z->∀(u:World) (v:Value),(∀fr,fr.fn=78->Leaves prog fr u (.returned (.tuple #[]))->Z (G fr cs) u)->Z (Go.Conc.served me v) u
theorem dm1 (x0:Int) (x1:Int) (x2:Int) (x3:Int):prog.built 49 [(0,.i x0),(1,.agg #[.i x1,.i x2,.i x3])]=some #[.i x0,.i x1,.i x2,.i x3]:=by kernel_rfl
set_option maxRecDepth 20000 in
theorem Jz0 {Post:Value->World->Prop} {X:Gh} {g:Nat} {S:Nat->Prop} {B:Nat} {w0:World} {Bs:Nat} {R:Rn} {w:World} {i:Nat} {c:CB} {cs:List Frame} {z1:Value} {me1:Goroutine}
  (hg:Rg S B w0 w Bs R) (hBs:Bs <=w.heap.size) (hc:R.cl[i]? =some c) (hrm:R.evs.length <=1000000) (hpm:c.n2 <=1000000) (hum:R.used <=1000000)
  (F9:g≠0) (hX0:X.N1 g=some ⟨c.rc,z1,me1⟩) (V9:X.dn=0) (T2:X.stay 0=[(⟨R.rb,7,none⟩,.chan (some R.yb))]) (hsh:X.B8 R.yb/\∀i s2,i≠g->X.N1 i=some s2->s2.ch≠R.yb)
  (e7:∀w' a n me0,Rg S B w0 w' Bs {R with ea:=a,ec:=n,evs:=R.evs ++ [(i,c.sp)],used:=R.used+1,cl:=R.cl.set i {c with n2:=c.n2+1,wt:=false}}->Bq0 cs me0->Fin prog Post (X.pass 0 g (some ⟨R.yb,.i 0,me0⟩)) g (Go.Conc.served me1 (.bool true)) w') :
  Fin prog Post X 0 (G (Frame.enter prog 78 #[.p R.rb,.p c.cb] .normal) cs) w:=by
 letI:Ctx prog:=j2 prog true;rw[enter_at _ func78 rfl];refine(?_:ZA (Fin prog Post X 0) 52 (base 78) cs (Vc.y8 #[.p R.rb,.p c.cb]) [.code (Tryz.f78.body.getD .skip)] w) _ (J6 _ _ rfl);have hZ:Ctx.Zs prog (Fin prog Post X 0):=V4;have hb:=A1 78;refine ZA.seq hZ ?_;refine U142 ?_;intro hR hC;refine W.fl 17 [15,16] [0,1,2,3,4,5,6,7,8,9,10,11,12,13,14,15,16] (fun w'=>S1 w' R.rb #[.slice R.ca R.cl.length R.cc,.slice R.ea R.evs.length R.ec,.slice R.na R.r2.length R.nc,.slice (pt R.eb) R.m R.m,.slice (pt R.wb) R.m R.m,.bool R.stuck,.i (R.used:Int),.chan (some R.yb)] 153 (7,8)/\S1 w' c.cb #[.i (i:Int),.p R.rb,.chan (some c.rc),.i c.sp.kind,.i c.sp.obj,.i c.sp.num,c.rf,c.df,.i (c.n2:Int),.bool c.wt,.bool c.st] 149 (0,3)) (by kernel_rfl) (by kernel_rfl) (by kernel_rfl) (by kernel_rfl) (by kernel_rfl) (⟨hR.j0 (Below.refl w.heap.size w).drew,hC.j0 (Below.refl w.heap.size w).drew⟩) ?_;have L4:Below w.heap.size w w.drew:=(Below.refl w.heap.size w).drew;have hBs:=Nat.le_trans hBs L4.size;have hg:=hg.j0 L4;have hR:=hR.j0 L4;have hC:=hC.j0 L4;clear L4;generalize w.drew=w at *;refine F.va rfl rfl (fun w' C1=>(W3 rfl)) ?_;refine U265 ?_;refine F.va rfl rfl (fun w' C1=>(G0 rfl underlying153 rfl df0 (by decide))) ?_;refine F.va rfl rfl (fun w' C1=>(G0 rfl underlying30 rfl nq0 (by decide))) ?_;refine F.va rfl rfl (fun w' C1=>(A0 rfl underlying26 rfl (C1.1.E0 1 (v:=.slice R.ea R.evs.length R.ec) rfl))) ?_;refine U265 ?_;refine F.va rfl rfl (fun w' C1=>(G0 rfl underlying149 rfl z8 (by decide))) ?_;refine F.va rfl rfl (fun w' C1=>(A0 rfl underlying3 rfl (C1.2.E0 0 (v:=.i (i:Int)) rfl))) ?_;refine U265 ?_;refine F.va rfl rfl (fun w' C1=>(G0 rfl underlying149 rfl dg0 (by decide))) ?_;refine F.va rfl rfl (fun w' C1=>(j1 (cs:=[.i c.sp.kind,.i c.sp.obj,.i c.sp.num]) rfl underlying47 rfl dg0 rfl (C1.2.J4 rfl))) ?_;refine F.va rfl rfl (fun w' C1=>(C3 (parts:=[(0,.tmp 13),(1,.tmp 17)]) rfl (dm1 (i:Int) c.sp.kind c.sp.obj c.sp.num))) ?_;refine F.doo rfl rfl ?_;refine L.fd0 (cs:=#[.i (i:Int),.i c.sp.kind,.i c.sp.obj,.i c.sp.num]) rfl rfl underlying26 yw0 rfl ⟨_,bg1⟩ (by decide) (fun w b19 F19=>?_);have hBs:=Nat.le_trans hBs F19.below.size;have hg:=hg.j0 F19.below;have hR:=hR.j0 F19.below;have hC:=hC.j0 F19.below;have Pn0:=F19.blk;refine L.nil ⟨rfl,⟨hR,hC⟩,?_⟩;refine F.doo rfl rfl ?_;refine L.iy0 (B:=Bs) (m:=1) rfl rfl underlying26 bh1 rfl (by decide) hg.m.evs (news:=[.i (i:Int),.i c.sp.kind,.i c.sp.obj,.i c.sp.num]) rfl (fun j u hj=>by
  rw[Addr.add_lit]
  match j,hj with
  |0,hj=>cases hj;exact Pn0.E0 0 rfl
  |1,hj=>cases hj;exact Pn0.E0 1 rfl
  |2,hj=>cases hj;exact Pn0.E0 2 rfl
  |3,hj=>cases hj;exact Pn0.E0 3 rfl) (fun u hu=>by simp only[List.mem_cons,List.not_mem_nil,or_false]at hu;rcases hu with rfl|rfl|rfl|rfl <;> rfl) (by omega) (by omega) hBs (fun a20 c20 w2 hO P3 hli=>?_)
 have hR:=O3 hR P3 (m7 hg.m.evs (by decide));have hC:=O3 hC P3 (m7 hg.m.evs (by decide));refine L.nil ⟨rfl,⟨hR,hC⟩,?_⟩;refine U6 ?_;refine U114 ?_;refine L.va (G0 rfl underlying30 rfl nq0 (by decide)) ?_;refine L.kq1 (o:=0) (v:=undef) hg (i,c.sp) P3 hO hli rfl rfl nq0 (fun w hg=>?_)
 try clear P3
 refine L.nil ?_
 try clear hR
 try clear hC
 refine U143 ?_;refine U0 ?_;refine U281 ?_;refine L.va (G0 rfl underlying30 rfl z8 (by decide)) ?_;refine L.va (A0 rfl underlying3 rfl (hg.m.run.E0 6 (v:=.i (R.used:Int)) rfl)) ?_;refine L.va (nb0 rfl rfl (by omega)) ?_;refine U114 ?_;refine L.va (G0 rfl underlying30 rfl z8 (by decide)) ?_;refine L.stR (o:=6) (vs:=[.i ((R.used+1:Nat):Int)]) hg R.stuck (R.used+1) rfl rfl rfl z8 rfl rfl (by decide) rfl (fun w hg P3=>?_)
 try clear P3
 refine U1 ?_;refine U0 ?_;refine U577 ?_;refine L.va (A0 rfl underlying3 rfl ((hg.m.blk i c hc).E0 8 (v:=.i (c.n2:Int)) rfl)) ?_;refine L.va (nb0 rfl rfl (by omega)) ?_;refine L.va (J1 rfl) ?_;refine L.va (G0 rfl underlying149 rfl z8 (by decide)) ?_;refine L.stC (i:=i) (o:=8) (vs:=[.i ((c.n2+1:Nat):Int)]) hg {c with n2:=c.n2+1} hc rfl rfl rfl rfl z8 rfl rfl (by decide) rfl (fun w hg P3=>?_)
 try clear P3
 refine U1 ?_;refine U0 ?_;refine U60 ?_;refine L.stC (i:=i) (o:=9) (vs:=[.bool false]) hg {{c with n2:=c.n2+1} with wt:=false} (B6 hc) rfl rfl rfl rfl sz4 rfl rfl (by decide) rfl (fun w hg P3=>?_)
 try clear P3
 refine U24 ?_;refine ZA.upto hZ hb 4 rfl rfl (R:=fun e' w'=>ZA _ _ _ _ e' _ w') ?_ (fun _ _ h=>h);refine U562 ?_;refine L.va (A0 rfl underlying147 rfl ((hg.m.blk i _ (B6 (B6 hc))).E0 2 (v:=.chan (some c.rc)) rfl)) ?_;refine U1 ?_;refine ZA.give (i:=4) (rest:=[]) (s:=⟨c.rc,z1,me1⟩) (j:=g) (st:=[(⟨R.rb,7,none⟩,.chan (some R.yb))]) (K:=fun s=>s.ch=R.yb/\s.z= .i 0/\Bq0 cs s.me) (ft:=60) hb rfl rfl rfl hX0 F9 V9 T2 ?_ ?_ ?_
 ·have hY:=wm0 (P:=prog) (main:=true) (l:=[((⟨R.rb,7,none⟩:Addr),Value.chan (some R.yb))]) (K:=fun s=>s.ch=R.yb/\s.z= .i 0/\Bq0 cs s.me);refine U295 ?_;refine U264 ?_;refine U252 ?_;refine I0.N1 (E:=3) (z:=.i 0) hb underlying150 zr3 rfl (fun me hs=>⟨rfl,rfl,?_⟩) rfl;intro Z hZ w v hK;refine hs.go ?_;letI:Ctx prog:=j2 prog true;refine ZA.u3 hZ ?_;refine ZA.done hZ ?_;exact ZA.leaves (fn:=Tryz.f78) (f:=78) rfl func78 rfl (fun fr h8 h9=>hK fr h8 h9)
 ·rintro s2 ⟨h1,_,_⟩;rw[h1];exact hsh
 ·rintro⟨ch,z,me⟩ ⟨h1,h2,h3⟩;cases h1;cases h2;exact e7 _ _ _ me (by simpa using hg) h3
end
section
attribute [local irreducible] KK
noncomputable def endLoop:Code:=match Tryz.f80.body with|some (.seq (.seq _ (.block _ (.loop c))) _)=>c|_=>.skip
noncomputable def Dp0:Code:=match Tryz.f80.body with|some (.seq _ c)=>c|_=>.skip
structure Po0 (rb0 m:Nat) (ca:Option Addr) (cc:Nat) (Bs:Nat) (Post:Value->World->Prop) (cs:List Frame) (J:Nat->Gh->Rn->World->Prop):Prop where
 mem:∀i X R w,J i X R w->k4 w Bs R/\R.rb=rb0/\R.cl.length=m/\R.ca=ca/\R.cc=cc
 skip:∀i X R w c,J i X R w->R.cl[i]? =some c->c.wt=false->J (i+1) X R w
 stop:∀i X R w c,J i X R w->R.cl[i]? =some c->c.wt=true->∃g z1 me1,g≠0/\X.N1 g=some ⟨c.rc,z1,me1⟩/\X.dn=0/\X.stay 0=[(⟨R.rb,7,none⟩,.chan (some R.yb))]/\(X.B8 R.yb/\∀i s2,i≠g->X.N1 i=some s2->s2.ch≠R.yb) /\
  ∀w' me0,Rg R.fp w.heap.size w w' Bs {R with W4:=R.W4.set i c.sp}->(∀X' R' u v,J (i+1) X' R' u->Fin prog Post X' 0 (Go.Conc.served me0 v) u)->Fin prog Post (X.pass 0 g (some ⟨R.yb,.i 0,me0⟩)) g (Go.Conc.served me1 (.bool false)) w'
 fin:∀X R w,J m X R w->(∀i,X.N1 i=none)/\X.l3=some ⟨rb0,8⟩/\X.pend=0/\X.dn=0/\X.cap<2147483648/\∀fr,fr.fn=80->Leaves prog fr w (.returned (.tuple #[]))->Fin prog Post {X with pend:=0,cap:=0,dn:=0} 0 (G fr cs) w
set_option maxRecDepth 20000 in
theorem Ka0 {rb0 m:Nat} {ca:Option Addr} {cc:Nat} {Bs:Nat} {Post:Value->World->Prop} {cs:List Frame} {J:Nat->Gh->Rn->World->Prop} (hE:Po0 rb0 m ca cc Bs Post cs J) {X:Gh} {R:Rn} {w:World} (hJ:J m X R w) {e:Env} (s0:e 0= .p rb0):ZA (Fin prog Post X 0) 43 (base 80) cs e [.code Dp0] w:=by
 obtain⟨hM,hrb,hm,hca,hcc⟩:=hE.mem _ _ _ _ hJ;obtain⟨l9,P3,hp,V9,gm0,hK⟩:=hE.fin _ _ _ hJ;letI:Ctx prog:=j2 prog true;refine U202 ?_;intro hZ hb;rw[<- hrb]at s0;rw[V0 s0];clear s0;refine ZA.upto hZ hb 3 rfl rfl (R:=fun e' w'=>ZA _ _ _ _ e' _ w') ?_ (fun _ _ h=>h);refine U301 ?_;refine U561 ?_;refine ZA.call (i:=3) (rest:=[]) hZ hb (f:=70) (args:=#[.pointer (some ⟨R.rb,8,none⟩)]) rfl rfl (C2 rfl func70 rfl ci1 rfl) (fun a ha=>?_);rw[hrb];refine Fin.wait (G:=⟨rb0,8⟩) (K:=fun g'=>g'=_) P3 l9 hp V9 (Vz0 ⟨rb0,8⟩ (fun g'=>g'=_) rfl X.cap gm0) (fun g' o7=>?_);subst o7;refine ZA.home (i:=3) rfl rfl ha ?_;have hZ':Ctx.Zs prog (Fin prog Post {X with pend:=0,cap:=0,dn:=0} 0):=V4;refine ZA.u3 hZ' ?_;refine ZA.done hZ' ?_;exact ZA.leaves (fn:=Tryz.f80) (f:=80) rfl func80 rfl hK
set_option maxRecDepth 20000 in
theorem Kb0 {rb0 m:Nat} {ca:Option Addr} {cc:Nat} {Bs:Nat} {Post:Value->World->Prop} {cs:List Frame} {J:Nat->Gh->Rn->World->Prop} (hE:Po0 rb0 m ca cc Bs Post cs J) (hm1:m <=1000):∀(k i:Nat),i+k=m->∀X R w,J i X R w->∀e:Env,e 0= .p rb0->e 7= .slice ca m cc->e 8= .i (m:Int)->e 9= .i (i:Int)->ZA (Fin prog Post X 0) 43 (base 80) cs e [.code endLoop,.inLoop endLoop,.inBlock 0,.code Dp0] w:=by
 intro k
 induction k with
 |zero=>
  intro i hk X R w hJ e s0 s7 s8 s9;obtain⟨hM,hrb,hm,hca,hcc⟩:=hE.mem _ _ _ _ hJ;letI:Ctx prog:=j2 prog true;refine U202 ?_;intro hZ hb;rw[<- hrb]at s0;rw[<- hca,<- hm,<- hcc]at s7;rw[<- hm]at s8;refine U187 ?_;refine ZA.seq hZ ?_;obtain rfl:i=R.cl.length:=by omega
  refine U108 ?_;refine U374 ?_;refine U278 ?_;exact Ka0 hE (by rw[<- hm];exact hJ) (by rw[<- hrb];rfl)
 |succ k ih=>
  intro i hk X R w hJ e s0 s7 s8 s9;obtain⟨hM,hrb,hm,hca,hcc⟩:=hE.mem _ _ _ _ hJ;letI:Ctx prog:=j2 prog true;refine U202 ?_;intro hZ hb;rw[<- hrb]at s0;rw[<- hca,<- hm,<- hcc]at s7;rw[<- hm]at s8;refine U187 ?_;have Y1:i<R.cl.length:=by omega
  obtain⟨c,hc⟩:∃c,R.cl[i]? =some c:=⟨_,List.getElem?_eq_getElem Y1⟩
  refine U99 ?_;refine U314 ?_;refine U201 ?_;refine U422 ?_;refine L.va (ik0 rfl) ?_;refine U309 ?_;refine U0 ?_;refine U496 ?_;refine U1 ?_;by_cases hwt:c.wt=false
  ·refine ZA.r6 hZ (rb hwt) ?_;refine ZA.skip hZ ?_;refine ZA.inBlock hZ ?_;refine U132 ?_;exact ih (i+1) (by omega) X R w (hE.skip i X R w c hJ hc hwt) _ (by rw[<- hrb];rfl) (by rw[<- hca,<- hm,<- hcc];rfl) (by rw[<- hm];rfl) rfl
  ·have hwt:c.wt=true:=by simpa using hwt
   refine ZA.Q4 hZ (rb hwt) ?_;obtain⟨g,z1,me1,F9,hX0,V9,T2,hsh,e7⟩:=hE.stop i X R w c hJ hc hwt;have hg:=hM.rg;refine ZA.seq hZ ?_;refine U142 ?_;intro hR hC;refine W.ej0 11 (fun w'=>Below w.heap.size w w') (by kernel_rfl) (by kernel_rfl) (by kernel_rfl) (by kernel_rfl) ((Below.refl w.heap.size w).drew) ?_;refine D.va (fun w' C1=>(W3 rfl)) ?_;refine U334 ?_;refine D.va (fun w' C1=>(G0 rfl underlying30 rfl Bi0 (by decide))) ?_;refine D.va (fun w' C1=>(A0 rfl underlying28 rfl ((hR.j0 C1).E0 4 (v:=.slice (pt R.wb) R.m R.m) rfl))) ?_;refine D.va (fun w' C1=>(m3 rfl)) ?_;refine U273 ?_;refine D.va (fun w' C1=>(G0 rfl underlying149 rfl dg0 (by decide))) ?_;refine D.va (fun w' C1=>(j1 (cs:=[.i c.sp.kind,.i c.sp.obj,.i c.sp.num]) rfl underlying47 rfl dg0 rfl ((hC.j0 C1).J4 rfl))) ?_;refine D.va (fun w' C1=>ae0 (i:=i) rfl rfl underlying28 dg0 (Nat.lt_of_lt_of_le Y1 hM.lcl)) ?_;refine U140 ?_;intro w P1 hg;have hR:=hR.j0 P1;have hC:=hC.j0 P1;clear P1;refine L.stW (i:=i) (z:=c.sp) hg (Nat.lt_of_lt_of_le Y1 hM.lcl) rfl rfl dg0 (fun w hg P3=>?_);clear P3;refine L.nil ?_
   try clear hR
   try clear hC
   refine U143 ?_;refine ZA.seq hZ ?_;refine ZA.upto hZ hb 4 rfl rfl (R:=fun e' w'=>ZA _ _ _ _ e' _ w') ?_ (fun _ _ h=>h);refine U562 ?_;refine L.va (A0 rfl underlying147 rfl ((hg.m.blk i c hc).E0 2 (v:=.chan (some c.rc)) rfl)) ?_;refine U1 ?_;refine ZA.give (i:=4) (rest:=[]) (s:=⟨c.rc,z1,me1⟩) (j:=g) (st:=[(⟨R.rb,7,none⟩,.chan (some R.yb))]) (K:=fun s=>s.ch=R.yb/\s.z= .i 0/\∀X' R' u v,J (i+1) X' R' u->Fin prog Post X' 0 (Go.Conc.served s.me v) u) (ft:=60) hb rfl rfl rfl hX0 F9 V9 T2 ?_ ?_ ?_
   ·have hY:=wm0 (P:=prog) (main:=true) (l:=[((⟨R.rb,7,none⟩:Addr),Value.chan (some R.yb))]) (K:=fun s=>s.ch=R.yb/\s.z= .i 0/\∀X' R' u v,J (i+1) X' R' u->Fin prog Post X' 0 (Go.Conc.served s.me v) u);refine U295 ?_;refine U264 ?_;refine U252 ?_;refine I0.N1 (E:=3) (z:=.i 0) hb underlying150 zr3 rfl (fun me hs=>⟨rfl,rfl,?_⟩) rfl;intro X R' w v hJ';refine hs.go ?_;have hZ:Ctx.Zs prog (Fin prog Post X 0):=V4;refine U293 ?_;refine U132 ?_;exact ih (i+1) (by omega) X R' w hJ' _ (by rw[<- hrb];rfl) (by rw[<- hca,<- hm,<- hcc];rfl) (by rw[<- hm];rfl) rfl
   ·rintro s2 ⟨h1,_,_⟩;rw[h1];exact hsh
   ·rintro⟨ch,z,me⟩ ⟨h1,h2,h3⟩;cases h1;cases h2;exact e7 _ me hg h3
set_option maxRecDepth 20000 in
theorem Dq0 {rb0 m:Nat} {ca:Option Addr} {cc:Nat} {Bs:Nat} {Post:Value->World->Prop} {cs:List Frame} {J:Nat->Gh->Rn->World->Prop} (hE:Po0 rb0 m ca cc Bs Post cs J) (hm1:m <=1000) {X:Gh} {R:Rn} {w:World} (hJ:J 0 X R w):Fin prog Post X 0 (G (Frame.enter prog 80 #[.p rb0] .normal) cs) w:=by
 obtain⟨hM,hrb,hm,hca,hcc⟩:=hE.mem _ _ _ _ hJ;letI:Ctx prog:=j2 prog true;refine U202 ?_;intro hZ hb;rw[enter_at _ func80 rfl];rw[<- hrb];refine(?_:ZA (Fin prog Post X 0) 43 (base 80) cs (Vc.y8 #[.p R.rb]) [.code (Tryz.f80.body.getD .skip)] w) _ (J6 _ _ rfl);refine ZA.seq hZ ?_;refine U0 ?_;refine U174 ?_;refine U421 ?_;refine U205 ?_;refine U197 ?_;exact Kb0 hE hm1 m 0 (by omega) X R w hJ _ (by rw[<- hrb];rfl) (by rw[<- hca,<- hm,<- hcc];rfl) (by rw[<- hm];rfl) rfl
end
end Go.Vy.Sc
end
section
namespace Go.Vy
open Go Go.Conc Go.Yc Go.RowKit
open Go.Vc Go.Wg
def ChanAt (w:World) (b:Nat):Prop:=w.heap[b]? =some (.chan 0 #[] false 0 0 false)
section
variable {w w':World}{b:Nat}
theorem ChanAt.lt (h:ChanAt w b):b<w.heap.size:=(Array.getElem?_eq_some_iff.1 h).1
theorem ChanAt.j0 (h:ChanAt w b) (hb:Below w.heap.size w w'):ChanAt w' b:=(hb.block b h.lt).trans h
theorem ChanAt.grown {row:Option Nat} (h:ChanAt w b) (hg:w.grownBy w' row) (hr:∀r,row=some r->∃cs T f,S1 w r cs T f):ChanAt w' b :=
 (hg.block b h.lt fun e=>by
  obtain⟨cs,T,f,h'⟩:=hr b e.symm;unfold ChanAt at h;unfold S1 at h';rw[h]at h';cases h').trans h
end
theorem L.makeChan {P:Program} [Ctx P] {n:Nat} {Q:Exit->Env->World->Prop} {e:Env} {w:World} {ops:Array Oper} {rest:List Oper} {d:Nat} {ty:TypeId} {ps:String} {af:Array Edge} {T E:TypeId} {x:Operand} {dd:ChanDir} (hx:ev e x= .int .i64 0) (hT:P.underlying T=some (.chan dd E)) (hi:∃z,(P.info? E).map (·.size)=some z)
  (k:∀w1,Below w.heap.size w w1->ChanAt w1 w.heap.size->w1.heap.size=w.heap.size+1->L P n ops Q rest (upd e d (.chan (some w.heap.size))) w1):L P n ops Q (⟨some d,.makeChan T x,ty,ps,af,none⟩::rest) e w:=by
 obtain⟨z,hz⟩:=hi;obtain⟨i,hi,_⟩:=Option.map_eq_some_iff.1 hz;refine L.va (v:=.chan (some w.heap.size)) (w':=w.alloc (.chan 0 #[] false 0 0 false)) (.B1 (K2 rfl _) rfl rfl fun τ d'=>?_) (k _ ((Below.refl _ _).alloc (Nat.le_refl _) _) (by unfold ChanAt;show(w.heap.push _)[_]? =_;simp) (by show(w.heap.push _).size=_;simp));have:=run_makeChan (P:=P) (w:=N2 w τ d') hT hi .i64 0 (by decide) (by simp);show _=Result.ok (Next.value (.chan (some (N2 w τ d').heap.size))) ((N2 w τ d').alloc (.chan 0 #[] false 0 0 false));simp only[execOp,hx];have h2:((0:Nat):Int)=0:=rfl;rw[h2]at this;simp[this]
section
variable {P:Program}{Post:Value->World->Prop}{X:Gh}{h n:Nat}{b:Frame}{cs:List Frame}{e:Env}{k:List Item}{w:World}
theorem ZA.freeze {bb:Nat} {cells:Array Value} {T:TypeId} {f:Nat×Nat} (hl:aq0 X bb) (hB:S1 w bb cells T (0,0)) (hz:ZA (Fin P Post (X.lower bb) h) n b cs e k (V1 w bb cells T f)):ZA (Fin P Post X h) n b cs e k w :=
 fun a ha=>Fin.freeze (f:=(0,0)) (f':=f) hl hB (fun i hi=>by unfold inR at hi;omega) (hz a ha)
def wp0 (X:Gh) (rb yb off:Nat):Gh:=⟨X.N1,Go.ConcN.upd X.stay 0 [(⟨rb,off-1,none⟩,.chan (some yb))],some ⟨rb,off⟩,X.l3.toList++X.old,X.G4,fun c=>X.B8 c\/c=yb,fun k=>(X.low k\/k=yb)\/k=rb,X.k5,X.cap,X.pend,X.dn,X.n⟩
theorem ZA.begin {rb yb:Nat} {c8:Array Value} {T:TypeId} (gm0:X.cap=0) (hU:X.T9 rb) (hUy:X.T9 yb) (hpr:X.k5 rb= .all) (hpy:X.k5 yb= .all) (G6:ChanAt w yb) (hB:O0 w rb (c8 ++ #[.int .u64 0,.int .u32 0]) T) (h0:0<c8.size) (hy:c8[c8.size-1]? =some (.chan (some yb)))
  (hz:ZA (Fin P Post (wp0 X rb yb c8.size) 0) n b cs e k (V1 (Y2 w yb nothing) rb c8 T (c8.size-1,c8.size))):ZA (Fin P Post X 0) n b cs e k w:=by
 have o3:yb≠rb:=by
  intro e;subst e;unfold ChanAt at G6;unfold O0 at hB;rw[G6]at hB;cases hB
 intro a ha;refine Fin.chan (b:=yb) (k:=0) (hUy.ca0 (Nat.le_refl _)) (fun hl=>absurd (hUy.low _ hl) (Nat.lt_irrefl _)) hpy G6 ?_;have hB1:(Y2 w yb nothing).heap[rb]? =some (.cells (c8 ++ #[.int .u64 0,.int .u32 0]) T (0,0)):=by rw[X5 _ _ o3];exact hB
 refine Fin.Gu0 (f':=(c8.size-1,c8.size)) (b:=rb) gm0 ?_ ?_ hpr hB1 (Nat.zero_le _) ?_
 ·have hl:=hU.ca0 (Nat.le_refl rb);exact⟨hl.stay,hl.G4,fun h=>h.elim hl.B8 fun h=>o3 h.symm,hl.l3⟩
 ·intro h;rcases h with h|h
  ·exact absurd (hU.low _ h) (Nat.lt_irrefl _)
  ·exact o3 h.symm
 have Z1:(Y2 (Y2 w yb nothing) rb (.cells c8 T (c8.size-1,c8.size))).heap[rb]? =some (.cells c8 T (c8.size-1,c8.size)):=r7 _ hB1;refine Fin.stay (l:=[(⟨rb,c8.size-1,none⟩,.chan (some yb))]) (fun p hp=>?_) (hz a ha);obtain rfl:p=(⟨rb,c8.size-1,none⟩,.chan (some yb)):=by simpa using hp
 exact⟨S1.cell (f:=(c8.size-1,c8.size)) Z1 hy,by rw[S1.frozen (f:=(c8.size-1,c8.size)) Z1];simp;omega⟩
end
end Go.Vy
end
section
namespace Go.Vy.Sc
open Go Go.Conc Go.Yc Go.RowKit Go.Proofs Go.Proofs.YtnifpkopeheodaaGreat Tryz
open Go.Vc Go.Wg
section
attribute [local irreducible] KK
noncomputable def Dr0:Code:=match Tryz.f76.body with|some (.seq _ (.block _ (.loop c)))=>c|_=>.skip
def sp0:Stp:=⟨0,0,0⟩
abbrev E4 (cb rc:Nat):CB:=⟨cb,rc,sp0,.nilFunc,.nilFunc,0,false,false⟩
structure Wf0 (rb0 m:Nat) (ba:Option Addr) (fv:Nat->Value) (Bs:Nat) (Post:Value->World->Prop) (cs:List Frame) (J:Nat->Gh->Rn->World->Prop):Prop where
 sl:SL ba m
 fn:∀i,i<m->fv i= .nilFunc\/∃f fn caps,fv i= .func (.func f) #[] caps/\prog.funcs[f]? =some fn/\fn.body.isSome=true/\(fn.name== "runtime.NumGoroutine")=false
 mem:∀i X R w,J i X R w->k4 w Bs R/\R.rb=rb0/\R.cl.length=i/\R.m=m/\Bs <=w.heap.size/\X.T9 w.heap.size/\∀j,j<m->w.cell? ⟨ab ba,ao ba+j*1,none⟩=some (fv j)
 nil:∀i X R w w' a n cb rc,i<m->J i X R w->fv i= .nilFunc->w.heap.size <=cb->w.heap.size <=rc->Rg R.fp w.heap.size w w' Bs {R with ca:=a,cc:=n,cl:=R.cl ++ [E4 cb rc],ends:=R.ends.set i 1}->J (i+1) (X.lower cb) {R with ca:=a,cc:=n,cl:=R.cl ++ [E4 cb rc],ends:=R.ends.set i 1} w'
 go:∀i X R w w' a n cb rc,i<m->J i X R w->fv i≠.nilFunc->w.heap.size <=cb->w.heap.size <=rc->cb≠rc->ChanAt w' rc->Rg R.fp w.heap.size w w' Bs {R with ca:=a,cc:=n,cl:=R.cl ++ [E4 cb rc]} ->
  X.l3=some ⟨rb0,8⟩/\X.pend=0/\X.cap<65536/\X.dn=0/\X.stay 0=[(⟨R.rb,7,none⟩,.chan (some R.yb))]/\(X.B8 R.yb/\∀i s2,X.N1 i=some s2->s2.ch≠R.yb) /\
  ∀me0,(∀X' R' u v,J (i+1) X' R' u->Fin prog Post X' 0 (Go.Conc.served me0 v) u)->Fin prog Post (Gh.hire {X.lower cb with pend:=1,cap:=X.cap+1,dn:=0} ⟨R.yb,.i 0,me0⟩) X.n (born prog (dcall 106 #[.p cb,fv i])) w'
 fin:∀X R w,J m X R w->∀fr,fr.fn=76->Leaves prog fr w (.returned (.tuple #[]))->Fin prog Post X 0 (G fr cs) w
theorem dn1 (x0:Int) (x1:Option Addr) (x2:Option Nat):prog.built 149 [(0,.i x0),(1,.pointer x1),(2,.chan x2)]=some #[.i x0,.pointer x1,.chan x2,.i 0,.i 0,.i 0,.nilFunc,.nilFunc,.i 0,.bool false,.bool false]:=by kernel_rfl
set_option maxRecDepth 20000 in
theorem Kc0 {rb0 m:Nat} {ba:Option Addr} {fv:Nat->Value} {Bs:Nat} {Post:Value->World->Prop} {cs:List Frame} {J:Nat->Gh->Rn->World->Prop} (hE:Wf0 rb0 m ba fv Bs Post cs J) (hm1:m <=1000) {bc:Nat}:∀(k i:Nat),i+k=m->∀X R w1,J i X R w1->∀e:Env,e 0= .p rb0->e 7= .slice ba m bc->e 8= .i (m:Int)->e 9= .i (i:Int)->ZA (Fin prog Post X 0) 50 (base 76) cs e [.code Dr0,.inLoop Dr0,.inBlock 0] w1:=by
 intro k
 induction k with
 |zero=>
  intro i hk X R w1 hJ e s0 s7 s8 s9;obtain⟨hM,hrb,hlen,hRm,hBs,hU,ba0⟩:=hE.mem _ _ _ _ hJ;letI:Ctx prog:=j2 prog true;refine U316 ?_;intro hZ hb;rw[<- hrb]at s0;refine U187 ?_;have hg:=hM.rg;refine U99 ?_;refine U278 ?_;refine ZA.done hZ ?_;obtain rfl:i=m:=by omega
  exact ZA.leaves (fn:=Tryz.f76) (f:=76) rfl func76 rfl (hE.fin X R w1 hJ)
 |succ k ih=>
  intro i hk X R w1 hJ e s0 s7 s8 s9;obtain⟨hM,hrb,hlen,hRm,hBs,hU,ba0⟩:=hE.mem _ _ _ _ hJ;letI:Ctx prog:=j2 prog true;refine U316 ?_;intro hZ hb;rw[<- hrb]at s0;refine U187 ?_;have hg:=hM.rg;have Y1:i<m:=by omega
  refine U99 ?_;refine U314 ?_;refine U201 ?_;refine L.va (S3 (i:=i) rfl rfl underlying90 bm1 hE.sl Y1) ?_;refine L.va (A0 (v:=fv i) rfl underlying73 rfl (ba0 i Y1)) ?_;refine L.va (ik0 rfl) ?_;refine L.va ex0 ?_;refine U1 ?_;refine U201 ?_;refine L.va (W3 rfl) ?_;refine L.makeChan rfl underlying147 ⟨_,sz4⟩ (fun w2 P1 G6 Fm0=>?_);obtain⟨rc,hrc⟩:∃rc,rc=w1.heap.size:=⟨_,rfl⟩
  have lrc:w1.heap.size <=rc:=Nat.le_of_eq hrc.symm;rw[<- hrc]at G6⊢;have hg:=hg.j0 P1;refine L.va (C3 (parts:=[(0,.tmp 14),(1,.tmp 15),(2,.tmp 16)]) rfl (dn1 (i:Int) ((pt R.rb)) (some rc))) ?_;refine L.box (cs:=(E4 0 rc).cells R.rb i) rfl rfl (fun w3 cb F=>?_);have lcb:w1.heap.size <=cb:=by have:=F.here;have:=P1.size;omega
  have o3:cb≠rc:=by have:=F.here;omega
  have hg:=hg.j0 F.below;have G6:=G6.j0 F.below;have hX:=K3 F.blk;have hBs:=Nat.le_trans hBs (Nat.le_trans P1.size F.below.size);clear F P1;refine U309 ?_;have hfb:∀k,R.fp k->k≠cb:=fun k hk e=>by have:=hM.lt hk;omega
  refine ZA.freeze (f:=(0,3)) (hU.ca0 lcb) hX ?_;have hg:=hg.fresh ((E4 0 rc).cells R.rb i) 149 (0,3) hfb lcb;have G6:ChanAt (V1 w3 cb ((E4 0 rc).cells R.rb i) 149 (0,3)) rc:=G6.grown (E2 _ _ _ _ _) (fun r e=>by cases e;exact⟨_,_,_,hX⟩);have hX:S1 (V1 w3 cb ((E4 0 rc).cells R.rb i) 149 (0,3)) cb ((E4 cb rc).cells R.rb R.cl.length) 149 (0,3):=by rw[hlen];exact w5 hX _ _ _
  rw[<- S5 (w:=w3) (b:=cb) (cs:=(E4 0 rc).cells R.rb i) (T:=149) (f:=(0,3))]at hBs;generalize V1 w3 cb ((E4 0 rc).cells R.rb i) 149 (0,3)=w at *;have hZ:Ctx.Zs prog (Fin prog Post (X.lower cb) 0):=V4;refine U66 ?_;refine U174 ?_;refine L.va (A0 rfl underlying151 rfl (hg.m.run.E0 0 (v:=.slice R.ca R.cl.length R.cc) rfl)) ?_;refine L.va (W3 rfl) ?_;refine L.fd0 (cs:=#[.p cb]) rfl rfl underlying151 Jd0 rfl ⟨_,bn1⟩ (by decide) (fun w b25 F25=>?_);have hBs:=Nat.le_trans hBs F25.below.size;have hg:=hg.j0 F25.below;have G6:=G6.j0 F25.below;have hX:=hX.j0 F25.below;have kg0:=F25.blk;have hX0:=hX;have hR:=hg.m.run;refine L.iy0 (B:=Bs) (m:=1) rfl rfl underlying151 Vw0 rfl (by decide) hg.m.cls (news:=[.p cb]) rfl (fun j u hj=>by
   rw[Addr.add_lit]
   match j,hj with
   |0,hj=>cases hj;exact kg0.E0 0 rfl) (fun u hu=>by simp only[List.mem_cons,List.not_mem_nil,or_false]at hu;subst hu;rfl) (by omega) (by omega) hBs (fun a26 c26 w2 hO P3 hli=>?_)
  have G6:=G6.grown P3 (Pk0 hg.m.cls);have hX:=True.intro;have hR:=O3 hR P3 (m7 hg.m.cls (by decide));refine L.va (J1 rfl) ?_;refine L.va (G0 rfl underlying153 rfl Jg0 (by decide)) ?_;refine L.kr1 hg (E4 cb rc) hX0 (.inr lcb) (by rw[hlen,hRm];exact Y1) P3 hO hli rfl rfl Jg0 (fun w hg do1=>?_);have G6:=G6.grown do1 (fun r e=>by cases e;exact⟨_,_,_,hR⟩);clear do1 P3 hO hli;refine U24 ?_;refine ZA.seq hZ ?_;by_cases Ey0:fv i= .nilFunc
  ·refine ZA.W hZ hb ?_;refine U193 ?_;refine L.va (o8 (v:=fv i) (b:=true) rfl (.inl ⟨Ey0,rfl⟩) rfl underlying73 ⟨_,_,_,rfl⟩) ?_;refine U307 ?_;refine U0 ?_;refine U281 ?_;refine L.va (G0 rfl underlying30 rfl wj0 (by decide)) ?_;refine L.va (A0 rfl underlying23 rfl (hg.m.run.E0 3 (v:=.slice (pt R.eb) R.m R.m) rfl)) ?_;refine L.va (m3 rfl) ?_;refine L.va (ae0 (i:=i) rfl rfl underlying23 z8 (by rw[hRm];exact Y1)) ?_;refine L.stE (i:=i) hg (by show i<R.m;rw[hRm];exact Y1) rfl rfl z8 (fun w hg P3=>?_);clear P3;refine U1 ?_;refine ZA.exit hZ rfl ?_;refine U132 ?_;exact ih (i+1) (by omega) _ _ w (hE.nil i X R w1 w _ _ cb rc Y1 hJ Ey0 lcb lrc hg) _ (by rw[<- hrb];rfl) rfl rfl rfl
  ·refine ZA.W hZ hb ?_;refine U193 ?_;obtain⟨f,fn,caps,hfv,hff,hbd,hnm⟩:=(hE.fn i Y1).resolve_left Ey0;refine L.va (o8 (v:=fv i) (b:=false) rfl (.inr ⟨_,_,_,hfv,rfl⟩) rfl underlying73 ⟨_,_,_,rfl⟩) ?_;refine U136 ?_;obtain⟨Nx0,ky0,gm0,V9,T2,hsh,hgo⟩:=hE.go i X R w1 w _ _ cb rc Y1 hJ Ey0 lcb lrc o3 G6 hg;refine ZA.upto hZ hb 3 rfl rfl (R:=fun e' w'=>ZA _ _ _ _ e' _ w') ?_ (fun _ _ h=>h);refine U301 ?_;refine U561 ?_;refine ZA.call (i:=3) (rest:=[]) hZ hb (f:=66) (args:=#[.pointer (some ⟨R.rb,8,none⟩),.i 1]) rfl rfl (Q3 rfl rfl func66 rfl Ph0 rfl) (fun a ha=>?_);have hXe:X.lower cb={X.lower cb with dn:=0}:=by show X.lower cb={X.lower cb with dn:=0};cases X;simp only[Gh.lower]at V9⊢;subst V9;rfl
   rw[hXe,hrb];refine Fin.Ha0 (G:=⟨rb0,8⟩) (X:=X.lower cb) (K:=fun g'=>g'=_) Nx0 ky0 gm0 (fun g' o7=>?_) _ _ _ (Tr0 ⟨rb0,8⟩ (fun g'=>g'=_) rfl);subst o7;refine ZA.home (i:=3) rfl rfl ha ?_;have hZ:Ctx.Zs prog (Fin prog Post {X.lower cb with pend:=1,cap:=(X.lower cb).cap+1,dn:=0} 0):=V4;refine U125 ?_;refine ZA.upto hZ hb 2 rfl rfl (R:=fun e' w'=>ZA _ _ _ _ e' _ w') ?_ (fun _ _ h=>h);refine U124 ?_;refine L.va dw0 ?_;refine U1 ?_;refine ZA.spawn (i:=2) (rest:=[]) (gr:=⟨rb0,8⟩) (vs:=#[.p cb,fv i]) (st:=[(⟨R.rb,7,none⟩,.chan (some R.yb))]) (K:=fun s=>s.ch=R.yb/\s.z= .i 0/\∀X' R' u v,J (i+1) X' R' u->Fin prog Post X' 0 (Go.Conc.served s.me v) u) (ft:=60) hb rfl (Wg.M7 (vl:=[.p cb,fv i]) rfl) rfl rfl Nx0 T2 ?_ ?_ ?_
   ·have hY:=wm0 (P:=prog) (main:=true) (l:=[((⟨R.rb,7,none⟩:Addr),Value.chan (some R.yb))]) (K:=fun s=>s.ch=R.yb/\s.z= .i 0/\∀X' R' u v,J (i+1) X' R' u->Fin prog Post X' 0 (Go.Conc.served s.me v) u);refine U295 ?_;refine U264 ?_;refine U252 ?_;refine I0.N1 (E:=3) (z:=.i 0) hb underlying150 zr3 rfl (fun me hs=>⟨rfl,rfl,?_⟩) rfl;intro X' R' w v hJ';refine hs.go ?_;have hZ:Ctx.Zs prog (Fin prog Post X' 0):=V4;refine U293 ?_;refine U132 ?_;exact ih (i+1) (by omega) X' R' w hJ' _ (by rw[<- hrb];rfl) rfl rfl rfl
   ·rintro s2 ⟨h1,_,_⟩;rw[h1];exact hsh
   ·rintro⟨ch,z,me⟩ ⟨h1,h2,h3⟩;cases h1;cases h2;exact hgo me h3
set_option maxRecDepth 20000 in
theorem Pp0 {rb0 m:Nat} {ba:Option Addr} {fv:Nat->Value} {Bs:Nat} {Post:Value->World->Prop} {cs:List Frame} {J:Nat->Gh->Rn->World->Prop} (hE:Wf0 rb0 m ba fv Bs Post cs J) (hm1:m <=1000) {bc:Nat} {X:Gh} {R:Rn} {w:World} (hJ:J 0 X R w):Fin prog Post X 0 (G (Frame.enter prog 76 #[.p rb0,.slice ba m bc] .normal) cs) w:=by
 obtain⟨hM,hrb,hlen,hRm,hBs,hU,ba0⟩:=hE.mem _ _ _ _ hJ;letI:Ctx prog:=j2 prog true;refine U316 ?_;intro hZ hb;rw[enter_at _ func76 rfl];rw[<- hrb];have hg:=hM.rg;refine(?_:ZA (Fin prog Post X 0) 50 (base 76) cs (Vc.y8 #[.p R.rb,.slice ba m bc]) [.code (Tryz.f76.body.getD .skip)] w) _ (J6 _ _ rfl);refine U0 ?_;refine U181 ?_;refine U205 ?_;refine U197 ?_;exact Kc0 hE hm1 m 0 (by omega) X R w hJ _ (by rw[<- hrb];rfl) rfl rfl rfl
end
section
attribute [local irreducible] KK
noncomputable def Ds0:Code:=match Tryz.f48.body with|some (.seq _ (.seq _ (.seq _ (.seq _ (.seq _ (.seq _ (.seq _ (.seq (.seq _ (.block _ (.loop c))) _))))))))=>c|_=>.skip
noncomputable def wq0:Code:=match Tryz.f48.body with|some (.seq _ (.seq _ (.seq _ (.seq _ (.seq _ (.seq _ (.seq _ (.seq _ c))))))))=>c|_=>.skip
def rn0 (rb yb eb wb m:Nat):Rn:=⟨rb,yb,eb,wb,m,none,0,[],none,0,[],none,0,[],List.replicate m 0,List.replicate m sp0,false,0⟩
def C7 (e:Int) (n:Nat):Nat:=(e%(n:Int)).toNat
theorem kh0 (e:Int) {n:Nat} (hn:0<n):C7 e n<n:=by
 refine U597 ?_;intro h1 h2;unfold C7;omega
theorem dp1 (e:Int) {n:Nat} (hn:0<n):(e.tmod (n:Int)+(n:Int)).tmod (n:Int)=((C7 e n:Nat):Int):=by
 refine U597 ?_;intro h1 h2;have h3:-(n:Int)<e.tmod (n:Int):=by
  have:=Int.lt_tmod_of_pos e (b:=(n:Int)) (by omega);omega
 have h4:((C7 e n:Nat):Int)=e%(n:Int):=by unfold C7;omega
 rw[h4,Int.tmod_eq_emod_of_nonneg (by omega),Int.add_emod_right];rw[Int.tmod_eq_emod];split
 ·simp
 ·rw[Int.sub_emod,Int.emod_emod];have:(((n:Int).natAbs:Int))%(n:Int)=0:=by simp
  rw[this,Int.sub_zero,Int.emod_emod]
theorem Pq0 (e:Int) {n:Nat} (hn:0<n) (h:n <=1000):-1000 <=e.tmod (n:Int)/\e.tmod (n:Int) <=1000:=by
 have h1:=Int.lt_tmod_of_pos e (b:=(n:Int)) (by omega);have h2:=Int.tmod_lt_of_pos e (b:=(n:Int)) (by omega);omega
structure Kd0 (rb0 m sn tb:Nat) (ba sa:Option Addr) (fv:Nat->Value) (sc:Nat->Int) (Bs:Nat) (Post:Value->World->Prop) (JB J2 JE:Nat->Gh->Rn->World->Prop) (rr:Nat->Nat->Bool):Prop where
 beg:∀cs,(∀X R w,JB m X R w->∀fr,fr.fn=76->Leaves prog fr w (.returned (.tuple #[]))->Fin prog Post X 0 (G fr cs) w)->Wf0 rb0 m ba fv Bs Post cs JB
 b2s:∀X R w,JB m X R w->J2 0 X R w
 ssl:SL sa sn
 mem:∀n X R w,J2 n X R w->k4 w Bs R/\R.rb=rb0/\R.cl.length=m/\Bs <=w.heap.size/\R.evs.length <=1000000/\R.used <=1000000/\(∀(i:Nat) (c:CB),R.cl[i]? =some c->c.n2 <=1000000)/\∀j,j<sn->w.cell? ⟨ab sa,ao sa+j*1,none⟩=some (.i (sc j))
 j0:∀n X R w w',J2 n X R w->Below w.heap.size w w'->J2 n X R w'
 rdy:∀n X R w,J2 n X R w->∀(i:Nat) (c:CB),R.cl[i]? =some c->c.wt=true->@wl0 (j2 prog true) w c.rf (rr n i)
 pick:∀n X R w i c,J2 n X R w->n<sn->(rdl R.cl (rr n) m)[C7 (sc n) (rdl R.cl (rr n) m).length]? =some i->R.cl[i]? =some c->∃g z1 me1,g≠0/\X.N1 g=some ⟨c.rc,z1,me1⟩/\X.dn=0/\X.stay 0=[(⟨R.rb,7,none⟩,.chan (some R.yb))]/\(X.B8 R.yb/\∀i s2,i≠g->X.N1 i=some s2->s2.ch≠R.yb) /\
  ∀w' a nn me0,Rg R.fp w.heap.size w w' Bs {R with ea:=a,ec:=nn,evs:=R.evs ++ [(i,c.sp)],used:=R.used+1,cl:=R.cl.set i {c with n2:=c.n2+1,wt:=false}}->(∀X' R' u v,J2 (n+1) X' R' u->Fin prog Post X' 0 (Go.Conc.served me0 v) u)->Fin prog Post (X.pass 0 g (some ⟨R.yb,.i 0,me0⟩)) g (Go.Conc.served me1 (.bool true)) w'
 toE:∀n X R w w' b,J2 n X R w->(n=sn\/rdl R.cl (rr n) m=[])->b=(R.cl.any (·.wt)&&(rdl R.cl (rr n) m).isEmpty)->Rg R.fp w.heap.size w w' Bs {R with stuck:=b}->JE 0 X {R with stuck:=b} w'
 en:∀ca cc cs,(∀X R w,JE m X R w->R.ca=ca->R.cc=cc->∀fr,fr.fn=80->Leaves prog fr w (.returned (.tuple #[]))->Fin prog Post {X with pend:=0,cap:=0,dn:=0} 0 (G fr cs) w)->Po0 rb0 m ca cc Bs Post cs (fun i X R w=>JE i X R w/\R.ca=ca/\R.cc=cc)
 ku1:∀X R w,JE m X R w->k4 w Bs R/\R.rb=rb0/\S1 w tb #[.slice none 0 0,.slice none 0 0,.slice none 0 0,.slice none 0 0,.bool false,.i 0] 30 (0,0)
abbrev Ke0 (R:Rn):Value:=.agg #[.slice R.ea R.evs.length R.ec,.slice R.na R.r2.length R.nc,.slice (pt R.eb) R.m R.m,.slice (pt R.wb) R.m R.m,.bool R.stuck,.i (R.used:Int)]
structure Pr0 (m tb:Nat) (Post:Value->World->Prop) (cs:List Frame) (JE:Nat->Gh->Rn->World->Prop):Prop where
 ret:∀X R w w' fr,JE m X R w->w.grownBy w' (some tb)->fr.fn=48->Leaves prog fr w' (.returned (.tuple #[Ke0 R,.i 0]))->Fin prog Post {X with pend:=0,cap:=0,dn:=0} 0 (G fr cs) w'
theorem nw0 {Z:Goroutine->World->Prop} {n:Nat} {cs:List Frame} {e:Env} {w:World} {t u b:Nat} {T E:TypeId} {fn:Func} {f:FuncId} {cells:Array Value} {d:TypeDesc} {v:Value} (hf:prog.funcs[f]? =some fn) (hr:fn.results=#[.cell t T,.tmp u]) (he:e t= .p b) (hu0:e u=v) (hT:prog.underlying T=some d) (hu:g7 d=false) (hB:O0 w b cells E) (hs:(prog.info? T).map (·.size)=some cells.size)
  (h:∀fr,fr.fn=f->Leaves prog fr w (.returned (.tuple #[.agg cells,v]))->Z (G fr cs) w):ZR Z n (base f) cs e w:=by
 intro todo a ha;letI:Ctx prog:=j2 prog true;have h1:ends prog fn (fun v' w'=>v'= .tuple #[.agg cells,v]/\w'=w) .ret e w:=ends.we0 (.inr rfl) hr he hT hu hs hB ⟨by rw[hu0],rfl⟩;obtain⟨_,v',h2,h3,h4⟩:=h1;subst h3;refine h _ rfl ⟨rfl,ha.defers,rfl,fn,hf,?_⟩;exact h2 _ ha.get
noncomputable def Ps0:Code:=match wq0 with| .seq _ (.seq _ c)=>c|_=>.skip
theorem Kf0 {l:List Nat} (n:Nat) (h:l.length=n:=by rfl):decide (((n:Nat):Int)=0)=l.isEmpty:=by
 subst h;cases l <;> simp
 omega
theorem Wg0 {cl:List CB} {r:Nat->Bool} {m j i:Nat} (h:(rdl cl r m)[j]? =some i):∃c,cl[i]? =some c:=by
 have:=List.mem_of_getElem? h;simp only[rdl,List.mem_filter,Bool.and_eq_true]at this;cases hc:cl[i]? with
 |none=>rw[hc]at this;simp at this
 |some c=>exact⟨c,rfl⟩
theorem Kg0 {cl:List CB} {r:Nat->Bool} {m j i:Nat} {c:CB} (h:(rdl cl r m)[j]? =some i) (hc:cl[i]? =some c):((rdl cl r m).map (Jn0 cl))[j]? =some (.p c.cb):=by
 rw[List.getElem?_map,h];simp[Jn0,hc]
set_option maxRecDepth 20000 in
theorem Pt0 {rb0 m sn tb:Nat} {ba sa:Option Addr} {fv:Nat->Value} {sc:Nat->Int} {Bs:Nat} {Post:Value->World->Prop} {cs:List Frame} {JB J2 JE:Nat->Gh->Rn->World->Prop} {rr:Nat->Nat->Bool} (hE:Kd0 rb0 m sn tb ba sa fv sc Bs Post JB J2 JE rr) (hT:Pr0 m tb Post cs JE) {X:Gh} {R:Rn} {w:World} (hJ:JE m X R w) {e:Env} {ops:Array Oper} (s6:e 6= .p rb0) (s4:e 4= .p tb):ZA (Fin prog Post {X with pend:=0,cap:=0,dn:=0} 0) 83 (base 48) cs e [.inRegion ops [],.code Ps0] w:=by
 obtain⟨hM,hrb,hT0⟩:=hE.ku1 _ _ _ hJ;letI:Ctx prog:=j2 prog true;have hZ:Ctx.Zs prog (Fin prog Post {X with pend:=0,cap:=0,dn:=0} 0):=V4;have hb:=A1 48;rw[<- hrb]at s6;rw[V0 s6,V0 s4];clear s6 s4;refine ZA.u3 hZ ?_;refine U0 ?_;refine U281 ?_;refine L.va (j1 (cs:=[.slice R.ea R.evs.length R.ec,.slice R.na R.r2.length R.nc,.slice (pt R.eb) R.m R.m,.slice (pt R.wb) R.m R.m,.bool R.stuck,.i (R.used:Int)]) rfl underlying30 rfl df0 rfl (hM.run.J4 rfl)) ?_;refine L.put (b:=tb) (o:=0) (s:=6) (vs:=[.slice R.ea R.evs.length R.ec,.slice R.na R.r2.length R.nc,.slice (pt R.eb) R.m R.m,.slice (pt R.wb) R.m R.m,.bool R.stuck,.i (R.used:Int)]) #[.slice R.ea R.evs.length R.ec,.slice R.na R.r2.length R.nc,.slice (pt R.eb) R.m R.m,.slice (pt R.wb) R.m R.m,.bool R.stuck,.i (R.used:Int)] rfl rfl rfl df0 rfl rfl hT0 (Nat.le_of_ble_eq_true rfl) rfl (fun w2 hB P3 I2=>?_);refine U200 ?_;refine ZA.ret hZ ?_;exact nw0 (u:=5) (v:=.i 0) func48 rfl rfl rfl underlying30 rfl hB df0 (fun fr h8 h9=>hT.ret X R w w2 fr hJ P3 h8 h9)
set_option maxRecDepth 20000 in
theorem zc0 {rb0 m sn tb:Nat} {ba sa:Option Addr} {fv:Nat->Value} {sc:Nat->Int} {Bs:Nat} {Post:Value->World->Prop} {cs:List Frame} {JB J2 JE:Nat->Gh->Rn->World->Prop} {rr:Nat->Nat->Bool} (hE:Kd0 rb0 m sn tb ba sa fv sc Bs Post JB J2 JE rr) (hT:Pr0 m tb Post cs JE) (hm1:m <=16) (_hs1:sn <=1000000) {n:Nat} {X:Gh} {R:Rn} {w:World} (hJ:J2 n X R w) (hn:n=sn\/rdl R.cl (rr n) m=[]) {e:Env} (s6:e 6= .p rb0) (s4:e 4= .p tb):ZA (Fin prog Post X 0) 83 (base 48) cs e [.code wq0] w:=by
 obtain⟨hM,hrb,hlen,hBs,hev,hus,hpk,ba0⟩:=hE.mem _ _ _ _ hJ;letI:Ctx prog:=j2 prog true;refine U203 ?_;intro hZ hb;rw[<- hrb]at s6;rw[V0 s6,V0 s4];clear s6 s4;have hg:=hM.rg;refine U66 ?_;refine L.va (W3 rfl) ?_;refine L.call (C2 rfl func79 rfl ke1 rfl) (Bn0 R Bs w hM (by omega)) ?_;rintro _ w1 ⟨rfl,hw⟩;refine U19 ?_;by_cases Pu0:R.cl.any (·.wt)=true
 ·rw[Pu0];refine U414 ?_;refine L.on rfl ?_;refine L.call (C2 rfl func77 rfl ck1 rfl) (tq0 R Bs w hM (by omega) (rr n) (hE.rdy n X R w hJ)) ?_;rintro _ w2 ⟨la,lc,rfl,hO,P1⟩;rw[hlen];have hg:=hg.j0 P1;refine L.on rfl ?_;refine L.va (S6 rfl underlying151 rfl) ?_;refine U116 ?_;refine L.va (E8 rfl) ?_;refine U570 ?_;refine L.stR (o:=5) (vs:=[.bool (decide ((((rdl R.cl (rr n) m).length:Nat):Int)=0))]) hg (decide ((((rdl R.cl (rr n) m).length:Nat):Int)=0)) R.used rfl rfl rfl sz4 rfl rfl (by decide) rfl (fun w hg P3=>?_);clear P3;refine U1 ?_;have hJE:=hE.toE n X R _ w _ hJ hn (by rw[Pu0,Bool.true_and];exact Kf0 _) hg;refine ZA.seq hZ ?_;refine ZA.upto hZ hb 1 rfl rfl (R:=fun e' w'=>ZA _ _ _ _ e' _ w') ?_ (fun _ _ h=>h);refine U124 ?_;refine U513 ?_;intro a ha;rw[hrb];refine Dq0 (hE.en R.ca R.cc _ (fun X' R' u hJ' hca hcc fr h8 h9=>?_)) (by omega) ⟨hJE,rfl,rfl⟩;exact U519
 ·rw[show R.cl.any (·.wt)=false by simpa using Pu0];refine U199 ?_;refine L.va (u7 rfl) ?_;refine U570 ?_;refine L.stR (o:=5) (vs:=[.bool false]) hg false R.used rfl rfl rfl sz4 rfl rfl (by decide) rfl (fun w hg P3=>?_);clear P3;refine U1 ?_;have hJE:=hE.toE n X R _ w _ hJ hn (by rw[show R.cl.any (·.wt)=false by simpa using Pu0];rfl) hg;refine ZA.seq hZ ?_;refine ZA.upto hZ hb 1 rfl rfl (R:=fun e' w'=>ZA _ _ _ _ e' _ w') ?_ (fun _ _ h=>h);refine U124 ?_;refine U513 ?_;intro a ha;rw[hrb];refine Dq0 (hE.en R.ca R.cc _ (fun X' R' u hJ' hca hcc fr h8 h9=>?_)) (by omega) ⟨hJE,rfl,rfl⟩;exact U519
set_option maxRecDepth 20000 in
theorem Kh0 {rb0 m sn tb:Nat} {ba sa:Option Addr} {fv:Nat->Value} {sc:Nat->Int} {Bs:Nat} {Post:Value->World->Prop} {cs:List Frame} {JB J2 JE:Nat->Gh->Rn->World->Prop} {rr:Nat->Nat->Bool} (hE:Kd0 rb0 m sn tb ba sa fv sc Bs Post JB J2 JE rr) (hT:Pr0 m tb Post cs JE) (hm1:m <=16) (hs1:sn <=1000000) {scp:Nat}:∀(k n:Nat),n+k=sn->∀X R w,J2 n X R w->∀e:Env,e 6= .p rb0->e 39= .slice sa sn scp->e 40= .i (sn:Int)->e 41= .i (n:Int)->e 4= .p tb->e 1= .slice sa sn scp->ZA (Fin prog Post X 0) 83 (base 48) cs e [.code Ds0,.inLoop Ds0,.inBlock 0,.code wq0] w:=by
 intro k
 induction k with
 |zero=>
  intro n hk X R w hJ e s6 s39 s40 s41 s4 s1;obtain⟨hM,hrb,hlen,hBs,hev,hus,hpk,ba0⟩:=hE.mem _ _ _ _ hJ;letI:Ctx prog:=j2 prog true;refine U203 ?_;intro hZ hb;rw[<- hrb]at s6;refine U506 ?_;refine U99 ?_;refine U278 ?_;obtain rfl:n=sn:=by omega
  exact zc0 hE hT hm1 hs1 hJ (.inl rfl) (by rw[<- hrb];rfl) rfl
 |succ k ih=>
  intro n hk X R w hJ e s6 s39 s40 s41 s4 s1;obtain⟨hM,hrb,hlen,hBs,hev,hus,hpk,ba0⟩:=hE.mem _ _ _ _ hJ;letI:Ctx prog:=j2 prog true;refine U203 ?_;intro hZ hb;rw[<- hrb]at s6;refine U506 ?_;have Y1:n<sn:=by omega
  refine U99 ?_;refine U314 ?_;refine U0 ?_;refine L.va (S3 (i:=n) rfl rfl underlying23 z8 hE.ssl Y1) ?_;refine L.va (A0 (v:=.i (sc n)) rfl underlying3 rfl (ba0 n Y1)) ?_;refine U200 ?_;refine U66 ?_;refine L.call (C2 rfl func77 rfl ck1 rfl) (tq0 R Bs w hM (by omega) (rr n) (hE.rdy n X R w hJ)) ?_;rintro _ w2 ⟨la,lc,rfl,hO,P1⟩;rw[hlen]at hO⊢;have hJ:=hE.j0 n X R w w2 hJ P1;clear hM hBs ba0 P1;clear hev hus hpk;obtain⟨hM,_,_,hBs,hev,hus,hpk,ba0⟩:=hE.mem _ _ _ _ hJ;refine L.va (cu0 rfl) ?_;refine U24 ?_;refine U0 ?_;refine U576 ?_;refine L.va (H2 rfl rfl) ?_;refine U1 ?_;by_cases hnl:(rdl R.cl (rr n) m).length=0
  ·refine ZA.Q4 hZ (rb (decide_eq_true (by omega))) ?_;refine ZA.exit hZ rfl ?_;exact zc0 hE hT hm1 hs1 hJ (.inr (List.eq_nil_of_length_eq_zero hnl)) (by rw[<- hrb];rfl) rfl
  ·refine ZA.r6 hZ (rb (decide_eq_false (by omega))) ?_;refine U319 ?_;refine U576 ?_;refine U200 ?_;have hln:(rdl R.cl (rr n) m).length <=16:=Nat.le_trans (Bm0 m) hm1;have htb:=Pq0 (sc n) (n:=(rdl R.cl (rr n) m).length) (by omega) (by omega);have hpl:=kh0 (sc n) (n:=(rdl R.cl (rr n) m).length) (by omega);obtain⟨i,hi⟩:∃i,(rdl R.cl (rr n) m)[C7 (sc n) (rdl R.cl (rr n) m).length]? =some i:=⟨_,List.getElem?_eq_getElem hpl⟩
   obtain⟨c,hc⟩:=Wg0 hi;refine ZA.upto hZ hb 11 rfl rfl (R:=fun e' w'=>ZA _ _ _ _ e' _ w') ?_ (fun _ _ h=>h);refine U124 ?_;refine U28 ?_;refine L.va (m3 rfl) ?_;refine L.va (lc0 rfl rfl (by omega)) ?_;refine L.va (m3 rfl) ?_;refine L.va (ey0 rfl rfl (by omega)) ?_;refine L.va (m3 rfl) ?_;refine L.va (v:=.i ((C7 (sc n) (rdl R.cl (rr n) m).length:Nat):Int)) (by rw[<- dp1 (sc n) (n:=(rdl R.cl (rr n) m).length) (by omega)];exact lc0 rfl rfl (by omega)) ?_;refine L.va (S3 (i:=C7 (sc n) (rdl R.cl (rr n) m).length) rfl rfl underlying151 Jd0 hO.sl hpl) ?_;refine L.va (A0 (v:=.p c.cb) rfl underlying91 rfl (by rw[hO.off,Nat.zero_add,Nat.mul_one];exact hO.cell (Kg0 hi hc))) ?_;refine U1 ?_;obtain⟨g,z1,me1,F9,hX0,V9,T2,hsh,e7⟩:=hE.pick n X R w2 i c hJ Y1 hi hc;refine ZA.call (i:=11) (rest:=[]) hZ hb (f:=78) (args:=#[.p R.rb,.p c.cb]) rfl rfl (Q3 rfl rfl func78 rfl kd1 rfl) (fun a ha=>?_);refine Jz0 hM.rg hBs hc hev (hpk i c hc) hus F9 hX0 V9 T2 hsh (fun w' a' nn me0 hg hme=>e7 w' a' nn me0 hg (fun X' R' u v hJ'=>hme _ V4 u v fun fr h8 h9=>?_));refine ZA.back (cc0 prog Post X' 0) (i:=11) rfl rfl ha h9 ?_;have hZ:Ctx.Zs prog (Fin prog Post X' 0):=V4;refine U293 ?_;refine U132 ?_;exact ih (n+1) (by omega) X' R' u hJ' _ (by rw[<- hrb];rfl) rfl rfl rfl rfl rfl
end
section
attribute [local irreducible] KK
theorem Ki0 (m:Nat):(Array.replicate (m*1) (Value.i 0))=((List.replicate m (0:Int)).map (Value.int .i64)).toArray:=by
 rw[Nat.mul_one];apply Array.toList_inj.1;simp
theorem Kj0 (m:Nat):(Array.replicate (m*3) (Value.i 0))=((List.replicate m sp0).flatMap spC).toArray:=by
 apply Array.toList_inj.1;simp only[Array.toList_replicate]
 induction m with
 |zero=>rfl
 |succ m ih=>
  rw[List.replicate_succ,List.flatMap_cons,<- ih,Nat.succ_mul,Nat.add_comm (m*3) 3,<- List.replicate_append_replicate];rfl
structure Tu0 (w0 w:World) (rb yb eb wb tb m:Nat):Prop where
 mem:k4 w w0.heap.size (rn0 rb yb eb wb m)
 low:Below w0.heap.size w0 w
 le:w0.heap.size <=rb/\w0.heap.size <=yb/\w0.heap.size <=eb/\w0.heap.size <=wb/\w0.heap.size <=tb
 yb:w.heap[yb]? =some nothing
 tb:S1 w tb #[.slice none 0 0,.slice none 0 0,.slice none 0 0,.slice none 0 0,.bool false,.i 0] 30 (0,0)
theorem dq1 (x0:Option Nat):prog.built 153 [(2,.chan x0)]=some #[.slice none 0 0,.slice none 0 0,.slice none 0 0,.slice none 0 0,.slice none 0 0,.bool false,.i 0,.chan x0,.int .u64 0,.int .u32 0]:=by kernel_rfl
set_option maxRecDepth 20000 in
theorem Pv0 {ba sa:Option Addr} {m bc sn scp:Nat} {fv:Nat->Value} {sc:Nat->Int} {Post:Value->World->Prop} {cs:List Frame} {X:Gh} {w0:World} (hm1:m <=16) (hs1:sn <=262144) (hU:X.T9 w0.heap.size) (hpl:∀b,w0.heap.size <=b->X.k5 b= .all) (gm0:X.cap=0)
  (dr1:∀w4 rb yb eb wb tb,Tu0 w0 w4 rb yb eb wb tb m->∃JB J2 JE rr,Kd0 rb m sn tb ba sa fv sc w0.heap.size Post JB J2 JE rr/\Pr0 m tb Post cs JE/\JB 0 (wp0 X rb yb 8) (rn0 rb yb eb wb m) w4) :
  Fin prog Post X 0 (G (Frame.enter prog 48 #[.slice ba m bc,.slice sa sn scp] .normal) cs) w0:=by
 letI:Ctx prog:=j2 prog true;refine U203 ?_;intro hZ hb;rw[enter_at _ func48 rfl];refine(?_:ZA (Fin prog Post X 0) 83 (base 48) cs (Vc.y8 #[.slice ba m bc,.slice sa sn scp]) [.code (Tryz.f48.body.getD .skip)] w0) _ (J6 _ _ rfl);have hb0:Below w0.heap.size w0 w0:=Below.refl _ _;refine U0 ?_;refine L.alloc (cs:=#[.slice none 0 0,.slice none 0 0,.slice none 0 0,.slice none 0 0,.bool false,.i 0]) Bj0 rfl (fun w b4 F4=>?_);have lt4:=F4.lq hb0.size;have hb0:=P0 hb0 F4.below;have Y3:=F4.blk;refine L.va (ik0 rfl) ?_;refine U24 ?_;refine U0 ?_;refine U181 ?_;refine L.va (na0 rfl rfl) ?_;refine U586 ?_;refine U167 ?_;refine U0 ?_;refine U87 ?_;refine L.va (na0 rfl rfl) ?_;refine U586 ?_;refine U319 ?_;refine L.makeChan rfl underlying150 ⟨_,z8⟩ (fun w1 P1 G6 Wh0=>?_);obtain⟨yb,hyb⟩:∃yb,yb=w.heap.size:=⟨_,rfl⟩
 have Wi0:w0.heap.size <=yb:=by rw[hyb];exact hb0.size
 rw[<- hyb]at G6⊢;have hb0:=P0 hb0 P1;have Y3:=Y3.j0 P1;clear P1 Wh0 hyb
 rename World=>w
 refine L.va (C3 (parts:=[(2,.tmp 19)]) rfl (dq1 (some yb))) ?_;refine L.box (cs:=#[.slice none 0 0,.slice none 0 0,.slice none 0 0,.slice none 0 0,.slice none 0 0,.bool false,.i 0,.chan (some yb),.int .u64 0,.int .u32 0]) rfl rfl (fun w b21 F21=>?_);have Kk0:=F21.lq hb0.size;have hb0:=P0 hb0 F21.below;have Y3:=Y3.j0 F21.below;have G6:=G6.j0 F21.below;have ck0:=F21.blk;refine U309 ?_;refine U66 ?_;refine U181 ?_;refine L.make (m:=m) rfl rfl underlying23 in3 (z0:=.i 0) rfl (by decide) (by omega) (by omega) (fun w b25 F25=>?_);have kv1:=F25.lq hb0.size;have hb0:=P0 hb0 F25.below;have Y3:=Y3.j0 F25.below;have G6:=G6.j0 F25.below;have ck0:=ck0.j0 F25.below;have kg0:=F25.blk;have kg0:O0 w b25 (Array.replicate (m*1) (.i 0)) 3:=kg0;refine U114 ?_;refine L.va (G0 rfl underlying30 rfl wj0 (by decide)) ?_;refine L.pu 3 [.slice (pt b25) m m] #[.slice none 0 0,.slice none 0 0,.slice none 0 0,.slice (pt b25) m m,.slice none 0 0,.bool false,.i 0,.chan (some yb),.int .u64 0,.int .u32 0] wj0 ck0 (fun w Z0 hg I2=>?_);refine U560 ?_;intro Y3 G6;have kg0:=kg0.other hg (O0.ne kg0 ck0 (by decide));have hb0:=D3 hb0 hb0.size hg Kk0;have x6:=True.intro;have ck0:=Z0;clear x6;refine U1 ?_;refine U66 ?_;refine U181 ?_;refine L.make (m:=m) rfl rfl underlying28 bf1 (z0:=.i 0) rfl (by decide) (by omega) (by omega) (fun w b32 F32=>?_);have kw1:=F32.lq hb0.size;have hb0:=P0 hb0 F32.below;have Y3:=Y3.j0 F32.below;have G6:=G6.j0 F32.below;have ck0:=ck0.j0 F32.below;have kg0:=kg0.j0 F32.below;have Fn0:=F32.blk;have Fn0:O0 w b32 (Array.replicate (m*3) (.i 0)) 47:=Fn0;refine U114 ?_;refine L.va (G0 rfl underlying30 rfl Bi0 (by decide)) ?_;refine L.pu 4 [.slice (pt b32) m m] #[.slice none 0 0,.slice none 0 0,.slice none 0 0,.slice (pt b25) m m,.slice (pt b32) m m,.bool false,.i 0,.chan (some yb),.int .u64 0,.int .u32 0] Bi0 ck0 (fun w Z0 hg I2=>?_);refine U560 ?_;intro Y3 G6;have kg0:=kg0.other hg (O0.ne kg0 ck0 (by decide));have Fn0:=Fn0.other hg (O0.ne Fn0 ck0 (by decide));have hb0:=D3 hb0 hb0.size hg Kk0;have x6:=True.intro;have ck0:=Z0;clear x6;refine U1 ?_;have ck0:O0 w b21 (#[.slice none 0 0,.slice none 0 0,.slice none 0 0,.slice (pt b25) m m,.slice (pt b32) m m,.bool false,.i 0,.chan (some yb)] ++ #[.int .u64 0,.int .u32 0]) 153:=ck0;have o3:yb≠b21:=fun e=>by subst e;unfold ChanAt at G6;unfold O0 at ck0;rw[G6]at ck0;cases ck0
 refine ZA.begin gm0 (hU.mono Kk0) (hU.mono Wi0) (hpl _ Kk0) (hpl _ Wi0) G6 ck0 (Nat.zero_lt_succ _) rfl ?_;show ZA (Fin prog Post (wp0 X b21 yb 8) 0) _ _ _ _ _ (V1 (Y2 w yb nothing) b21 _ _ (7,8));have hX:X.T9 w0.heap.size:=hU;have hap:∀(b:Nat) (cs:Array Value) (T:TypeId),O0 w b cs T->T≠153->S1 (V1 (Y2 w yb nothing) b21 #[.slice none 0 0,.slice none 0 0,.slice none 0 0,.slice (pt b25) m m,.slice (pt b32) m m,.bool false,.i 0,.chan (some yb)] 153 (7,8)) b cs T (0,0):=fun b cs T h hT=>by
  have h1:b≠b21:=O0.ne h ck0 hT;have h2:yb≠b:=fun e=>by subst e;unfold ChanAt at G6;unfold O0 at h;rw[G6]at h;cases h
  unfold S1;rw[N7 h1,X5 _ _ h2];exact h
 have kx1:Tu0 w0 (V1 (Y2 w yb nothing) b21 #[.slice none 0 0,.slice none 0 0,.slice none 0 0,.slice (pt b25) m m,.slice (pt b32) m m,.bool false,.i 0,.chan (some yb)] 153 (7,8)) b21 yb b25 b32 b4 m:=by
  have I2:b21<(Y2 w yb nothing).heap.size:=by have:=ck0.lt;simpa [Y2]using this
  refine⟨⟨?_,Own.nil _ _ _ _,Own.nil _ _ _ _,Own.nil _ _ _ _,?_,?_,by simp[rn0],by simp[rn0],Nat.zero_le _,fun i c hc=>by simp[rn0]at hc⟩,⟨hb0.os,hb0.tape,hb0.output,by rw[S5];simpa [Y2]using hb0.size,fun k hk=>?_⟩,⟨Kk0,Wi0,kv1,kw1,lt4⟩,?_,hap _ _ _ Y3 (by decide)⟩
  ·simp[S1,V1,I2,rn0,Rn.cells]
  ·have:=hap _ _ _ kg0 (by decide);rw[Ki0]at this;exact this
  ·have:=hap _ _ _ Fn0 (by decide);rw[Kj0]at this;exact this
  ·rw[N7 (by omega),X5 _ _ (by omega)];exact hb0.block k hk
  ·rw[N7 o3];exact r7 w G6
 obtain⟨JB,J2,JE,rr,hE,hT,hJ0⟩:=dr1 _ _ _ _ _ _ kx1;generalize V1 (Y2 w yb nothing) b21 #[.slice none 0 0,.slice none 0 0,.slice none 0 0,.slice (pt b25) m m,.slice (pt b32) m m,.bool false,.i 0,.chan (some yb)] 153 (7,8)=w4 at *;have hZ:Ctx.Zs prog (Fin prog Post (wp0 X b21 yb 8) 0):=V4;refine ZA.seq hZ ?_;refine ZA.upto hZ hb 2 rfl rfl (R:=fun e' w'=>ZA _ _ _ _ e' _ w') ?_ (fun _ _ h=>h);refine U124 ?_;refine L.va (I7 rfl) ?_;refine U1 ?_;refine ZA.call (i:=2) (rest:=[]) hZ hb (f:=76) (args:=#[.p b21,.slice ba m bc]) rfl rfl (Q3 rfl rfl func76 rfl kc1 rfl) (fun a ha=>?_);refine Pp0 (hE.beg _ (fun X' R' u hJ' fr h8 h9=>?_)) (by omega) hJ0;have hZ:Ctx.Zs prog (Fin prog Post X' 0):=V4;refine ZA.back (cc0 prog Post X' 0) (i:=2) rfl rfl ha h9 ?_;refine U125 ?_;refine U0 ?_;refine U87 ?_;refine U205 ?_;refine U197 ?_;exact Kh0 hE hT hm1 (by omega) sn 0 (by omega) X' R' u (hE.b2s _ _ _ hJ') _ rfl rfl rfl rfl rfl rfl
end
end Go.Vy.Sc
end
section
namespace Go.Vy.Sc
open Go Go.Conc Go.Yc Go.RowKit Go.Proofs Go.Proofs.YtnifpkopeheodaaGreat Tryz
open Go.Vc Go.Wg
attribute [local irreducible] KK
structure Sys where
 S:Type
 L:Type
 m:Nat
 s0:S
 nil:Nat->Bool
 stp:Nat->L->Stp
 rdy:Nat->L->S->Bool
 beg:Nat->S->ix0 S L
 go:Nat->L->S->ix0 S L
 le:Nat->Gm->Gm->Prop
 Inv:S->Gm->World->(Nat->Prop)->Prop
 lb:Nat
 pl:Nat->V6
structure PR (Y:Sys) where
 s:Y.S
 ft:List (Y.L ⊕ Nat)
 evs:List (Nat×Stp)
 r2:List (Nat×Nat×Nte)
 outs:List (ix0 Y.S Y.L)
 who:List (Option Nat)
 used:Nat
def tell (i n:Nat) (l:List Nte):List (Nat×Nat×Nte):=l.map fun k=>(n,i,k)
namespace Sys
section
variable (Y:Sys)
def p0:PR Y:=⟨Y.s0,[],[],[],[],[],0⟩
def bgn (p:PR Y):PR Y:=if Y.nil p.ft.length then{p with ft:=p.ft ++ [.inr 1]} else
 {p with s:=(Y.beg p.ft.length p.s).s,ft:=p.ft ++ [(Y.beg p.ft.length p.s).K8],r2:=p.r2++tell p.ft.length p.evs.length (Y.beg p.ft.length p.s).r2,outs:=p.outs ++ [Y.beg p.ft.length p.s],who:=p.who ++ [none]}
def P4:Nat->PR Y
 |0=>Y.p0
 |n+1=>Y.bgn (P4 n)
def v5 (p:PR Y) (i:Nat):PR Y:=match p.ft[i]? with
 |some (.inl l)=>{p with s:=(Y.go i l p.s).s,ft:=p.ft.set i (Y.go i l p.s).K8,evs:=p.evs ++ [(i,Y.stp i l)],r2:=p.r2++tell i (p.evs.length+1) (Y.go i l p.s).r2,outs:=p.outs ++ [Y.go i l p.s],who:=p.who ++ [some i],used:=p.used+1}
 |_=>p
def B7 (p:PR Y) (i:Nat):Bool:=match p.ft[i]? with
 |some (.inl l)=>Y.rdy i l p.s
 |_=>false
def rds (p:PR Y):List Nat:=(List.range Y.m).filter (Y.B7 p)
def step (p:PR Y) (e:Int):PR Y:=match(Y.rds p)[C7 e (Y.rds p).length]? with
 |some i=>Y.v5 p i
 |none=>p
def pn (sc:Nat->Int):Nat->PR Y
 |0=>Y.P4 Y.m
 |n+1=>Y.step (pn sc n) (sc n)
def o0:ix0 Y.S Y.L:=⟨Y.s0,[],.inr 0⟩
def S4 (q:PR Y) (t:Nat):ix0 Y.S Y.L:=(q.outs[t]?).getD Y.o0
def sAt (q:PR Y):Nat->Y.S
 |0=>Y.s0
 |t+1=>(Y.S4 q t).s
def n2 (q:PR Y) (i t:Nat):Nat:=(q.who.take (t+1)).count (some i)
structure Le (p q:PR Y):Prop where
 outs:p.outs <+: q.outs
 who:p.who <+: q.who
theorem Le.refl (p:PR Y):Y.Le p p:=⟨List.prefix_refl _,List.prefix_refl _⟩
variable {Y}
theorem Le.trans {p q r:PR Y} (h:Y.Le p q) (h':Y.Le q r):Y.Le p r:=⟨h.outs.trans h'.outs,h.who.trans h'.who⟩
theorem Wj0 (p:PR Y):Y.Le p (Y.bgn p):=by
 unfold bgn;split
 ·exact⟨List.prefix_refl _,List.prefix_refl _⟩
 ·exact⟨List.prefix_append _ _,List.prefix_append _ _⟩
theorem Pw0 (p:PR Y) (i:Nat):Y.Le p (Y.v5 p i):=by
 unfold v5;split
 ·exact⟨List.prefix_append _ _,List.prefix_append _ _⟩
 ·exact Le.refl Y p
theorem le_step (p:PR Y) (e:Int):Y.Le p (Y.step p e):=by
 unfold step;split
 ·exact Pw0 p _
 ·exact Le.refl Y p
theorem Px0 {n k:Nat}:Y.Le (Y.P4 n) (Y.P4 (n+k)):=by
 induction k with
 |zero=>exact Le.refl Y _
 |succ k ih=>exact ih.trans (Wj0 _)
theorem Tv0 {sc:Nat->Int} {n k:Nat}:Y.Le (Y.pn sc n) (Y.pn sc (n+k)):=by
 induction k with
 |zero=>exact Le.refl Y _
 |succ k ih=>exact ih.trans (le_step _ _)
structure Ok (p:PR Y):Prop where
 s:p.s=Y.sAt p p.outs.length
 who:p.who.length=p.outs.length
 used:p.evs.length=p.used
theorem Wk0 {p q:PR Y} (h:Y.Le p q) {t:Nat} (ht:t <=p.outs.length):Y.sAt q t=Y.sAt p t:=by
 cases t with
 |zero=>rfl
 |succ t=>
  obtain⟨l,hl⟩:=h.outs;show(Y.S4 q t).s=(Y.S4 p t).s;unfold S4;rw[<- hl,List.getElem?_append_left (by omega)]
theorem ds1:Ok (Y.p0):=⟨rfl,rfl,rfl⟩
theorem Dt0 (p:PR Y) (o:ix0 Y.S Y.L) {q:PR Y} (hq:q.outs=p.outs ++ [o]):Y.sAt q (p.outs.length+1)=o.s:=by
 show(Y.S4 q p.outs.length).s=o.s;unfold S4;rw[hq];simp
theorem Ok.bgn {p:PR Y} (h:Ok p):Ok (Y.bgn p):=by
 unfold Sys.bgn;split
 ·exact⟨h.s,h.who,h.used⟩
 ·refine⟨?_,by simp[h.who],h.used⟩;simp only[List.length_append,List.length_cons,List.length_nil,Nat.zero_add];exact(Dt0 p _ rfl).symm
theorem Ok.v5 {p:PR Y} (h:Ok p) (i:Nat):Ok (Y.v5 p i):=by
 unfold Sys.v5;split
 ·refine⟨?_,by simp[h.who],by simp[h.used]⟩;simp only[List.length_append,List.length_cons,List.length_nil,Nat.zero_add];exact(Dt0 p _ rfl).symm
 ·exact h
theorem Ok.step {p:PR Y} (h:Ok p) (e:Int):Ok (Y.step p e):=by
 unfold Sys.step;split
 ·exact h.v5 _
 ·exact h
theorem wr0:∀n,Ok (Y.P4 n)
 |0=>ds1
 |n+1=>(wr0 n).bgn
theorem zd0 (sc:Nat->Int):∀n,Ok (Y.pn sc n)
 |0=>wr0 _
 |n+1=>(zd0 sc n).step _
theorem Py0 {p q:PR Y} (h:Ok p) (hl:Y.Le p q):Y.sAt q p.outs.length=p.s:=by rw[Wk0 hl (Nat.le_refl _),h.s]
theorem Kl0 {p q:PR Y} {o:ix0 Y.S Y.L} {p':PR Y} (hp:p'.outs=p.outs ++ [o]) (hl:Y.Le p' q):Y.S4 q p.outs.length=o:=by
 obtain⟨l,hl⟩:=hl.outs;unfold S4;rw[<- hl,hp,List.append_assoc,List.getElem?_append_right (Nat.le_refl _)];simp
theorem T5:∀n,(Y.P4 n).ft.length=n
 |0=>rfl
 |n+1=>by
  show(Y.bgn (Y.P4 n)).ft.length=n+1;unfold bgn;split <;> simp[T5 n]
theorem Km0 (p:PR Y) (i:Nat):(Y.v5 p i).ft.length=p.ft.length:=by
 unfold v5;split <;> simp
theorem Kn0 (p:PR Y) (e:Int):(Y.step p e).ft.length=p.ft.length:=by
 unfold step;split
 ·exact Km0 p _
 ·rfl
def Reach (Y:Sys) (p:PR Y):Prop:=(∃n,n <=Y.m/\p=Y.P4 n)\/∃sc n,p=Y.pn sc n
theorem b9 (sc:Nat->Int):∀n,(Y.pn sc n).ft.length=Y.m
 |0=>T5 _
 |n+1=>(Kn0 _ _).trans (b9 sc n)
end
end Sys
structure LeOk (Y:Sys):Prop where
 refl:∀i a,Y.le i a a
 trans:∀i a b c,Y.le i a b->Y.le i b c->Y.le i a c
noncomputable def Sys.cfg (Y:Sys) (fb:Nat->FuncId) (q:PR Y) (w0:World) (i cb:Nat) (top:List Frame):L9 prog where
 S:=Y.S
 L:=Y.L
 stp:=Y.stp i
 rdy:=Y.rdy i
 go:=Y.go i
 out:=Y.S4 q
 sOf:=Y.sAt q
 n2:=Y.n2 q i
 le:=Y.le i
 gu:=fun a b=>∀j,j≠i->Y.le j a b
 Inv:=Y.Inv
 At:=fun t l=>t <=300000/\∃p:PR Y,Y.Reach p/\p.outs.length=t/\p.s=Y.sAt q t/\p.ft[i]? =some (.inl l)
 BAt:=fun t=>t <=300000/\∃p:PR Y,Y.Reach p/\p.outs.length=t/\p.s=Y.sAt q t/\p.ft.length=i
 num:=i
 ptr:=cb
 base:=w0
 lg0:=83
 Sz0:=none
 X3:=47
 Io0:=none
 Ip0:=fb i
 top:=top
structure Geo where
 gm:Gm
 gi:Nat->Nat
 ab:Nat->Nat
 eb:Nat->Nat
 top:Nat->List Frame
 pv:Nat->Nat->Prop
section
variable (Y:Sys)(fb:Nat->FuncId)(q:PR Y)(w0:World)(Γ:Geo)(X:Gh)(R:Rn)(w:World)
structure Wt (j:Nat) (c:CB) (l:Y.L):Prop where
 wt:c.wt=true
 st:c.st=false
 sp:c.sp=Y.stp j l
 he:S1 w (Γ.eb j) #[.bool false] 4 (0,0)
 node:∃(me:Goroutine) (cs:List Frame) (wn:World) (mn:Gm) (Fn:Nat->Prop) (Rdo:World->World->Prop),X.N1 (Γ.gi j)=some ⟨c.rc,.bool false,me⟩/\nu0 cs c.cb c.df me/\(Y.cfg fb q w0 j c.cb (Γ.top j)).ed0 wn mn Fn c.rf l/\FnV prog c.df /\
  (∀b,Γ.pv j b↔b<wn.heap.size/\wn.heap[b]? ≠some nothing/\¬Fn b)/\(∀b,Γ.pv j b->w.heap[b]? =wn.heap[b]?)/\wn.os=w0.os/\wn.output=w0.output/\wn.heap.size <=w.heap.size/\Y.le j mn Γ.gm /\
  (∀u F',(Y.cfg fb q w0 j c.cb (Γ.top j)).Goes wn mn Fn l u F'->Fb0 prog (Y.cfg fb q w0 j c.cb (Γ.top j)).T4 c.df u (Rdo u)) /\
  (∀u F' u2,(Y.cfg fb q w0 j c.cb (Γ.top j)).Goes wn mn Fn l u F'->Rdo u u2->u2.tape=u.tape->∀fr,fr.fn=83->Leaves prog fr u2 (.returned (.tuple #[]))->Y8 (Y.cfg fb q w0 j c.cb (Γ.top j)) (G fr cs) u2) /\
  (∀u F',(Y.cfg fb q w0 j c.cb (Γ.top j)).I5 wn mn Fn u F'->gh u 2=1->∀fr ch,fr.fn=83->cj0 ch->Leaves prog fr u (.panicked ch)->Y8 (Y.cfg fb q w0 j c.cb (Γ.top j)) (G fr cs) u)
structure Ck (j:Nat) (c:CB):Prop where
 top:Jw0 (Γ.top j) (Γ.ab j) (Γ.eb j) R.rb c.cb
 ha:S1 w (Γ.ab j) #[.p c.cb] 91 (0,0)
 he:∃en,S1 w (Γ.eb j) #[.bool en] 4 (0,0)
 dl0:0<Γ.gi j/\Γ.gi j<X.n
 stay:X.stay (Γ.gi j)=[(⟨c.cb,2,none⟩,.chan (some c.rc))]
 ch:X.B8 c.rc
def Cl1 (j:Nat) (c:CB) (f:Y.L ⊕ Nat):Prop :=
 (Y.nil j=true/\f= .inr 1/\c.wt=false/\R.ends[j]? =some 1)\/(Y.nil j=false/\match f with
  | .inl l=>Wt Y fb q w0 Γ X w j c l
  | .inr x=>c.wt=false/\R.ends[j]? =some (x:Int)/\X.N1 (Γ.gi j)=none)
variable (Mn:Nat->Option Obj)
structure Wl0:Prop where
 le:Y.lb <=w0.heap.size
 low:∀b,X.low b->Y.lb <=b
 pl:X.k5=Y.pl
structure Fix (hold:Option Nat) (ft:Nat->Option (Y.L ⊕ Nat)):Prop where
 mem:k4 w w0.heap.size R
 m:R.m=Y.m
 cl:∀j c,R.cl[j]? =some c->some j≠hold->∃f,ft j=some f/\Cl1 Y fb q w0 Γ X R w j c f
 ck:∀j c,R.cl[j]? =some c->Y.nil j=false->Ck Γ X R w j c
 fpB:∀b,R.fp b->w0.heap.size <=b
 side:∀j,j<R.cl.length->Y.nil j=false->w0.heap.size <=Γ.ab j/\w0.heap.size <=Γ.eb j/\¬R.fp (Γ.ab j)/\¬R.fp (Γ.eb j)
 pv:∀j b,Γ.pv j b->b<w.heap.size/\¬R.fp b/\¬Mn b≠none/\(∀k,k<R.cl.length->Y.nil k=false->b≠Γ.ab k/\b≠Γ.eb k)/\∀k,k≠j->¬Γ.pv k b
 mn:∀b,Mn b≠none->w.heap[b]? =Mn b/\¬R.fp b/\∀k,k<R.cl.length->Y.nil k=false->b≠Γ.ab k/\b≠Γ.eb k
 ki0:0<X.n
 os:hold=none->w.os=w0.os
 output:hold=none->w.output=w0.output
 size:w0.heap.size <=w.heap.size
 l3:X.l3=some ⟨R.rb,8⟩
 lk0:X.stay 0=[(⟨R.rb,7,none⟩,.chan (some R.yb))]
 chy:X.B8 R.yb
 n4:∀g s,g≠0->X.N1 g=some s->∃j c,R.cl[j]? =some c/\Y.nil j=false/\g=Γ.gi j/\s.ch=c.rc/\some j≠hold
 Br0:∀j k,j<R.cl.length->k<R.cl.length->Y.nil j=false->Y.nil k=false->Γ.gi j=Γ.gi k->j=k
 ud0:∀j k,j<R.cl.length->k<R.cl.length->Y.nil j=false->Y.nil k=false->Γ.eb j=Γ.eb k->j=k
 Fo0:∀j k c d,R.cl[j]? =some c->R.cl[k]? =some d->Y.nil j=false->Y.nil k=false->c.rc=d.rc->j=k
 ry:∀j c,R.cl[j]? =some c->Y.nil j=false->c.rc≠R.yb
 dn:X.dn=0
 pend:X.pend=0
 cap:X.cap <=R.cl.length
 under:X.T9 w.heap.size
 k5:∀b,w.heap.size <=b->X.k5 b= .all
 nx0:hold=none->X.N1 0=none
 base:Wl0 Y w0 X
end
section
variable {Y:Sys}{fb:Nat->FuncId}{q:PR Y}{Γ Γ':Geo}{X X':Gh}{R R':Rn}{w w':World}{Mn:Nat->Option Obj}{w0:World}{hold:Option Nat}{ft:Nat->Option (Y.L ⊕ Nat)}
def Kept (Y:Sys) (Γ:Geo) (R:Rn) (Mn:Nat->Option Obj) (b:Nat):Prop:=Mn b≠none\/(∃k,k<R.cl.length/\Y.nil k=false/\(b=Γ.ab k\/b=Γ.eb k))\/∃j,Γ.pv j b
theorem Wt.v5 {j:Nat} (hle:∀a b c,Y.le j a b->Y.le j b c->Y.le j a c) (hgm:Y.le j Γ.gm Γ'.gm) {c:CB} {l:Y.L} (h:Wt Y fb q w0 Γ X w j c l) (hb:∀b,Γ.pv j b->w'.heap[b]? =w.heap[b]?) (I2:w.heap.size <=w'.heap.size) (hs:X'.N1 (Γ.gi j)=X.N1 (Γ.gi j)) (he:w'.heap[Γ.eb j]? =w.heap[Γ.eb j]?) (hge:Γ'.eb j=Γ.eb j) (hg:Γ'.gi j=Γ.gi j) (ht:Γ'.top j=Γ.top j) (hp:Γ'.pv j=Γ.pv j):Wt Y fb q w0 Γ' X' w' j c l:=by
 obtain⟨h1,h2,h3,h4,me,cs,wn,mn,Fn,Rdo,a1,a2,a3,a4,a5,a6,a7,a8,a9,ale,a10,a11,a12⟩:=h;refine⟨h1,h2,h3,by rw[hge];exact he.trans h4,me,cs,wn,mn,Fn,Rdo,?_⟩;rw[hg,ht,hp,hs];exact⟨a1,a2,a3,a4,a5,fun b D8=>(hb b D8).trans (a6 b D8),a7,a8,Nat.le_trans a9 I2,hle _ _ _ ale hgm,a10,a11,a12⟩
theorem Cl1.v5 {j:Nat} (hle:∀a b c,Y.le j a b->Y.le j b c->Y.le j a c) (hgm:Y.le j Γ.gm Γ'.gm) {c:CB} {f:Y.L ⊕ Nat} (h:Cl1 Y fb q w0 Γ X R w j c f) (hb:∀b,Γ.pv j b->w'.heap[b]? =w.heap[b]?) (I2:w.heap.size <=w'.heap.size) (hs:Y.nil j=false->X'.N1 (Γ.gi j)=X.N1 (Γ.gi j)) (heb:Y.nil j=false->w'.heap[Γ.eb j]? =w.heap[Γ.eb j]?) (hge:Γ'.eb j=Γ.eb j) (hg:Γ'.gi j=Γ.gi j) (ht:Γ'.top j=Γ.top j) (hp:Γ'.pv j=Γ.pv j) (he:R'.ends[j]? =R.ends[j]?):Cl1 Y fb q w0 Γ' X' R' w' j c f:=by
 rcases h with⟨h1,h2,h3,h4⟩|⟨h1,h2⟩
 ·exact .inl ⟨h1,h2,h3,by rw[he];exact h4⟩
 ·refine .inr ⟨h1,?_⟩;cases f with
  |inl l=>exact Wt.v5 hle hgm h2 hb I2 (hs h1) (heb h1) hge hg ht hp
  |inr x=>exact⟨h2.1,by rw[he];exact h2.2.1,by rw[hg,hs h1];exact h2.2.2⟩
theorem Fix.v5 (hY:LeOk Y) (h:Fix Y fb q w0 Γ X R w Mn hold ft) (hM:k4 w' w0.heap.size R') (hrb:R'.rb=R.rb) (hyb:R'.yb=R.yb) (hm:R'.m=R.m) (hfp:∀b,R'.fp b->R.fp b\/w.heap.size <=b) (hlen:R'.cl.length=R.cl.length)
  (e7:∀j c',R'.cl[j]? =some c'->∃c,R.cl[j]? =some c/\c'.cb=c.cb/\c'.rc=c.rc/\(some j≠hold->c'=c/\R'.ends[j]? =R.ends[j]?)) (I2:w.heap.size <=w'.heap.size) (M8:∀b,b<w.heap.size->¬R.fp b->Kept Y Γ R Mn b->w'.heap[b]? =w.heap[b]?\/∃i en,hold=some i/\i<R.cl.length/\Y.nil i=false/\b=Γ.eb i/\S1 w' b #[.bool en] 4 (0,0)) (hos:hold=none->w'.os=w.os/\w'.output=w.output) :
  Fix Y fb q w0 Γ X R' w' Mn hold ft:=by
 have lt:∀j c',R'.cl[j]? =some c'->j<R.cl.length:=fun j c' hc=>by rw[<- hlen];exact(List.getElem?_eq_some_iff.1 hc).1
 have hpv:∀j b,Γ.pv j b->w'.heap[b]? =w.heap[b]?:=fun j b hb=>by
  have hp:=h.pv j b hb;rcases M8 b hp.1 hp.2.1 (.inr (.inr ⟨j,hb⟩))with z|⟨i,en,_,z1,z2,z3,_⟩
  ·exact z
  ·exact absurd z3 (hp.2.2.2.1 i z1 z2).2
 have heb:∀j,j<R.cl.length->Y.nil j=false->w'.heap[Γ.eb j]? =w.heap[Γ.eb j]?\/(hold=some j/\∃en,S1 w' (Γ.eb j) #[.bool en] 4 (0,0)):=fun j hj hn=>by
  obtain⟨en,he⟩:=(h.ck j _ (List.getElem?_eq_getElem hj) hn).he;rcases M8 _ he.lt (h.side j hj hn).2.2.2 (.inr (.inl ⟨j,hj,hn,.inr rfl⟩))with z|⟨i,en,z0,z1,z2,z3,z4⟩
  ·exact .inl z
  ·obtain rfl:=h.ud0 j i hj z1 hn z2 z3;exact .inr ⟨z0,en,z4⟩
 have ky1:∀j,j<R.cl.length->Y.nil j=false->some j≠hold->w'.heap[Γ.eb j]? =w.heap[Γ.eb j]?:=fun j hj hn hh=>by
  rcases heb j hj hn with z|⟨z,_⟩
  ·exact z
  ·exact absurd z.symm hh
 refine⟨hM,hm.trans h.m,fun j c' hc hj=>?_,fun j c' hc hn=>?_,fun b hb=>?_,fun j hj hn=>?_,fun j b hb=>?_,fun b hb=>?_,h.ki0,fun z=>(hos z).1.trans (h.os z),fun z=>(hos z).2.trans (h.output z),Nat.le_trans h.size I2,by rw[hrb];exact h.l3,by rw[hrb,hyb];exact h.lk0,by rw[hyb];exact h.chy,fun g s hg hs=>?_,by rw[hlen];exact h.Br0,by rw[hlen];exact h.ud0,fun j k c d hc hd hn hk e=>?_,fun j c' hc hn=>?_,h.dn,h.pend,by rw[hlen];exact h.cap,h.under.mono I2,fun b hb=>h.k5 b (Nat.le_trans I2 hb),h.nx0,h.base⟩
 ·obtain⟨c,hc0,_,_,h4⟩:=e7 j c' hc;obtain⟨rfl,h5⟩:=h4 hj;obtain⟨f,hf,h6⟩:=h.cl j c' hc0 hj;exact⟨f,hf,h6.v5 (hY.trans _) (hY.refl _ Γ.gm) (fun b hb=>hpv j b hb) I2 (fun _=>rfl) (fun hn=>ky1 j (lt j c' hc) hn hj) rfl rfl rfl rfl h5⟩
 ·obtain⟨c,hc0,hcb,hrc,_⟩:=e7 j c' hc;have hk:=h.ck j c hc0 hn;have hs:=h.side j (lt j c' hc) hn;refine⟨by rw[hrb,hcb];exact hk.top,?_,?_,hk.dl0,by rw[hcb,hrc];exact hk.stay,by rw[hrc];exact hk.ch⟩
  ·rw[hcb];rcases M8 _ hk.ha.lt hs.2.2.1 (.inr (.inl ⟨j,lt j c' hc,hn,.inl rfl⟩))with z|⟨i,en,_,z1,z2,z3,_⟩
   ·exact z.trans hk.ha
   ·obtain⟨en',he'⟩:=(h.ck i _ (List.getElem?_eq_getElem z1) z2).he;exact absurd z3 (S1.ne hk.ha he' (by decide))
  ·rcases heb j (lt j c' hc) hn with z|⟨_,z⟩
   ·obtain⟨en',he'⟩:=hk.he;exact⟨en',z.trans he'⟩
   ·exact z
 ·rcases hfp b hb with z|z
  ·exact h.fpB b z
  ·exact Nat.le_trans h.size z
 ·rw[hlen]at hj;have hs:=h.side j hj hn;obtain⟨c,hc⟩:∃c,R.cl[j]? =some c:=⟨_,List.getElem?_eq_getElem hj⟩
  have hk:=h.ck j c hc hn;exact⟨hs.1,hs.2.1,fun z=>by rcases hfp _ z with y|y;exact hs.2.2.1 y;have:=hk.ha.lt;omega,fun z=>by rcases hfp _ z with y|y;exact hs.2.2.2 y;have:=hk.he.choose_spec.lt;omega⟩
 ·have hp:=h.pv j b hb;exact⟨Nat.lt_of_lt_of_le hp.1 I2,fun z=>by rcases hfp _ z with y|y;exact hp.2.1 y;have:=hp.1;omega,hp.2.2.1,by rw[hlen];exact hp.2.2.2.1,hp.2.2.2.2⟩
 ·have hm':=h.mn b hb;have Y1:b<w.heap.size:=by
   rcases Nat.lt_or_ge b w.heap.size with z|z
   ·exact z
   ·exact absurd (hm'.1.symm.trans (Array.getElem?_eq_none z)) hb
  refine⟨?_,fun z=>by rcases hfp b z with y|y;exact hm'.2.1 y;omega,by rw[hlen];exact hm'.2.2⟩;rcases M8 b Y1 hm'.2.1 (.inl hb)with z|⟨i,en,_,z1,z2,z3,_⟩
  ·exact z.trans hm'.1
  ·exact absurd z3 (hm'.2.2 i z1 z2).2
 ·obtain⟨j,c,h1,h2,h3,h4,h5⟩:=h.n4 g s hg hs;have hj:j<R'.cl.length:=by rw[hlen];exact(List.getElem?_eq_some_iff.1 h1).1
  obtain⟨c',p7⟩:∃c',R'.cl[j]? =some c':=⟨_,List.getElem?_eq_getElem hj⟩
  obtain⟨c2,e1,_,e3,_⟩:=e7 j c' p7;rw[h1]at e1;obtain rfl:=Option.some.inj e1;exact⟨j,c',p7,h2,h3,by rw[e3];exact h4,h5⟩
 ·obtain⟨c2,e1,_,e3,_⟩:=e7 j c hc;obtain⟨d2,f1,_,f3,_⟩:=e7 k d hd;exact h.Fo0 j k c2 d2 e1 f1 hn hk (by rw[<- e3,<- f3];exact e)
 ·obtain⟨c2,e1,_,e3,_⟩:=e7 j c' hc;rw[e3,hyb];exact h.ry j c2 e1 hn
end
end Go.Vy.Sc
end
section
namespace Go.Vy.Sc
open Go Go.Conc Go.Yc Go.RowKit Go.Proofs Go.Proofs.YtnifpkopeheodaaGreat Tryz
open Go.Vc Go.Wg
section
attribute [local irreducible] KK
structure ny0 (Y:Sys):Prop extends LeOk Y where
 loc:∀s m (w w':World) F,Y.Inv s m w F->(∀b,F b->w'.heap[b]? =w.heap[b]?)->Y.Inv s m w' F
 vis:∀s m (w:World) F,Y.Inv s m w F->∀b,F b->b<w.heap.size/\w.heap[b]? ≠some nothing
section
variable {Y:Sys}{fb:Nat->FuncId}{q:PR Y}{Γ:Geo}{X:Gh}{R:Rn}{w:World}{Mn:Nat->Option Obj}{w0:World}{ft:Nat->Option (Y.L ⊕ Nat)}{i:Nat}
theorem fx0 {h j:Nat} {sh:Option c6} {g:Nat} (h1:g≠h) (h2:g≠j):(X.pass h j sh).N1 g=X.N1 g:=by
 show Go.ConcN.upd (Go.ConcN.upd X.N1 j none) h sh g=_;rw[Go.ConcN.upd_ne _ _ h1,Go.ConcN.upd_ne _ _ h2]
theorem G9 {h j:Nat} {sh:Option c6}:(X.pass h j sh).N1 h=sh:=Go.ConcN.upd_same _ _ _
theorem ll0 {h j:Nat} {sh:Option c6} (hj:j≠h):(X.pass h j sh).N1 j=none:=by
 show Go.ConcN.upd (Go.ConcN.upd X.N1 j none) h sh j=_;rw[Go.ConcN.upd_ne _ _ hj,Go.ConcN.upd_same]
def Geo.put (Γ:Geo) (i:Nat) (N:Nat->Prop):Geo:={Γ with pv:=fun j b=>if j=i then N b else Γ.pv j b}
def Geo.lw0 (Γ:Geo) (i:Nat) (N:Nat->Prop) (m:Gm):Geo:={Γ.put i N with gm:=m}
theorem jc0 {N:Nat->Prop} {m:Gm} {j:Nat} (h:j≠i):(Γ.lw0 i N m).pv j=Γ.pv j:=by funext b;simp[Geo.lw0,Geo.put,h]
theorem ws0 {N:Nat->Prop} {j:Nat} (h:j≠i):(Γ.put i N).pv j=Γ.pv j:=by funext b;simp[Geo.put,h]
theorem Fix.back (hY:LeOk Y) {m:Gm} (hm:∀j,j≠i->Y.le j Γ.gm m) (h:Fix Y fb q w0 Γ X R w Mn (some i) ft) (hn:Y.nil i=false) {c:CB} (hc:R.cl[i]? =some c) {N:Nat->Prop} (hN:∀b,N b->b<w.heap.size/\¬R.fp b/\¬Kept Y Γ R Mn b) {sh:Option c6} (hsh:∀s,sh=some s->s.ch=c.rc) {f:Y.L ⊕ Nat}
  (hf:Cl1 Y fb q w0 (Γ.lw0 i N m) (X.pass (Γ.gi i) 0 sh) R w i c f) (hos:w.os=w0.os/\w.output=w0.output):Fix Y fb q w0 (Γ.lw0 i N m) (X.pass (Γ.gi i) 0 sh) R w Mn none (fun j=>if j=i then some f else ft j):=by
 have hi:=(List.getElem?_eq_some_iff.1 hc).1;have hg:=(h.ck i c hc hn).dl0;have F9:Γ.gi i≠0:=by omega
 refine⟨h.mem,h.m,fun j c' p7 _=>?_,fun j c' p7 hn'=>?_,h.fpB,h.side,fun j b hb=>?_,h.mn,h.ki0,fun _=>hos.1,fun _=>hos.2,h.size,h.l3,h.lk0,h.chy,fun g s o7 hs=>?_,h.Br0,h.ud0,h.Fo0,h.ry,h.dn,h.pend,h.cap,⟨h.under.stay,h.under.G4,h.under.B8,h.under.l3,h.under.low⟩,h.k5,fun _=>ll0 F9.symm,⟨h.base.le,h.base.low,h.base.pl⟩⟩
 ·by_cases hj:j=i
  ·subst hj;rw[hc]at p7;obtain rfl:=Option.some.inj p7;exact⟨f,by simp,hf⟩
  ·obtain⟨f',h1,h2⟩:=h.cl j c' p7 (by simpa using hj);have hjl:=(List.getElem?_eq_some_iff.1 p7).1;refine⟨f',by simp[hj,h1],h2.v5 (Γ':=Γ.lw0 i N m) (hY.trans _) (hm j hj) (fun _ _=>rfl) (Nat.le_refl _) (fun e8=>fx0 (fun e=>hj (h.Br0 j i hjl hi e8 hn e)) ?_) (fun _=>rfl) rfl rfl rfl (jc0 hj) rfl⟩;have:=(h.ck j c' p7 e8).dl0;omega
 ·have:=h.ck j c' p7 hn';exact⟨this.top,this.ha,this.he,this.dl0,this.stay,this.ch⟩
 ·by_cases hj:j=i
  ·subst hj;have D8:N b:=by simpa [Geo.lw0,Geo.put]using hb
   obtain⟨h1,h2,h3⟩:=hN b D8;refine⟨h1,h2,fun z=>h3 (.inl z),fun k hk hnk=>⟨fun e=>h3 (.inr (.inl ⟨k,hk,hnk,.inl e⟩)),fun e=>h3 (.inr (.inl ⟨k,hk,hnk,.inr e⟩))⟩,fun k hk hp=>?_⟩;rw[jc0 hk]at hp;exact h3 (.inr (.inr ⟨k,hp⟩))
  ·rw[jc0 hj]at hb;obtain⟨h1,h2,h3,h4,h5⟩:=h.pv j b hb;refine⟨h1,h2,h3,h4,fun k hk hp=>?_⟩;by_cases z9:k=i
   ·subst z9;have D8:N b:=by simpa [Geo.lw0,Geo.put]using hp
    exact(hN b D8).2.2 (.inr (.inr ⟨j,hb⟩))
   ·rw[jc0 z9]at hp;exact h5 k hk hp
 ·by_cases hgi:g=Γ.gi i
  ·subst hgi;rw[G9]at hs;exact⟨i,c,hc,hn,rfl,hsh s hs,by simp⟩
  ·rw[fx0 hgi o7]at hs;obtain⟨j,c',h1,h2,h3,h4,_⟩:=h.n4 g s o7 hs;exact⟨j,c',h1,h2,h3,h4,by simp⟩
theorem Fix.dt1 (hY:LeOk Y) (h:Fix Y fb q w0 Γ X R w Mn none ft) (hn:Y.nil i=false) {c:CB} (hc:R.cl[i]? =some c) {s0:c6}:Fix Y fb q w0 (Γ.put i fun _=>False) (X.pass 0 (Γ.gi i) (some s0)) R w Mn (some i) ft:=by
 have hi:=(List.getElem?_eq_some_iff.1 hc).1;have hg:=(h.ck i c hc hn).dl0;have F9:Γ.gi i≠0:=by omega
 refine⟨h.mem,h.m,fun j c' p7 hj'=>?_,fun j c' p7 hn'=>?_,h.fpB,h.side,fun j b hb=>?_,h.mn,h.ki0,fun z=>by simp at z,fun z=>by simp at z,h.size,h.l3,h.lk0,h.chy,fun g s o7 hs=>?_,h.Br0,h.ud0,h.Fo0,h.ry,h.dn,h.pend,h.cap,⟨h.under.stay,h.under.G4,h.under.B8,h.under.l3,h.under.low⟩,h.k5,(fun z=>by simp at z),⟨h.base.le,h.base.low,h.base.pl⟩⟩
 ·have hj:j≠i:=by simpa using hj'
  obtain⟨f',h1,h2⟩:=h.cl j c' p7 (by simp);have hjl:=(List.getElem?_eq_some_iff.1 p7).1;refine⟨f',h1,h2.v5 (Γ':=Γ.put i fun _=>False) (hY.trans _) (hY.refl _ Γ.gm) (fun _ _=>rfl) (Nat.le_refl _) (fun e8=>fx0 ?_ (fun e=>hj (h.Br0 j i hjl hi e8 hn e))) (fun _=>rfl) rfl rfl rfl (ws0 hj) rfl⟩;have:=(h.ck j c' p7 e8).dl0;omega
 ·have:=h.ck j c' p7 hn';exact⟨this.top,this.ha,this.he,this.dl0,this.stay,this.ch⟩
 ·by_cases hj:j=i
  ·subst hj;simp[Geo.put]at hb
  ·rw[ws0 hj]at hb;obtain⟨h1,h2,h3,h4,h5⟩:=h.pv j b hb;refine⟨h1,h2,h3,h4,fun k hk hp=>?_⟩;by_cases z9:k=i
   ·subst z9;simp[Geo.put]at hp
   ·rw[ws0 z9]at hp;exact h5 k hk hp
 ·by_cases hgi:g=Γ.gi i
  ·subst hgi;rw[ll0 F9]at hs;cases hs
  ·rw[fx0 o7 hgi]at hs;obtain⟨j,c',h1,h2,h3,h4,_⟩:=h.n4 g s o7 hs;refine⟨j,c',h1,h2,h3,h4,?_⟩;intro e;obtain rfl:j=i:=by simpa using e
   exact hgi h3
structure Main (Y:Sys) (fb:Nat->FuncId) (q:PR Y) (w0:World) (Γ:Geo) (X:Gh) (R:Rn) (w:World) (Mn:Nat->Option Obj) (ft:Nat->Option (Y.L ⊕ Nat)) (s:Y.S):Prop where
 fix:Fix Y fb q w0 Γ X R w Mn none ft
 inv:∃F,Y.Inv s Γ.gm w F/\∀b,F b->¬R.fp b/\¬Kept Y Γ R Mn b
def kj0 {L:Type} (e:List Int) (i:Nat):L ⊕ Nat->List Int
 | .inl _=>e
 | .inr x=>e.set i (x:Int)
def Rel (R0 R':Rn) (i:Nat) (r2:List (Nat×Nat×Nte)) (ends:List Int):Prop:=∃na nc c c',R0.cl[i]? =some c/\c'.n2=c.n2/\R'={R0 with na:=na,nc:=nc,r2:=r2,cl:=R0.cl.set i c',ends:=ends}
structure c9 (Y:Sys) (fb:Nat->FuncId) (q:PR Y) (w0:World) (Γ:Geo) (X:Gh) (Mn:Nat->Option Obj) (ft:Nat->Option (Y.L ⊕ Nat)) (i t at_ cb:Nat) (n0:List (Nat×Nat×Nte)) (R0 R:Rn) (H:Hid) (v:World):Prop where
 fix:Fix Y fb q w0 Γ X R (over H v) Mn (some i) ft
 G4:k7 H v
 no:∀b o,H b=some o->v.heap[b]? =some nothing
 all:∀b,(R.fp b\/Kept Y Γ R Mn b)->H b≠none
 tq:gh v 0=t
 gmq:gm v=Γ.gm
 atq:R.evs.length=at_
 cl:∃c,R.cl[i]? =some c/\c.cb=cb/\((gh v 2=0/\c.st=false/\R.r2=n0++tell i at_ ((Y.S4 q t).r2.take (gh v 1))/\c.n2=Y.n2 q i t)\/(gh v 2=1/\c.st=true/\R.r2=n0))
 rel:∃na nc r2,R={R0 with na:=na,nc:=nc,r2:=r2}
 nil:Y.nil i=false
 he:S1 (over H v) (Γ.eb i) #[.bool false] 4 (0,0)
theorem c9.il {Y:Sys} {fb:Nat->FuncId} {q:PR Y} {w0:World} {Γ:Geo} {X:Gh} {Mn:Nat->Option Obj} {ft:Nat->Option (Y.L ⊕ Nat)} {i t at_ cb:Nat} {n0:List (Nat×Nat×Nte)} {R0 R:Rn} {H:Hid} {v:World} (h:c9 Y fb q w0 Γ X Mn ft i t at_ cb n0 R0 R H v):i<R.cl.length:=by
 obtain⟨c,hc,_⟩:=h.cl;exact(List.getElem?_eq_some_iff.1 hc).1
theorem Du0 {H:Hid} {v:World} {b:Nat} {o:Obj} (G4:k7 H v) (h:H b=some o):(over H v).heap[b]? =some o:=C9 h (G4.gone b o h).lt
theorem ze0 {v v':World} (he:S9 v v') {b:Nat} (h:v.heap[b]? =some nothing):v'.heap[b]? =some nothing:=by
 obtain⟨y,hy,hk⟩:=he.obj _ _ h;obtain⟨c,rfl,h1,_⟩:=l8 hk;have:c=#[]:=by simpa using h1
 subst this;exact hy
theorem c9.evo {Y:Sys} (hY:LeOk Y) {fb:Nat->FuncId} {q:PR Y} {w0:World} {Γ:Geo} {X:Gh} {Mn:Nat->Option Obj} {ft:Nat->Option (Y.L ⊕ Nat)} {i t at_ cb:Nat} {n0:List (Nat×Nat×Nte)} {R0 R:Rn} {H:Hid} {v v':World} (h:c9 Y fb q w0 Γ X Mn ft i t at_ cb n0 R0 R H v) (he:S9 v v') (ht:v'.tape=v.tape):c9 Y fb q w0 Γ X Mn ft i t at_ cb n0 R0 R H v':=by
 have du1:=h.G4.evo he;have hk:∀b,(R.fp b\/Kept Y Γ R Mn b)->(over H v').heap[b]? =(over H v).heap[b]?:=fun b hb=>by
  cases hh:H b with
  |none=>exact absurd hh (h.all b hb)
  |some o=>rw[Du0 du1 hh,Du0 h.G4 hh]
 refine⟨h.fix.v5 hY (h.fix.mem.congr fun b hb=>hk b (.inl hb)) rfl rfl rfl (fun b hb=>.inl hb) rfl (fun j c hc=>⟨c,hc,rfl,rfl,fun _=>⟨rfl,rfl⟩⟩) (by rw[N4,N4];exact he.size) (fun b _ _ hb=>.inl (hk b (.inr hb))) (fun z=>by cases z),du1,fun b o hb=>ze0 he (h.no b o hb),h.all,by rw[K4 ht];exact h.tq,by rw[iw0 ht];exact h.gmq,h.atq,?_,h.rel,h.nil,(hk _ (.inr (.inr (.inl ⟨i,h.il,h.nil,.inr rfl⟩)))).trans h.he⟩;rw[K4 ht,K4 ht];exact h.cl
end
end
section
attribute [local irreducible] KK
theorem Fix.N2 {Y:Sys} (hY:LeOk Y) {fb:Nat->FuncId} {q:PR Y} {Γ:Geo} {X:Gh} {R:Rn} {w:World} {Mn:Nat->Option Obj} {w0:World} {ft:Nat->Option (Y.L ⊕ Nat)} {hold:Option Nat} (h:Fix Y fb q w0 Γ X R w Mn hold ft) (τ:Tape) (d:Nat):Fix Y fb q w0 Γ X R (Yc.N2 w τ d) Mn hold ft :=
 h.v5 hY (h.mem.congr fun _ _=>rfl) rfl rfl rfl (fun _b hb=>.inl hb) rfl (fun _j c hc=>⟨c,hc,rfl,rfl,fun _=>⟨rfl,rfl⟩⟩) (Nat.le_refl _) (fun _ _ _ _=>.inl rfl) (fun _=>⟨rfl,rfl⟩)
theorem ue0 {v:Value} (h:FnV prog v):v.cells=#[v]/\v.oneCell'=true:=by
 rcases h with rfl|⟨f,caps,rfl,_⟩ <;> exact⟨rfl,rfl⟩
theorem L9.ed0.fnV {K:L9 prog} {w:World} {m:Gm} {F:Nat->Prop} {rf:Value} {l:K.L} (h:K.ed0 w m F rf l):FnV prog rf:=by
 rcases h with⟨h,_⟩|⟨f,caps,h,_⟩
 ·exact .inl h
 ·exact .inr ⟨f,caps,h⟩
theorem zf0 {fr:Frame} {w w':World} {v:Value} {fn:Func} (hf:prog.funcs[fr.fn]? =some fn) (hr:fn.results=#[]\/∃t,fn.results=#[.tmp t]) (hv:fn.results=#[]->v= .tuple #[]) (h:Leaves prog fr w (.returned v)) (hnv:P6 w):Leaves prog fr w' (.returned v):=by
 obtain⟨h1,h2,h3,fn',h4,h5⟩:=h;rw[hf]at h4;obtain rfl:=Option.some.inj h4;refine⟨h1,h2,h3,fn,hf,?_⟩;rcases hr with hr|⟨t,hr⟩
 ·rw[hv hr];exact y7 (fun w=>results_none hr _ _ w) (fun w=>events_results_none hr _ _)
 ·obtain⟨x',es,h6,_⟩:=h5 w.tape w.drawn _ w hnv.sim;have h7:=results_tmp hr fr.tmps prog w;rw[Sem.runT_eq]at h6;have h8:=(Prod.mk.inj h6).1;rw[h7]at h8;injection h8 with h9 h10
  rw[<- h9];exact y7 (fun w=>results_tmp hr _ _ w) (fun w=>events_results_tmp hr _ _)
section
variable {Y:Sys}{fb:Nat->FuncId}{q:PR Y}{Γ:Geo}{X:Gh}{R R0:Rn}{w:World}{Mn:Nat->Option Obj}{w0:World}{ft:Nat->Option (Y.L ⊕ Nat)}{i t at_ cb:Nat}{n0:List (Nat×Nat×Nte)}
theorem Fix.Pz0 (h:Fix Y fb q w0 Γ X R w Mn (some i) ft) {b:Nat} (hb:R.fp b\/Kept Y Γ R Mn b):b<w.heap.size:=by
 rcases hb with hb|hb|⟨k,hk,hn,hb⟩|⟨j,hb⟩
 ·exact h.mem.lt hb
 ·rcases Nat.lt_or_ge b w.heap.size with z|z
  ·exact z
  ·exact absurd ((h.mn b hb).1.symm.trans (Array.getElem?_eq_none z)) hb
 ·have:=h.ck k _ (List.getElem?_eq_getElem hk) hn;rcases hb with rfl|rfl
  ·exact this.ha.lt
  ·exact this.he.choose_spec.lt
 ·exact(h.pv j b hb).1
theorem c9.enter (hY:LeOk Y) (V:Nat->Prop) [DecidablePred V] {τ:Tape} {d:Nat} (fix:Fix Y fb q w0 Γ X R w Mn (some i) ft) (hV:∀b,(R.fp b\/Kept Y Γ R Mn b)->¬V b) (nv:P6 w) (h1:gh (Yc.N2 (M3 V w) τ d) 0=t) (hgm:gm (Yc.N2 (M3 V w) τ d)=Γ.gm) (h2:R.evs.length=at_)
  (h3:∃c,R.cl[i]? =some c/\c.cb=cb/\((gh (Yc.N2 (M3 V w) τ d) 2=0/\c.st=false/\R.r2=n0++tell i at_ ((Y.S4 q t).r2.take (gh (Yc.N2 (M3 V w) τ d) 1))/\c.n2=Y.n2 q i t)\/(gh (Yc.N2 (M3 V w) τ d) 2=1/\c.st=true/\R.r2=n0)))
  (h4:∃na nc r2,R={R0 with na:=na,nc:=nc,r2:=r2}) (hn:Y.nil i=false) (he:S1 w (Γ.eb i) #[.bool false] 4 (0,0)):c9 Y fb q w0 Γ X Mn ft i t at_ cb n0 R0 R (J8 V w) (Yc.N2 (M3 V w) τ d):=by
 refine⟨?_,(nm0 nv).N2 τ d,fun b o hb=>?_,fun b hb=>?_,h1,hgm,h2,h3,h4,hn,?_⟩
 ·rw[I8,iu0];exact fix.N2 hY τ d
 ·by_cases hv:V b
  ·simp[J8,hv]at hb
  ·simp only[J8,hv,if_false]at hb;exact gp0 hv (Array.getElem?_eq_some_iff.1 hb).1
 ·have hv:=hV b hb;have Y1:=fix.Pz0 hb;simp only[J8,hv,if_false];rw[Array.getElem?_eq_getElem Y1];simp
 ·rw[I8,iu0];exact he
def After (Y:Sys) (fb:Nat->FuncId) (q:PR Y) (w0:World) (Mn:Nat->Option Obj) (ft:Nat->Option (Y.L ⊕ Nat)) (i t:Nat) (n0:List (Nat×Nat×Nte)) (R0:Rn) (st:Bool) (Γ':Geo) (X':Gh) (R':Rn) (w':World):Prop :=
 (st=false/\Main Y fb q w0 Γ' X' R' w' Mn (fun j=>if j=i then some (Y.S4 q t).K8 else ft j) (Y.S4 q t).s/\Rel R0 R' i (n0++tell i R0.evs.length (Y.S4 q t).r2) (kj0 R0.ends i (Y.S4 q t).K8)) \/
 (st=true/\Main Y fb q w0 Γ' X' R' w' Mn (fun j=>if j=i then some (.inr 0) else ft j) (Y.sAt q t)/\Rel R0 R' i n0 (R0.ends.set i 0))
theorem c9.Wm0 {H:Hid} {v:World} (h:c9 Y fb q w0 Γ X Mn ft i t at_ cb n0 R0 R H v) {b:Nat} (hb:v.heap[b]? ≠some nothing):H b=none/\¬R.fp b/\¬Kept Y Γ R Mn b:=by
 have hn:H b=none:=by
  cases hh:H b with
  |none=>rfl
  |some o=>exact absurd (h.no b o hh) hb
 exact⟨hn,fun z=>h.all b (.inl z) hn,fun z=>h.all b (.inr z) hn⟩
theorem c9.B8 {H:Hid} {v:World} (h:c9 Y fb q w0 Γ X Mn ft i t at_ cb n0 R0 R H v) (hn:Y.nil i=false) {c:CB} (hc:R.cl[i]? =some c):∀g s2,g≠0->X.N1 g=some s2->s2.ch≠c.rc:=by
 intro g s2 hg hs e;obtain⟨j,d,h1,h2,h3,h4,h5⟩:=h.fix.n4 g s2 hg hs;have:=h.fix.Fo0 j i d c h1 hc h2 hn (h4.symm.trans e);subst this;exact h5 rfl
theorem c9.home (hY:ny0 Y) {H:Hid} {v w':World} (h:c9 Y fb q w0 Γ X Mn ft i t at_ cb n0 R0 R H v) (hn:Y.nil i=false) {c c':CB} {ends:List Int} {S:Nat->Prop} {B:Nat} (hc:R.cl[i]? =some c) (dv1:c'.cb=c.cb) (kz1:c'.rc=c.rc) (_hc'p:c'.n2=c.n2) (hg:Rg S B (over H v) w' w0.heap.size {R with cl:=R.cl.set i c',ends:=ends}) (hB:B=(over H v).heap.size) (hS:∀k,S k->R.fp k\/(k=Γ.eb i)) (la1:∃en,S1 w' (Γ.eb i) #[.bool en] 4 (0,0)) (Ko0:∀j,j≠i->ends[j]? =R.ends[j]?)
  (F:Nat->Prop) {s:Y.S} {m:Gm} (hm:∀j,j≠i->Y.le j (gm v) m) (hinv:Y.Inv s m v F) (hos:v.os=w0.os/\v.output=w0.output) {sh:Option c6} (hsh:∀s,sh=some s->s.ch=c'.rc) {f:Y.L ⊕ Nat} {N:Nat->Prop} (hN:∀b,N b->v.heap[b]? ≠some nothing/\b<v.heap.size/\¬F b) (hf:(∀b,v.heap[b]? ≠some nothing->b<v.heap.size->w'.heap[b]? =v.heap[b]?)->Cl1 Y fb q w0 (Γ.lw0 i N m) (X.pass (Γ.gi i) 0 sh) {R with cl:=R.cl.set i c',ends:=ends} w' i c' f) :
  Main Y fb q w0 (Γ.lw0 i N m) (X.pass (Γ.gi i) 0 sh) {R with cl:=R.cl.set i c',ends:=ends} w' Mn (fun j=>if j=i then some f else ft j) s/\(∃na nc,{R with cl:=R.cl.set i c',ends:=ends}={R0 with na:=na,nc:=nc,r2:=R.r2,cl:=R0.cl.set i c',ends:=ends}):=by
 subst hB;have x7:=(List.getElem?_eq_some_iff.1 hc).1;have Tw0:∀b,b<(over H v).heap.size->¬R.fp b->b≠Γ.eb i->w'.heap[b]? =(over H v).heap[b]?:=fun b hb hf he=>hg.md.block b hb fun hs=>(hS b hs).elim hf he;have H9:∀b,v.heap[b]? ≠some nothing->b<v.heap.size->w'.heap[b]? =v.heap[b]?:=fun b hb Y1=>by
  obtain⟨h1,h2,h3⟩:=h.Wm0 hb;rw[Tw0 b (by rw[N4];exact Y1) h2 (fun e=>h3 (.inr (.inl ⟨i,x7,hn,.inr e⟩))),M5 v h1]
 have hfp:∀b,Rn.fp {R with cl:=R.cl.set i c',ends:=ends} b->R.fp b:=fun b hb=>Rn.Dm0 (R:=R) hc dv1 hb;have hK:∀b,Kept Y Γ {R with cl:=R.cl.set i c',ends:=ends} Mn b↔Kept Y Γ R Mn b:=fun b=>by simp[Kept]
 have dw1:=h.fix.v5 hY.toLeOk (R':={R with cl:=R.cl.set i c',ends:=ends}) (w':=w') hg.m rfl rfl rfl (fun b hb=>.inl (hfp b hb)) (by simp) (fun j d hd=>by
  have g6:(R.cl.set i c')[j]? =some d:=hd;rw[List.getElem?_set]at g6;by_cases hj:i=j
  ·subst hj;rw[if_pos rfl,if_pos x7]at g6;obtain rfl:=Option.some.inj g6;exact⟨c,hc,dv1,kz1,fun z=>absurd rfl z⟩
  ·rw[if_neg hj]at g6;exact⟨d,g6,rfl,rfl,fun _=>⟨rfl,Ko0 j (Ne.symm hj)⟩⟩) hg.md.size (fun b hb hf _=>by
   by_cases he:b=Γ.eb i
   ·subst he;obtain⟨en,he⟩:=la1;exact .inr ⟨i,en,rfl,x7,hn,rfl,he⟩
   ·exact .inl (Tw0 b hb hf he)) (fun z=>by cases z)
 have p7:Rn.cl {R with cl:=R.cl.set i c',ends:=ends}=R.cl.set i c':=rfl;have hci:(Rn.cl {R with cl:=R.cl.set i c',ends:=ends})[i]? =some c':=by rw[p7];simp[x7]
 have dx1:=dw1.back hY.toLeOk (m:=m) (by rw[<- h.gmq];exact hm) hn hci (N:=N) (fun b hb=>by
  obtain⟨h1,h2,h3⟩:=hN b hb;obtain⟨h4,h5,h6⟩:=h.Wm0 h1;refine⟨Nat.lt_of_lt_of_le h2 (by have:=hg.md.size;rw[N4]at this;exact this),fun z=>h5 (hfp b z),fun z=>h6 ((hK b).1 z)⟩) hsh (hf H9) ⟨hg.md.os.trans hos.1,hg.md.output.trans hos.2⟩
 refine⟨⟨dx1,F,hY.loc _ _ v w' F hinv fun b hb=>?_,fun b hb=>?_⟩,?_⟩
 ·have:=hY.vis _ _ v F hinv b hb;exact H9 b this.2 this.1
 ·have hv:=hY.vis _ _ v F hinv b hb;obtain⟨h4,h5,h6⟩:=h.Wm0 hv.2;refine⟨fun z=>h5 (hfp b z),fun z=>?_⟩;rcases z with z|z|⟨j,z⟩
  ·exact h6 (.inl z)
  ·exact h6 ((hK b).1 (.inr (.inl z)))
  ·by_cases hj:j=i
   ·subst hj;have:N b:=by simpa [Geo.lw0,Geo.put]using z
    exact(hN b this).2.2 hb
   ·rw[jc0 hj]at z;exact h6 (.inr (.inr ⟨j,z⟩))
 ·obtain⟨na,nc,r2,rfl⟩:=h.rel;exact⟨na,nc,rfl⟩
end
end
section
attribute [local irreducible] KK
section
variable {Y:Sys}{fb:Nat->FuncId}{q:PR Y}{Γ:Geo}{X:Gh}{R R0:Rn}{Mn:Nat->Option Obj}{w0:World}{ft:Nat->Option (Y.L ⊕ Nat)}{i t at_ cb:Nat}{n0:List (Nat×Nat×Nte)}{H:Hid}{v:World}
theorem c9.dl0 (h:c9 Y fb q w0 Γ X Mn ft i t at_ cb n0 R0 R H v):0<Γ.gi i:=(h.fix.ck i _ (List.getElem?_eq_getElem h.il) h.nil).dl0.1
theorem c9.dy1 (h:c9 Y fb q w0 Γ X Mn ft i t at_ cb n0 R0 R H v) {b:Nat} (hb:H b=none):¬R.fp b/\¬Kept Y Γ R Mn b:=⟨fun z=>h.all b (.inl z) hb,fun z=>h.all b (.inr z) hb⟩
theorem c9.again (hY:LeOk Y) (h:c9 Y fb q w0 Γ X Mn ft i t at_ cb n0 R0 R H v) {w':World} {R':Rn} {τ:Tape} {d:Nat} (hg:Rg R.fp (over H v).heap.size (over H v) w' w0.heap.size R') (V:Nat->Prop) [DecidablePred V] (hV:∀b,V b↔(H b=none/\¬R'.fp b)) (nv:P6 w') (hR:∃na nc r2,R'={R with na:=na,nc:=nc,r2:=r2})
  (h1:gh (Yc.N2 (M3 V w') τ d) 0=t) (hgm:gm (Yc.N2 (M3 V w') τ d)=gm v) (h3:∃c,R'.cl[i]? =some c/\c.cb=cb/\((gh (Yc.N2 (M3 V w') τ d) 2=0/\c.st=false/\R'.r2=n0++tell i at_ ((Y.S4 q t).r2.take (gh (Yc.N2 (M3 V w') τ d) 1))/\c.n2=Y.n2 q i t)\/(gh (Yc.N2 (M3 V w') τ d) 2=1/\c.st=true/\R'.r2=n0))) :
  c9 Y fb q w0 Γ X Mn ft i t at_ cb n0 R0 R' (J8 V w') (Yc.N2 (M3 V w') τ d)/\Vh0 v (Yc.N2 (M3 V w') τ d):=by
 obtain⟨na,nc,r2,rfl⟩:=hR;have hkb:∀b,b<(over H v).heap.size->¬R.fp b->w'.heap[b]? =(over H v).heap[b]?:=fun b hb hf=>hg.md.block b hb hf;have ls0:=h.fix.v5 hY (R':={R with na:=na,nc:=nc,r2:=r2}) (w':=w') hg.m rfl rfl rfl hg.fp rfl (fun j c hc=>⟨c,hc,rfl,rfl,fun _=>⟨rfl,rfl⟩⟩) hg.md.size (fun b hb hf _=>.inl (hkb b hb hf)) (fun z=>by cases z);have heL:=h.he.lt;have heF:¬R.fp (Γ.eb i):=(h.fix.side i h.il h.nil).2.2.2;refine⟨c9.enter hY V ls0 (fun b hb hv=>?_) nv h1 (hgm.trans h.gmq) h.atq h3 ?_ h.nil ((hkb _ heL heF).trans h.he),⟨?_,?_,?_,fun b hb=>?_⟩⟩
 ·obtain⟨h4,h5⟩:=(hV b).1 hv;rcases hb with hb|hb
  ·exact h5 hb
  ·exact h.all b (.inr hb) h4
 ·obtain⟨a,c,n,e⟩:=h.rel;exact⟨na,nc,r2,by rw[e]⟩
 ·exact hg.md.os
 ·exact hg.md.output
 ·show v.heap.size <=(M3 V w').heap.size;rw[X8,<- N4 H v];exact hg.md.size
 ·show(M3 V w').heap[b]? =v.heap[b]?;have D8:b<(over H v).heap.size:=by rw[N4];exact hb
  cases hh:H b with
  |none=>
   have hf:=h.dy1 hh;have hf':¬Rn.fp {R with na:=na,nc:=nc,r2:=r2} b:=fun z=>(hg.fp b z).elim hf.1 (Nat.not_le_of_lt D8);rw[an0 _ ((hV b).2 ⟨hh,hf'⟩),hkb b D8 hf.1,M5 v hh]
  |some o=>
   rw[gp0 (fun z=>by rw[((hV b).1 z).1]at hh;cases hh) (Nat.lt_of_lt_of_le D8 hg.md.size),h.no b o hh]
theorem c9.number {Post:Value->World->Prop} {cs:List Frame} (h:c9 Y fb q w0 Γ X Mn ft i t at_ cb n0 R0 R H v) (k:∀fr,fr.fn=47->Leaves prog fr v (.returned (.i (i:Nat)))->gb0 prog Post X (Γ.gi i) H (G fr cs) v) :
  gb0 prog Post X (Γ.gi i) H (G (Frame.enter prog 47 #[.p cb] .normal) cs) v:=by
 intro hH;obtain⟨c,hc,hcb,_⟩:=h.cl;have hB:=h.fix.mem.blk i c hc;refine ah0 _ _ fun nv=>?_;subst hcb;refine @Jp0 (j2 prog (Γ.gi i==0)) R.rb i c (over H v) hB _ V4 cs fun e w' fr he hf hl=>?_;cases e with
 |returned x=>
  obtain⟨rfl,rfl⟩:=he;exact k fr hf (zf0 (by rw[hf];exact func47) (.inr ⟨_,rfl⟩) (fun z=>by cases z) hl nv) hH
 |panicked ch=>exact he.elim
 |outgrown=>exact he.elim
theorem gv0 {Post:Value->World->Prop} {z0:Value} {me0:Goroutine} {st:Bool} (hY:ny0 Y) (hX0:X.N1 0=some ⟨R0.yb,z0,me0⟩) (_hnt:n0.length+(Y.S4 q t).r2.length <=1000000000)
  (v8:∀Γ' X' R' w',After Y fb q w0 Mn ft i t n0 R0 st Γ' X' R' w'->Fin prog Post X' 0 (Go.Conc.served me0 (.i (i:Int))) w') {g:Goroutine} {v:World} (hp:Y8 (Y.cfg fb q w0 i cb (Γ.top i)) g v) :
  ∀H R,c9 Y fb q w0 Γ X Mn ft i t at_ cb n0 R0 R H v->(∀c,R.cl[i]? =some c->c.st=st)->gb0 prog Post X (Γ.gi i) H g v:=by
 induction hp with
 |own hr g' u' d' hf hk ih=>
  intro H R h T2;have F9:(Γ.gi i==0)=false:=by have:=h.dl0;simp;omega
  refine nl0 hr fun τ d=>⟨g' τ d,u' τ d,by rw[F9];exact hf τ d,fun he=>cz0 (ih τ d H R (h.evo hY.toLeOk ⟨he.size,he.obj⟩ rfl) T2)⟩
 |ign h0 ih=>
  intro H R h T2;exact Do0.2 _ _ fun hv=>ih hv H R h T2
 | @number cs v k ih=>
  intro H R h T2;exact h.number fun fr hf hl=>ih fr hf hl H R h T2
 |n2 hfn=>cases hfn
 | @again cs v s rf df h2 hs k ih=>
  intro H R h T2 hH;obtain⟨c,hc,hcb,e7⟩:=h.cl;have hB:=h.fix.mem.blk i c hc;have mn0:c.st=true/\R.r2=n0:=by
   rcases e7 with e7|e7
   ·have:=e7.1;omega
   ·exact e7.2
  have F9:(Γ.gi i==0)=false:=by have:=h.dl0;simp;omega
  obtain⟨s0,rfl⟩:=hs;subst hcb;refine Bp0 (Z:=Fin prog Post X (Γ.gi i)) (by have:=@V4 prog Post X (Γ.gi i);rw[F9]at this;exact this) hB mn0.1 fun w' fr ch hb hf hr hl=>?_;refine ah0 _ _ fun nv=>?_;haveI:DecidablePred fun b=>H b=none/\¬R.fp b:=fun _=>Classical.propDecidable _;have hg:Rg R.fp (over H v).heap.size (over H v) w' w0.heap.size R:=h.fix.mem.rg.j0 hb;have htp:w'.tape=v.tape:=hb.tape;obtain⟨h5,h6⟩:=h.again hY.toLeOk (τ:=w'.tape) (d:=w'.drawn) hg (fun b=>H b=none/\¬R.fp b) (fun _=>Iff.rfl) nv ⟨R.na,R.nc,R.r2,rfl⟩ ((K4 htp 0).trans h.tq) (iw0 htp) ⟨c,hc,rfl,.inr ⟨(K4 htp 2).trans h2,mn0⟩⟩;exact mh0 (fun b=>H b=none/\¬R.fp b) (ih _ fr ch h6 htp hf hr hl _ R h5 T2)
 |note hfn=>cases hfn
 | @step cs v s rf df l m F ht hs hr hdf Rdo hdo go stop ihg ihs=>
  intro H R h T2 hH;obtain⟨c,hc,hcb,e7⟩:=h.cl;have htq:=h.tq;have hn:=h.nil;have h2:gh v 2=0:=ht.on;have zg0:c.st=false/\R.r2=n0++tell i at_ ((Y.S4 q t).r2.take (gh v 1))/\c.n2=Y.n2 q i t:=by
   rcases e7 with e7|e7
   ·exact e7.2
   ·have:=e7.1;omega
  have Tx0:(Y.S4 q t).K8= .inl l:=by rw[<- htq];exact ht.K8
  have lb1:gh v 1=(Y.S4 q t).r2.length:=by rw[<- htq];exact ht.r2
  have hinv:Y.Inv (Y.S4 q t).s m v F:=by rw[<- htq];exact ht.inv
  have hck:=h.fix.ck i c hc hn;have x7:=h.il;obtain⟨na,nc,r2,qr0⟩:=h.rel;have hyb:R.yb=R0.yb:=by rw[qr0]
  have hR0:R0.cl=R.cl:=by rw[qr0]
  have Wn0:R0.evs=R.evs:=by rw[qr0]
  subst hcb hs;refine step_fin (Bs:=w0.heap.size) h.fix.mem.rg hc zg0.1 (ue0 (L9.ed0.fnV hr)) (ue0 hdf) (by have:=h.dl0;omega) (by rw[hyb];exact hX0) h.fix.dn hck.stay ⟨hck.ch,h.B8 hn hc⟩ fun w' me hg hme=>?_;have hef:=(h.fix.side i x7 hn).2.2.2;have heb:S1 w' (Γ.eb i) #[.bool false] 4 (0,0):=(hg.md.block _ h.he.lt hef).trans h.he;obtain⟨h7,h8⟩:=h.home hY hn (c':={c with sp:=Y.stp i l,rf:=rf,df:=df,wt:=true}) (ends:=R.ends) hc rfl rfl rfl hg rfl (fun k hk=>.inl hk) ⟨_,heb⟩ (fun _ _=>rfl) F ht.le hinv ⟨ht.os,ht.output⟩ (sh:=some ⟨c.rc,.bool false,me⟩) (fun s e=>by cases e;rfl) (f:=.inl l)
   (N:=fun b=>b<v.heap.size/\v.heap[b]? ≠some nothing/\¬F b) (fun b hb=>⟨hb.2.1,hb.1,hb.2.2⟩) (fun H9=>.inr ⟨hn,rfl,zg0.1,rfl,heb,me,cs,v,m,F,Rdo,G9,hme,hr,hdf,fun b=>by simp[Geo.lw0,Geo.put],fun b hb=>by
    have D8:b<v.heap.size/\v.heap[b]? ≠some nothing/\¬F b:=by simpa [Geo.lw0,Geo.put]using hb
    exact H9 b D8.2.1 D8.1,ht.os,ht.output,by have:=hg.md.size;rw[N4]at this;exact this,hY.refl _ _,hdo,go,stop⟩)
  rw[<- Tx0]at h7;obtain⟨a,b,e⟩:=h8;refine v8 _ _ _ _ (.inl ⟨(T2 c hc).symm.trans zg0.1,h7,a,b,c,{c with sp:=Y.stp i l,rf:=rf,df:=df,wt:=true},by rw[hR0];exact hc,rfl,e.trans ?_⟩)
  ·rw[Tx0,show kj0 R0.ends i (Sum.inl l:Y.L ⊕ Nat)=R.ends from by rw[qr0];rfl,zg0.2.1,lb1,List.take_length,Wn0,h.atq]
 | @done fr v e F hf hl hd=>
  intro H R h T2 hH;obtain⟨c,hc,hcb,e7⟩:=h.cl;have htq:=h.tq;have hn:=h.nil;have hck:=h.fix.ck i c hc hn;have x7:=h.il;obtain⟨na,nc,r2,qr0⟩:=h.rel;have hyb:R.yb=R0.yb:=by rw[qr0]
  have hR0:R0.cl=R.cl:=by rw[qr0]
  have Wn0:R0.evs=R.evs:=by rw[qr0]
  have hsd:=h.fix.side i x7 hn;have hlen:R.ends.length=R.m:=h.fix.mem.ep0;have him:i<R.ends.length:=by have:=h.fix.mem.lcl;omega
  have key:∀x:Nat,dk1 c (x:Int) e->((st=false/\(Y.S4 q t).K8= .inr x/\gh v 1=(Y.S4 q t).r2.length/\∃m,(∀j,j≠i->Y.le j (gm v) m)/\Y.Inv (Y.S4 q t).s m v F)\/(st=true/\x=0/\∃m,(∀j,j≠i->Y.le j (gm v) m)/\Y.Inv (Y.sAt q t) m v F))->v.os=w0.os->v.output=w0.output->Fin prog Post X (Γ.gi i) (G fr (Γ.top i)) (over H v):=by
   intro x hx hk hos bk0;have hg:Rg (fun b=>R.fp b\/b=Γ.eb i) (over H v).heap.size (over H v) (over H v) w0.heap.size R:=⟨h.fix.mem,gu0.refl _ _ _,fun k hk=>.inl (.inl hk),Nat.le_refl _⟩
   refine hck.top.leave (x:Int) hg rfl hc rfl hck.ha h.he (.inl (.inr rfl)) hx h.dl0 (by rw[hyb];exact hX0) h.fix.dn h.fix.l3 (fun w' o7 heb=>?_) (lf0 hH hl);have Ko0:∀j,j≠i->(R.ends.set i (x:Int))[j]? =R.ends[j]?:=fun j hj=>by rw[List.getElem?_set_ne (Ne.symm hj)]
   have hmk:∀s m,(∀j,j≠i->Y.le j (gm v) m)->Y.Inv s m v F->_:=fun s m hm hs=>h.home hY hn (c':={c with wt:=false}) (ends:=R.ends.set i (x:Int)) hc rfl rfl rfl o7 rfl (fun k hk=>hk) heb Ko0 F hm hs ⟨hos,bk0⟩ (sh:=none) (fun s e=>by cases e) (f:=.inr x) (N:=fun _=>False) (fun b hb=>hb.elim) (fun H9=>.inr ⟨hn,rfl,by simp[him],G9⟩);rcases hk with⟨h1,h2,h3,m,hm,h4⟩|⟨h1,h2,m,hm,h3⟩
   ·have mn0:c.st=false:=(T2 c hc).trans h1;have zg0:R.r2=n0++tell i at_ ((Y.S4 q t).r2.take (gh v 1)):=by
     rcases e7 with e7|e7
     ·exact e7.2.2.1
     ·rw[mn0]at e7;exact absurd e7.2.1 (by decide)
    obtain⟨h7,a,b,e'⟩:=hmk _ m hm h4;rw[<- h2]at h7;refine v8 _ _ _ _ (.inl ⟨h1,h7,a,b,c,{c with wt:=false},by rw[hR0];exact hc,rfl,e'.trans ?_⟩)
    ·rw[h2,show kj0 R0.ends i (Sum.inr x:Y.L ⊕ Nat)=R.ends.set i (x:Int)from by rw[qr0];rfl,zg0,h3,List.take_length,Wn0,h.atq]
   ·have mn0:c.st=true:=(T2 c hc).trans h1;have zg0:R.r2=n0:=by
     rcases e7 with e7|e7
     ·rw[mn0]at e7;exact absurd e7.2.1 (by decide)
     ·exact e7.2.2
    obtain⟨h7,a,b,e'⟩:=hmk _ m hm h3;subst h2;refine v8 _ _ _ _ (.inr ⟨h1,h7,a,b,c,{c with wt:=false},by rw[hR0];exact hc,rfl,e'.trans ?_⟩)
    ·rw[show R0.ends.set i 0=R.ends.set i ((0:Nat):Int)from by rw[qr0];rfl,zg0]
  have Wo0:gh v 2=0->c.st=false:=fun z=>by rcases e7 with e7|e7;exact e7.2.1;have:=e7.1;omega
  have Bs0:gh v 2=1->c.st=true:=fun z=>by rcases e7 with e7|e7;have:=e7.1;omega;exact e7.2.1
  have W1:∀(x:Nat) m,(Y.cfg fb q w0 i cb (Γ.top i)).Told v m F (.inr x)->(st=false/\(Y.S4 q t).K8= .inr x/\gh v 1=(Y.S4 q t).r2.length/\∃m,(∀j,j≠i->Y.le j (gm v) m)/\Y.Inv (Y.S4 q t).s m v F):=fun x m ht=>
   ⟨(T2 c hc).symm.trans (Wo0 ht.on),by rw[<- htq];exact ht.K8,by rw[<- htq];exact ht.r2,m,ht.le,by rw[<- htq];exact ht.inv⟩
  cases e with
  |outgrown=>exact hd.elim
  |returned x=>
   rcases hd with⟨m,ht⟩|⟨h2,h3,h4,h5⟩
   ·exact key 1 (.inr ⟨Wo0 ht.on,rfl⟩) (.inl (W1 1 m ht)) ht.os ht.output
   ·exact key 0 (.inl ⟨Bs0 h2,rfl⟩) (.inr ⟨(T2 c hc).symm.trans (Bs0 h2),rfl,by rw[<- htq];exact h3⟩) h4 h5
  |panicked ch=>
   obtain⟨n7,⟨m,ht⟩|⟨h2,h3,h4,h5⟩⟩:=hd
   ·exact key 2 ⟨n7,.inr ⟨Wo0 ht.on,rfl⟩⟩ (.inl (W1 2 m ht)) ht.os ht.output
   ·exact key 0 ⟨n7,.inl ⟨Bs0 h2,rfl⟩⟩ (.inr ⟨(T2 c hc).symm.trans (Bs0 h2),rfl,by rw[<- htq];exact h3⟩) h4 h5
end
end
section
attribute [local irreducible] KK
def D7 {α:Type} (f:Nat->α) (i:Nat) (x:α):Nat->α:=fun j=>if j=i then x else f j
theorem j4 {α:Type} {f:Nat->α} {i:Nat} {x:α} {j:Nat} (h:j≠i):D7 f i x j=f j:=by simp[D7,h]
theorem R3 {α:Type} {f:Nat->α} {i:Nat} {x:α}:D7 f i x i=x:=by simp[D7]
def Geo.add (Γ:Geo) (i g a e:Nat) (top:List Frame):Geo:=⟨Γ.gm,D7 Γ.gi i g,D7 Γ.ab i a,D7 Γ.eb i e,D7 Γ.top i top,D7 Γ.pv i fun _=>False⟩
def zh0 (X:Gh) (cb rc:Nat) (s:c6):Gh :=
 {((Gh.hire {X.lower cb with pend:=1,cap:=X.cap+1,dn:=0} s).lower rc)with B8:=fun c=>X.B8 c\/c=rc,stay:=Go.ConcN.upd X.stay X.n [(⟨cb,2,none⟩,.chan (some rc))]}
section
variable {Y:Sys}{fb:Nat->FuncId}{q:PR Y}{Γ:Geo}{X:Gh}{R:Rn}{w w1:World}{Mn:Nat->Option Obj}{w0:World}{ft:Nat->Option (Y.L ⊕ Nat)}{i:Nat}
theorem bb0 {α:Type} {l:List α} {x y:α} {j:Nat} (h:(l ++ [x])[j]? =some y):l[j]? =some y\/(j=l.length/\x=y):=by
 rcases Nat.lt_trichotomy j l.length with z|z|z
 ·rw[List.getElem?_append_left z]at h;exact .inl h
 ·subst z;simp at h;exact .inr ⟨rfl,h⟩
 ·rw[List.getElem?_eq_none (by simp;omega)]at h;cases h
theorem Fix.Wp0 (hY:LeOk Y) (h:Fix Y fb q w0 Γ X R w Mn none ft) (hn:Y.nil i=true) (hi:R.cl.length=i) {cb rc:Nat} {a:Option Addr} {n:Nat} (him:i<R.m) (hcb:w.heap.size <=cb) (hg:Rg R.fp w.heap.size w w1 w0.heap.size {R with ca:=a,cc:=n,cl:=R.cl ++ [E4 cb rc],ends:=R.ends.set i 1}) (hft:ft i=none) :
  Fix Y fb q w0 Γ (X.lower cb) {R with ca:=a,cc:=n,cl:=R.cl ++ [E4 cb rc],ends:=R.ends.set i 1} w1 Mn none (fun j=>if j=i then some (.inr 1) else ft j):=by
 have Y1:∀b,b<w.heap.size->¬R.fp b->w1.heap[b]? =w.heap[b]?:=hg.md.block;have hle:∀j,j<(R.cl ++ [E4 cb rc]).length->Y.nil j=false->j<R.cl.length:=fun j hj e8=>by
  rw[List.length_append,List.length_singleton]at hj;rcases Nat.lt_or_ge j R.cl.length with z|z
  ·exact z
  ·have:j=i:=by omega
   rw[this,hn]at e8;cases e8
 have hold:∀j c,(R.cl ++ [E4 cb rc])[j]? =some c->Y.nil j=false->R.cl[j]? =some c:=fun j c hc e8=>by
  rcases bb0 hc with z|⟨z,_⟩
  ·exact z
  ·rw[z,hi,hn]at e8;cases e8
 have o3:R.ends.length=R.m:=h.mem.ep0;have hfp:∀b,Rn.fp {R with ca:=a,cc:=n,cl:=R.cl ++ [E4 cb rc],ends:=R.ends.set i 1} b->R.fp b\/w.heap.size <=b:=hg.fp;have hnf:∀b,b<w.heap.size->¬R.fp b->¬Rn.fp {R with ca:=a,cc:=n,cl:=R.cl ++ [E4 cb rc],ends:=R.ends.set i 1} b:=fun b hb hf z=>(hfp b z).elim hf (Nat.not_le_of_lt hb);refine⟨hg.m,h.m,fun j c hc _=>?_,fun j c hc e8=>?_,fun b hb=>?_,fun j hj e8=>?_,fun j b hb=>?_,fun b hb=>?_,h.ki0,fun z=>hg.md.os.trans (h.os z),fun z=>hg.md.output.trans (h.output z),Nat.le_trans h.size hg.md.size,h.l3,h.lk0,h.chy,fun g s o7 hs=>?_,fun j k hj hk e8 hnk=>h.Br0 j k (hle j hj e8) (hle k hk hnk) e8 hnk,fun j k hj hk e8 hnk=>h.ud0 j k (hle j hj e8) (hle k hk hnk) e8 hnk,fun j k c d hc hd e8 hnk=>h.Fo0 j k c d (hold j c hc e8) (hold k d hd hnk) e8 hnk,fun j c hc e8=>h.ry j c (hold j c hc e8) e8,h.dn,h.pend,?_,?_,fun b hb=>h.k5 b (Nat.le_trans hg.md.size hb),h.nx0,⟨h.base.le,fun b hb=>hb.elim (h.base.low b) fun e=>by have:=h.base.le;have:=h.size;omega,h.base.pl⟩⟩
 ·rcases bb0 hc with z|⟨z,rfl⟩
  ·have hjl:=(List.getElem?_eq_some_iff.1 z).1;obtain⟨f,h1,h2⟩:=h.cl j c z (by simp);have V2:j≠i:=by omega
   refine⟨f,by simp[V2,h1],h2.v5 (Γ':=Γ) (hY.trans _) (hY.refl _ Γ.gm) (fun b hb=>Y1 b (h.pv j b hb).1 (h.pv j b hb).2.1) hg.md.size (fun _=>rfl) (fun e8=>?_) rfl rfl rfl rfl (by show(R.ends.set i 1)[j]? =_;rw[List.getElem?_set_ne (Ne.symm V2)])⟩;exact Y1 _ (h.ck j c z e8).he.choose_spec.lt (h.side j hjl e8).2.2.2
  ·rw[hi]at z;subst z;refine⟨.inr 1,by simp,.inl ⟨hn,rfl,rfl,?_⟩⟩;show(R.ends.set j 1)[j]? =some 1;simp[o3,him]
 ·have p7:=hold j c hc e8;have hk:=h.ck j c p7 e8;have hjl:=(List.getElem?_eq_some_iff.1 p7).1;have hs:=h.side j hjl e8;refine⟨hk.top,(Y1 _ hk.ha.lt hs.2.2.1).trans hk.ha,?_,hk.dl0,hk.stay,hk.ch⟩;obtain⟨en,he⟩:=hk.he;exact⟨en,(Y1 _ he.lt hs.2.2.2).trans he⟩
 ·rcases hfp b hb with z|z
  ·exact h.fpB b z
  ·exact Nat.le_trans h.size z
 ·have hjl:=hle j hj e8;have hs:=h.side j hjl e8;have hk:=h.ck j _ (List.getElem?_eq_getElem hjl) e8;exact⟨hs.1,hs.2.1,hnf _ hk.ha.lt hs.2.2.1,hnf _ hk.he.choose_spec.lt hs.2.2.2⟩
 ·have hp:=h.pv j b hb;exact⟨Nat.lt_of_lt_of_le hp.1 hg.md.size,hnf b hp.1 hp.2.1,hp.2.2.1,fun k hk hnk=>hp.2.2.2.1 k (hle k hk hnk) hnk,hp.2.2.2.2⟩
 ·have hm:=h.mn b hb;have D8:b<w.heap.size:=by
   rcases Nat.lt_or_ge b w.heap.size with z|z
   ·exact z
   ·exact absurd (hm.1.symm.trans (Array.getElem?_eq_none z)) hb
  exact⟨(Y1 b D8 hm.2.1).trans hm.1,hnf b D8 hm.2.1,fun k hk hnk=>hm.2.2 k (hle k hk hnk) hnk⟩
 ·obtain⟨j,c,h1,h2⟩:=h.n4 g s o7 hs;have hjl:=(List.getElem?_eq_some_iff.1 h1).1;exact⟨j,c,by show(R.cl ++ [E4 cb rc])[j]? =some c;rw[List.getElem?_append_left hjl];exact h1,h2⟩
 ·show X.cap <=(R.cl ++ [E4 cb rc]).length;have:=h.cap;simp;omega
 ·have hu:=h.under.mono hg.md.size;have e7:cb<w1.heap.size:=(hg.m.blk i (E4 cb rc) (by show(R.cl ++ [E4 cb rc])[i]? =_;rw[<- hi];simp)).lt;exact⟨hu.stay,hu.G4,hu.B8,hu.l3,fun b hb=>by
   rcases hb with z|rfl
   ·exact hu.low b z
   ·exact e7⟩
theorem Fix.hire (hY:LeOk Y) (h:Fix Y fb q w0 Γ X R w Mn none ft) (hn:Y.nil i=false) (hi:R.cl.length=i) {cb rc G7 X6:Nat} {a:Option Addr} {n:Nat} {top:List Frame} {s:c6} (hs:s.ch=R.yb) (hM:k4 w1 w0.heap.size {R with ca:=a,cc:=n,cl:=R.cl ++ [E4 cb rc]}) (I2:w.heap.size <=w1.heap.size) (_hos:w1.os=w.os/\w1.output=w.output)
  (Y1:∀b,b<w.heap.size->¬R.fp b->w1.heap[b]? =w.heap[b]?) (hfp:∀b,Rn.fp {R with ca:=a,cc:=n,cl:=R.cl ++ [E4 cb rc]} b->R.fp b\/w.heap.size <=b) (hcb:w.heap.size <=cb) (hrc:w.heap.size <=rc/\rc<w1.heap.size) (hab:w.heap.size <=G7) (heb:w.heap.size <=X6) (hA:S1 w1 G7 #[.p cb] 91 (0,0)) (hE:S1 w1 X6 #[.bool false] 4 (0,0))
  (hnA:¬Rn.fp {R with ca:=a,cc:=n,cl:=R.cl ++ [E4 cb rc]} G7) (hnE:¬Rn.fp {R with ca:=a,cc:=n,cl:=R.cl ++ [E4 cb rc]} X6) (hT:Jw0 top G7 X6 R.rb cb) :
  Fix Y fb q w0 (Γ.add i X.n G7 X6 top) (zh0 X cb rc s) {R with ca:=a,cc:=n,cl:=R.cl ++ [E4 cb rc]} w1 Mn (some i) ft:=by
 have hle:∀j,j<(R.cl ++ [E4 cb rc]).length->j≠i->j<R.cl.length:=fun j hj V2=>by
  rw[List.length_append,List.length_singleton]at hj;omega
 have hold:∀j c,(R.cl ++ [E4 cb rc])[j]? =some c->j≠i->R.cl[j]? =some c:=fun j c hc V2=>by
  rcases bb0 hc with z|⟨z,_⟩
  ·exact z
  ·exact absurd (z.trans hi) V2
 have Z0:∀c,(R.cl ++ [E4 cb rc])[i]? =some c->c=E4 cb rc:=fun c hc=>by
  rw[<- hi]at hc;simp at hc;exact hc.symm
 have hnf:∀b,b<w.heap.size->¬R.fp b->¬Rn.fp {R with ca:=a,cc:=n,cl:=R.cl ++ [E4 cb rc]} b:=fun b hb hf z=>(hfp b z).elim hf (Nat.not_le_of_lt hb);have hgi:∀{j},j≠i->(Γ.add i X.n G7 X6 top).gi j=Γ.gi j:=fun hj=>j4 hj;have Kp0:(Γ.add i X.n G7 X6 top).gi i=X.n:=R3;have Qa0:∀{j},j≠i->(Γ.add i X.n G7 X6 top).ab j=Γ.ab j:=fun hj=>j4 hj;have Qb0:(Γ.add i X.n G7 X6 top).ab i=G7:=R3;have wt0:∀{j},j≠i->(Γ.add i X.n G7 X6 top).eb j=Γ.eb j:=fun hj=>j4 hj;have zi0:(Γ.add i X.n G7 X6 top).eb i=X6:=R3;have htn:∀{j},j≠i->(Γ.add i X.n G7 X6 top).top j=Γ.top j:=fun hj=>j4 hj;have hti:(Γ.add i X.n G7 X6 top).top i=top:=R3;have hpn:∀{j},j≠i->(Γ.add i X.n G7 X6 top).pv j=Γ.pv j:=fun hj=>j4 hj;have hpi:(Γ.add i X.n G7 X6 top).pv i=fun _=>False:=R3;have hgn:∀j,j<R.cl.length->Y.nil j=false->Γ.gi j≠X.n:=fun j hj e8 e=>by
  have:=(h.ck j _ (List.getElem?_eq_getElem hj) e8).dl0;omega
 have R6:∀g,g≠0->(zh0 X cb rc s).N1 g=X.N1 g:=fun g hg=>Go.ConcN.upd_ne _ _ hg;have Kq0:∀g,g≠X.n->(zh0 X cb rc s).stay g=X.stay g:=fun g hg=>Go.ConcN.upd_ne _ _ hg;have Kr0:∀b,b<w.heap.size->(∀k,k<R.cl.length->Y.nil k=false->b≠Γ.ab k/\b≠Γ.eb k)->∀k,k<(R.cl ++ [E4 cb rc]).length->Y.nil k=false->b≠(Γ.add i X.n G7 X6 top).ab k/\b≠(Γ.add i X.n G7 X6 top).eb k:=fun b hb hk k hkl hnk=>by
  by_cases z9:k=i
  ·rw[z9,Qb0,zi0];constructor <;> omega
  ·rw[Qa0 z9,wt0 z9];exact hk k (hle k hkl z9) hnk
 refine⟨hM,h.m,fun j c hc hj=>?_,fun j c hc e8=>?_,fun b hb=>?_,fun j hj e8=>?_,fun j b hb=>?_,fun b hb=>?_,Nat.succ_pos _,(fun z=>by cases z),(fun z=>by cases z),Nat.le_trans h.size I2,h.l3,?_,.inl h.chy,fun g s' o7 hs'=>?_,fun j k hj hk e8 hnk=>?_,fun j k hj hk e8 hnk=>?_,fun j k c d hc hd e8 hnk=>?_,fun j c hc e8=>?_,rfl,rfl,?_,?_,fun b hb=>h.k5 b (Nat.le_trans I2 hb),(fun z=>by cases z),⟨h.base.le,fun b hb=>?_,h.base.pl⟩⟩
 ·have V2:j≠i:=fun e=>hj (by rw[e]);have z:=hold j c hc V2;have hjl:=(List.getElem?_eq_some_iff.1 z).1;obtain⟨f,h1,h2⟩:=h.cl j c z (by simp);refine⟨f,h1,h2.v5 (Γ':=Γ.add i X.n G7 X6 top) (hY.trans _) (hY.refl _ Γ.gm) (fun b hb=>Y1 b (h.pv j b hb).1 (h.pv j b hb).2.1) I2 (fun e8=>?_) (fun e8=>?_) (wt0 V2) (hgi V2) (htn V2) (hpn V2) rfl⟩
  ·have:=(h.ck j c z e8).dl0;exact R6 _ (by omega)
  ·exact Y1 _ (h.ck j c z e8).he.choose_spec.lt (h.side j hjl e8).2.2.2
 ·by_cases V2:j=i
  ·subst V2;obtain rfl:=Z0 c hc;refine⟨by rw[hti,Qb0,zi0];exact hT,by rw[Qb0];exact hA,⟨false,by rw[zi0];exact hE⟩,⟨by rw[Kp0];exact h.ki0,by rw[Kp0];exact Nat.lt_succ_self _⟩,by rw[Kp0];exact Go.ConcN.upd_same _ _ _,.inr rfl⟩
  ·have z:=hold j c hc V2;have hk:=h.ck j c z e8;have hjl:=(List.getElem?_eq_some_iff.1 z).1;have hs:=h.side j hjl e8;refine⟨by rw[htn V2,Qa0 V2,wt0 V2];exact hk.top,by rw[Qa0 V2];exact(Y1 _ hk.ha.lt hs.2.2.1).trans hk.ha,?_,⟨by rw[hgi V2];exact hk.dl0.1,by rw[hgi V2];exact Nat.lt_succ_of_lt hk.dl0.2⟩,by rw[hgi V2,Kq0 _ (hgn j hjl e8)];exact hk.stay,.inl hk.ch⟩;obtain⟨en,he⟩:=hk.he;exact⟨en,by rw[wt0 V2];exact(Y1 _ he.lt hs.2.2.2).trans he⟩
 ·rcases hfp b hb with z|z
  ·exact h.fpB b z
  ·exact Nat.le_trans h.size z
 ·by_cases V2:j=i
  ·subst V2;rw[Qb0,zi0];exact⟨Nat.le_trans h.size hab,Nat.le_trans h.size heb,hnA,hnE⟩
  ·have hjl:=hle j hj V2;have hs:=h.side j hjl e8;have hk:=h.ck j _ (List.getElem?_eq_getElem hjl) e8;rw[Qa0 V2,wt0 V2];exact⟨hs.1,hs.2.1,hnf _ hk.ha.lt hs.2.2.1,hnf _ hk.he.choose_spec.lt hs.2.2.2⟩
 ·by_cases V2:j=i
  ·subst V2;rw[hpi]at hb;exact hb.elim
  ·rw[hpn V2]at hb;have hp:=h.pv j b hb;refine⟨Nat.lt_of_lt_of_le hp.1 I2,hnf b hp.1 hp.2.1,hp.2.2.1,Kr0 b hp.1 hp.2.2.2.1,fun k hk hkp=>?_⟩;by_cases z9:k=i
   ·subst z9;rw[hpi]at hkp;exact hkp
   ·rw[hpn z9]at hkp;exact hp.2.2.2.2 k hk hkp
 ·have hm:=h.mn b hb;have D8:b<w.heap.size:=by
   rcases Nat.lt_or_ge b w.heap.size with z|z
   ·exact z
   ·exact absurd (hm.1.symm.trans (Array.getElem?_eq_none z)) hb
  exact⟨(Y1 b D8 hm.2.1).trans hm.1,hnf b D8 hm.2.1,Kr0 b D8 hm.2.2⟩
 ·rw[Kq0 0 (by have:=h.ki0;omega)];exact h.lk0
 ·rw[R6 g o7]at hs';obtain⟨j,c,h1,h2,h3,h4,_⟩:=h.n4 g s' o7 hs';have hjl:=(List.getElem?_eq_some_iff.1 h1).1;have V2:j≠i:=by omega
  exact⟨j,c,by show(R.cl ++ [E4 cb rc])[j]? =some c;rw[List.getElem?_append_left hjl];exact h1,h2,by rw[hgi V2];exact h3,h4,fun e=>V2 (Option.some.inj e)⟩
 ·intro e;by_cases V2:j=i <;> by_cases z9:k=i
  ·rw[V2,z9]
  ·rw[V2,Kp0,hgi z9]at e;exact absurd e.symm (hgn k (hle k hk z9) hnk)
  ·rw[z9,Kp0,hgi V2]at e;exact absurd e (hgn j (hle j hj V2) e8)
  ·rw[hgi V2,hgi z9]at e;exact h.Br0 j k (hle j hj V2) (hle k hk z9) e8 hnk e
 ·have hlo:∀j,j<R.cl.length->Y.nil j=false->Γ.eb j<w.heap.size:=fun j hj e8=>(h.ck j _ (List.getElem?_eq_getElem hj) e8).he.choose_spec.lt;intro e;by_cases V2:j=i <;> by_cases z9:k=i
  ·rw[V2,z9]
  ·rw[V2,zi0,wt0 z9]at e;have:=hlo k (hle k hk z9) hnk;omega
  ·rw[z9,zi0,wt0 V2]at e;have:=hlo j (hle j hj V2) e8;omega
  ·rw[wt0 V2,wt0 z9]at e;exact h.ud0 j k (hle j hj V2) (hle k hk z9) e8 hnk e
 ·have hlo:∀j c,R.cl[j]? =some c->Y.nil j=false->c.rc<w.heap.size:=fun j c hc e8=>h.under.B8 _ (h.ck j c hc e8).ch;intro e;by_cases V2:j=i <;> by_cases z9:k=i
  ·rw[V2,z9]
  ·subst V2;obtain rfl:=Z0 c hc;have:=hlo k d (hold k d hd z9) hnk;have e:rc=d.rc:=e;omega
  ·subst z9;obtain rfl:=Z0 d hd;have:=hlo j c (hold j c hc V2) e8;have e:c.rc=rc:=e;omega
  ·exact h.Fo0 j k c d (hold j c hc V2) (hold k d hd z9) e8 hnk e
 ·by_cases V2:j=i
  ·subst V2;obtain rfl:=Z0 c hc;have:=h.under.B8 _ h.chy;show rc≠R.yb;omega
  ·exact h.ry j c (hold j c hc V2) e8
 ·show X.cap+1 <=(R.cl ++ [E4 cb rc]).length;have:=h.cap;simp;omega
 ·have hu:=h.under.mono I2;have e7:cb<w1.heap.size:=(hM.blk i (E4 cb rc) (by show(R.cl ++ [E4 cb rc])[i]? =_;rw[<- hi];simp)).lt;refine⟨fun g p hp=>?_,hu.G4,fun b hb=>?_,hu.l3,fun b hb=>?_⟩
  ·by_cases hg:g=X.n
   ·subst hg;have hp':p∈Go.ConcN.upd X.stay X.n [((⟨cb,2,none⟩:Addr),Value.chan (some rc))] X.n:=hp;rw[Go.ConcN.upd_same]at hp';simp at hp';rw[hp'];exact e7
   ·rw[Kq0 g hg]at hp;exact hu.stay g p hp
  ·rcases hb with z|rfl
   ·exact hu.B8 b z
   ·exact hrc.2
  ·rcases hb with(z|rfl)|rfl
   ·exact hu.low b z
   ·exact e7
   ·exact hrc.2
 ·have h1:=h.base.le;have h2:=h.size;rcases hb with(z|rfl)|rfl
  ·exact h.base.low b z
  ·omega
  ·omega
end
end
end Go.Vy.Sc
end
section
namespace Go.Vy.Sc
open Go Go.Conc Go.Yc Go.RowKit Go.Proofs Go.Proofs.YtnifpkopeheodaaGreat Tryz
open Go.Vc Go.Wg
attribute [local irreducible] KK
def tpT (w:World) (t n s:Nat) (m:Gm):Tape:=fun j q=>if 3 <=j then m (j-3) else(tl0 (tl0 (tl0 w 0 t) 1 n) 2 s).tape j q
theorem tpm (U w:World) (t n s d:Nat) (m:Gm):gm (Yc.N2 U (tpT w t n s m) d)=m:=funext fun i=>by
 show(if 3 <=i+3 then m (i+3-3) else(tl0 (tl0 (tl0 w 0 t) 1 n) 2 s).tape (i+3) (.sched 0))=m i;rw[if_pos (by omega),Nat.add_sub_cancel]
theorem tp1 (U w:World) (t n s d:Nat) (m:Gm):gh (Yc.N2 U (tpT w t n s m) d) 1=n:=rfl
structure Bt0 {P:Program} (K:L9 P) (beg:K.S->ix0 K.S K.L) (u:World) (F:Nat->Prop):Prop where
 inv:K.Inv (K.sOf (gh u 0)) (gm u) u F
 r2:gh u 1=0
 on:gh u 2=0
 out:K.out (gh u 0)=beg (K.sOf (gh u 0))
 os:u.os=K.base.os
 output:u.output=K.base.output
 at_:K.BAt (gh u 0)
structure lm0 (Y:Sys) (fb:Nat->FuncId) (caps:Nat->Array Value) (fv:Nat->Value) (ba sa:Option Addr) (sn:Nat) (sc:Nat->Int):Prop where
 sys:ny0 Y
 m1:Y.m <=16
 sn1:sn <=262144
 bsl:SL ba Y.m
 ssl:SL sa sn
 fn:∀i,i<Y.m->(Y.nil i=true/\fv i= .nilFunc)\/(Y.nil i=false/\fv i= .func (.func (fb i)) #[] (caps i)/\∃fn,prog.funcs[fb i]? =some fn/\fn.body.isSome=true/\(fn.name== "runtime.NumGoroutine")=false)
 r2:(Y.pn sc sn).r2.length <=1000000000
 body:∀(base:World) (i cb:Nat) (top:List Frame) (u:World) (F:Nat->Prop),i<Y.m->Y.nil i=false->Bt0 (Y.cfg fb (Y.pn sc sn) base i cb top) (Y.beg i) u F->Y8 (Y.cfg fb (Y.pn sc sn) base i cb top) (G (Frame.enter prog (fb i) (#[] ++ #[.p cb]++caps i) .normal) top) u
def Y9 {L:Type}:Option (L ⊕ Nat)->Int
 |some (.inr x)=>x
 |_=>0
def Ks0 (Y:Sys) (j:Nat):Option (Y.L ⊕ Nat)->Stp
 |some (.inl l)=>Y.stp j l
 |_=>sp0
def o9 {L:Type}:Option (L ⊕ Nat)->Option (L ⊕ Nat)
 |some (.inl _)=>some (.inr 0)
 |x=>x
structure Tie (Y:Sys) (rb0:Nat) (p:PR Y) (R:Rn):Prop where
 rb:R.rb=rb0
 evs:R.evs=p.evs
 r2:R.r2=p.r2
 used:R.used=p.used
 len:R.cl.length=p.ft.length
 n2:∀j c,R.cl[j]? =some c->c.n2=p.who.count (some j)
 ends:∀j,j<Y.m->R.ends[j]? =some (Y9 p.ft[j]?)
namespace Sys
section
variable {Y:Sys}
theorem Qc0 (p:PR Y):p.r2 <+: (Y.bgn p).r2:=by
 unfold bgn;split
 ·exact List.prefix_refl _
 ·exact List.prefix_append _ _
theorem Kt0 (p:PR Y) (i:Nat):p.r2 <+: (Y.v5 p i).r2:=by
 unfold v5;split
 ·exact List.prefix_append _ _
 ·exact List.prefix_refl _
theorem Ku0 (p:PR Y) (e:Int):p.r2 <+: (Y.step p e).r2:=by
 unfold step;split
 ·exact Kt0 _ _
 ·exact List.prefix_refl _
theorem Kv0 {n k:Nat}:(Y.P4 n).r2 <+: (Y.P4 (n+k)).r2:=by
 induction k with
 |zero=>exact List.prefix_refl _
 |succ k ih=>exact ih.trans (Qc0 _)
theorem Kw0 {sc:Nat->Int} {n k:Nat}:(Y.pn sc n).r2 <+: (Y.pn sc (n+k)).r2:=by
 induction k with
 |zero=>exact List.prefix_refl _
 |succ k ih=>exact ih.trans (Ku0 _ _)
theorem fh0:∀(n j:Nat),(Y.P4 n).who.count (some j)=0
 |0,_=>rfl
 |n+1,j=>by
  show(Y.bgn (Y.P4 n)).who.count (some j)=0;unfold bgn;split
  ·exact fh0 n j
  ·simp[fh0 n j]
theorem zj0:∀n,(Y.P4 n).evs=[]/\(Y.P4 n).used=0
 |0=>⟨rfl,rfl⟩
 |n+1=>by
  show(Y.bgn (Y.P4 n)).evs=[]/\(Y.bgn (Y.P4 n)).used=0;unfold bgn;split <;> exact zj0 n
theorem kk0:∀n,(Y.P4 n).outs.length <=n
 |0=>Nat.le_refl _
 |n+1=>by
  show(Y.bgn (Y.P4 n)).outs.length <=n+1;have:=kk0 n;unfold bgn;split <;> simp <;> omega
theorem Kx0 (p:PR Y) (e:Int):(Y.step p e).evs.length <=p.evs.length+1/\(Y.step p e).outs.length <=p.outs.length+1:=by
 unfold step;split
 ·unfold v5;split <;> simp
 ·simp
theorem nz0 (sc:Nat->Int):∀n,(Y.pn sc n).evs.length <=n/\(Y.pn sc n).outs.length <=Y.m+n
 |0=>by
  have h1:=(zj0 (Y:=Y) Y.m).1;have h2:=kk0 (Y:=Y) Y.m;show(Y.P4 Y.m).evs.length <=0/\_;rw[h1];exact⟨Nat.le_refl _,by simpa [pn]using h2⟩
 |n+1=>by
  have h1:=nz0 sc n;have h2:=Kx0 (Y:=Y) (Y.pn sc n) (sc n);show(Y.step (Y.pn sc n) (sc n)).evs.length <=_/\(Y.step (Y.pn sc n) (sc n)).outs.length <=_;omega
theorem oa0 {sc:Nat->Int} {n:Nat} (h:Y.rds (Y.pn sc n)=[]):∀k,Y.pn sc (n+k)=Y.pn sc n
 |0=>rfl
 |k+1=>by
  show Y.step (Y.pn sc (n+k)) (sc (n+k))=_;rw[oa0 h k];unfold step;rw[h];rfl
theorem mi0 {p:PR Y} {j i:Nat} (h:(Y.rds p)[j]? =some i):i<Y.m/\Y.B7 p i=true:=by
 have:=List.mem_of_getElem? h;simpa [rds]using this
end
end Sys
section
variable {Y:Sys}{fb:Nat->FuncId}{caps:Nat->Array Value}{fv:Nat->Value}{ba sa:Option Addr}{sn:Nat}{sc:Nat->Int}{Mn:Nat->Option Obj}{w0:World}{rb0:Nat}
variable (Y fb sn sc Mn w0 rb0) in
def JB (i:Nat) (X:Gh) (R:Rn) (w:World):Prop :=
 i <=Y.m/\(∃Γ,Main Y fb (Y.pn sc sn) w0 Γ X R w Mn (fun j=>(Y.P4 i).ft[j]?) (Y.P4 i).s)/\Tie Y rb0 (Y.P4 i) R/\R.W4=List.replicate Y.m sp0/\R.stuck=false
variable (Y fb sn sc Mn w0 rb0) in
def J2 (n:Nat) (X:Gh) (R:Rn) (w:World):Prop :=
 n <=sn/\(∃Γ,Main Y fb (Y.pn sc sn) w0 Γ X R w Mn (fun j=>(Y.pn sc n).ft[j]?) (Y.pn sc n).s)/\Tie Y rb0 (Y.pn sc n) R/\R.W4=List.replicate Y.m sp0/\R.stuck=false
variable (Y fb sn sc Mn w0 rb0) in
def JE (i:Nat) (X:Gh) (R:Rn) (w:World):Prop :=
 i <=Y.m/\(∃Γ,Main Y fb (Y.pn sc sn) w0 Γ X R w Mn (fun j=>if j<i then o9 ((Y.pn sc sn).ft[j]?) else(Y.pn sc sn).ft[j]?) (Y.pn sc sn).s)/\Tie Y rb0 (Y.pn sc sn) R /\
  (∀j,j<Y.m->R.W4[j]? =some (if j<i then Ks0 Y j ((Y.pn sc sn).ft[j]?) else sp0))/\R.stuck=((Y.pn sc sn).ft.any (·.isLeft)&&(Y.rds (Y.pn sc sn)).isEmpty)
theorem Main.get {Γ:Geo} {X:Gh} {R:Rn} {w:World} {q:PR Y} {ft:Nat->Option (Y.L ⊕ Nat)} {s:Y.S} (h:Main Y fb q w0 Γ X R w Mn ft s):∀b,Mn b≠none->w.heap[b]? =Mn b:=fun b hb=>(h.fix.mn b hb).1
theorem uf0 {i:Nat} (hi:i <=Y.m):Y.Le (Y.P4 i) (Y.pn sc sn):=by
 have h1:Y.Le (Y.P4 i) (Y.P4 Y.m):=by
  have:=Sys.Px0 (Y:=Y) (n:=i) (k:=Y.m-i)
  rwa [Nat.add_sub_cancel' hi]at this
 have h2:Y.Le (Y.pn sc 0) (Y.pn sc (0+sn)):=Sys.Tv0;rw[Nat.zero_add]at h2;exact h1.trans h2
theorem wu0 {n:Nat} (hi:n <=sn):Y.Le (Y.pn sc n) (Y.pn sc sn):=by
 have:=Sys.Tv0 (Y:=Y) (sc:=sc) (n:=n) (k:=sn-n)
 rwa [Nat.add_sub_cancel' hi]at this
theorem Bu0 {i:Nat} (hi:i <=Y.m):(Y.P4 i).r2 <+: (Y.pn sc sn).r2:=by
 have h1:(Y.P4 i).r2 <+: (Y.P4 Y.m).r2:=by
  have:=Sys.Kv0 (Y:=Y) (n:=i) (k:=Y.m-i)
  rwa [Nat.add_sub_cancel' hi]at this
 have h2:(Y.pn sc 0).r2 <+: (Y.pn sc (0+sn)).r2:=Sys.Kw0;rw[Nat.zero_add]at h2;exact h1.trans h2
theorem Ky0 {n:Nat} (hi:n <=sn):(Y.pn sc n).r2 <+: (Y.pn sc sn).r2:=by
 have:=Sys.Kw0 (Y:=Y) (sc:=sc) (n:=n) (k:=sn-n)
 rwa [Nat.add_sub_cancel' hi]at this
theorem mj0 {p:PR Y} {i:Nat} (hi:p.ft.length=i) (x:Y.L ⊕ Nat):(fun j=>if j=i then some x else p.ft[j]?)=fun j=>(p.ft ++ [x])[j]?:=by
 funext j;subst hi;rcases Nat.lt_trichotomy j p.ft.length with h|h|h
 ·rw[if_neg (by omega),List.getElem?_append_left h]
 ·subst h;simp
 ·rw[if_neg (by omega),List.getElem?_eq_none (by omega),List.getElem?_eq_none (by simp;omega)]
theorem Dv0 {p:PR Y} {i:Nat} (hi:i<p.ft.length) (x:Y.L ⊕ Nat):(fun j=>if j=i then some x else p.ft[j]?)=fun j=>(p.ft.set i x)[j]?:=by
 funext j;by_cases h:j=i
 ·subst h;simp[hi]
 ·rw[if_neg h,List.getElem?_set_ne (Ne.symm h)]
theorem kl0 {e:List Int} {i:Nat} {f:Y.L ⊕ Nat} {g:Nat->Option (Y.L ⊕ Nat)} {m:Nat} (h:∀j,j<m->e[j]? =some (Y9 (g j))) (hl:e.length=m) (h0:Y9 (g i)=0) (j:Nat) (hj:j<m):(kj0 e i f)[j]? =some (Y9 (if j=i then some f else g j)):=by
 cases f with
 |inl l=>
  show e[j]? =_;by_cases V2:j=i
  ·subst V2;rw[h j hj,h0,if_pos rfl];rfl
  ·rw[h j hj,if_neg V2]
 |inr x=>
  show(e.set i (x:Int))[j]? =_;by_cases V2:j=i
  ·subst V2;rw[if_pos rfl];simp[hl,hj];rfl
  ·rw[List.getElem?_set_ne (Ne.symm V2),h j hj,if_neg V2]
set_option maxRecDepth 20000 in
theorem Wq0 (hO:lm0 Y fb caps fv ba sa sn sc) {Post:Value->World->Prop} {i:Nat} {X:Gh} {R:Rn} {w w':World} {a:Option Addr} {n cb rc:Nat} (hi:i<Y.m) (hJ:JB Y fb sn sc Mn w0 rb0 i X R w) (hf:fv i≠.nilFunc) (hcb:w.heap.size <=cb) (hrc:w.heap.size <=rc) (o3:cb≠rc) (G6:ChanAt w' rc)
  (hg:Rg R.fp w.heap.size w w' w0.heap.size {R with ca:=a,cc:=n,cl:=R.cl ++ [E4 cb rc]}) {me0:Goroutine} (hk:∀X' R' u v,JB Y fb sn sc Mn w0 rb0 (i+1) X' R' u->Fin prog Post X' 0 (Go.Conc.served me0 v) u) :
  Fin prog Post (Gh.hire {X.lower cb with pend:=1,cap:=X.cap+1,dn:=0} ⟨R.yb,.i 0,me0⟩) X.n (born prog (dcall 106 #[.p cb,fv i])) w':=by
 obtain⟨_,⟨Γ,hM⟩,hT,bc0,bl0⟩:=hJ;obtain⟨hn,hfv,fn,hfn,hbd,hnm⟩:Y.nil i=false/\fv i= .func (.func (fb i)) #[] (caps i)/\∃fn,prog.funcs[fb i]? =some fn/\fn.body.isSome=true/\(fn.name== "runtime.NumGoroutine")=false:=by
  rcases hO.fn i hi with h|h
  ·exact absurd h.2 hf
  ·exact h
 have hF:=hM.fix;have hlen:R.cl.length=i:=hT.len.trans (Sys.T5 i);have hok:=Sys.wr0 (Y:=Y) i;have hle:Y.Le (Y.P4 (i+1)) (Y.pn sc sn):=uf0 (by omega);have hbg:Y.P4 (i+1)={Y.P4 i with s:=(Y.beg i (Y.P4 i).s).s,ft:=(Y.P4 i).ft ++ [(Y.beg i (Y.P4 i).s).K8],r2:=(Y.P4 i).r2++tell i (Y.P4 i).evs.length (Y.beg i (Y.P4 i).s).r2,outs:=(Y.P4 i).outs ++ [Y.beg i (Y.P4 i).s],who:=(Y.P4 i).who ++ [none]}:=by
  show Y.bgn (Y.P4 i)=_;unfold Sys.bgn;rw[Sys.T5 i,hn];rfl
 generalize hp:Y.P4 i=p at *;have hs:Y.sAt (Y.pn sc sn) p.outs.length=p.s:=Sys.Py0 hok (by rw[<- hp];exact uf0 (by omega));have ho:Y.S4 (Y.pn sc sn) p.outs.length=Y.beg i p.s:=Sys.Kl0 (p':=Y.P4 (i+1)) (by rw[hbg]) hle;obtain⟨F,hinv,hFf⟩:=hM.inv;have H9:=hO.sys.vis _ _ _ _ hinv;refine Fin.chan (b:=rc) (k:=0) ⟨fun j x hx=>?_,(hF.under.ca0 hrc).G4,(hF.under.ca0 hrc).B8,(hF.under.ca0 hrc).l3⟩ (fun z=>?_) (hF.k5 rc hrc) G6 ?_
 ·exact(hF.under.ca0 hrc).stay j x hx
 ·rcases z with z|z
  ·have:=hF.under.low rc z;omega
  ·exact o3 z.symm
 have hrl:=G6.lt;have lc1:S1 w' cb ((E4 cb rc).cells R.rb i) 149 (0,3):=hg.m.blk i (E4 cb rc) (by show(R.cl ++ [E4 cb rc])[i]? =_;rw[<- hlen];simp);have Js0:∀b,b≠rc->(Y2 w' rc nothing).heap[b]? =w'.heap[b]?:=fun b hb=>X5 _ _ (Ne.symm hb);have dz1:S1 (Y2 w' rc nothing) cb ((E4 cb rc).cells R.rb i) 149 (0,3):=(Js0 cb o3).trans lc1;have Fm0:(Y2 w' rc nothing).heap.size=w'.heap.size:=by simp[Y2]
 have ld1:¬Rn.fp {R with ca:=a,cc:=n,cl:=R.cl ++ [E4 cb rc]} rc:=fun z=>by
  have hx:=G6;have own:∀{E:TypeId} {s n c:Nat} {a:Option Addr} {xs:List Value},Own w' w0.heap.size E s a n c xs->a≠none->rc=ab a->False:=fun h ha e=>by
   obtain⟨cur,hB,_⟩:=h.row ha;unfold ChanAt at hx;rw[e]at hx;unfold O0 at hB;rw[hx]at hB;cases hB
  have blk:∀{b:Nat} {cs:Array Value} {T:TypeId} {f:Nat×Nat},S1 w' b cs T f->rc=b->False:=fun h e=>by
   unfold ChanAt at hx;rw[e]at hx;unfold S1 at h;rw[hx]at h;cases h
  rcases z with e|e|e|⟨ha,e⟩|⟨ha,e⟩|⟨ha,e⟩|⟨j,c,hc,e⟩
  ·exact blk hg.m.run e
  ·exact blk hg.m.ends e
  ·exact blk hg.m.W4 e
  ·exact own hg.m.cls ha e
  ·exact own hg.m.evs ha e
  ·exact own hg.m.r2 ha e
  ·exact blk (hg.m.blk j c hc) e
 have hM2:k4 (Y2 w' rc nothing) w0.heap.size {R with ca:=a,cc:=n,cl:=R.cl ++ [E4 cb rc]}:=hg.m.congr fun b hb=>Js0 b fun e=>ld1 (e▸hb);refine Fin.stay (l:=[(⟨cb,2,none⟩,.chan (some rc))]) (fun x hx=>?_) ?_
 ·simp at hx;subst hx;exact⟨dz1.E0 2 rfl,by rw[dz1.frozen];rfl⟩
 show Fin prog Post (zh0 X cb rc ⟨R.yb,.i 0,me0⟩) X.n _ _;rw[hfv];refine Jy0 (i:=i) (c:=E4 cb rc) hfn hbd hnm hM2 (by show(R.cl ++ [E4 cb rc])[i]? =_;rw[<- hlen];simp) fun w1 top G7 X6 Y5 lA lE hA hE le1=>?_;have Wh0:w.heap.size <=w1.heap.size:=Nat.le_trans hg.md.size (by have:=Y5.size;omega);have Y1:∀b,b<w.heap.size->¬R.fp b->w1.heap[b]? =w.heap[b]?:=fun b hb hf=>by
  rw[Y5.block b (by have:=hg.md.size;omega),Js0 b (by omega)];exact hg.md.block b hb hf
 have hM1:=hM2.j0 Y5;have ea1:∀b,Rn.fp {R with ca:=a,cc:=n,cl:=R.cl ++ [E4 cb rc]} b->b<(Y2 w' rc nothing).heap.size:=fun b hb=>hM2.lt hb;have hsA:w.heap.size <=(Y2 w' rc nothing).heap.size:=by rw[Fm0];exact hg.md.size
 have ls0:=hF.hire hO.sys.toLeOk (s:=⟨R.yb,.i 0,me0⟩) (top:=top) hn hlen rfl hM1 Wh0 ⟨Y5.os.trans hg.md.os,Y5.output.trans hg.md.output⟩ Y1 hg.fp hcb ⟨hrc,by have:=Y5.size;omega⟩ (by omega) (by omega) hA hE (fun z=>by have:=ea1 _ z;omega) (fun z=>by have:=ea1 _ z;omega) le1;refine ah0 _ _ fun nv=>?_;haveI:DecidablePred F:=fun _=>Classical.propDecidable _;refine mh0 F (cz0 (τ:=tpT w1 p.outs.length 0 0 Γ.gm) (d:=w1.drawn) ?_);have eb1:∀b,(Rn.fp {R with ca:=a,cc:=n,cl:=R.cl ++ [E4 cb rc]} b\/Kept Y (Γ.add i X.n G7 X6 top) {R with ca:=a,cc:=n,cl:=R.cl ++ [E4 cb rc]} Mn b)->¬F b:=fun b hb hFb=>by
  have hv:=H9 b hFb;have hff:=hFf b hFb;rcases hb with hb|hb|⟨k,hk,hnk,hb⟩|⟨j,hb⟩
  ·rcases hg.fp b hb with z|z
   ·exact hff.1 z
   ·omega
  ·exact hff.2 (.inl hb)
  ·by_cases z9:k=i
   ·subst z9;have h1:(Γ.add k X.n G7 X6 top).ab k=G7:=R3;have h2:(Γ.add k X.n G7 X6 top).eb k=X6:=R3;rw[h1,h2]at hb;omega
   ·have h1:(Γ.add i X.n G7 X6 top).ab k=Γ.ab k:=j4 z9;have h2:(Γ.add i X.n G7 X6 top).eb k=Γ.eb k:=j4 z9;rw[h1,h2]at hb;refine hff.2 (.inr (.inl ⟨k,?_,hnk,hb⟩));have hk':k<(R.cl ++ [E4 cb rc]).length:=hk;rw[List.length_append,List.length_singleton]at hk';omega
  ·by_cases V2:j=i
   ·subst V2;have h1:(Γ.add j X.n G7 X6 top).pv j=fun _=>False:=R3;rw[h1]at hb;exact hb
   ·have h1:(Γ.add i X.n G7 X6 top).pv j=Γ.pv j:=j4 V2;rw[h1]at hb;exact hff.2 (.inr (.inr ⟨j,hb⟩))
 have hgi:(Γ.add i X.n G7 X6 top).gi i=X.n:=R3;have hti:(Γ.add i X.n G7 X6 top).top i=top:=R3;have zi0:(Γ.add i X.n G7 X6 top).eb i=X6:=R3;have hpk:Y.n2 (Y.pn sc sn) i p.outs.length=0:=by
  unfold Sys.n2;obtain⟨l,hl⟩:=hle.who;have hw:=hok.who;rw[<- hl,hbg];rw[List.take_append_of_le_length (by simp[hw]),List.take_of_length_le (by simp[hw])];have:=Sys.fh0 (Y:=Y) i i;rw[hp]at this;simp[this]
 have H4:=c9.enter (q:=Y.pn sc sn) (i:=i) (t:=p.outs.length) (at_:=p.evs.length) (cb:=cb) (n0:=p.r2) (R0:={R with ca:=a,cc:=n,cl:=R.cl ++ [E4 cb rc]}) (τ:=tpT w1 p.outs.length 0 0 Γ.gm) (d:=w1.drawn) hO.sys.toLeOk F ls0 eb1 nv rfl (tpm _ _ _ _ _ _ _) (congrArg List.length hT.evs) ⟨E4 cb rc,by show(R.cl ++ [E4 cb rc])[i]? =_;rw[<- hlen];simp,rfl,.inl ⟨rfl,rfl,by
  show R.r2=_;rw[tp1,hT.r2];simp[tell],hpk.symm⟩⟩ ⟨R.na,R.nc,R.r2,rfl⟩ hn (by rw[zi0];exact hE)
 have T2:Bt0 (Y.cfg fb (Y.pn sc sn) w0 i cb top) (Y.beg i) (Yc.N2 (M3 F w1) (tpT w1 p.outs.length 0 0 Γ.gm) w1.drawn) F:=by
  refine⟨?_,rfl,rfl,?_,?_,?_,⟨show p.outs.length <=300000 by have h1:=Sys.kk0 (Y:=Y) i;rw[hp]at h1;have h2:=hO.m1;omega,p,.inl ⟨i,by omega,hp.symm⟩,rfl,hs.symm,by rw[<- hp];exact Sys.T5 i⟩⟩
  ·show Y.Inv (Y.sAt (Y.pn sc sn) p.outs.length) (gm (Yc.N2 (M3 F w1) (tpT w1 p.outs.length 0 0 Γ.gm) w1.drawn)) _ _;rw[hs,tpm];refine hO.sys.loc _ _ w _ F hinv fun b hb=>?_;show(M3 F w1).heap[b]? =_;rw[an0 _ hb,Y1 b (H9 b hb).1 (hFf b hb).1]
  ·show Y.S4 (Y.pn sc sn) p.outs.length=Y.beg i (Y.sAt (Y.pn sc sn) p.outs.length);rw[hs,ho]
  ·exact(Y5.os.trans hg.md.os).trans (hF.os rfl)
  ·exact(Y5.output.trans hg.md.output).trans (hF.output rfl)
 have hpr:=hO.body w0 i cb top _ F hi hn T2;have key:=gv0 (Post:=Post) (z0:=.i 0) (me0:=me0) (st:=false) (X:=zh0 X cb rc ⟨R.yb,.i 0,me0⟩) (Γ:=Γ.add i X.n G7 X6 top) (Mn:=Mn) (ft:=fun j=>p.ft[j]?) (t:=p.outs.length) (at_:=p.evs.length) (n0:=p.r2) (R0:={R with ca:=a,cc:=n,cl:=R.cl ++ [E4 cb rc]}) hO.sys (show Go.ConcN.upd X.N1 0 _ 0=_ from Go.ConcN.upd_same _ _ _) (by
   have h1:=(Bu0 (Y:=Y) (sc:=sc) (sn:=sn) (i:=i+1) (by omega)).length_le;have h2:=hO.r2;rw[hbg]at h1;rw[ho];simp[tell]at h1;omega) (fun Γ' X' R' w2 hA=>?_) (by rw[hti];exact hpr) _ _ H4 (fun c hc=>by
    have p7:(R.cl ++ [E4 cb rc])[i]? =some c:=hc;rw[<- hlen]at p7;simp at p7;rw[<- p7])
 ·rw[hgi]at key;exact key
 ·rcases hA with⟨_,hM',na,nc,c,c',hc,hcp,hR⟩|⟨z,_⟩
  ·have hc:(R.cl ++ [E4 cb rc])[i]? =some c:=hc;have hc0:c=E4 cb rc:=by rw[<- hlen]at hc;simp at hc;exact hc.symm
   rw[ho,mj0 (by rw[<- hp];exact Sys.T5 i)]at hM';refine hk X' R' w2 _ ?_;subst hR;refine⟨by omega,⟨Γ',by rw[hbg];exact hM'⟩,?_,bc0,bl0⟩;rw[hbg];refine⟨hT.rb,hT.evs,?_,hT.used,?_,fun j d hd=>?_,fun j hj=>?_⟩
   ·show p.r2++tell i R.evs.length (Y.S4 (Y.pn sc sn) p.outs.length).r2=_;rw[hT.evs,ho]
   ·show((R.cl ++ [E4 cb rc]).set i c').length=_;simp[hT.len]
   ·have g6:((R.cl ++ [E4 cb rc]).set i c')[j]? =some d:=hd;show d.n2=(p.who ++ [none]).count (some j);have hz:p.who.count (some j)=0:=by rw[<- hp];exact Sys.fh0 i j
    rw[List.getElem?_set]at g6;by_cases V2:i=j
    ·subst V2;rw[if_pos rfl,if_pos (by simp[hlen])]at g6;obtain rfl:=Option.some.inj g6;rw[hcp,hc0];simp[hz]
    ·rw[if_neg V2]at g6;rcases bb0 g6 with z|⟨z,_⟩
     ·rw[hT.n2 j d z];simp
     ·omega
   ·show(kj0 R.ends i (Y.S4 (Y.pn sc sn) p.outs.length).K8)[j]? =some (Y9 ((p.ft ++ [(Y.beg i p.s).K8])[j]?));have hpl:p.ft.length=i:=by rw[<- hp];exact Sys.T5 i
    have h0:=kl0 (Y:=Y) (f:=(Y.beg i p.s).K8) (g:=fun j=>p.ft[j]?) (i:=i) hT.ends (by rw[hF.mem.ep0,hF.m]) (by show Y9 p.ft[i]? =0;rw[List.getElem?_eq_none (by omega)];rfl) j hj;rw[ho,h0];exact congrArg (fun f:Nat->Option (Y.L ⊕ Nat)=>some (Y9 (f j))) (mj0 hpl (Y.beg i p.s).K8)
  ·cases z
end
end Go.Vy.Sc
end
section
namespace Go.Vy.Sc
open Go Go.Conc Go.Yc Go.RowKit Go.Proofs Go.Proofs.YtnifpkopeheodaaGreat Tryz
open Go.Vc Go.Wg
section
attribute [local irreducible] KK
theorem Qd0 {Post:Value->World->Prop} {X:Gh} {h:Nat} {H:Hid} {cs:List Frame} {cb:Nat} {df:Value} {me:Goroutine} {u:World} {K:World->Prop} (h0:(h==0)=false) {num:Nat} (hme:nu0 cs cb df me) (hd:Fb0 prog (T4 prog 47 cb num) df u K)
  (lf1:∀cs2 u2,S9 u u2->u2.tape=u.tape->(∀fr,fr.fn=47->Leaves prog fr u2 (.returned (.i num))->gb0 prog Post X h H (G fr cs2) u2)->gb0 prog Post X h H (G (Frame.enter prog 47 #[.p cb] .normal) cs2) u2)
  (hk:∀u2 fr,S9 u u2->u2.tape=u.tape->K u2->fr.fn=83->Leaves prog fr u2 (.returned (.tuple #[]))->gb0 prog Post X h H (G fr cs) u2):gb0 prog Post X h H (Go.Conc.served me (.bool true)) u:=by
 have e7:Cl prog false (fun g x=>S9 u x->x.tape=u.tape->gb0 prog Post X h H g x):=⟨fun g x hr hs he ht=>nl0 hr fun τ d=>by
  obtain⟨g',u',d',hF,hz⟩:=hs τ d;exact⟨g',u',by rw[h0];exact hF,fun he'=>cz0 (hz (he.trans ⟨he'.size,he'.obj⟩) ht)⟩⟩
 exact hme.yes (T4 prog 47 cb num) (fun g x=>S9 u x->x.tape=u.tape->gb0 prog Post X h H g x) ⟨⟨e7,fun g x hz he ht=>Do0.2 _ _ fun hv=>hz hv he ht⟩,fun cs2 u2 hz he ht=>lf1 cs2 u2 he ht fun fr h3 h4=>hz fr h3 h4 he ht⟩ u K hd (fun u2 fr h1 h2 h3 he ht=>hk u2 fr he ht h1 h2 h3) (S9.refl u) rfl
section
variable {Y:Sys}{fb:Nat->FuncId}{caps:Nat->Array Value}{fv:Nat->Value}{ba sa:Option Addr}{sn:Nat}{sc:Nat->Int}{Mn:Nat->Option Obj}{w0:World}{rb0:Nat}
theorem Qe0 {Γ:Geo} {i:Nat} {N:Nat->Prop}:(Γ.put i N).pv i=N:=by funext b;simp[Geo.put]
theorem ug0 {q:PR Y} {Γ:Geo} {X:Gh} {R R1:Rn} {w:World} {ft:Nat->Option (Y.L ⊕ Nat)} {i:Nat} (hF:Fix Y fb q w0 Γ X R w Mn none ft) (hfp:∀b,R1.fp b->R.fp b\/w.heap.size <=b) (hlen:R1.cl.length=R.cl.length) {F:Nat->Prop} (hFf:∀b,F b->¬R.fp b/\¬Kept Y Γ R Mn b) (hFs:∀b,F b->b<w.heap.size) (b:Nat)
  (hb:R1.fp b\/Kept Y (Γ.put i fun _=>False) R1 Mn b):¬(Γ.pv i b\/F b):=by
 intro hV;have hl:b<w.heap.size/\¬R.fp b:=by
  rcases hV with h|h
  ·exact⟨(hF.pv i b h).1,(hF.pv i b h).2.1⟩
  ·exact⟨hFs b h,(hFf b h).1⟩
 rcases hb with hb|hb|⟨k,hk,hnk,hb⟩|⟨j,hb⟩
 ·rcases hfp b hb with z|z
  ·exact hl.2 z
  ·omega
 ·rcases hV with h|h
  ·exact(hF.pv i b h).2.2.1 hb
  ·exact(hFf b h).2 (.inl hb)
 ·rw[hlen]at hk;rcases hV with h|h
  ·have:=(hF.pv i b h).2.2.2.1 k hk hnk;rcases hb with hb|hb
   ·exact this.1 hb
   ·exact this.2 hb
  ·exact(hFf b h).2 (.inr (.inl ⟨k,hk,hnk,hb⟩))
 ·by_cases V2:j=i
  ·subst V2;rw[Qe0]at hb;exact hb
  ·rw[ws0 V2]at hb;rcases hV with h|h
   ·exact(hF.pv i b h).2.2.2.2 j V2 hb
   ·exact(hFf b h).2 (.inr (.inr ⟨j,hb⟩))
theorem Fix.waits {q:PR Y} {Γ:Geo} {X:Gh} {R:Rn} {w:World} {ft:Nat->Option (Y.L ⊕ Nat)} (hF:Fix Y fb q w0 Γ X R w Mn none ft) {i:Nat} {c:CB} (hc:R.cl[i]? =some c):(c.wt=true/\Y.nil i=false/\∃l,ft i=some (.inl l)/\Wt Y fb q w0 Γ X w i c l)\/(c.wt=false/\∃x,ft i=some (.inr x)/\(Y.nil i=true\/X.N1 (Γ.gi i)=none)):=by
 obtain⟨f,h1,h2⟩:=hF.cl i c hc (by simp);rcases h2 with⟨h3,h4,h5,h6⟩|⟨h3,h4⟩
 ·exact .inr ⟨h5,1,by rw[h1,h4],.inl h3⟩
 ·cases f with
  |inl l=>exact .inl ⟨h4.wt,h3,l,h1,h4⟩
  |inr x=>exact .inr ⟨h4.1,x,h1,.inr h4.2.2⟩
theorem Wt.L7 (hY:ny0 Y) {q:PR Y} {Γ:Geo} {X:Gh} {R:Rn} {w:World} {i:Nat} {c:CB} {l:Y.L} {F:Nat->Prop} {s:Y.S} {wn:World} {mn:Gm} {Fn:Nat->Prop} (hpv:∀b,Γ.pv i b↔b<wn.heap.size/\wn.heap[b]? ≠some nothing/\¬Fn b) (M8:∀b,Γ.pv i b->w.heap[b]? =wn.heap[b]?) (hos:wn.os=w0.os) (bk0:wn.output=w0.output) (I2:wn.heap.size <=w.heap.size) (Bv0:Y.le i mn Γ.gm)
  (hinv:Y.Inv s Γ.gm w F) (hFf:∀b,F b->¬Γ.pv i b) {u:World} (hu:∀b,Γ.pv i b\/F b->u.heap[b]? =w.heap[b]?) (lg1:w.heap.size <=u.heap.size) (lh1:u.os=w0.os) (ec1:u.output=w0.output) (hs:Y.sAt q (gh u 0)=s) (hgm:gm u=Γ.gm) {cb:Nat} {top:List Frame}:(Y.cfg fb q w0 i cb top).I5 wn mn Fn u F:=by
 refine⟨Nat.le_trans I2 lg1,fun b hb h1 h2=>?_,?_,by rw[hgm];exact Bv0,lh1.trans hos.symm,ec1.trans bk0.symm⟩
 ·have hp:=(hpv b).2 ⟨hb,h1,h2⟩;exact⟨(hu b (.inl hp)).trans (M8 b hp),fun z=>hFf b z hp⟩
 ·show Y.Inv (Y.sAt q (gh u 0)) (gm u) u F;rw[hs,hgm];exact hY.loc _ _ w u F hinv fun b hb=>hu b (.inr hb)
set_option maxRecDepth 20000 in
theorem Qf0 (hO:lm0 Y fb caps fv ba sa sn sc) {Post:Value->World->Prop} {n:Nat} {X:Gh} {R:Rn} {w:World} {i:Nat} {c:CB} (hJ:J2 Y fb sn sc Mn w0 rb0 n X R w) (hn:n<sn) (Ty0:(Y.rds (Y.pn sc n))[C7 (sc n) (Y.rds (Y.pn sc n)).length]? =some i) (hc:R.cl[i]? =some c) :
  ∃g z1 me1,g≠0/\X.N1 g=some ⟨c.rc,z1,me1⟩/\X.dn=0/\X.stay 0=[(⟨R.rb,7,none⟩,.chan (some R.yb))]/\(X.B8 R.yb/\∀i s2,i≠g->X.N1 i=some s2->s2.ch≠R.yb) /\
  ∀w' a nn me0,Rg R.fp w.heap.size w w' w0.heap.size {R with ea:=a,ec:=nn,evs:=R.evs ++ [(i,c.sp)],used:=R.used+1,cl:=R.cl.set i {c with n2:=c.n2+1,wt:=false}}->(∀X' R' u v,J2 Y fb sn sc Mn w0 rb0 (n+1) X' R' u->Fin prog Post X' 0 (Go.Conc.served me0 v) u)->Fin prog Post (X.pass 0 g (some ⟨R.yb,.i 0,me0⟩)) g (Go.Conc.served me1 (.bool true)) w':=by
 obtain⟨_,⟨Γ,hM⟩,hT,bc0,bl0⟩:=hJ;have hF:=hM.fix;obtain⟨him,hri⟩:=Sys.mi0 Ty0;have hle:Y.Le (Y.pn sc (n+1)) (Y.pn sc sn):=wu0 (by omega);have Wr0:Y.Le (Y.pn sc n) (Y.pn sc sn):=wu0 (by omega);have hok:=Sys.zd0 (Y:=Y) sc n;have hlp:(Y.pn sc n).ft.length=Y.m:=Sys.b9 sc n;have jd0:Y.pn sc (n+1)=Y.v5 (Y.pn sc n) i:=by
  show Y.step (Y.pn sc n) (sc n)=_;unfold Sys.step;rw[Ty0]
 have Tz0:=(Ky0 (Y:=Y) (sc:=sc) (sn:=sn) (n:=n+1) (by omega)).length_le;generalize hp:Y.pn sc n=p at *;obtain⟨l,hl,hrl⟩:∃l,p.ft[i]? =some (.inl l)/\Y.rdy i l p.s=true:=by
  unfold Sys.B7 at hri;cases hx:p.ft[i]? with
  |none=>rw[hx]at hri;cases hri
  |some f=>
   cases f with
   |inl l=>rw[hx]at hri;exact⟨l,rfl,hri⟩
   |inr x=>rw[hx]at hri;cases hri
 obtain⟨hwt,hnl,l',P5,hW⟩:c.wt=true/\Y.nil i=false/\∃l,p.ft[i]? =some (.inl l)/\Wt Y fb (Y.pn sc sn) w0 Γ X w i c l:=by
  rcases hF.waits hc with h|⟨_,x,h,_⟩
  ·exact h
  ·have h:p.ft[i]? =some (.inr x):=h;rw[hl]at h;cases h
 obtain rfl:l=l':=by rw[hl]at P5;exact Sum.inl.inj (Option.some.inj P5)
 have htn:Y.v5 p i={p with s:=(Y.go i l p.s).s,ft:=p.ft.set i (Y.go i l p.s).K8,evs:=p.evs ++ [(i,Y.stp i l)],r2:=p.r2++tell i (p.evs.length+1) (Y.go i l p.s).r2,outs:=p.outs ++ [Y.go i l p.s],who:=p.who ++ [some i],used:=p.used+1}:=by
  unfold Sys.v5;rw[hl]
 have hs:Y.sAt (Y.pn sc sn) p.outs.length=p.s:=Sys.Py0 hok Wr0;have ho:Y.S4 (Y.pn sc sn) p.outs.length=Y.go i l p.s:=Sys.Kl0 (p':=Y.pn sc (n+1)) (by rw[jd0,htn]) hle;obtain⟨h1,T2,hsp,heb,me,cs,wn,mn,Fn,Rdo,R6,hme,hrf,hdf,hpv,M8,hos,bk0,I2,Bv0,hdo,hgo,mo0⟩:=hW;have hgp:=(hF.ck i c hc hnl).dl0;have F9:(Γ.gi i==0)=false:=by simp;omega
 refine⟨Γ.gi i,.bool false,me,by omega,R6,hF.dn,hF.lk0,⟨hF.chy,fun j s2 hj hs2=>?_⟩,fun w' a nn me0 hg hk=>?_⟩
 ·by_cases hj0:j=0
  ·subst hj0;rw[hF.nx0 rfl]at hs2;cases hs2
  ·obtain⟨k,d,h2,h3,_,h4,_⟩:=hF.n4 j s2 hj0 hs2;rw[h4];exact hF.ry k d h2 h3
 have x7:=(List.getElem?_eq_some_iff.1 hc).1;obtain⟨F,hinv,hFf⟩:=hM.inv;have H9:=hO.sys.vis _ _ _ _ hinv;have Y1:∀b,b<w.heap.size->¬R.fp b->w'.heap[b]? =w.heap[b]?:=hg.md.block;have ls0:=(hF.dt1 hO.sys.toLeOk hnl hc (s0:=⟨R.yb,.i 0,me0⟩)).v5 hO.sys.toLeOk (w':=w') (R':={R with ea:=a,ec:=nn,evs:=R.evs ++ [(i,c.sp)],used:=R.used+1,cl:=R.cl.set i {c with n2:=c.n2+1,wt:=false}}) hg.m rfl rfl rfl hg.fp (by simp) (fun j d hd=>by
  have g6:(R.cl.set i {c with n2:=c.n2+1,wt:=false})[j]? =some d:=hd;rw[List.getElem?_set]at g6;by_cases hj:i=j
  ·subst hj;rw[if_pos rfl,if_pos x7]at g6;obtain rfl:=Option.some.inj g6;exact⟨c,hc,rfl,rfl,fun z=>absurd rfl z⟩
  ·rw[if_neg hj]at g6;exact⟨d,g6,rfl,rfl,fun _=>⟨rfl,rfl⟩⟩) hg.md.size (fun b hb hf _=>.inl (Y1 b hb hf)) (fun z=>by cases z)
 refine ah0 _ _ fun nv=>?_;haveI:DecidablePred fun b=>Γ.pv i b\/F b:=fun _=>Classical.propDecidable _;refine mh0 (fun b=>Γ.pv i b\/F b) (cz0 (τ:=tpT w' p.outs.length 0 0 Γ.gm) (d:=w'.drawn) ?_);have Gv0:=ug0 (i:=i) (R1:={R with ea:=a,ec:=nn,evs:=R.evs ++ [(i,c.sp)],used:=R.used+1,cl:=R.cl.set i {c with n2:=c.n2+1,wt:=false}}) hF hg.fp (by simp) hFf (fun b hb=>(H9 b hb).1);have hpk:Y.n2 (Y.pn sc sn) i p.outs.length=c.n2+1:=by
  unfold Sys.n2;obtain⟨l',P5⟩:=hle.who;have hw:=hok.who;rw[<- P5,jd0,htn];rw[List.take_append_of_le_length (by simp[hw]),List.take_of_length_le (by simp[hw])];rw[hT.n2 i c hc];simp
 have H4:=c9.enter (q:=Y.pn sc sn) (i:=i) (t:=p.outs.length) (at_:=p.evs.length+1) (cb:=c.cb) (n0:=p.r2) (R0:={R with ea:=a,ec:=nn,evs:=R.evs ++ [(i,c.sp)],used:=R.used+1,cl:=R.cl.set i {c with n2:=c.n2+1,wt:=false}}) (τ:=tpT w' p.outs.length 0 0 Γ.gm) (d:=w'.drawn) hO.sys.toLeOk (fun b=>Γ.pv i b\/F b) ls0 Gv0 nv rfl (tpm _ _ _ _ _ _ _) (by show(R.evs ++ [(i,c.sp)]).length=_;rw[hT.evs];simp)
  ⟨{c with n2:=c.n2+1,wt:=false},by show(R.cl.set i _)[i]? =_;simp[x7],rfl,.inl ⟨rfl,T2,by
   show R.r2=_;rw[tp1,hT.r2];simp[tell],hpk.symm⟩⟩ ⟨R.na,R.nc,R.r2,rfl⟩ hnl ((Y1 _ heb.lt (hF.side i x7 hnl).2.2.2).trans heb)
 have ob0:∀b,Γ.pv i b\/F b->b<w.heap.size/\¬R.fp b:=fun b hb=>by
  rcases hb with h|h
  ·exact⟨(hF.pv i b h).1,(hF.pv i b h).2.1⟩
  ·exact⟨(H9 b h).1,(hFf b h).1⟩
 have Ua0:(Y.cfg fb (Y.pn sc sn) w0 i c.cb (Γ.top i)).Goes wn mn Fn l (Yc.N2 (M3 (fun b=>Γ.pv i b\/F b) w') (tpT w' p.outs.length 0 0 Γ.gm) w'.drawn) F:=by
  refine⟨Wt.L7 (u:=Yc.N2 (M3 (fun b=>Γ.pv i b\/F b) w') (tpT w' p.outs.length 0 0 Γ.gm) w'.drawn) (q:=Y.pn sc sn) (X:=X) (R:=R) (c:=c) (l:=l) hO.sys hpv M8 hos bk0 I2 Bv0 hinv (fun b hb z=>(hFf b hb).2 (.inr (.inr ⟨i,z⟩))) (fun b hb=>?_) ?_ (hg.md.os.trans (hF.os rfl)) (hg.md.output.trans (hF.output rfl)) hs (tpm _ _ _ _ _ _ _),rfl,rfl,?_,?_,⟨show p.outs.length <=300000 by have h1:=(Sys.nz0 (Y:=Y) sc n).2;rw[hp]at h1;have h2:=hO.m1;have h3:=hO.sn1;omega,p,.inr ⟨sc,n,hp.symm⟩,rfl,hs.symm,hl⟩⟩
  ·show(M3 (fun b=>Γ.pv i b\/F b) w').heap[b]? =_;rw[an0 (V:=fun b=>Γ.pv i b\/F b) w' hb,Y1 b (ob0 b hb).1 (ob0 b hb).2]
  ·show w.heap.size <=(M3 (fun b=>Γ.pv i b\/F b) w').heap.size;rw[X8];exact hg.md.size
  ·show Y.S4 (Y.pn sc sn) p.outs.length=Y.go i l (Y.sAt (Y.pn sc sn) p.outs.length);rw[hs,ho]
  ·show Y.rdy i l (Y.sAt (Y.pn sc sn) p.outs.length)=true;rw[hs];exact hrl
 refine Qd0 F9 hme (hdo _ F Ua0) (fun cs2 u2 he ht hz=>(H4.evo hO.sys.toLeOk he ht).number hz) fun u2 fr he ht hr hfn hlv=>?_;refine gv0 (z0:=.i 0) (me0:=me0) (st:=false) (cb:=c.cb) (Γ:=Γ.put i fun _=>False) (Mn:=Mn) (ft:=fun j=>p.ft[j]?) (t:=p.outs.length) (at_:=p.evs.length+1) (n0:=p.r2) (R0:={R with ea:=a,ec:=nn,evs:=R.evs ++ [(i,c.sp)],used:=R.used+1,cl:=R.cl.set i {c with n2:=c.n2+1,wt:=false}}) hO.sys G9 ?_ (fun Γ' X' R' w2 hA=>?_) (hgo _ F u2 Ua0 hr ht fr hfn hlv) _ _ (H4.evo hO.sys.toLeOk he ht) (fun d hd=>?_)
 ·rw[jd0,htn]at Tz0;have:=hO.r2;rw[ho];simp[tell]at Tz0;omega
 ·rcases hA with⟨_,hM',na,nc,c0,c',hc0,hcp,hR⟩|⟨z,_⟩
  ·have hc0:(R.cl.set i {c with n2:=c.n2+1,wt:=false})[i]? =some c0:=hc0;have Ws0:c0.n2=c.n2+1:=by simp[x7]at hc0;rw[<- hc0]
   rw[ho,Dv0 (by omega)]at hM';refine hk X' R' w2 _ ?_;subst hR;refine⟨by omega,⟨Γ',by rw[jd0,htn];exact hM'⟩,?_,bc0,bl0⟩;rw[jd0,htn];refine⟨hT.rb,?_,?_,?_,?_,fun j d hd=>?_,fun j hj=>?_⟩
   ·show R.evs ++ [(i,c.sp)]=p.evs ++ [(i,Y.stp i l)];rw[hT.evs,hsp]
   ·show p.r2++tell i (R.evs ++ [(i,c.sp)]).length (Y.S4 (Y.pn sc sn) p.outs.length).r2=p.r2++tell i (p.evs.length+1) (Y.go i l p.s).r2;rw[hT.evs,ho];simp
   ·show R.used+1=p.used+1;rw[hT.used]
   ·show((R.cl.set i {c with n2:=c.n2+1,wt:=false}).set i c').length=(p.ft.set i _).length;simp[hT.len]
   ·have g6:((R.cl.set i {c with n2:=c.n2+1,wt:=false}).set i c')[j]? =some d:=hd;show d.n2=(p.who ++ [some i]).count (some j);rw[List.getElem?_set]at g6;by_cases V2:i=j
    ·subst V2;rw[if_pos rfl,if_pos (by simp[x7])]at g6;obtain rfl:=Option.some.inj g6;rw[hcp,Ws0,hT.n2 i c hc];simp
    ·rw[if_neg V2,List.getElem?_set_ne V2]at g6;rw[hT.n2 j d g6];simp[V2]
   ·show(kj0 R.ends i (Y.S4 (Y.pn sc sn) p.outs.length).K8)[j]? =some (Y9 ((p.ft.set i (Y.go i l p.s).K8)[j]?));have h0:=kl0 (Y:=Y) (f:=(Y.go i l p.s).K8) (g:=fun j=>p.ft[j]?) (i:=i) hT.ends (by rw[hF.mem.ep0,hF.m]) (by show Y9 p.ft[i]? =0;rw[hl];rfl) j hj;rw[ho,h0];exact congrArg (fun f:Nat->Option (Y.L ⊕ Nat)=>some (Y9 (f j))) (Dv0 (by omega) (Y.go i l p.s).K8)
  ·cases z
 ·have g6:(R.cl.set i {c with n2:=c.n2+1,wt:=false})[i]? =some d:=hd;simp[x7]at g6;rw[<- g6];exact T2
set_option maxRecDepth 20000 in
theorem Qg0 (hO:lm0 Y fb caps fv ba sa sn sc) {Post:Value->World->Prop} {X:Gh} {R:Rn} {w:World} {i:Nat} {c:CB} (hJ:JE Y fb sn sc Mn w0 rb0 i X R w) (hc:R.cl[i]? =some c) (hwt:c.wt=true) :
  ∃g z1 me1,g≠0/\X.N1 g=some ⟨c.rc,z1,me1⟩/\X.dn=0/\X.stay 0=[(⟨R.rb,7,none⟩,.chan (some R.yb))]/\(X.B8 R.yb/\∀i s2,i≠g->X.N1 i=some s2->s2.ch≠R.yb) /\
  ∀w' me0,Rg R.fp w.heap.size w w' w0.heap.size {R with W4:=R.W4.set i c.sp}->(∀X' R' u v,JE Y fb sn sc Mn w0 rb0 (i+1) X' R' u/\R'.ca=R.ca/\R'.cc=R.cc->Fin prog Post X' 0 (Go.Conc.served me0 v) u)->Fin prog Post (X.pass 0 g (some ⟨R.yb,.i 0,me0⟩)) g (Go.Conc.served me1 (.bool false)) w':=by
 obtain⟨_,⟨Γ,hM⟩,hT,bc0,bl0⟩:=hJ;have hF:=hM.fix;have x7:=(List.getElem?_eq_some_iff.1 hc).1;have hlp:(Y.pn sc sn).ft.length=Y.m:=Sys.b9 sc sn;have him:i<Y.m:=by have:=hT.len;omega
 have hok:=Sys.zd0 (Y:=Y) sc sn;have hs:Y.sAt (Y.pn sc sn) (Y.pn sc sn).outs.length=(Y.pn sc sn).s:=Sys.Py0 hok (Sys.Le.refl Y _);obtain⟨hnl,l,hl,hW⟩:Y.nil i=false/\∃l,(Y.pn sc sn).ft[i]? =some (.inl l)/\Wt Y fb (Y.pn sc sn) w0 Γ X w i c l:=by
  rcases hF.waits hc with⟨_,h1,l,h2,h3⟩|⟨h,_⟩
  ·exact⟨h1,l,by simpa using h2,h3⟩
  ·rw[hwt]at h;cases h
 generalize hq:Y.pn sc sn=q at *;obtain⟨h1,T2,hsp,heb,me,cs,wn,mn,Fn,Rdo,R6,hme,hrf,hdf,hpv,M8,hos,bk0,I2,Bv0,hdo,hgo,mo0⟩:=hW;have hgp:=(hF.ck i c hc hnl).dl0;have F9:(Γ.gi i==0)=false:=by simp;omega
 refine⟨Γ.gi i,.bool false,me,by omega,R6,hF.dn,hF.lk0,⟨hF.chy,fun j s2 hj hs2=>?_⟩,fun w' me0 hg hk=>?_⟩
 ·by_cases hj0:j=0
  ·subst hj0;rw[hF.nx0 rfl]at hs2;cases hs2
  ·obtain⟨k,d,h2,h3,_,h4,_⟩:=hF.n4 j s2 hj0 hs2;rw[h4];exact hF.ry k d h2 h3
 obtain⟨F,hinv,hFf⟩:=hM.inv;have H9:=hO.sys.vis _ _ _ _ hinv;refine hme.no _ (by have:=@V4 prog Post (X.pass 0 (Γ.gi i) (some ⟨R.yb,.i 0,me0⟩)) (Γ.gi i);rw[F9]at this;exact this) w' R.fp w.heap.size w w0.heap.size {R with W4:=R.W4.set i c.sp} i c hg hc rfl fun u2 fr ch hg2 hfn n7 hlv=>?_;have Y1:∀b,b<w.heap.size->¬R.fp b->u2.heap[b]? =w.heap[b]?:=hg2.md.block;have ls0:=(hF.dt1 hO.sys.toLeOk hnl hc (s0:=⟨R.yb,.i 0,me0⟩)).v5 hO.sys.toLeOk (w':=u2) (R':={R with W4:=R.W4.set i c.sp,cl:=R.cl.set i {c with st:=true}}) hg2.m rfl rfl rfl hg2.fp (by simp) (fun j d hd=>by
  have g6:(R.cl.set i {c with st:=true})[j]? =some d:=hd;rw[List.getElem?_set]at g6;by_cases hj:i=j
  ·subst hj;rw[if_pos rfl,if_pos x7]at g6;obtain rfl:=Option.some.inj g6;exact⟨c,hc,rfl,rfl,fun z=>absurd rfl z⟩
  ·rw[if_neg hj]at g6;exact⟨d,g6,rfl,rfl,fun _=>⟨rfl,rfl⟩⟩) hg2.md.size (fun b hb hf _=>.inl (Y1 b hb hf)) (fun z=>by cases z)
 refine ah0 _ _ fun nv=>?_;haveI:DecidablePred fun b=>Γ.pv i b\/F b:=fun _=>Classical.propDecidable _;refine mh0 (fun b=>Γ.pv i b\/F b) (cz0 (τ:=tpT u2 q.outs.length 0 1 Γ.gm) (d:=u2.drawn) ?_);have Gv0:=ug0 (i:=i) (R1:={R with W4:=R.W4.set i c.sp,cl:=R.cl.set i {c with st:=true}}) hF hg2.fp (by simp) hFf (fun b hb=>(H9 b hb).1);have H4:=c9.enter (q:=q) (i:=i) (t:=q.outs.length) (at_:=R.evs.length) (cb:=c.cb) (n0:=q.r2) (R0:={R with W4:=R.W4.set i c.sp,cl:=R.cl.set i {c with st:=true}}) (τ:=tpT u2 q.outs.length 0 1 Γ.gm) (d:=u2.drawn) hO.sys.toLeOk (fun b=>Γ.pv i b\/F b) ls0 Gv0 nv rfl (tpm _ _ _ _ _ _ _) rfl
  ⟨{c with st:=true},by show(R.cl.set i _)[i]? =_;simp[x7],rfl,.inr ⟨rfl,rfl,hT.r2⟩⟩ ⟨R.na,R.nc,R.r2,rfl⟩ hnl ((Y1 _ heb.lt (hF.side i x7 hnl).2.2.2).trans heb)
 have ob0:∀b,Γ.pv i b\/F b->b<w.heap.size/\¬R.fp b:=fun b hb=>by
  rcases hb with h|h
  ·exact⟨(hF.pv i b h).1,(hF.pv i b h).2.1⟩
  ·exact⟨(H9 b h).1,(hFf b h).1⟩
 have Wt0:(Y.cfg fb q w0 i c.cb (Γ.top i)).I5 wn mn Fn (Yc.N2 (M3 (fun b=>Γ.pv i b\/F b) u2) (tpT u2 q.outs.length 0 1 Γ.gm) u2.drawn) F:=by
  refine Wt.L7 (u:=Yc.N2 (M3 (fun b=>Γ.pv i b\/F b) u2) (tpT u2 q.outs.length 0 1 Γ.gm) u2.drawn) (q:=q) (X:=X) (R:=R) (c:=c) (l:=l) hO.sys hpv M8 hos bk0 I2 Bv0 hinv (fun b hb z=>(hFf b hb).2 (.inr (.inr ⟨i,z⟩))) (fun b hb=>?_) ?_ (hg2.md.os.trans (hF.os rfl)) (hg2.md.output.trans (hF.output rfl)) hs (tpm _ _ _ _ _ _ _)
  ·show(M3 (fun b=>Γ.pv i b\/F b) u2).heap[b]? =_;rw[an0 (V:=fun b=>Γ.pv i b\/F b) u2 hb,Y1 b (ob0 b hb).1 (ob0 b hb).2]
  ·show w.heap.size <=(M3 (fun b=>Γ.pv i b\/F b) u2).heap.size;rw[X8];exact hg2.md.size
 refine gv0 (z0:=.i 0) (me0:=me0) (st:=true) (cb:=c.cb) (Γ:=Γ.put i fun _=>False) (Mn:=Mn) (ft:=fun j=>if j<i then o9 (q.ft[j]?) else q.ft[j]?) (t:=q.outs.length) (at_:=R.evs.length) (n0:=q.r2) (R0:={R with W4:=R.W4.set i c.sp,cl:=R.cl.set i {c with st:=true}}) hO.sys G9 ?_ (fun Γ' X' R' w2 hA=>?_) (mo0 _ F Wt0 rfl fr ch hfn n7 hlv) _ _ H4 (fun d hd=>?_)
 ·have h2:=hO.r2;rw[hq]at h2;have h3:Y.S4 q q.outs.length=Y.o0:=by unfold Sys.S4;rw[List.getElem?_eq_none (Nat.le_refl _)];rfl
  rw[h3];show q.r2.length+0 <=_;omega
 ·rcases hA with⟨z,_⟩|⟨_,hM',na,nc,c0,c',hc0,hcp,hR⟩
  ·cases z
  ·have hc0:(R.cl.set i {c with st:=true})[i]? =some c0:=hc0;have Ws0:c0.n2=c.n2:=by simp[x7]at hc0;rw[<- hc0]
   have Wu0:(fun j=>if j=i then some (.inr 0) else if j<i then o9 (q.ft[j]?) else q.ft[j]?)=fun j=>if j<i+1 then o9 (q.ft[j]?) else q.ft[j]?:=by
    funext j;by_cases V2:j=i
    ·subst V2;rw[if_pos rfl,if_pos (by omega),hl];rfl
    ·rw[if_neg V2];by_cases h3:j<i
     ·rw[if_pos h3,if_pos (by omega)]
     ·rw[if_neg h3,if_neg (by omega)]
   have hM2:Main Y fb q w0 Γ' X' R' w2 Mn (fun j=>if j=i then some (.inr 0) else if j<i then o9 (q.ft[j]?) else q.ft[j]?) (Y.sAt q q.outs.length):=hM';rw[Wu0,hs]at hM2;refine hk X' R' w2 _ ?_;subst hR;refine⟨⟨by omega,⟨Γ',by rw[hq];exact hM2⟩,?_,fun j hj=>?_,by rw[hq];exact bl0⟩,rfl,rfl⟩
   ·rw[hq];refine⟨hT.rb,hT.evs,rfl,hT.used,?_,fun j d hd=>?_,fun j hj=>?_⟩
    ·show((R.cl.set i {c with st:=true}).set i c').length=_;simp[hT.len]
    ·have g6:((R.cl.set i {c with st:=true}).set i c')[j]? =some d:=hd;rw[List.getElem?_set]at g6;by_cases V2:i=j
     ·subst V2;rw[if_pos rfl,if_pos (by simp[x7])]at g6;obtain rfl:=Option.some.inj g6;rw[hcp,Ws0];exact hT.n2 i c hc
     ·rw[if_neg V2,List.getElem?_set_ne V2]at g6;exact hT.n2 j d g6
    ·show(R.ends.set i 0)[j]? =_;have hel:R.ends.length=Y.m:=by rw[hF.mem.ep0,hF.m]
     by_cases V2:i=j
     ·subst V2;rw[hl];simp[hel,him];rfl
     ·rw[List.getElem?_set_ne V2];exact hT.ends j hj
   ·rw[hq];show(R.W4.set i c.sp)[j]? =_;have hwl:R.W4.length=Y.m:=by rw[hF.mem.iz0,hF.m]
    by_cases V2:i=j
    ·subst V2;rw[if_pos (by omega),hl];simp[hwl,him];exact hsp
    ·rw[List.getElem?_set_ne V2,bc0 j hj];by_cases h3:j<i
     ·rw[if_pos h3,if_pos (by omega)]
     ·rw[if_neg h3,if_neg (by omega)]
 ·have g6:(R.cl.set i {c with st:=true})[i]? =some d:=hd;simp[x7]at g6;rw[<- g6]
end
end
end Go.Vy.Sc
end
